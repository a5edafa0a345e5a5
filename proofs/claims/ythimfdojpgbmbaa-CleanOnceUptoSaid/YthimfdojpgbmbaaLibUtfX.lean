/- What the program's functions on code points compute (AppendRune, Runes), over lists of numbers. -/
import Derived.Test.YthimfdojpgbmbaaX3
import Derived.Test.YthimfdojpgbmbaaX7
import Derived.Test.YthimfdojpgbmbaaX1
import Derived.Test.YthimfdojpgbmbaaLibBase
import Derived.Test.YthimfdojpgbmbaaLibUtf
namespace Go.Proofs.Ythimfdojpgbmbaa.UtfX
open Go.RowKit Go.Proofs.Ythimfdojpgbmbaa.X Go.Proofs.YthimfdojpgbmbaaW.PrintWords Go.Proofs.YthimfdojpgbmbaaW.PrintLast Go.Proofs.Ythimfdojpgbmbaa.Base Go.Proofs.Ythimfdojpgbmbaa.Utf

def ints (l : List Nat) : List Int := l.map Int.ofNat
theorem ints_length (l : List Nat) : (ints l).length = l.length := by simp [ints]
theorem ints_append (l m : List Nat) : ints (l ++ m) = ints l ++ ints m := by simp [ints]
theorem ints_inj {l m : List Nat} : ints l = ints m ↔ l = m := by
  constructor
  · intro h
    have := congrArg (List.map Int.toNat) h
    simpa [ints, List.map_map, Function.comp_def] using this
  · rintro rfl; rfl
theorem rdI_mid (pre : List Int) (d : Int) (suf : List Int) : rd (pre ++ d :: suf) (pre.length : Int) = d := by
  simp [rd, List.getD]
theorem picked_f (a n : Int) (h : 0 < n) (hn : n ≤ 4294967296) : bobbinetkeep_Picked.f a n = some (a % n) := by
  unfold bobbinetkeep_Picked.f
  rw [if_neg (by omega)]
  have := picked_eq a n h hn
  split at this
  · rename_i hc; rw [if_pos hc, this]
  · rename_i hc; rw [if_neg hc, this]

/-! ### Runes -/
theorem runes_go (s : ByteArray) : ∀ (f pos : Nat), utf_Runes.go s f pos = ints (runesF f ((byts s).drop pos))
  | 0, _ => rfl
  | f + 1, pos => by
    have hl := byts_length s
    by_cases h : pos < s.size
    · simp only [utf_Runes.go, if_pos h]
      rw [runes_go s f, decode_byts]
      cases e : (byts s).drop pos with
      | nil => have := congrArg List.length e; simp at this; omega
      | cons b l =>
        simp only [runesF, ints, List.map_cons]
        have e2 : (byts s).drop (pos + (decN (b :: l)).2) = (b :: l).drop (decN (b :: l)).2 := by rw [← e, List.drop_drop]
        rw [e2]
        rfl
    · simp only [utf_Runes.go, if_neg h]
      have : (byts s).drop pos = [] := List.drop_eq_nil_of_le (by omega)
      rw [this]
      rfl
theorem runes_f (s : ByteArray) (h : s.size ≤ 17592186044416) : utf_Runes.f s = some (ints (runes (byts s))) := by
  have e : utf_Runes.go s s.size 0 = ints (runes (byts s)) := by
    rw [runes_go, List.drop_zero, runes, byts_length]
  have hl := (runes_length _ (byts s) (Nat.le_refl _)).1
  unfold utf_Runes.f
  rw [e, if_pos (by rw [ints_length]; rw [byts_length] at hl; omega)]

/-! ### AppendRune -/
theorem append_ev (l : List Int) (c : Nat) (h : vld c) (hl : l.length < 100000000000) : Ev (fun k => utf8_AppendRune.f k l (c : Int)) (l ++ ints (encN c)) := by
  have hm : (c : Int) % 4294967296 = (c : Int) := by unfold vld at h; omega
  have hb : c ≤ 1114111 := by unfold vld at h; omega
  simp only [utf8_AppendRune.f]
  rw [hm]
  by_cases c1 : c < 128
  · refine Ev.ite_pos (by omega) (Ev.ite_pos (by omega) ?_)
    have e : encN c = [c] := by unfold encN; rw [if_pos c1]
    have e2 : (c : Int) % 256 = (c : Int) := by omega
    rw [e, e2]
    exact Ev.some _
  · refine Ev.ite_neg (by omega) ?_
    refine Ev.bnd (a := l ++ ints (encN c)) ?_ (Ev.some _)
    simp only [utf8_appendRuneNonASCII.f]
    rw [hm]
    by_cases c2 : c < 2048
    · refine Ev.ite_pos (by omega) (Ev.bnd0 rfl ?_)
      have e : encN c = [192 + c / 64, 128 + c % 64] := by unfold encN; rw [if_neg c1, if_pos c2]
      have e1 : Go.bits .or .u8 192 (((c : Int) / 64) % 256) = ((192 + c / 64 : Nat) : Int) := (u8_or192 (y := ((c : Int) / 64) % 256) (by omega) (by omega)).trans (by omega)
      have e2 : 128 + (c : Int) % 64 = ((128 + c % 64 : Nat) : Int) := by omega
      rw [e, e1, e2]
      exact Ev.ite_pos (by simp; omega) (Ev.some _)
    · refine Ev.ite_neg (by omega) ?_
      by_cases c3 : c < 65536
      · have e : encN c = [224 + c / 4096, 128 + c / 64 % 64, 128 + c % 64] := by unfold encN; rw [if_neg c1, if_neg c2, if_pos c3]
        have e1 : Go.bits .or .u8 224 (((c : Int) / 4096) % 256) = ((224 + c / 4096 : Nat) : Int) := (u8_or224 (y := ((c : Int) / 4096) % 256) (by omega) (by omega)).trans (by omega)
        have e2 : 128 + (c : Int) / 64 % 64 = ((128 + c / 64 % 64 : Nat) : Int) := by omega
        have e3 : 128 + (c : Int) % 64 = ((128 + c % 64 : Nat) : Int) := by omega
        have hj : Ev (fun k => utf8_appendRuneNonASCII.j0 k l (c : Int) (c : Int) true) (l ++ ints (encN c)) := by
          refine Ev.one (fun k => ?_) (Ev.some _)
          simp only [utf8_appendRuneNonASCII.j0, if_true, Option.bind_some]
          rw [e1, e2, e3, if_pos (by simp; omega), e]
          rfl
        by_cases c4 : c < 55296
        · refine Ev.ite_pos (by omega) ?_
          rw [decide_eq_true (show (c : Int) < 55296 by omega)]
          exact hj
        · unfold vld at h
          refine Ev.ite_neg (by omega) (Ev.ite_pos (by omega) ?_)
          rw [decide_eq_true (show (c : Int) ≤ 65535 by omega)]
          exact hj
      · have e : encN c = [240 + c / 262144, 128 + c / 4096 % 64, 128 + c / 64 % 64, 128 + c % 64] := by unfold encN; rw [if_neg c1, if_neg c2, if_neg c3]
        have e1 : Go.bits .or .u8 240 (((c : Int) / 262144) % 256) = ((240 + c / 262144 : Nat) : Int) := (u8_or240 (y := ((c : Int) / 262144) % 256) (by omega) (by omega)).trans (by omega)
        have e2 : 128 + (c : Int) / 4096 % 64 = ((128 + c / 4096 % 64 : Nat) : Int) := by omega
        have e3 : 128 + (c : Int) / 64 % 64 = ((128 + c / 64 % 64 : Nat) : Int) := by omega
        have e4 : 128 + (c : Int) % 64 = ((128 + c % 64 : Nat) : Int) := by omega
        refine Ev.ite_neg (by omega) (Ev.ite_pos (by omega) ?_)
        rw [decide_eq_false (show ¬ (c : Int) ≤ 65535 by omega)]
        refine Ev.one (fun k => ?_) (Ev.some _)
        simp only [utf8_appendRuneNonASCII.j0, Bool.false_eq_true, if_false, Option.bind_some]
        rw [if_pos (by omega), if_pos (by omega), e1, e2, e3, e4, if_pos (by simp; omega), e]
        rfl

/-! ### Text -/
theorem byts_nums (l : List Nat) (h : ∀ b ∈ l, b < 256) : byts (strOfNums (ints l)) = l := by
  have e : (strOfNums (ints l)).data.toList = l.map fun n => UInt8.ofNat n := by
    rw [strOfNums_data, ints, List.map_map]
    rfl
  rw [byts, e, List.map_map]
  conv => rhs; rw [← List.map_id l]
  apply List.map_congr_left
  intro b hb
  have := h b hb
  simp [Nat.mod_eq_of_lt this]
theorem size_nums (l : List Nat) : (strOfNums (ints l)).size = l.length := by rw [strOfNums_size, ints_length]
theorem encAll_bytes (l : List Nat) (h : ∀ c ∈ l, vld c) : ∀ b ∈ encAll l, b < 256 := by
  intro b hb
  rw [encAll, List.mem_flatMap] at hb
  obtain ⟨c, hc, hb⟩ := hb
  have hv := h c hc
  unfold vld at hv
  exact encN_lt c (by omega) b hb
theorem runes_a : utf_Runes.f (⟨#[97]⟩ : ByteArray) = some [97] := by
  rw [runes_f _ (by decide)]
  rfl
end Go.Proofs.Ythimfdojpgbmbaa.UtfX
