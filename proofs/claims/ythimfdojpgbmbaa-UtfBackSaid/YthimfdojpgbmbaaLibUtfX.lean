/- What the program's functions on code points compute (Letters, AppendRune, Text, Runes, sameInts), over lists of numbers. -/
import Derived.Test.YthimfdojpgbmbaaX5
import Derived.Test.YthimfdojpgbmbaaX1
import Derived.Test.YthimfdojpgbmbaaX7
import Derived.Test.YthimfdojpgbmbaaX8
import Derived.Test.YthimfdojpgbmbaaLibBase
import Derived.Test.YthimfdojpgbmbaaLibUtf
namespace Go.Proofs.Ythimfdojpgbmbaa.UtfX
open Go.RowKit Go.Proofs.Ythimfdojpgbmbaa.X Go.Proofs.YthimfdojpgbmbaaW.PrintWords Go.Proofs.YthimfdojpgbmbaaW.PrintLast Go.Proofs.Ythimfdojpgbmbaa.Base Go.Proofs.Ythimfdojpgbmbaa.Utf

def ints (l : List Nat) : List Int := l.map Int.ofNat
theorem ints_length (l : List Nat) : (ints l).length = l.length := by simp [ints]
theorem ints_append (l m : List Nat) : ints (l ++ m) = ints l ++ ints m := by simp [ints]
theorem ints_inj {l m : List Nat} : ints l = ints m ↔ l = m := by
  constructor
  · intro h
    have := congrArg (List.map Int.toNat) h
    simpa [ints, List.map_map, Function.comp_def] using this
  · rintro rfl; rfl
theorem rdI_mid (pre : List Int) (d : Int) (suf : List Int) : rd (pre ++ d :: suf) (pre.length : Int) = d := by
  simp [rd, List.getD]
theorem picked_f (a n : Int) (h : 0 < n) (hn : n ≤ 4294967296) : bobbinetkeep_Picked.f a n = some (a % n) := by
  unfold bobbinetkeep_Picked.f
  rw [if_neg (by omega)]
  have := picked_eq a n h hn
  split at this
  · rename_i hc; rw [if_pos hc, this]
  · rename_i hc; rw [if_neg hc, this]

/-! ### Runes -/
theorem runes_go (s : ByteArray) : ∀ (f pos : Nat), utf_Runes.go s f pos = ints (runesF f ((byts s).drop pos))
  | 0, _ => rfl
  | f + 1, pos => by
    have hl := byts_length s
    by_cases h : pos < s.size
    · simp only [utf_Runes.go, if_pos h]
      rw [runes_go s f, decode_byts]
      cases e : (byts s).drop pos with
      | nil => have := congrArg List.length e; simp at this; omega
      | cons b l =>
        simp only [runesF, ints, List.map_cons]
        have e2 : (byts s).drop (pos + (decN (b :: l)).2) = (b :: l).drop (decN (b :: l)).2 := by rw [← e, List.drop_drop]
        rw [e2]
        rfl
    · simp only [utf_Runes.go, if_neg h]
      have : (byts s).drop pos = [] := List.drop_eq_nil_of_le (by omega)
      rw [this]
      rfl
theorem runes_f (s : ByteArray) (h : s.size ≤ 17592186044416) : utf_Runes.f s = some (ints (runes (byts s))) := by
  have e : utf_Runes.go s s.size 0 = ints (runes (byts s)) := by
    rw [runes_go, List.drop_zero, runes, byts_length]
  have hl := (runes_length _ (byts s) (Nat.le_refl _)).1
  unfold utf_Runes.f
  rw [e, if_pos (by rw [ints_length]; rw [byts_length] at hl; omega)]

/-! ### AppendRune -/
theorem valid_ev (c : Nat) (h : vld c) : Ev (fun k => utf8_ValidRune.f k (c : Int)) true := by
  simp only [utf8_ValidRune.f]
  refine Ev.ite_pos (by omega) ?_
  by_cases h1 : c < 55296
  · refine Ev.one (fun k => ?_) (Ev.some true)
    simp only [utf8_ValidRune.j0]
    rw [if_pos (decide_eq_true (by omega))]
  · refine Ev.one (fun k => ?_) (Ev.some true)
    unfold vld at h
    simp only [utf8_ValidRune.j0]
    rw [if_neg (by simp; omega), if_pos (by omega), if_pos (by omega)]
theorem append_ev (l : List Int) (c : Nat) (h : vld c) (hl : l.length < 1000000) : Ev (fun k => utf8_AppendRune.f k l (c : Int)) (l ++ ints (encN c)) := by
  have hm : (c : Int) % 4294967296 = (c : Int) := by unfold vld at h; omega
  have hb : c ≤ 1114111 := by unfold vld at h; omega
  simp only [utf8_AppendRune.f]
  rw [hm]
  by_cases c1 : c < 128
  · refine Ev.ite_pos (by omega) (Ev.ite_pos (by omega) ?_)
    have e : encN c = [c] := by unfold encN; rw [if_pos c1]
    have e2 : (c : Int) % 256 = (c : Int) := by omega
    rw [e, e2]
    exact Ev.some _
  · refine Ev.ite_neg (by omega) ?_
    refine Ev.bnd (a := l ++ ints (encN c)) ?_ (Ev.some _)
    simp only [utf8_appendRuneNonASCII.f]
    rw [hm]
    by_cases c2 : c < 2048
    · refine Ev.ite_pos (by omega) (Ev.bnd0 rfl ?_)
      have e : encN c = [192 + c / 64, 128 + c % 64] := by unfold encN; rw [if_neg c1, if_pos c2]
      have e1 : Go.bits .or .u8 192 (((c : Int) / 64) % 256) = ((192 + c / 64 : Nat) : Int) := (u8_or192 (y := ((c : Int) / 64) % 256) (by omega) (by omega)).trans (by omega)
      have e2 : 128 + (c : Int) % 64 = ((128 + c % 64 : Nat) : Int) := by omega
      rw [e, e1, e2]
      exact Ev.ite_pos (by simp; omega) (Ev.some _)
    · refine Ev.ite_neg (by omega) ?_
      by_cases c3 : c < 65536
      · have e : encN c = [224 + c / 4096, 128 + c / 64 % 64, 128 + c % 64] := by unfold encN; rw [if_neg c1, if_neg c2, if_pos c3]
        have e1 : Go.bits .or .u8 224 (((c : Int) / 4096) % 256) = ((224 + c / 4096 : Nat) : Int) := (u8_or224 (y := ((c : Int) / 4096) % 256) (by omega) (by omega)).trans (by omega)
        have e2 : 128 + (c : Int) / 64 % 64 = ((128 + c / 64 % 64 : Nat) : Int) := by omega
        have e3 : 128 + (c : Int) % 64 = ((128 + c % 64 : Nat) : Int) := by omega
        have hj : Ev (fun k => utf8_appendRuneNonASCII.j0 k l (c : Int) (c : Int) true) (l ++ ints (encN c)) := by
          refine Ev.one (fun k => ?_) (Ev.some _)
          simp only [utf8_appendRuneNonASCII.j0, if_true, Option.bind_some]
          rw [e1, e2, e3, if_pos (by simp; omega), e]
          rfl
        by_cases c4 : c < 55296
        · refine Ev.ite_pos (by omega) ?_
          rw [decide_eq_true (show (c : Int) < 55296 by omega)]
          exact hj
        · unfold vld at h
          refine Ev.ite_neg (by omega) (Ev.ite_pos (by omega) ?_)
          rw [decide_eq_true (show (c : Int) ≤ 65535 by omega)]
          exact hj
      · have e : encN c = [240 + c / 262144, 128 + c / 4096 % 64, 128 + c / 64 % 64, 128 + c % 64] := by unfold encN; rw [if_neg c1, if_neg c2, if_neg c3]
        have e1 : Go.bits .or .u8 240 (((c : Int) / 262144) % 256) = ((240 + c / 262144 : Nat) : Int) := (u8_or240 (y := ((c : Int) / 262144) % 256) (by omega) (by omega)).trans (by omega)
        have e2 : 128 + (c : Int) / 4096 % 64 = ((128 + c / 4096 % 64 : Nat) : Int) := by omega
        have e3 : 128 + (c : Int) / 64 % 64 = ((128 + c / 64 % 64 : Nat) : Int) := by omega
        have e4 : 128 + (c : Int) % 64 = ((128 + c % 64 : Nat) : Int) := by omega
        refine Ev.ite_neg (by omega) (Ev.ite_pos (by omega) ?_)
        rw [decide_eq_false (show ¬ (c : Int) ≤ 65535 by omega)]
        refine Ev.one (fun k => ?_) (Ev.some _)
        simp only [utf8_appendRuneNonASCII.j0, Bool.false_eq_true, if_false, Option.bind_some]
        rw [if_pos (by omega), if_pos (by omega), e1, e2, e3, e4, if_pos (by simp; omega), e]
        rfl

/-! ### Text -/
theorem byts_nums (l : List Nat) (h : ∀ b ∈ l, b < 256) : byts (strOfNums (ints l)) = l := by
  have e : (strOfNums (ints l)).data.toList = l.map fun n => UInt8.ofNat n := by
    rw [strOfNums_data, ints, List.map_map]
    rfl
  rw [byts, e, List.map_map]
  conv => rhs; rw [← List.map_id l]
  apply List.map_congr_left
  intro b hb
  have := h b hb
  simp [Nat.mod_eq_of_lt this]
theorem size_nums (l : List Nat) : (strOfNums (ints l)).size = l.length := by rw [strOfNums_size, ints_length]
theorem encAll_bytes (l : List Nat) (h : ∀ c ∈ l, vld c) : ∀ b ∈ encAll l, b < 256 := by
  intro b hb
  rw [encAll, List.mem_flatMap] at hb
  obtain ⟨c, hc, hb⟩ := hb
  have hv := h c hc
  unfold vld at hv
  exact encN_lt c (by omega) b hb
theorem text_ev : ∀ (suf pre acc : List Nat), (∀ c ∈ suf, vld c) → (pre ++ suf).length ≤ 1000 → acc.length ≤ 4 * pre.length →
    Ev (fun k => utf_Text.l0 k (ints acc) (ints (pre ++ suf)) ((pre ++ suf).length : Int) (pre.length : Int)) (if (acc ++ encAll suf).length > 600 then ((⟨#[]⟩ : ByteArray), 1) else (strOfNums (ints (acc ++ encAll suf)), 0))
  | [], pre, acc, h, hl, ha => by
    simp only [encAll_nil, List.append_nil]
    by_cases hc : acc.length > 600
    · rw [if_pos hc]
      refine Ev.one (fun k => ?_) (Ev.some _)
      simp only [utf_Text.l0]
      rw [if_neg (by simp), if_pos (by rw [ints_length]; omega)]
    · rw [if_neg hc]
      refine Ev.one (fun k => ?_) (Ev.some _)
      simp only [utf_Text.l0]
      rw [if_neg (by simp), if_neg (by rw [ints_length]; omega)]
  | c :: suf, pre, acc, h, hl, ha => by
    have hll : (pre ++ c :: suf).length = pre.length + suf.length + 1 := by simp; omega
    have hc := h c List.mem_cons_self
    have hcb : c ≤ 1114111 := by unfold vld at hc; omega
    have hrd : rd (ints (pre ++ c :: suf)) (pre.length : Int) = (c : Int) := by
      rw [ints_append, ← ints_length pre]
      exact rdI_mid _ _ _
    have hw : wrap32 (c : Int) = (c : Int) := by unfold wrap32; omega
    have he := encN_length c
    have ih := text_ev suf (pre ++ [c]) (acc ++ encN c) (fun x hx => h x (List.mem_cons_of_mem _ hx)) (by simpa using hl) (by simp; omega)
    simp only [List.append_assoc, List.singleton_append, List.length_append, List.length_singleton] at ih
    rw [encAll_cons]
    refine Ev.one (f := fun k => (utf8_ValidRune.f k (c : Int)).bind fun t138 => (if t138 = true then ((utf8_AppendRune.f k (ints acc) (c : Int)).bind fun t139 => (utf_Text.l0 k t139 (ints (pre ++ c :: suf)) ((pre ++ c :: suf).length : Int) ((pre.length + 1 : Nat) : Int))) else (some ((⟨#[]⟩ : ByteArray), 2)))) (fun k => ?_) ?_
    · simp only [utf_Text.l0]
      rw [if_pos (by omega), if_pos (by omega), if_pos (by rw [ints_length]; omega), hrd, if_neg (by omega), if_neg (by omega), hw, wrap_succ (n := (pre ++ c :: suf).length) (by omega) (by omega)]
    · refine Ev.bnd (valid_ev c hc) ?_
      refine Ev.ite_pos rfl (Ev.bnd (append_ev (ints acc) c hc (by rw [ints_length]; omega)) ?_)
      rw [← ints_append]
      simpa using ih
theorem text_f (l : List Nat) (h : ∀ c ∈ l, vld c) (hl : (encAll l).length ≤ 600) : Ev (fun k => utf_Text.f k (ints l)) (strOfNums (ints (encAll l)), 0) := by
  have h1 := encAll_length l
  have := text_ev l [] [] h (by simp; omega) (by simp)
  rw [List.nil_append, List.nil_append, if_neg (by omega)] at this
  simp only [utf_Text.f]
  rw [ints_length]
  exact this

/-! ### sameInts -/
theorem same_ev : ∀ (suf suf2 pre : List Int), suf.length = suf2.length → (pre ++ suf).length ≤ 17592186044416 → Ev (fun k => bobbinetkeep_sameInts.l0 k (pre ++ suf) (pre ++ suf2) (pre.length : Int)) (decide (suf = suf2))
  | [], [], pre, _, h => by
    rw [decide_eq_true rfl]
    exact Ev.one (fun k => by simp only [bobbinetkeep_sameInts.l0]; rw [if_neg (by simp)]) (Ev.some true)
  | [], _ :: _, _, h, _ => by simp at h
  | _ :: _, [], _, h, _ => by simp at h
  | d :: suf, e :: suf2, pre, hs, h => by
    have hl : (pre ++ d :: suf).length = pre.length + suf.length + 1 := by simp; omega
    have hl2 : (pre ++ e :: suf2).length = pre.length + suf2.length + 1 := by simp; omega
    have hs' : suf.length = suf2.length := by simpa using hs
    by_cases hd : d = e
    · subst hd
      have ih := same_ev suf suf2 (pre ++ [d]) hs' (by simpa using h)
      have : (decide (d :: suf = d :: suf2)) = decide (suf = suf2) := by simp
      rw [this]
      refine Ev.one (fun k => ?_) ih
      simp only [bobbinetkeep_sameInts.l0]
      rw [if_pos (by omega), if_pos (by omega), if_pos (by omega), rdI_mid, rdI_mid, if_pos rfl, wrap_succ (n := (pre ++ d :: suf).length) (by omega) (by omega)]
      simp only [List.append_assoc, List.singleton_append, List.length_append, List.length_singleton]
    · have : (decide (d :: suf = e :: suf2)) = false := by simp [hd]
      rw [this]
      refine Ev.one (fun k => ?_) (Ev.some _)
      simp only [bobbinetkeep_sameInts.l0]
      rw [if_pos (by omega), if_pos (by omega), if_pos (by omega), rdI_mid, rdI_mid, if_neg hd]
theorem same_f (l m : List Int) (h : l.length ≤ 17592186044416) : Ev (fun k => bobbinetkeep_sameInts.f k l m) (decide (l = m)) := by
  simp only [bobbinetkeep_sameInts.f]
  by_cases hl : l.length = m.length
  · exact Ev.ite_pos (by omega) (same_ev l m [] hl h)
  · have : decide (l = m) = false := by
      rw [decide_eq_false_iff_not]
      rintro rfl
      exact hl rfl
    rw [this]
    exact Ev.ite_neg (by omega) (Ev.some _)

/-! ### Letters -/
theorem letters_ev (n : Nat) (hn : n ≤ 100) : ∀ (suf pre : List Int) (acc : List Nat), (∀ c ∈ acc, vld c) → (pre ++ suf).length ≤ 17592186044416 → acc.length = pre.length → pre.length ≤ n →
    ∃ r : List Nat, (∀ c ∈ r, vld c) ∧ r.length ≤ n ∧ Ev (fun k => bobbinetkeep_Letters.l0 k (pre ++ suf) (n : Int) (ints acc) (pre.length : Int)) (ints r)
  | [], pre, acc, hv, h, ha, hp => ⟨acc, hv, by omega, by
    refine Ev.one (fun k => ?_) (Ev.one (g := fun k => bobbinetkeep_Letters.j1 k (pre ++ []) (n : Int) (ints acc) (pre.length : Int) false) (fun k => ?_) (Ev.some (ints acc)))
    · simp only [bobbinetkeep_Letters.l0]
      rw [if_neg (by simp)]
    · simp only [bobbinetkeep_Letters.j1]
      simp⟩
  | x :: suf, pre, acc, hv, h, ha, hp => by
    have hl : (pre ++ x :: suf).length = pre.length + suf.length + 1 := by simp; omega
    by_cases hc : pre.length < n
    · have p1 := picked_f (wrap64 (Int.tdiv x 7)) 5 (by omega) (by omega)
      have b1 := Int.emod_nonneg (wrap64 (Int.tdiv x 7)) (show (5 : Int) ≠ 0 by omega)
      have b2 := Int.emod_lt_of_pos (wrap64 (Int.tdiv x 7)) (show (0 : Int) < 5 by omega)
      generalize wrap64 (Int.tdiv x 7) % 5 = i at p1 b1 b2
      obtain ⟨m, hm0, hm1, hrd⟩ : ∃ m : Int, 0 < m ∧ m ≤ 1114112 ∧ rd [128, 300, 3000, 70000, 1114112] i = m := by
        have : i = 0 ∨ i = 1 ∨ i = 2 ∨ i = 3 ∨ i = 4 := by omega
        rcases this with rfl | rfl | rfl | rfl | rfl
        · exact ⟨128, by omega, by omega, rfl⟩
        · exact ⟨300, by omega, by omega, rfl⟩
        · exact ⟨3000, by omega, by omega, rfl⟩
        · exact ⟨70000, by omega, by omega, rfl⟩
        · exact ⟨1114112, by omega, by omega, rfl⟩
      have p2 := picked_f x m hm0 (by omega)
      have b3 := Int.emod_nonneg x (show m ≠ 0 by omega)
      have b4 := Int.emod_lt_of_pos x hm0
      generalize x % m = q at p2 b3 b4
      obtain ⟨c, rfl⟩ : ∃ c : Nat, q = (c : Int) := ⟨q.toNat, by omega⟩
      have step : ∀ c' : Nat, vld c' → ∃ r : List Nat, (∀ c ∈ r, vld c) ∧ r.length ≤ n ∧ Ev (fun k => bobbinetkeep_Letters.l0 k (pre ++ x :: suf) (n : Int) (ints acc ++ [(c' : Int)]) ((pre.length + 1 : Nat) : Int)) (ints r) := by
        intro c' hc'
        obtain ⟨r, hr, hrn, ih⟩ := letters_ev n hn suf (pre ++ [x]) (acc ++ [c']) (by
          intro y hy
          rcases List.mem_append.1 hy with hy | hy
          · exact hv y hy
          · rw [List.mem_singleton.1 hy]; exact hc') (by simpa using h) (by simp [ha]) (by simp; omega)
        refine ⟨r, hr, hrn, ?_⟩
        rw [ints_append] at ih
        simpa [ints] using ih
      have round : ∀ c' : Nat, c' = (if 55296 ≤ c ∧ c ≤ 57343 then 65 else c) → ∀ k, bobbinetkeep_Letters.j1 (k + 1) (pre ++ x :: suf) (n : Int) (ints acc) (pre.length : Int) true = bobbinetkeep_Letters.l0 k (pre ++ x :: suf) (n : Int) (ints acc ++ [(c' : Int)]) ((pre.length + 1 : Nat) : Int) := by
        intro c' hc' k
        simp only [bobbinetkeep_Letters.j1, if_true, Option.bind_some]
        rw [if_pos (by omega), if_pos (by omega), rdI_mid, p1]
        simp only [Option.bind_some]
        rw [if_pos b1, if_pos (by simp; omega), hrd, p2]
        simp only [Option.bind_some]
        rw [if_pos (show (ints acc).length < 17592186044416 by rw [ints_length]; omega), if_pos (show (ints acc).length < 17592186044416 by rw [ints_length]; omega), wrap_succ (n := (pre ++ x :: suf).length) (by omega) (by omega), hc']
        by_cases h1 : 55296 ≤ c
        · rw [if_pos (by omega)]
          by_cases h2 : c ≤ 57343
          · rw [if_pos (by omega), if_pos ⟨h1, h2⟩]; rfl
          · rw [if_neg (by omega), if_neg (by omega)]
        · rw [if_neg (by omega), if_neg (by omega)]
      obtain ⟨r, hr, hrn, hs⟩ := step (if 55296 ≤ c ∧ c ≤ 57343 then 65 else c) (by unfold vld; split <;> omega)
      refine ⟨r, hr, hrn, Ev.one (fun k => ?_) (Ev.one (g := fun k => bobbinetkeep_Letters.j1 k (pre ++ x :: suf) (n : Int) (ints acc) (pre.length : Int) true) (round _ rfl) hs)⟩
      simp only [bobbinetkeep_Letters.l0]
      rw [if_pos (by omega), decide_eq_true (by omega)]
    · refine ⟨acc, hv, by omega, Ev.one (fun k => ?_) (Ev.one (g := fun k => bobbinetkeep_Letters.j1 k (pre ++ x :: suf) (n : Int) (ints acc) (pre.length : Int) false) (fun k => ?_) (Ev.some (ints acc)))⟩
      · simp only [bobbinetkeep_Letters.l0]
        rw [if_pos (by omega), decide_eq_false (by omega)]
      · simp only [bobbinetkeep_Letters.j1]
        simp
theorem letters_f (n : Nat) (hn : n ≤ 100) (l : List Int) (h : l.length ≤ 17592186044416) : ∃ r : List Nat, (∀ c ∈ r, vld c) ∧ r.length ≤ n ∧ Ev (fun k => bobbinetkeep_Letters.f k l (n : Int)) (ints r) := by
  simp only [bobbinetkeep_Letters.f]
  exact letters_ev n hn l [] [] (by simp) (by simpa using h) rfl (by simp)
theorem runes_a : utf_Runes.f (⟨#[97]⟩ : ByteArray) = some [97] := by
  rw [runes_f _ (by decide)]
  rfl
end Go.Proofs.Ythimfdojpgbmbaa.UtfX
