/- utf.Clean as the program's walk gives it, over lists of numbers. -/
import Derived.Test.YthimfdojpgbmbaaX4
import Derived.Test.YthimfdojpgbmbaaLibUtfX
import Derived.Test.YthimfdojpgbmbaaLibClean
namespace Go.Proofs.Ythimfdojpgbmbaa.UtfX
open Go.RowKit Go.Proofs.Ythimfdojpgbmbaa.X Go.Proofs.YthimfdojpgbmbaaW.PrintWords Go.Proofs.YthimfdojpgbmbaaW.PrintLast Go.Proofs.Ythimfdojpgbmbaa.Base Go.Proofs.Ythimfdojpgbmbaa.Utf Go.Proofs.Ythimfdojpgbmbaa.Clean

theorem bt_byts (s : ByteArray) (i : Nat) (h : i < s.size) : bt s ((i : Nat) : Int) = (((byts s).getD i 0 : Nat) : Int) := by
  have h2 : i < s.data.toList.length := by simpa using h
  unfold bt byts
  rw [dif_pos (by simpa using h), List.getD_eq_getElem?_getD, List.getElem?_map, List.getElem?_eq_getElem h2]
  simp
  rfl
theorem clean_go (s : ByteArray) : ∀ (fuel pos : Nat) (acc : List Int), s.size ≤ pos + fuel → acc.length + 3 * (s.size - pos) < 100000000000 →
    Ev (fun k => utf_Clean.go k s fuel pos acc) (acc ++ ints (encAll (cleanR (runes ((byts s).drop pos)))))
  | 0, pos, acc, hf, _ => by
    have hl := byts_length s
    have : (byts s).drop pos = [] := List.drop_eq_nil_of_le (by omega)
    rw [this]
    simp only [utf_Clean.go, runes_nil, cleanR, encAll_nil, ints, List.map_nil, List.append_nil]
    exact Ev.some _
  | fuel + 1, pos, acc, hf, hs => by
    have hl := byts_length s
    simp only [utf_Clean.go]
    by_cases hp : pos < s.size
    · refine Ev.ite_pos hp ?_
      rw [decode_byts]
      cases e : (byts s).drop pos with
      | nil => have := congrArg List.length e; simp at this; omega
      | cons b l =>
        have hb : ∀ x ∈ b :: l, x < 256 := fun x hx => byts_lt s x (List.mem_of_mem_drop (by rw [e]; exact hx))
        have hbl : (b :: l).length = s.size - pos := by rw [← e, List.length_drop, hl]
        have hv := decN_val b l (hb b (by simp))
        have hw := decN_width b l
        have he := enc_width b l (hb b (by simp))
        have e2 : (byts s).drop (pos + (decN (b :: l)).2) = (b :: l).drop (decN (b :: l)).2 := by rw [← e, List.drop_drop]
        have step : ∀ c : Nat, vld c → (c = (decN (b :: l)).1 ∨ c = 65533 ∨ c = 10) →
            Ev (fun k => (utf8_AppendRune.f k acc (c : Int)).bind fun t => utf_Clean.go k s fuel (pos + (decN (b :: l)).2) t) (acc ++ ints (encAll (c :: cleanR (runes ((b :: l).drop (decN (b :: l)).2))))) := by
          intro c hc hd
          have h3 := he c hd
          refine Ev.bnd (append_ev acc c hc (by omega)) ?_
          have := clean_go s fuel (pos + (decN (b :: l)).2) (acc ++ ints (encN c)) (by omega) (by rw [List.length_append, ints_length]; omega)
          rw [e2] at this
          rw [encAll_cons, ints_append, ← List.append_assoc]
          exact this
        rw [runes_cons, cleanR]
        by_cases c0 : (decN (b :: l)).1 = 0
        · refine Ev.ite_pos c0 ?_
          rw [if_pos c0]
          exact step 65533 (by unfold vld; omega) (by simp)
        · refine Ev.ite_neg c0 ?_
          rw [if_neg c0]
          by_cases c1 : (decN (b :: l)).1 = 13
          · obtain ⟨hd1, hd2, hd3⟩ := head_drop b l hb c1
            have hdr : (b :: l).drop (decN (b :: l)).2 = l := by rw [hd1]; rfl
            have hcond : (pos + 1 < s.size ∧ bt s ((pos : Int) + 1) = 10) ↔ l.head? = some 10 := by
              constructor
              · rintro ⟨h1, h2⟩
                rw [show (pos : Int) + 1 = ((pos + 1 : Nat) : Int) by omega, bt_byts s _ h1] at h2
                cases l with
                | nil => simp at hbl; omega
                | cons x l =>
                  have h3 : (byts s).getD (pos + 1) 0 = ((byts s).drop pos).getD 1 0 := by simp [List.getD]
                  rw [h3, e] at h2
                  simp at h2 ⊢; omega
              · intro h
                cases l with
                | nil => simp at h
                | cons x l =>
                  have h1 : pos + 1 < s.size := by simp at hbl; omega
                  refine ⟨h1, ?_⟩
                  rw [show (pos : Int) + 1 = ((pos + 1 : Nat) : Int) by omega, bt_byts s _ h1]
                  have h3 : (byts s).getD (pos + 1) 0 = ((byts s).drop pos).getD 1 0 := by simp [List.getD]
                  rw [h3, e]
                  simp at h ⊢; omega
            by_cases c2 : l.head? = some 10
            · refine Ev.ite_pos ⟨c1, hcond.2 c2⟩ ?_
              rw [hdr, if_pos ⟨c1, hd3.2 c2⟩]
              have := clean_go s fuel (pos + (decN (b :: l)).2) acc (by omega) (by omega)
              rw [e2, hdr] at this
              exact this
            · refine Ev.ite_neg (fun h => c2 (hcond.1 h.2)) ?_
              have := step 10 (by unfold vld; omega) (by simp)
              rw [hdr] at this ⊢
              rw [if_neg (show ¬ ((decN (b :: l)).1 = 13 ∧ (runes l).head? = some 10) from fun h => c2 (hd3.1 h.2)), if_pos c1, if_pos c1]
              exact this
          · refine Ev.ite_neg (fun h => c1 h.1) ?_
            rw [if_neg (show ¬ ((decN (b :: l)).1 = 13 ∧ (runes ((b :: l).drop (decN (b :: l)).2)).head? = some 10) from fun h => c1 h.1), if_neg c1, if_neg c1]
            exact step _ hv.1 (by simp)
    · refine Ev.ite_neg hp ?_
      have : (byts s).drop pos = [] := List.drop_eq_nil_of_le (by omega)
      rw [this]
      simp only [runes_nil, cleanR, encAll_nil, ints, List.map_nil, List.append_nil]
      exact Ev.some _
/-- a text of bytes -/
def txt (l : List Nat) : ByteArray := strOfNums (ints l)
theorem clean_f (s : ByteArray) (h : s.size < 10000000000) : Ev (fun k => utf_Clean.f k s) (txt (cleanB (byts s))) := by
  simp only [utf_Clean.f]
  refine Ev.ite_pos (by omega) ?_
  have := clean_go s s.size 0 [] (by omega) (by simp; omega)
  rw [List.drop_zero, List.nil_append] at this
  exact Ev.bnd this (Ev.some _)
theorem cleanB_lt (l : List Nat) (h : ∀ b ∈ l, b < 256) : ∀ b ∈ cleanB l, b < 256 := encAll_bytes _ (cleanR_vld _ (runes_vld _ l (Nat.le_refl _) h))
theorem byts_txt (l : List Nat) (h : ∀ b ∈ l, b < 256) : byts (txt l) = l := byts_nums l h
theorem size_txt (l : List Nat) : (txt l).size = l.length := size_nums l
theorem byts_inj {s t : ByteArray} : byts s = byts t ↔ s = t := by
  constructor
  · intro h
    have h1 : s.data.toList = t.data.toList := by
      have hi : ∀ a b : UInt8, a.toNat = b.toNat → a = b := fun a b k => UInt8.toNat_inj.1 k
      exact (List.map_inj_right (fun a b k => hi a b k)).1 h
    cases s with | mk a => cases t with | mk b =>
    simp only [ByteArray.mk.injEq]
    exact Array.toList_inj.1 h1
  · rintro rfl; rfl
theorem txt_byts (s : ByteArray) : txt (byts s) = s := by
  rw [← byts_inj, byts_txt _ (byts_lt s)]
end Go.Proofs.Ythimfdojpgbmbaa.UtfX
