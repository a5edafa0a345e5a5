/- utf.Text over lists of numbers. -/
import Derived.Test.YthimfdojpgbmbaaX9
import Derived.Test.YthimfdojpgbmbaaLibUtfX
namespace Go.Proofs.Ythimfdojpgbmbaa.UtfX
open Go.RowKit Go.Proofs.Ythimfdojpgbmbaa.X Go.Proofs.YthimfdojpgbmbaaW.PrintWords Go.Proofs.YthimfdojpgbmbaaW.PrintLast Go.Proofs.Ythimfdojpgbmbaa.Base Go.Proofs.Ythimfdojpgbmbaa.Utf
theorem valid_ev (c : Nat) (h : vld c) : Ev (fun k => utf8_ValidRune.f k (c : Int)) true := by
  simp only [utf8_ValidRune.f]
  refine Ev.ite_pos (by omega) ?_
  by_cases h1 : c < 55296
  · refine Ev.one (fun k => ?_) (Ev.some true)
    simp only [utf8_ValidRune.j0]
    rw [if_pos (decide_eq_true (by omega))]
  · refine Ev.one (fun k => ?_) (Ev.some true)
    unfold vld at h
    simp only [utf8_ValidRune.j0]
    rw [if_neg (by simp; omega), if_pos (by omega), if_pos (by omega)]
theorem text_ev : ∀ (suf pre acc : List Nat), (∀ c ∈ suf, vld c) → (pre ++ suf).length ≤ 1000 → acc.length ≤ 4 * pre.length →
    Ev (fun k => utf_Text.l0 k (ints acc) (ints (pre ++ suf)) ((pre ++ suf).length : Int) (pre.length : Int)) (if (acc ++ encAll suf).length > 600 then ((⟨#[]⟩ : ByteArray), 1) else (strOfNums (ints (acc ++ encAll suf)), 0))
  | [], pre, acc, h, hl, ha => by
    simp only [encAll_nil, List.append_nil]
    by_cases hc : acc.length > 600
    · rw [if_pos hc]
      refine Ev.one (fun k => ?_) (Ev.some _)
      simp only [utf_Text.l0]
      rw [if_neg (by simp), if_pos (by rw [ints_length]; omega)]
    · rw [if_neg hc]
      refine Ev.one (fun k => ?_) (Ev.some _)
      simp only [utf_Text.l0]
      rw [if_neg (by simp), if_neg (by rw [ints_length]; omega)]
  | c :: suf, pre, acc, h, hl, ha => by
    have hll : (pre ++ c :: suf).length = pre.length + suf.length + 1 := by simp; omega
    have hc := h c List.mem_cons_self
    have hcb : c ≤ 1114111 := by unfold vld at hc; omega
    have hrd : rd (ints (pre ++ c :: suf)) (pre.length : Int) = (c : Int) := by
      rw [ints_append, ← ints_length pre]
      exact rdI_mid _ _ _
    have hw : wrap32 (c : Int) = (c : Int) := by unfold wrap32; omega
    have he := encN_length c
    have ih := text_ev suf (pre ++ [c]) (acc ++ encN c) (fun x hx => h x (List.mem_cons_of_mem _ hx)) (by simpa using hl) (by simp; omega)
    simp only [List.append_assoc, List.singleton_append, List.length_append, List.length_singleton] at ih
    rw [encAll_cons]
    refine Ev.one (f := fun k => (utf8_ValidRune.f k (c : Int)).bind fun t138 => (if t138 = true then ((utf8_AppendRune.f k (ints acc) (c : Int)).bind fun t139 => (utf_Text.l0 k t139 (ints (pre ++ c :: suf)) ((pre ++ c :: suf).length : Int) ((pre.length + 1 : Nat) : Int))) else (some ((⟨#[]⟩ : ByteArray), 2)))) (fun k => ?_) ?_
    · simp only [utf_Text.l0]
      rw [if_pos (by omega), if_pos (by omega), if_pos (by rw [ints_length]; omega), hrd, if_neg (by omega), if_neg (by omega), hw, wrap_succ (n := (pre ++ c :: suf).length) (by omega) (by omega)]
    · refine Ev.bnd (valid_ev c hc) ?_
      refine Ev.ite_pos rfl (Ev.bnd (append_ev (ints acc) c hc (by rw [ints_length]; omega)) ?_)
      rw [← ints_append]
      simpa using ih
theorem text_f (l : List Nat) (h : ∀ c ∈ l, vld c) (hl : (encAll l).length ≤ 600) : Ev (fun k => utf_Text.f k (ints l)) (strOfNums (ints (encAll l)), 0) := by
  have h1 := encAll_length l
  have := text_ev l [] [] h (by simp; omega) (by simp)
  rw [List.nil_append, List.nil_append, if_neg (by omega)] at this
  simp only [utf_Text.f]
  rw [ints_length]
  exact this

end Go.Proofs.Ythimfdojpgbmbaa.UtfX
