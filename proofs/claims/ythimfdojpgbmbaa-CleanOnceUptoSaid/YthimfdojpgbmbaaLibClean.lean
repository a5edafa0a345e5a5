/- utf.Clean over lists of numbers: what it does to code points, and its laws. -/
import Derived.Test.YthimfdojpgbmbaaLibUtf
namespace Go.Proofs.Ythimfdojpgbmbaa.Clean
open Go.Lib Go.Proofs.Ythimfdojpgbmbaa.Utf

theorem decodeN_val (n b0 b1 b2 b3 : Nat) (h0 : b0 < 256) :
    vld (decodeN n b0 b1 b2 b3).1 ∧ ((decodeN n b0 b1 b2 b3).1 < 128 → (decodeN n b0 b1 b2 b3) = (b0, 1) ∧ b0 < 128) ∧ ((decodeN n b0 b1 b2 b3).2 = 1 → (decodeN n b0 b1 b2 b3).1 < 65536) := by
  unfold decodeN vld
  repeat' split
  all_goals simp only [Prod.mk.injEq]
  all_goals refine ⟨by omega, ?_, by omega⟩
  all_goals first
    | (intro h; exfalso; omega)
    | (intro _; exact ⟨by simp, by omega⟩)
theorem decN_val (b : Nat) (l : List Nat) (h0 : b < 256) :
    vld (decN (b :: l)).1 ∧ ((decN (b :: l)).1 < 128 → (decN (b :: l)) = (b, 1) ∧ b < 128) ∧ ((decN (b :: l)).2 = 1 → (decN (b :: l)).1 < 65536) := by
  unfold decN
  exact decodeN_val _ _ _ _ _ h0
theorem runes_vld : ∀ (n : Nat) (l : List Nat), l.length ≤ n → (∀ b ∈ l, b < 256) → ∀ c ∈ runes l, vld c
  | _, [], _, _ => by simp [runes_nil]
  | 0, _ :: _, h, _ => by simp at h
  | n + 1, b :: l, h, hb => by
    have hw := decN_width b l
    rw [runes_cons]
    intro c hc
    rcases List.mem_cons.1 hc with rfl | hc
    · exact (decN_val b l (hb b (by simp))).1
    · refine runes_vld n ((b :: l).drop (decN (b :: l)).2) (by simp at h ⊢; omega) (fun x hx => hb x (List.mem_of_mem_drop hx)) c hc

/-- what Clean does to code points -/
def cleanR : List Nat → List Nat
  | [] => []
  | c :: l => if c = 0 then 65533 :: cleanR l
    else if c = 13 ∧ l.head? = some 10 then cleanR l
    else (if c = 13 then 10 else c) :: cleanR l
theorem cleanR_vld : ∀ l : List Nat, (∀ c ∈ l, vld c) → ∀ c ∈ cleanR l, vld c
  | [], _ => by simp [cleanR]
  | c :: l, h => by
    have ih := cleanR_vld l (fun x hx => h x (by simp [hx]))
    have hc := h c (by simp)
    unfold cleanR
    split
    · intro x hx
      rcases List.mem_cons.1 hx with rfl | hx
      · unfold vld; omega
      · exact ih x hx
    · split
      · exact ih
      · intro x hx
        rcases List.mem_cons.1 hx with rfl | hx
        · split
          · unfold vld; omega
          · exact hc
        · exact ih x hx
theorem cleanR_no : ∀ l : List Nat, ∀ c ∈ cleanR l, c ≠ 0 ∧ c ≠ 13
  | [] => by simp [cleanR]
  | c :: l => by
    have ih := cleanR_no l
    unfold cleanR
    split
    · intro x hx
      rcases List.mem_cons.1 hx with rfl | hx
      · omega
      · exact ih x hx
    · split
      · exact ih
      · intro x hx
        rcases List.mem_cons.1 hx with rfl | hx
        · split <;> omega
        · exact ih x hx
theorem cleanR_id : ∀ l : List Nat, (∀ c ∈ l, c ≠ 0 ∧ c ≠ 13) → cleanR l = l
  | [], _ => rfl
  | c :: l, h => by
    have hc := h c (by simp)
    unfold cleanR
    rw [if_neg hc.1, if_neg (fun k => hc.2 k.1), if_neg hc.2, cleanR_id l (fun x hx => h x (by simp [hx]))]
theorem cleanR_twice (l : List Nat) : cleanR (cleanR l) = cleanR l := cleanR_id _ (cleanR_no l)
/-- parts divided behind a code point that is neither 0 nor 13 -/
theorem cleanR_parts (x : Nat) (hx : x ≠ 0 ∧ x ≠ 13) (t : List Nat) : ∀ s : List Nat, cleanR (s ++ x :: t) = cleanR (s ++ [x]) ++ cleanR t
  | [] => by simp [cleanR, hx.1, hx.2]
  | c :: s => by
    have ih := cleanR_parts x hx t s
    have hh : (s ++ x :: t).head? = (s ++ [x]).head? := by cases s <;> rfl
    rw [List.cons_append, List.cons_append]
    rw [cleanR, cleanR]
    rw [hh, ih]
    split
    · rfl
    · split <;> rfl
/-- bytes ahead of an ASCII byte are decoded by themselves -/
theorem runes_ahead (a : Nat) (ha : a < 128) (t : List Nat) : ∀ (n : Nat) (s : List Nat), s.length ≤ n → runes (s ++ a :: t) = runes s ++ a :: runes t
  | _, [], _ => by rw [List.nil_append, runes_nil, List.nil_append, runes_ascii a t ha]
  | 0, _ :: _, h => by simp at h
  | n + 1, b :: s, h => by
    have hw := decN_width b s
    have hle : (decN ((b :: s) ++ a :: t)).2 ≤ (b :: s).length := by
      by_cases h2 : 2 ≤ (decN ((b :: s) ++ a :: t)).2
      · unfold decN at h2 ⊢
        have := decodeN_long _ 0 _ _ _ _ h2
        obtain ⟨_, _, h4, h5, h6, h7, _⟩ := this
        by_cases hl : 4 ≤ (b :: s).length
        · omega
        · match s, hl with
          | [], _ => simp at h5; omega
          | [x], _ => simp at h6 ⊢; omega
          | [x, y], _ => simp at h7 ⊢; omega
          | _ :: _ :: _ :: _, hl => simp at hl
      · simp only [List.length_cons]; omega
    have e := decN_app b s (a :: t) hle
    rw [List.cons_append, runes_cons, runes_cons, ← List.cons_append, e]
    rw [e] at hle
    rw [List.drop_append_of_le_length hle, runes_ahead a ha t n _ (by simp at h ⊢; omega)]
    rfl
/-- how long it gets -/
theorem enc_width (b : Nat) (l : List Nat) (hb : b < 256) (c : Nat) (hc : c = (decN (b :: l)).1 ∨ c = 65533 ∨ c = 10) : (encN c).length ≤ 3 * (decN (b :: l)).2 := by
  have hw := (decN_width b l).1
  have hv := decN_val b l hb
  by_cases h1 : (decN (b :: l)).2 = 1
  · have : c < 65536 := by have := hv.2.2 h1; omega
    unfold encN
    repeat' split
    all_goals simp
    all_goals omega
  · have := (encN_length c).2
    omega
theorem head_drop (b : Nat) (l : List Nat) (hb : ∀ x ∈ b :: l, x < 256) (h : (decN (b :: l)).1 = 13) : (decN (b :: l)) = (b, 1) ∧ b = 13 ∧ ((runes l).head? = some 10 ↔ l.head? = some 10) := by
  have hv := decN_val b l (hb b (by simp))
  have h1 := hv.2.1 (by omega)
  refine ⟨h1.1, by rw [h1.1] at h; exact h, ?_⟩
  cases l with
  | nil => simp [runes_nil]
  | cons x l =>
    rw [runes_cons]
    have hx := decN_val x l (hb x (by simp))
    simp only [List.head?_cons, Option.some.injEq]
    constructor
    · intro h10
      have := hx.2.1 (by omega)
      rw [this.1] at h10
      exact h10
    · rintro rfl
      rw [decN_ascii 10 l (by omega)]
theorem clean_size : ∀ (n : Nat) (l : List Nat), l.length ≤ n → (∀ b ∈ l, b < 256) → (encAll (cleanR (runes l))).length ≤ 3 * l.length
  | _, [], _, _ => by simp [runes_nil, cleanR, encAll_nil]
  | 0, _ :: _, h, _ => by simp at h
  | n + 1, b :: l, h, hb => by
    have hw := decN_width b l
    have ih := clean_size n ((b :: l).drop (decN (b :: l)).2) (by simp at h ⊢; omega) (fun x hx => hb x (List.mem_of_mem_drop hx))
    rw [List.length_drop] at ih
    have he := enc_width b l (hb b (by simp))
    rw [runes_cons]
    unfold cleanR
    split
    · rw [encAll_cons, List.length_append]
      have := he 65533 (by simp)
      omega
    · split
      · omega
      · rw [encAll_cons, List.length_append]
        have := he (if (decN (b :: l)).1 = 13 then 10 else (decN (b :: l)).1) (by split <;> simp)
        omega
theorem encN_no (c : Nat) (h : c ≠ 0 ∧ c ≠ 13) : ∀ b ∈ encN c, b ≠ 0 ∧ b ≠ 13 := by
  unfold encN
  repeat' split
  all_goals simp only [List.mem_cons, List.not_mem_nil, or_false]
  all_goals intro b hb
  all_goals omega
theorem encAll_no (l : List Nat) (h : ∀ c ∈ l, c ≠ 0 ∧ c ≠ 13) : ∀ b ∈ encAll l, b ≠ 0 ∧ b ≠ 13 := by
  intro b hb
  obtain ⟨c, hc, hb⟩ := List.mem_flatMap.1 hb
  exact encN_no c (h c hc) b hb
theorem runes_back (l : List Nat) (h : ∀ c ∈ l, vld c) : runes (encAll l) = l := by
  have := runes_encAll l [] h
  rwa [List.append_nil, runes_nil, List.append_nil] at this
/-- what Clean does to bytes -/
def cleanB (l : List Nat) : List Nat := encAll (cleanR (runes l))
theorem cleanB_twice (l : List Nat) (h : ∀ b ∈ l, b < 256) : cleanB (cleanB l) = cleanB l := by
  have hv := cleanR_vld _ (runes_vld _ l (Nat.le_refl _) h)
  unfold cleanB
  rw [runes_back _ hv, cleanR_twice]
theorem cleanB_parts (s t : List Nat) (x : Nat) (hx : x < 128) (h0 : x ≠ 0 ∧ x ≠ 13) : cleanB (s ++ x :: t) = cleanB (s ++ [x]) ++ cleanB t := by
  unfold cleanB
  rw [runes_ahead x hx t _ s (Nat.le_refl _), runes_ahead x hx [] _ s (Nat.le_refl _), runes_nil, cleanR_parts x h0, encAll_append]
end Go.Proofs.Ythimfdojpgbmbaa.Clean
