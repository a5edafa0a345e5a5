/- UTF-8 over lists of bytes (numbers): decoding, runes, and how both behave at cuts. Plain Lean. -/
import Derived.Lib.DecodeN
namespace Go.Proofs.Ythimfdojpgbmbaa.Utf
open Go.Lib

def byts (s : ByteArray) : List Nat := s.data.toList.map UInt8.toNat
def decN (l : List Nat) : Nat × Nat := decodeN l.length (l.getD 0 0) (l.getD 1 0) (l.getD 2 0) (l.getD 3 0)
def runesF : Nat → List Nat → List Nat
  | 0, _ => []
  | _ + 1, [] => []
  | f + 1, b :: l => (decN (b :: l)).1 :: runesF f ((b :: l).drop (decN (b :: l)).2)
def runes (l : List Nat) : List Nat := runesF l.length l

theorem byts_length (s : ByteArray) : (byts s).length = s.size := by rw [byts, List.length_map, Array.length_toList]; rfl
theorem byts_append (s t : ByteArray) : byts (s ++ t) = byts s ++ byts t := by
  simp [byts, ByteArray.data_append]
theorem byts_lt (s : ByteArray) : ∀ b ∈ byts s, b < 256 := by
  intro b hb
  rw [byts, List.mem_map] at hb
  obtain ⟨x, _, rfl⟩ := hb
  exact UInt8.toNat_lt x
theorem get_byts (s : ByteArray) (i : Nat) : (s.get! i).toNat = (byts s).getD i 0 := by
  obtain ⟨d⟩ := s
  show (d[i]!).toNat = _
  by_cases h : i < d.size
  · rw [getElem!_pos d i h]; simp [byts, List.getD, h]
  · rw [getElem!_neg d i h]; simp [byts, List.getD, h]; rfl
theorem decode_byts (s : ByteArray) (pos : Nat) : Utf8.decode s pos = decN ((byts s).drop pos) := by
  rw [decode_at, get_byts, get_byts, get_byts, get_byts, decN]
  simp only [List.length_drop, List.getD, List.getElem?_drop, Nat.add_zero, byts_length]

theorem decN_width (b : Nat) (l : List Nat) : 1 ≤ (decN (b :: l)).2 ∧ (decN (b :: l)).2 ≤ 4 ∧ (decN (b :: l)).2 ≤ (b :: l).length := by
  unfold decN decodeN
  simp only [List.length_cons]
  repeat' split
  all_goals simp only
  all_goals omega
theorem runesF_more : ∀ (f : Nat) (l : List Nat), l.length ≤ f → runesF f l = runesF l.length l
  | 0, [], _ => rfl
  | 0, _ :: _, h => by simp at h
  | f + 1, [], _ => rfl
  | f + 1, b :: l, h => by
    have hw := decN_width b l
    have hl : ((b :: l).drop (decN (b :: l)).2).length ≤ l.length := by simp only [List.length_drop, List.length_cons]; omega
    have h2 : l.length ≤ f := by simpa using h
    simp only [runesF, List.length_cons]
    rw [runesF_more f _ (Nat.le_trans hl h2), runesF_more l.length _ hl]
termination_by f => f
theorem runes_nil : runes [] = [] := rfl
theorem runes_cons (b : Nat) (l : List Nat) : runes (b :: l) = (decN (b :: l)).1 :: runes ((b :: l).drop (decN (b :: l)).2) := by
  have hw := decN_width b l
  have hl : ((b :: l).drop (decN (b :: l)).2).length ≤ l.length := by simp only [List.length_drop, List.length_cons]; omega
  unfold runes
  simp only [List.length_cons, runesF]
  rw [runesF_more l.length _ hl]
/-- how long: at most the bytes, which are at most four times so many -/
theorem runes_length : ∀ (n : Nat) (l : List Nat), l.length ≤ n → (runes l).length ≤ l.length ∧ l.length ≤ 4 * (runes l).length
  | 0, [], _ => by simp [runes_nil]
  | 0, _ :: _, h => by simp at h
  | n + 1, [], _ => by simp [runes_nil]
  | n + 1, b :: l, h => by
    have hw := decN_width b l
    have hl : ((b :: l).drop (decN (b :: l)).2).length ≤ n := by simp only [List.length_drop, List.length_cons] at h ⊢; omega
    have ih := runes_length n _ hl
    rw [runes_cons]
    simp only [List.length_drop, List.length_cons] at ih hw ⊢
    omega
/-- a continuation byte alone is one odd letter -/
theorem decN_cont (b : Nat) (l : List Nat) (h : 128 ≤ b) (h2 : b < 192) : decN (b :: l) = (65533, 1) := by
  unfold decN decodeN
  simp only [List.getD_cons_zero]
  repeat' split
  all_goals first | rfl | (exfalso; omega)

theorem getD_app_lt (s t : List Nat) (i : Nat) (h : i < s.length) : (s ++ t).getD i 0 = s.getD i 0 := by
  simp [List.getD, List.getElem?_append_left h]
theorem getD_app_ge (s t : List Nat) (i : Nat) (h : s.length ≤ i) : (s ++ t).getD i 0 = t.getD (i - s.length) 0 := by
  simp [List.getD, List.getElem?_append_right h]
theorem decodeN_cut (n m b0 b1 b2 b3 c1 c2 c3 : Nat) (hn : 1 ≤ n) (h1 : 1 < n → c1 = b1) (h2 : 2 < n → c2 = b2) (h3 : 3 < n → c3 = b3)
    (h : (decodeN (n + m) b0 b1 b2 b3).2 ≤ n) : decodeN (n + m) b0 b1 b2 b3 = decodeN n b0 c1 c2 c3 := by
  by_cases k1 : 1 < n
  · obtain rfl := h1 k1
    by_cases k2 : 2 < n
    · obtain rfl := h2 k2
      by_cases k3 : 3 < n
      · obtain rfl := h3 k3
        simp only [decodeN, k1, k2, k3, show 1 < n + m by omega, show 2 < n + m by omega, show 3 < n + m by omega]
      · have k3' : n = 3 := by omega
        subst k3'
        revert h
        unfold decodeN
        repeat' split
        all_goals first | (intro _; with_reducible rfl) | (intro h; exfalso; simp only at h; omega) | (intro h; exfalso; omega)
    · have k2' : n = 2 := by omega
      subst k2'
      revert h
      unfold decodeN
      repeat' split
      all_goals first | (intro _; with_reducible rfl) | (intro h; exfalso; simp only at h; omega) | (intro h; exfalso; omega)
  · have k1' : n = 1 := by omega
    subst k1'
    revert h
    unfold decodeN
    repeat' split
    all_goals first | (intro _; with_reducible rfl) | (intro h; exfalso; simp only at h; omega) | (intro h; exfalso; omega)
/-- what is decoded within s is what s alone decodes -/
theorem decN_app (b : Nat) (s t : List Nat) (h : (decN ((b :: s) ++ t)).2 ≤ (b :: s).length) : decN ((b :: s) ++ t) = decN (b :: s) := by
  unfold decN at h ⊢
  rw [List.length_append] at h ⊢
  have e0 : ((b :: s) ++ t).getD 0 0 = b := rfl
  have f0 : (b :: s).getD 0 0 = b := rfl
  rw [e0] at h ⊢
  rw [f0]
  exact decodeN_cut _ _ _ _ _ _ _ _ _ (by simp) (fun k => (getD_app_lt _ _ _ k).symm) (fun k => (getD_app_lt _ _ _ k).symm) (fun k => (getD_app_lt _ _ _ k).symm) h
/-- a sequence that goes on behind s: what s alone decodes, and that what follows are continuation bytes -/
theorem decodeN_long (n m b0 b1 b2 b3 : Nat) (h : 2 ≤ (decodeN n b0 b1 b2 b3).2) :
    192 ≤ b0 ∧ (decodeN n b0 b1 b2 b3).2 ≤ n ∧ (decodeN n b0 b1 b2 b3).2 ≤ 4 ∧ (128 ≤ b1 ∧ b1 < 192) ∧ (3 ≤ (decodeN n b0 b1 b2 b3).2 → 128 ≤ b2 ∧ b2 < 192) ∧ (4 ≤ (decodeN n b0 b1 b2 b3).2 → 128 ≤ b3 ∧ b3 < 192) ∧
      (m < (decodeN n b0 b1 b2 b3).2 → ∀ c1 c2 c3 : Nat, decodeN m b0 c1 c2 c3 = (65533, 1)) := by
  revert h
  unfold decodeN
  repeat' split
  all_goals simp only
  all_goals intro h
  all_goals first
    | (exfalso; omega)
    | (refine ⟨by omega, by omega, by omega, by omega, by omega, by omega, ?_⟩
       intro hm c1 c2 c3
       repeat' split
       all_goals first | rfl | (exfalso; omega))
theorem runes_one (b : Nat) (l : List Nat) (c : Nat) (h : decN (b :: l) = (c, 1)) : runes (b :: l) = c :: runes l := by
  rw [runes_cons, h]
  rfl
theorem runes_cont (b : Nat) (l : List Nat) (h : 128 ≤ b) (h2 : b < 192) : runes (b :: l) = 65533 :: runes l := runes_one _ _ _ (decN_cont b l h h2)
theorem decN_ascii (b : Nat) (l : List Nat) (h : b < 128) : decN (b :: l) = (b, 1) := by
  unfold decN decodeN
  simp only [List.getD_cons_zero, if_pos h]
theorem runes_ascii (b : Nat) (l : List Nat) (h : b < 128) : runes (b :: l) = b :: runes l := runes_one _ _ _ (decN_ascii b l h)
theorem runes_app_len : ∀ (n : Nat) (s t : List Nat), s.length ≤ n → (runes (s ++ t)).length ≤ (runes s).length + (runes t).length ∧ (runes s).length + (runes t).length ≤ (runes (s ++ t)).length + 3
  | _, [], t, _ => by simp [runes_nil]
  | 0, _ :: _, _, h => by simp at h
  | n + 1, b :: s, t, h => by
    by_cases hw : (decN ((b :: s) ++ t)).2 ≤ (b :: s).length
    · have e := decN_app b s t hw
      have hw1 := decN_width b s
      have ih := runes_app_len n ((b :: s).drop (decN (b :: s)).2) t (by simp only [List.length_drop, List.length_cons] at h ⊢; omega)
      have e1 : runes ((b :: s) ++ t) = (decN (b :: s)).1 :: runes ((b :: s).drop (decN (b :: s)).2 ++ t) := by
        rw [List.cons_append, runes_cons, ← List.cons_append, e, List.drop_append_of_le_length hw1.2.2]
      rw [e1, runes_cons b s]
      simp only [List.length_cons]
      omega
    · have hL : 2 ≤ (decN ((b :: s) ++ t)).2 := by simp only [List.length_cons] at hw; omega
      have hB := decodeN_long ((b :: s) ++ t).length (b :: s).length (((b :: s) ++ t).getD 0 0) (((b :: s) ++ t).getD 1 0) (((b :: s) ++ t).getD 2 0) (((b :: s) ++ t).getD 3 0) hL
      have hx : decN ((b :: s) ++ t) = decodeN ((b :: s) ++ t).length (((b :: s) ++ t).getD 0 0) (((b :: s) ++ t).getD 1 0) (((b :: s) ++ t).getD 2 0) (((b :: s) ++ t).getD 3 0) := rfl
      rw [← hx] at hB
      obtain ⟨h0, hlen, h4, h1, h2, h3, hlast⟩ := hB
      have hbad := hlast (by omega)
      have eb : runes (b :: s) = 65533 :: runes s := runes_one _ _ _ (hbad _ _ _)
      have e1 : runes ((b :: s) ++ t) = (decN ((b :: s) ++ t)).1 :: runes (((b :: s) ++ t).drop (decN ((b :: s) ++ t)).2) := by rw [List.cons_append, runes_cons]
      rw [e1, eb]
      generalize (decN ((b :: s) ++ t)).2 = w at *
      generalize (decN ((b :: s) ++ t)).1 = r at *
      clear hbad hlast eb e1 h0 hx hL h
      match s, t with
      | [], y :: t =>
        simp only [List.cons_append, List.nil_append, List.getD_cons_succ, List.getD_cons_zero, List.length_cons, List.length_nil] at *
        rw [runes_cont y t h1.1 h1.2]
        by_cases w2 : w = 2
        · subst w2; simp [runes_nil]; omega
        · match t with
          | [] => simp at hlen; omega
          | z :: t =>
            simp only [List.getD_cons_succ, List.getD_cons_zero, List.length_cons] at *
            have h2 := h2 (by omega)
            rw [runes_cont z t h2.1 h2.2]
            by_cases w3 : w = 3
            · subst w3; simp [runes_nil]; omega
            · match t with
              | [] => simp at hlen; omega
              | v :: t =>
                simp only [List.getD_cons_zero] at *
                have h3 := h3 (by omega)
                rw [runes_cont v t h3.1 h3.2]
                obtain rfl : w = 4 := by omega
                simp [runes_nil]; omega
      | [], [] => simp at hw hlen; omega
      | [x], y :: t =>
        simp only [List.cons_append, List.nil_append, List.getD_cons_succ, List.getD_cons_zero, List.length_cons, List.length_nil] at *
        have h2 := h2 (by omega)
        rw [runes_cont x [] h1.1 h1.2, runes_cont y t h2.1 h2.2]
        by_cases w3 : w = 3
        · subst w3; simp [runes_nil]; omega
        · match t with
          | [] => simp at hlen; omega
          | v :: t =>
            simp only [List.getD_cons_zero] at *
            have h3 := h3 (by omega)
            rw [runes_cont v t h3.1 h3.2]
            obtain rfl : w = 4 := by omega
            simp [runes_nil]; omega
      | [x], [] => simp at hw hlen; omega
      | [x, x2], y :: t =>
        simp only [List.cons_append, List.nil_append, List.getD_cons_succ, List.getD_cons_zero, List.length_cons, List.length_nil] at *
        have h2 := h2 (by omega)
        have h3 := h3 (by omega)
        rw [runes_cont x [x2] h1.1 h1.2, runes_cont x2 [] h2.1 h2.2, runes_cont y t h3.1 h3.2]
        obtain rfl : w = 4 := by omega
        simp [runes_nil]; omega
      | [x, x2], [] => simp at hw hlen; omega
      | x :: x2 :: x3 :: s, t => simp at hw; omega

/-! ### encoding -/
def vld (c : Nat) : Prop := c < 55296 ∨ (57344 ≤ c ∧ c ≤ 1114111)
def encN (c : Nat) : List Nat :=
  if c < 128 then [c]
  else if c < 2048 then [192 + c / 64, 128 + c % 64]
  else if c < 65536 then [224 + c / 4096, 128 + c / 64 % 64, 128 + c % 64]
  else [240 + c / 262144, 128 + c / 4096 % 64, 128 + c / 64 % 64, 128 + c % 64]
def encAll (l : List Nat) : List Nat := l.flatMap encN
theorem encAll_nil : encAll [] = [] := rfl
theorem encAll_cons (c : Nat) (l : List Nat) : encAll (c :: l) = encN c ++ encAll l := rfl
theorem encAll_append (l m : List Nat) : encAll (l ++ m) = encAll l ++ encAll m := by simp [encAll]
theorem encN_length (c : Nat) : 1 ≤ (encN c).length ∧ (encN c).length ≤ 4 := by
  unfold encN
  repeat' split
  all_goals simp
theorem encAll_length : ∀ l : List Nat, l.length ≤ (encAll l).length ∧ (encAll l).length ≤ 4 * l.length
  | [] => by simp [encAll_nil]
  | c :: l => by
    have h1 := encN_length c
    have h2 := encAll_length l
    rw [encAll_cons]
    simp only [List.length_append, List.length_cons]
    omega
theorem encN_lt (c : Nat) (h : c ≤ 1114111) : ∀ b ∈ encN c, b < 256 := by
  unfold encN
  repeat' split
  all_goals simp only [List.mem_cons, List.not_mem_nil, or_false]
  all_goals intro b hb
  all_goals omega
theorem decN_enc (c : Nat) (h : vld c) (t : List Nat) : decN (encN c ++ t) = (c, (encN c).length) := by
  unfold vld at h
  unfold encN
  split
  · simp only [List.cons_append, List.nil_append]
    exact decN_ascii _ _ (by assumption)
  · split
    · unfold decN decodeN
      simp only [List.cons_append, List.nil_append, List.getD_cons_zero, List.getD_cons_succ, List.length_cons, List.length_nil]
      rw [if_neg (by omega), if_pos (by omega), if_pos (by omega)]
      congr 1
      omega
    · split
      · unfold decN decodeN
        simp only [List.cons_append, List.nil_append, List.getD_cons_zero, List.getD_cons_succ, List.length_cons, List.length_nil]
        rw [if_neg (by omega), if_neg (by omega), if_pos (by omega), if_pos (by omega)]
        congr 1
        omega
      · unfold decN decodeN
        simp only [List.cons_append, List.nil_append, List.getD_cons_zero, List.getD_cons_succ, List.length_cons, List.length_nil]
        rw [if_neg (by omega), if_neg (by omega), if_neg (by omega), if_pos (by omega), if_pos (by omega)]
        congr 1
        omega
theorem encN_cons (c : Nat) : ∃ b r, encN c = b :: r := by
  unfold encN
  repeat' split
  all_goals exact ⟨_, _, rfl⟩
theorem runes_enc (c : Nat) (h : vld c) (t : List Nat) : runes (encN c ++ t) = c :: runes t := by
  have e := decN_enc c h t
  obtain ⟨b, r, hb⟩ := encN_cons c
  have hd : (encN c ++ t).drop (encN c).length = t := List.drop_left
  rw [hb] at e hd ⊢
  rw [List.cons_append] at e hd ⊢
  rw [runes_cons, e]
  dsimp only
  rw [hd]
theorem runes_encAll : ∀ (l : List Nat) (t : List Nat), (∀ c ∈ l, vld c) → runes (encAll l ++ t) = l ++ runes t
  | [], t, _ => by simp [encAll_nil]
  | c :: l, t, h => by
    rw [encAll_cons, List.append_assoc, runes_enc c (h c List.mem_cons_self), runes_encAll l t (fun x hx => h x (List.mem_cons_of_mem _ hx)), List.cons_append]
theorem encAll_inj {l m : List Nat} (hl : ∀ c ∈ l, vld c) (hm : ∀ c ∈ m, vld c) (h : encAll l = encAll m) : l = m := by
  have h1 := runes_encAll l [] hl
  have h2 := runes_encAll m [] hm
  rw [List.append_nil, runes_nil, List.append_nil] at h1 h2
  rw [← h1, ← h2, h]

/-- bytes in their order -/
def less : List Nat → List Nat → Bool
  | _, [] => false
  | [], _ :: _ => true
  | a :: x, b :: y => a < b || (a == b && less x y)
theorem less_same : ∀ (p u v : List Nat), less (p ++ u) (p ++ v) = less u v
  | [], u, v => rfl
  | a :: p, u, v => by simp [less, less_same p u v]
theorem less_enc {c d : Nat} (hc : vld c) (hd : vld d) (h : c < d) (u v : List Nat) : less (encN c ++ u) (encN d ++ v) = true ∧ less (encN d ++ v) (encN c ++ u) = false := by
  unfold vld at hc hd
  unfold encN
  repeat' split
  all_goals first
    | (exfalso; omega)
    | (simp only [List.cons_append, List.nil_append, less, Bool.or_eq_true, Bool.and_eq_true, Bool.or_eq_false_iff, Bool.and_eq_false_imp, decide_eq_true_eq, decide_eq_false_iff_not, beq_iff_eq]
       omega)
theorem less_encAll : ∀ (l m : List Nat), (∀ c ∈ l, vld c) → (∀ c ∈ m, vld c) → less (encAll l) (encAll m) = less l m
  | _, [], _, _ => by simp [encAll_nil, less]
  | [], d :: m, _, _ => by
    obtain ⟨b, r, hb⟩ := encN_cons d
    rw [encAll_cons, hb]
    simp [encAll_nil, less]
  | c :: l, d :: m, hl, hm => by
    have h1 := hl c List.mem_cons_self
    have h2 := hm d List.mem_cons_self
    rw [encAll_cons, encAll_cons]
    rcases Nat.lt_trichotomy c d with h | h | h
    · rw [(less_enc h1 h2 h _ _).1]
      simp [less, h]
    · subst h
      rw [less_same, less_encAll l m (fun x hx => hl x (List.mem_cons_of_mem _ hx)) (fun x hx => hm x (List.mem_cons_of_mem _ hx))]
      simp [less]
    · rw [(less_enc h2 h1 h _ _).2]
      simp [less]
      omega
end Go.Proofs.Ythimfdojpgbmbaa.Utf
