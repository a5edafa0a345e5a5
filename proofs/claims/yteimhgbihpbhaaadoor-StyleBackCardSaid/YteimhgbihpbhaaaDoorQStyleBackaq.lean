/- Parts of the proof of StyleBack that are needed, put together by pack.py. -/
import Derived.Test.YteimhgbihpbhaaaDoorQStyleBackap
import Derived.Lib.IndexMore
import Derived.Lib.SlTrimSet
section
namespace Go.Proofs.YteimhgbihpbhaaaDoor.St
open Go.RowKit Go.Proofs.YteimhgbihpbhaaaDoorW.PrintWords Go.Proofs.YteimhgbihpbhaaaDoor.Base
set_option linter.unusedVariables false
set_option linter.unusedSimpArgs false
abbrev L := List UInt8
theorem cut_skip {sep : L} {b : UInt8} {l : L} (h : sep.isPrefixOf (b :: l) = false) : Lib.cut (b :: l) sep = (b :: (Lib.cut l sep).1, (Lib.cut l sep).2.1, (Lib.cut l sep).2.2) := by
  have hge := Lib.index_ge l sep
  unfold Lib.cut
  have e : Lib.index (b :: l) sep = if sep.isPrefixOf (b :: l) = true then 0 else if (Lib.index l sep == -1) = true then -1 else Lib.index l sep + 1 := rfl
  rw [h, if_neg (by decide)] at e
  by_cases hi : Lib.index l sep = -1
  · rw [if_pos (by rw [hi]; rfl)] at e
    rw [e, hi, if_neg (by omega), if_neg (by omega)]
  · rw [if_neg (by simpa using hi)] at e
    obtain ⟨n, hn⟩ : ∃ n : Nat, Lib.index l sep = (n : Int) := ⟨(Lib.index l sep).toNat, by omega⟩
    rw [e, hn, if_pos (by omega), if_pos (by omega)]
    have e1 : ((n : Int) + 1).toNat = n + 1 := by omega
    have e2 : ((n : Int)).toNat = n := by omega
    rw [e1, e2, List.take_succ_cons, show n + 1 + sep.length = (n + sep.length) + 1 by omega, List.drop_succ_cons]
theorem cut_hit (sep t : L) (h : sep ≠ []) : Lib.cut (sep ++ t) sep = ([], t, true) := by
  have h1 : Lib.index (sep ++ t) sep = 0 := by
    cases sep with
    | nil => exact absurd rfl h
    | cons a s =>
      rw [List.cons_append]
      unfold Lib.index
      rw [if_pos]
      rw [← List.cons_append]
      simp [List.isPrefixOf_iff_prefix]
  unfold Lib.cut
  rw [h1]
  simp
theorem cut_pre {a : UInt8} {s x t : L} (h : a ∉ x) : Lib.cut (x ++ t) (a :: s) = (x ++ (Lib.cut t (a :: s)).1, (Lib.cut t (a :: s)).2.1, (Lib.cut t (a :: s)).2.2) := by
  induction x with
  | nil => rfl
  | cons b x ih =>
    have hb : a ≠ b := fun e => h (by rw [e]; simp)
    rw [List.cons_append, cut_skip (by simp [List.isPrefixOf, hb]), ih (fun hm => h (List.mem_cons_of_mem _ hm))]
    rfl
theorem cut_at {a : UInt8} {s x t : L} (h : a ∉ x) : Lib.cut (x ++ ((a :: s) ++ t)) (a :: s) = (x, t, true) := by
  rw [cut_pre h, cut_hit _ _ (by simp), List.append_nil]
theorem cut_len (s sep : L) : (Lib.cut s sep).1.length + (Lib.cut s sep).2.1.length ≤ s.length := by
  unfold Lib.cut
  split
  · dsimp only
    rw [List.length_take, List.length_drop]; omega
  · simp
theorem cut_less {s sep : L} (h : (Lib.cut s sep).2.2 = true) (hs : sep ≠ []) : (Lib.cut s sep).2.1.length < s.length := by
  unfold Lib.cut at h ⊢
  split at h
  · rename_i hc
    rw [if_pos hc]
    have h1 := Lib.index_room s sep hc
    have h2 : 0 < sep.length := List.length_pos_iff.2 hs
    dsimp only
    rw [List.length_drop]; omega
  · cases h
/-- a text without remarks -/
inductive Bare : L → L → Prop
  | plain {s} : (Lib.cut s [47, 42]).2.2 = false → Bare s (Lib.cut s [47, 42]).1
  | cutoff {s} : (Lib.cut s [47, 42]).2.2 = true → (Lib.cut (Lib.cut s [47, 42]).2.1 [42, 47]).2.2 = false → Bare s (Lib.cut s [47, 42]).1
  | more {s u} : (Lib.cut s [47, 42]).2.2 = true → (Lib.cut (Lib.cut s [47, 42]).2.1 [42, 47]).2.2 = true → Bare (Lib.cut (Lib.cut s [47, 42]).2.1 [42, 47]).2.1 u → Bare s ((Lib.cut s [47, 42]).1 ++ u)
theorem Bare.fun {s u v : L} (h : Bare s u) (g : Bare s v) : u = v := by
  induction h generalizing v with
  | plain h1 =>
    cases g with
    | plain _ => rfl
    | cutoff g1 _ => exact absurd (h1.symm.trans g1) (by decide)
    | more g1 _ _ => exact absurd (h1.symm.trans g1) (by decide)
  | cutoff h1 h2 =>
    cases g with
    | plain g1 => rfl
    | cutoff _ _ => rfl
    | more _ g2 _ => exact absurd (h2.symm.trans g2) (by decide)
  | more h1 h2 _ ih =>
    cases g with
    | plain g1 => exact absurd (h1.symm.trans g1) (by decide)
    | cutoff _ g2 => exact absurd (h2.symm.trans g2) (by decide)
    | more _ _ g3 => rw [ih g3]
theorem Bare.len {s u : L} (h : Bare s u) : u.length ≤ s.length := by
  induction h with
  | @plain s _ => have := cut_len s [47, 42]; omega
  | @cutoff s _ _ => have := cut_len s [47, 42]; omega
  | @more s u _ _ _ ih =>
    have h1 := cut_len s [47, 42]
    have h2 := cut_len (Lib.cut s [47, 42]).2.1 [42, 47]
    rw [List.length_append]; omega
/-- what has no slash stays -/
theorem Bare.pre {x t u : L} (hx : (47 : UInt8) ∉ x) (h : Bare t u) : Bare (x ++ t) (x ++ u) := by
  have hc : Lib.cut (x ++ t) [47, 42] = (x ++ (Lib.cut t [47, 42]).1, (Lib.cut t [47, 42]).2.1, (Lib.cut t [47, 42]).2.2) := cut_pre hx
  cases h with
  | plain h1 =>
    have := Bare.plain (s := x ++ t) (by rw [hc]; exact h1)
    rwa [hc] at this
  | cutoff h1 h2 =>
    have := Bare.cutoff (s := x ++ t) (by rw [hc]; exact h1) (by rw [hc]; exact h2)
    rwa [hc] at this
  | more h1 h2 h3 =>
    have := Bare.more (s := x ++ t) (by rw [hc]; exact h1) (by rw [hc]; exact h2) (by rw [hc]; exact h3)
    rw [hc] at this
    rw [← List.append_assoc]
    exact this
theorem Bare.nil : Bare [] [] := by
  have : Bare [] (Lib.cut [] [47, 42]).1 := .plain rfl
  exact this
theorem Bare.free {x : L} (hx : (47 : UInt8) ∉ x) : Bare x x := by
  have := Bare.pre hx Bare.nil
  rwa [List.append_nil] at this
theorem Bare.remark {y t u : L} (hy : (42 : UInt8) ∉ y) (h : Bare t u) : Bare ([47, 42] ++ (y ++ ([42, 47] ++ t))) u := by
  have h1 : Lib.cut ([47, 42] ++ (y ++ ([42, 47] ++ t))) [47, 42] = ([], y ++ ([42, 47] ++ t), true) := cut_hit _ _ (by simp)
  have h2 : Lib.cut (y ++ ([42, 47] ++ t)) [42, 47] = (y, t, true) := cut_at hy
  have := Bare.more (s := [47, 42] ++ (y ++ ([42, 47] ++ t))) (u := u) (by rw [h1]) (by rw [h1]; dsimp only; rw [h2]) (by rw [h1]; dsimp only; rw [h2]; exact h)
  rw [h1] at this
  exact this
/-- pieces between semicolons that count: quote, depth, the piece so far -/
def pcs (q : UInt8) (d : Nat) (cur : L) : L → List L
  | [] => [cur]
  | c :: l =>
    if q ≠ 0 then pcs (if c = q then 0 else q) d (cur ++ [c]) l
    else if c = 34 ∨ c = 39 then pcs c d (cur ++ [c]) l
    else if c = 40 then pcs 0 (d + 1) (cur ++ [c]) l
    else if c = 41 then pcs 0 (d - 1) (cur ++ [c]) l
    else if c = 59 ∧ d = 0 then cur :: pcs 0 0 [] l
    else pcs 0 d (cur ++ [c]) l
/-- the state behind a text in which no semicolon counts -/
def scan (q : UInt8) (d : Nat) : L → Option (UInt8 × Nat)
  | [] => some (q, d)
  | c :: l =>
    if q ≠ 0 then scan (if c = q then 0 else q) d l
    else if c = 34 ∨ c = 39 then scan c d l
    else if c = 40 then scan 0 (d + 1) l
    else if c = 41 then scan 0 (d - 1) l
    else if c = 59 ∧ d = 0 then none
    else scan 0 d l
theorem pcs_scan : ∀ (x : L) (q : UInt8) (d : Nat) (q' : UInt8) (d' : Nat) (cur t : L), scan q d x = some (q', d') → pcs q d cur (x ++ t) = pcs q' d' (cur ++ x) t
  | [], q, d, q', d', cur, t, h => by
    rw [scan] at h
    obtain ⟨rfl, rfl⟩ := Prod.mk.inj (Option.some.inj h)
    rw [List.append_nil, List.nil_append]
  | c :: x, q, d, q', d', cur, t, h => by
    rw [scan] at h
    rw [List.cons_append, pcs, show cur ++ c :: x = (cur ++ [c]) ++ x by simp]
    by_cases h1 : q ≠ 0
    · rw [if_pos h1] at h ⊢
      exact pcs_scan x _ _ _ _ _ _ h
    · rw [if_neg h1] at h ⊢
      by_cases h2 : c = 34 ∨ c = 39
      · rw [if_pos h2] at h ⊢
        exact pcs_scan x _ _ _ _ _ _ h
      · rw [if_neg h2] at h ⊢
        by_cases h3 : c = 40
        · rw [if_pos h3] at h ⊢
          exact pcs_scan x _ _ _ _ _ _ h
        · rw [if_neg h3] at h ⊢
          by_cases h4 : c = 41
          · rw [if_pos h4] at h ⊢
            exact pcs_scan x _ _ _ _ _ _ h
          · rw [if_neg h4] at h ⊢
            by_cases h5 : c = 59 ∧ d = 0
            · rw [if_pos h5] at h; cases h
            · rw [if_neg h5] at h ⊢
              exact pcs_scan x _ _ _ _ _ _ h
theorem pcs_semi (cur t : L) : pcs 0 0 cur (59 :: t) = cur :: pcs 0 0 [] t := by
  rw [pcs, if_neg (by simp), if_neg (by decide), if_neg (by decide), if_neg (by decide), if_pos ⟨rfl, rfl⟩]
theorem pcs_piece {x t : L} (h : scan 0 0 x = some (0, 0)) : pcs 0 0 [] (x ++ 59 :: t) = x :: pcs 0 0 [] t := by
  rw [pcs_scan x 0 0 0 0 [] (59 :: t) h, List.nil_append, pcs_semi]
theorem pcs_last {x : L} (h : scan 0 0 x = some (0, 0)) : pcs 0 0 [] x = [x] := by
  have := pcs_scan x 0 0 0 0 [] [] h
  rw [List.append_nil, List.nil_append] at this
  rw [this, pcs]
end Go.Proofs.YteimhgbihpbhaaaDoor.St
end
