/- Parts of the proof of ExprAlgebra that are needed, put together by pack.py. -/
import Derived.Test.YtjmhihadgpdiaaaQExprAlgebraai
import Derived.Test.YtjmhihadgpdiaaaQExprAlgebraak
import Derived.Test.YtjmhihadgpdiaaaQExprAlgebraag
import Derived.Test.YtjmhihadgpdiaaaQExprAlgebraaj
import Derived.Test.YtjmhihadgpdiaaaQExprAlgebraae
import Derived.Test.YtjmhihadgpdiaaaQExprAlgebraac
section
namespace Go.Proofs.Ytjmhihadgpdiaaa.Expr
open Go.RowKit Go.Proofs.Ytjmhihadgpdiaaa.X Go.Proofs.YtjmhihadgpdiaaaW.PrintWords Go.Proofs.YtjmhihadgpdiaaaW.PrintLast Go.Proofs.Ytjmhihadgpdiaaa.Base
set_option linter.unusedVariables false
set_option linter.unusedSimpArgs false
theorem mem_flat {kd : Int} {q : S} : ∀ {l : List S}, q ∈ flat kd l → ∃ p ∈ l, (p.f0 = kd ∧ q ∈ p.f2) ∨ (p.f0 ≠ kd ∧ q = p)
  | p :: l, h => by
    rw [flat] at h
    rcases List.mem_append.1 h with h | h
    · by_cases e : p.f0 = kd
      · rw [if_pos e] at h; exact ⟨p, List.mem_cons_self, .inl ⟨e, h⟩⟩
      · rw [if_neg e] at h; exact ⟨p, List.mem_cons_self, .inr ⟨e, by simpa using h⟩⟩
    · obtain ⟨r, hr, h2⟩ := mem_flat h
      exact ⟨r, List.mem_cons_of_mem _ hr, h2⟩
theorem tog_ok {kd : Int} {l : List S} (hl : ∀ p ∈ l, Ok p) (hk : kd = 2 ∨ kd = 3 ∧ l ≠ []) : Ok (tog kd l) := by
  have hf : ∀ q ∈ flat kd l, Ok q ∧ q.f0 ≠ kd := by
    intro q hq
    obtain ⟨p, hp, ⟨h1, h2⟩ | ⟨h1, rfl⟩⟩ := mem_flat hq
    · refine ⟨(hl p hp).parts q h2, ?_⟩
      rcases (hl p hp).loc with h3 | h3 | h3 | h3
      · rw [h3.2.1] at h2; cases h2
      · rw [← h1, h3.1]; exact h3.2.2.2 q h2
      · rw [← h1, h3.1]; exact h3.2.2.2 q h2
      · omega
    · exact ⟨hl q hp, h1⟩
  unfold tog
  split
  · rename_i h; obtain ⟨x, rfl⟩ := len1 h; exact hl x List.mem_cons_self
  · rename_i h0
    unfold one
    split
    · rename_i h; obtain ⟨x, e⟩ := len1 h; rw [e]; exact (hf x (by rw [e]; exact List.mem_cons_self)).1
    · rename_i h1
      refine Ok.mk ?_ (fun p hp => (hf p hp).1)
      rcases hk with rfl | ⟨rfl, hk⟩
      · exact .inr (.inl ⟨rfl, rfl, h1, fun p hp => (hf p hp).2⟩)
      · refine .inr (.inr (.inl ⟨rfl, rfl, ?_, fun p hp => (hf p hp).2⟩))
        show 2 ≤ (flat 3 l).length
        have : (flat 3 l).length ≠ 0 := by
          cases l with
          | nil => exact absurd rfl hk
          | cons p l =>
            rw [flat, List.length_append]
            split
            · rename_i e
              rcases (hl p List.mem_cons_self).loc with h3 | h3 | h3 | h3 <;> omega
            · simp
        omega
def sgn (kd : Int) : T := if kd = 4 then [42] else if kd = 5 then [43] else [63]
def jn : List T → T
  | [] => []
  | t :: ts => t ++ tail ts
def wrp (kd q : Int) (t : T) : T := if q = 3 ∧ kd ≠ 3 ∨ q = 2 ∧ 4 ≤ kd then 40 :: t ++ [41] else t
def body (kd ty : Int) (ls : List T) : T := if kd = 1 then [(97 + ty).toNat.toUInt8] else if kd = 2 then ls.flatten else if kd = 3 then jn ls else ls.headD [] ++ sgn kd
def txl (kd : Int) : List S → List T
  | [] => []
  | p :: l => wrp kd p.f0 (body p.f0 p.f1 (txl p.f0 p.f2)) :: txl kd l
termination_by l => SizeOf.sizeOf l
decreasing_by all_goals (cases p; simp; omega)
def txt (x : S) : T := body x.f0 x.f1 (txl x.f0 x.f2)
theorem txl_eq (kd : Int) : ∀ l : List S, txl kd l = l.map fun p => wrp kd p.f0 (txt p)
  | [] => by rw [txl]; rfl
  | p :: l => by rw [txl, txl_eq kd l]; rfl
theorem txt_eq (x : S) : txt x = body x.f0 x.f1 (x.f2.map fun p => wrp x.f0 p.f0 (txt p)) := by rw [txt, txl_eq]
/-- how long a text is where it stands as an item -/
def pl (x : S) : Nat := (txt x).length + if x.f0 = 2 ∨ x.f0 = 3 then 2 else 0
def pls (l : List S) : Nat := (l.map pl).sum
theorem wrp_len (kd q : Int) (t : T) : (wrp kd q t).length ≤ t.length + if q = 2 ∨ q = 3 then 2 else 0 := by
  unfold wrp
  by_cases h : q = 3 ∧ kd ≠ 3 ∨ q = 2 ∧ 4 ≤ kd
  · rw [if_pos h, if_pos (by omega)]; simp
  · rw [if_neg h]; omega
theorem len_le_wrp (kd q : Int) (t : T) : t.length ≤ (wrp kd q t).length := by
  unfold wrp
  split
  · simp; omega
  · exact Nat.le_refl _
theorem tail_len (ts : List T) : (tail ts).length = (ts.map List.length).sum + ts.length := by
  induction ts with
  | nil => rfl
  | cons t ts ih => rw [tail, List.length_append, List.length_cons, ih, List.map_cons, List.sum_cons, List.length_cons]; omega
theorem jn_len {ts : List T} (h : ts ≠ []) : (jn ts).length + 1 = (ts.map List.length).sum + ts.length := by
  cases ts with
  | nil => exact absurd rfl h
  | cons t ts => rw [jn, List.length_append, tail_len, List.map_cons, List.sum_cons, List.length_cons]; omega
theorem flatten_len (ls : List T) : ls.flatten.length = (ls.map List.length).sum := List.length_flatten
theorem txt2 (t : Int) (l : List S) : txt ⟨2, t, l⟩ = (l.map fun p => wrp 2 p.f0 (txt p)).flatten := by
  rw [txt_eq]; rfl
theorem txt3 (t : Int) (l : List S) : txt ⟨3, t, l⟩ = jn (l.map fun p => wrp 3 p.f0 (txt p)) := by
  rw [txt_eq]; rfl
theorem wrp3 (q : Int) (t : T) : wrp 3 q t = t := by
  unfold wrp; rw [if_neg (by omega)]
theorem txt2_len (t : Int) (l : List S) : (txt ⟨2, t, l⟩).length = (l.map fun p => (wrp 2 p.f0 (txt p)).length).sum := by
  rw [txt2, flatten_len, List.map_map]; rfl
theorem txt3_len (t : Int) (l : List S) (h : l ≠ []) : (txt ⟨3, t, l⟩).length + 1 = (l.map fun p => (txt p).length + 1).sum := by
  rw [txt3, jn_len (by simpa using h), List.map_map, List.length_map]
  have e : (List.length ∘ fun p : S => wrp 3 p.f0 (txt p)) = fun p => (txt p).length := by funext p; simp [wrp3]
  rw [e]
  clear h e
  induction l with
  | nil => rfl
  | cons p l ih => rw [List.map_cons, List.map_cons, List.sum_cons, List.sum_cons, List.length_cons, ← ih]; omega
theorem pls_app (a b : List S) : pls (a ++ b) = pls a + pls b := by
  unfold pls; rw [List.map_append, List.sum_append]
theorem pls_cons (p : S) (l : List S) : pls (p :: l) = pl p + pls l := rfl
/-- the text of a sequence that is put together -/
theorem flat2_len : ∀ {l : List S}, (∀ p ∈ l, Ok p) → ((flat 2 l).map fun p => (wrp 2 p.f0 (txt p)).length).sum ≤ pls l
  | [], _ => Nat.le_refl _
  | p :: l, h => by
    have ih := flat2_len (fun q hq => h q (List.mem_cons_of_mem _ hq))
    rw [flat, List.map_append, List.sum_append, pls_cons]
    by_cases e : p.f0 = 2
    · rw [if_pos e]
      obtain ⟨k, t, ps⟩ := p
      obtain rfl : k = 2 := e
      have h1 := txt2_len t ps
      have h2 : pl ⟨2, t, ps⟩ = (txt ⟨2, t, ps⟩).length + 2 := rfl
      show (List.map _ ps).sum + _ ≤ _
      omega
    · rw [if_neg e]
      have h1 := wrp_len 2 p.f0 (txt p)
      have h2 : pl p = (txt p).length + if p.f0 = 2 ∨ p.f0 = 3 then 2 else 0 := rfl
      rw [List.map_cons, List.map_nil, List.sum_cons, List.sum_nil]
      omega
theorem tog2_len {l : List S} (h : ∀ p ∈ l, Ok p) : (txt (tog 2 l)).length ≤ pls l := by
  have h0 := flat2_len h
  unfold tog
  split
  · rename_i e; obtain ⟨x, rfl⟩ := len1 e
    rw [rdT_zero, pls_cons]
    have h2 : pl x = (txt x).length + if x.f0 = 2 ∨ x.f0 = 3 then 2 else 0 := rfl
    omega
  · unfold one
    split
    · rename_i e; obtain ⟨x, e⟩ := len1 e
      rw [e] at h0 ⊢
      rw [rdT_zero]
      rw [List.map_cons, List.map_nil, List.sum_cons, List.sum_nil] at h0
      have := len_le_wrp 2 x.f0 (txt x)
      omega
    · rw [txt2_len]; exact h0
def alen (l : List S) : Nat := (l.map fun p => (txt p).length + 1).sum
theorem alen_cons (p : S) (l : List S) : alen (p :: l) = (txt p).length + 1 + alen l := rfl
theorem alen_app (a b : List S) : alen (a ++ b) = alen a + alen b := by unfold alen; rw [List.map_append, List.sum_append]
theorem flat3_len : ∀ {l : List S}, (∀ p ∈ l, Ok p) → alen (flat 3 l) ≤ alen l
  | [], _ => Nat.le_refl _
  | p :: l, h => by
    have ih := flat3_len (fun q hq => h q (List.mem_cons_of_mem _ hq))
    rw [flat, alen_app, alen_cons]
    by_cases e : p.f0 = 3
    · rw [if_pos e]
      have hl := (h p List.mem_cons_self).loc
      obtain ⟨k, t, ps⟩ := p
      obtain rfl : k = 3 := e
      have hne : ps ≠ [] := by
        rintro rfl
        rcases hl with h3 | h3 | h3 | h3
        · exact absurd h3.1 (by simp)
        · exact absurd h3.1 (by simp)
        · have := h3.2.2.1; simp at this
        · obtain ⟨q, hq⟩ := h3.2.2.2; cases hq
      have h1 := txt3_len t ps hne
      show alen ps + _ ≤ _
      unfold alen at ih ⊢
      omega
    · rw [if_neg e, alen_cons]
      show _ + 0 + _ ≤ _
      omega
theorem tog3_len {l : List S} (h : ∀ p ∈ l, Ok p) (hne : l ≠ []) : (txt (tog 3 l)).length + 1 ≤ alen l := by
  have h0 := flat3_len h
  have hok := tog_ok (kd := 3) h (.inr ⟨rfl, hne⟩)
  unfold tog at hok ⊢
  split
  · rename_i e; obtain ⟨x, rfl⟩ := len1 e
    rw [rdT_zero, alen_cons]; omega
  · rename_i e1
    rw [if_neg e1] at hok
    unfold one at hok ⊢
    split
    · rename_i e; obtain ⟨x, e⟩ := len1 e
      rw [e] at h0 ⊢
      rw [rdT_zero]
      rw [alen_cons] at h0
      omega
    · rename_i e2
      rw [if_neg e2] at hok
      have hne2 : flat 3 l ≠ [] := by
        intro h3
        rw [h3] at hok
        rcases hok.loc with h3 | h3 | h3 | h3
        · exact absurd h3.1 (by simp)
        · exact absurd h3.1 (by simp)
        · have := h3.2.2.1; simp at this
        · obtain ⟨q, hq⟩ := h3.2.2.2; cases hq
      rw [txt3_len _ _ hne2]; exact h0
theorem sgn_sign {c : UInt8} {j : Int} (h : expr_Parse.sign c = some j) : 0 ≤ j ∧ j ≤ 2 := by
  unfold expr_Parse.sign at h
  repeat' split at h
  all_goals cases h
  all_goals omega
theorem sgn_len (kd : Int) : (sgn kd).length = 1 := by unfold sgn; repeat' split
                                                       all_goals rfl
theorem star_ok {x : S} (h : Ok x) {j : Int} (hj : 0 ≤ j ∧ j ≤ 2) : Ok ⟨4 + j, 0, [x]⟩ ∧ pl ⟨4 + j, 0, [x]⟩ ≤ pl x + 1 := by
  refine ⟨Ok.mk (.inr (.inr (.inr ⟨?_, ?_, rfl, x, rfl⟩))) (fun p hp => ?_), ?_⟩
  · show 4 ≤ 4 + j; omega
  · show 4 + j ≤ 6; omega
  · obtain rfl : p = x := by simpa using hp
    exact h
  · have h1 : pl ⟨4 + j, 0, [x]⟩ = (txt ⟨4 + j, 0, [x]⟩).length + if 4 + j = 2 ∨ 4 + j = 3 then 2 else 0 := rfl
    have h2 : pl x = (txt x).length + if x.f0 = 2 ∨ x.f0 = 3 then 2 else 0 := rfl
    have h3 := wrp_len (4 + j) x.f0 (txt x)
    have h4 : txt ⟨4 + j, 0, [x]⟩ = wrp (4 + j) x.f0 (txt x) ++ sgn (4 + j) := by
      rw [txt_eq]
      unfold body
      rw [if_neg (by show ¬ 4 + j = 1; omega), if_neg (by show ¬ 4 + j = 2; omega), if_neg (by show ¬ 4 + j = 3; omega)]
      rfl
    have h5 := sgn_len (4 + j)
    rw [h1, h4, if_neg (by omega), List.length_append]
    omega
end Go.Proofs.Ytjmhihadgpdiaaa.Expr
end
section
namespace Go.Proofs.Ytjmhihadgpdiaaa.Expr
open Go.RowKit Go.Proofs.Ytjmhihadgpdiaaa.X Go.Proofs.YtjmhihadgpdiaaaW.PrintWords Go.Proofs.YtjmhihadgpdiaaaW.PrintLast Go.Proofs.Ytjmhihadgpdiaaa.Base
set_option linter.unusedVariables false
set_option linter.unusedSimpArgs false
def BQ (t : T) (x : S) : Prop := BP t x ∧ Ok x ∧ pl x ≤ t.length
def SQ (t : T) (xs : List S) : Prop := SP t xs ∧ (∀ p ∈ xs, Ok p) ∧ pls xs ≤ t.length
def QQ (t : T) (y : S) : Prop := QP t y ∧ Ok y ∧ (txt y).length ≤ t.length
def AQ (t : T) (y : S) : Prop := AP t y ∧ Ok y ∧ (txt y).length ≤ t.length
theorem BQ.letter (c : UInt8) (h : 97 ≤ c.toNat ∧ c.toNat ≤ 104) : BQ [c] ⟨1, (c.toNat : Int) - 97, []⟩ :=
  ⟨BP.letter c h, Ok.mk (.inl ⟨rfl, rfl, by show 0 ≤ (c.toNat : Int) - 97; omega, by show (c.toNat : Int) - 97 < 8; omega⟩) (fun p hp => by cases hp), by unfold pl; rw [txt_eq]; simp [body]⟩
theorem BQ.sign {t : T} {x : S} {c : UInt8} {j : Int} (h : BQ t x) (hc : expr_Parse.sign c = some j) : BQ (t ++ [c]) ⟨4 + j, 0, [x]⟩ := by
  obtain ⟨h1, h2⟩ := star_ok h.2.1 (sgn_sign hc)
  have := h.2.2
  exact ⟨h.1.sign hc, h1, by rw [List.length_append, List.length_singleton]; omega⟩
theorem BQ.paren {t : T} {x : S} (h : AQ t x) : BQ (40 :: t ++ [41]) x := by
  have := h.2.2
  refine ⟨BP.paren h.1, h.2.1, ?_⟩
  rw [List.cons_append, List.length_cons, List.length_append, List.length_singleton]
  unfold pl
  split <;> omega
theorem BQ.sq {t : T} {x : S} (h : BQ t x) : SQ t [x] := by
  refine ⟨h.1.sp, fun p hp => ?_, h.2.2⟩
  obtain rfl : p = x := List.mem_singleton.1 hp
  exact h.2.1
theorem SQ.nil : SQ [] [] := ⟨SP.nil, fun p hp => (by cases hp), Nat.le_refl _⟩
theorem SQ.app {a b : T} {xs ys : List S} (h : SQ a xs) (g : SQ b ys) : SQ (a ++ b) (xs ++ ys) := by
  refine ⟨h.1.app g.1, fun p hp => (List.mem_append.1 hp).elim (h.2.1 p) (g.2.1 p), ?_⟩
  have := h.2.2
  have := g.2.2
  rw [pls_app, List.length_append]; omega
theorem SQ.qq {t : T} {xs : List S} (h : SQ t xs) : QQ t (tog 2 xs) := ⟨h.1.qp, tog_ok h.2.1 (.inl rfl), Nat.le_trans (tog2_len h.2.1) h.2.2⟩
inductive QQs : List T → List S → Prop
  | nil : QQs [] []
  | cons {t y ts ys} : QQ t y → QQs ts ys → QQs (t :: ts) (y :: ys)
theorem QQs.qs {ts : List T} {ys : List S} (h : QQs ts ys) : QS ts ys ∧ (∀ p ∈ ys, Ok p) ∧ alen ys ≤ (tail ts).length := by
  induction h with
  | nil => exact ⟨QS.nil, fun p hp => (by cases hp), Nat.le_refl _⟩
  | cons h _ ih =>
    refine ⟨QS.cons h.1 ih.1, fun p hp => ?_, ?_⟩
    · rcases List.mem_cons.1 hp with rfl | hp
      · exact h.2.1
      · exact ih.2.1 p hp
    · have := ih.2.2
      have := h.2.2
      rw [alen_cons, tail, List.length_append, List.length_cons]; omega
theorem AQ.list {t : T} {y : S} {ts : List T} {ys : List S} (h : QQ t y) (hs : QQs ts ys) : AQ (t ++ tail ts) (tog 3 (y :: ys)) := by
  obtain ⟨h1, h2, h3⟩ := hs.qs
  have h4 : ∀ p ∈ y :: ys, Ok p := fun p hp => by
    rcases List.mem_cons.1 hp with rfl | hp
    · exact h.2.1
    · exact h2 p hp
  refine ⟨AP.list h.1 h1, tog_ok h4 (.inr ⟨rfl, by simp⟩), ?_⟩
  have h5 := tog3_len h4 (by simp)
  have h6 := h.2.2
  rw [alen_cons] at h5
  rw [List.length_append]; omega
theorem QQ.aq {t : T} {y : S} (h : QQ t y) : AQ t y := by
  have := AQ.list h QQs.nil
  rw [tail, List.append_nil] at this
  exact this
theorem AQ.two {t u : T} {y z : S} (h : QQ t y) (g : QQ u z) : AQ (t ++ 124 :: u) (tog 3 [y, z]) := by
  have := AQ.list h (QQs.cons g QQs.nil)
  rw [tail, tail, List.append_nil] at this
  exact this
theorem SP.list (f : S → T) : ∀ {l : List S}, (∀ p ∈ l, BP (f p) p) → SP (l.map f).flatten l
  | [], _ => SP.nil
  | p :: l, h => by
    rw [List.map_cons, List.flatten_cons]
    exact (h p List.mem_cons_self).sp.app (SP.list f (fun q hq => h q (List.mem_cons_of_mem _ hq)))
theorem QS.list (f : S → T) : ∀ {l : List S}, (∀ p ∈ l, QP (f p) p) → QS (l.map f) l
  | [], _ => QS.nil
  | p :: l, h => QS.cons (h p List.mem_cons_self) (QS.list f (fun q hq => h q (List.mem_cons_of_mem _ hq)))
theorem Ev.shift {α : Type} {g : Nat → Option α} {r : α} (n : Nat) (h : Ev (fun k => g (k + n)) r) : Ev g r := by
  obtain ⟨K, hK⟩ := h
  refine ⟨K + n, fun k hk => ?_⟩
  have := hK (k - n) (by omega)
  rw [show k = k - n + n by omega]; exact this
theorem fault_loc {x : S} (h : Loc x) (k : Nat) : expr_fault.f (k + 8) x.f0 x.f1 x.f2 = expr_fault.l0 k x.f2 (x.f2.length : Int) 0 := by
  obtain ⟨kd, t, ps⟩ := x
  rcases h with ⟨h1, h2, h3, h4⟩ | ⟨h1, h2, h3, h4⟩ | ⟨h1, h2, h3, h4⟩ | ⟨h1, h2, h3, p, h4⟩
  · replace h1 : kd = 1 := h1
    replace h2 : ps = [] := h2
    replace h3 : 0 ≤ t := h3
    replace h4 : t < 8 := h4
    subst h1 h2
    have a1 : ¬ t < 0 := by omega
    have a2 : ¬ 8 ≤ t := by omega
    simp [expr_fault.f, expr_fault.j0, expr_fault.j1, expr_fault.j2, expr_fault.j3, expr_fault.j4, expr_fault.j5, expr_fault.j6, a1, a2]
  · replace h1 : kd = 2 := h1
    replace h2 : t = 0 := h2
    replace h3 : ps.length ≠ 1 := h3
    replace h4 : ∀ p ∈ ps, p.f0 ≠ 2 := h4
    subst h1 h2
    have a1 : ((ps.length : Int) == 1) = false := by simpa using fun h => h3 (by omega)
    have a2 : (ps.any fun x => x.f0 == 2) = false := by simpa using h4
    simp [expr_fault.f, expr_fault.j0, expr_fault.j1, expr_fault.j2, expr_fault.j3, expr_fault.j4, expr_fault.j5, expr_fault.j6, cf_exprFault.f, a1, a2]
  · replace h1 : kd = 3 := h1
    replace h2 : t = 0 := h2
    replace h3 : 2 ≤ ps.length := h3
    replace h4 : ∀ p ∈ ps, p.f0 ≠ 3 := h4
    subst h1 h2
    have a1 : ((ps.length : Int) == 1) = false := by simpa using fun h => (by omega : False)
    have a0 : ¬ (ps.length : Int) = 0 := by omega
    have a3 : ps ≠ [] := by rintro rfl; simp at h3
    have a2 : (ps.any fun x => x.f0 == 3) = false := by simpa using h4
    simp [expr_fault.f, expr_fault.j0, expr_fault.j1, expr_fault.j2, expr_fault.j3, expr_fault.j4, expr_fault.j5, expr_fault.j6, cf_exprFault.f, a1, a2, a3]
  · replace h1 : 4 ≤ kd := h1
    replace h2 : kd ≤ 6 := h2
    replace h3 : t = 0 := h3
    replace h4 : ps = [p] := h4
    subst h3 h4
    obtain rfl | rfl | rfl : kd = 4 ∨ kd = 5 ∨ kd = 6 := by omega
    all_goals simp [expr_fault.f, expr_fault.j0, expr_fault.j1, expr_fault.j2, expr_fault.j3, expr_fault.j4, expr_fault.j5, expr_fault.j6, cf_exprFault.f]
theorem fault_l0 (ps : List S) (hl : ps.length < 1000000) (hp : ∀ p ∈ ps, Ev (fun k => expr_fault.f k p.f0 p.f1 p.f2) 0) : ∀ (d i : Nat), ps.length - i = d → i ≤ ps.length → Ev (fun k => expr_fault.l0 k ps (ps.length : Int) (i : Int)) 0 := by
  intro d
  induction d with
  | zero =>
    intro i hd hi
    exact Ev.one (f := fun k => _) (fun k => by rw [expr_fault.l0]) (Ev.ite_neg (by omega) (Ev.some _))
  | succ d ih =>
    intro i hd hi
    have hlt : i < ps.length := by omega
    have hw : wrap64 ((i : Int) + 1) = ((i + 1 : Nat) : Int) := wrap_succ hlt (by omega)
    refine Ev.one (f := fun k => _) (fun k => by rw [expr_fault.l0, hw, rdT_at ps i hlt]) ?_
    exact Ev.ite_pos (by omega) (Ev.ite_pos (by omega) (Ev.ite_pos (by omega) (Ev.bnd (hp ps[i] (List.getElem_mem hlt)) (Ev.ite_pos rfl (ih (i + 1) (by omega) (by omega))))))
theorem fault_ev {x : S} (h : Ok x) : tl x.f2 < 1000000 → Ev (fun k => expr_fault.f k x.f0 x.f1 x.f2) 0 := by
  induction h with
  | @mk x hl hp ih =>
  intro ht
  have h1 := tl_len' x.f2
  refine Ev.shift 8 (Ev.eqv (fun k => fault_loc hl k) ?_)
  exact fault_l0 x.f2 (by omega) (fun p hpm => ih p hpm (by have := tl_mem' hpm; omega)) x.f2.length 0 (by omega) (by omega)
where
  tl_len' : ∀ l : List S, l.length ≤ tl l := tl_len
  tl_mem' {p : S} : ∀ {l : List S}, p ∈ l → 1 + tl p.f2 ≤ tl l
  | q :: l, h => by
    rw [tl_cons]
    rcases List.mem_cons.1 h with rfl | h
    · omega
    · have := tl_mem' h; omega
end Go.Proofs.Ytjmhihadgpdiaaa.Expr
end
section
namespace Go.Proofs.Ytjmhihadgpdiaaa.Expr
open Go.RowKit Go.Proofs.Ytjmhihadgpdiaaa.X Go.Proofs.YtjmhihadgpdiaaaW.PrintWords Go.Proofs.YtjmhihadgpdiaaaW.PrintLast Go.Proofs.Ytjmhihadgpdiaaa.Base
set_option linter.unusedVariables false
set_option linter.unusedSimpArgs false
abbrev B (l : T) : ByteArray := expr_Parse.B l
theorem B_len (l : T) : (B l).size = l.length := rfl
theorem B_data (l : T) : (B l).data.toList = l := rfl
theorem B_app (a b : T) : B a ++ B b = B (a ++ b) := by
  apply ByteArray.ext
  rw [ByteArray.data_append]
  simp [B, expr_Parse.B]
theorem part_len {x : S} (h : Ok x) {p : S} (hp : p ∈ x.f2) : (wrp x.f0 p.f0 (txt p)).length ≤ (txt x).length := by
  have mem : ∀ (f : S → T) (l : List S), p ∈ l → (f p).length ≤ (l.map f).flatten.length := by
    intro f l
    induction l with
    | nil => intro h; cases h
    | cons q l ih =>
      intro h
      rw [List.map_cons, List.flatten_cons, List.length_append]
      rcases List.mem_cons.1 h with rfl | h
      · omega
      · have := ih h; omega
  have memt : ∀ (f : S → T) (l : List S), p ∈ l → (f p).length ≤ (tail (l.map f)).length := by
    intro f l
    induction l with
    | nil => intro h; cases h
    | cons q l ih =>
      intro h
      rw [List.map_cons, tail, List.length_append, List.length_cons]
      rcases List.mem_cons.1 h with rfl | h
      · omega
      · have := ih h; omega
  obtain ⟨kd, t, ps⟩ := x
  rcases h.loc with ⟨h1, h2, h3, h4⟩ | ⟨h1, h2, h3, h4⟩ | ⟨h1, h2, h3, h4⟩ | ⟨h1, h2, h3, q, h4⟩
  · replace h2 : ps = [] := h2
    subst h2; cases hp
  · replace h1 : kd = 2 := h1
    subst h1
    rw [txt2]
    exact mem (fun p => wrp 2 p.f0 (txt p)) ps hp
  · replace h1 : kd = 3 := h1
    subst h1
    rw [txt3]
    show (wrp 3 p.f0 (txt p)).length ≤ _
    match ps, hp with
    | q :: l, hp =>
      rw [List.map_cons, jn, List.length_append]
      rcases List.mem_cons.1 hp with rfl | hp
      · omega
      · have : (wrp 3 p.f0 (txt p)).length ≤ _ := memt (fun p => wrp 3 p.f0 (txt p)) l hp
        omega
  · replace h1 : 4 ≤ kd := h1
    replace h4 : ps = [q] := h4
    subst h4
    obtain rfl : p = q := List.mem_singleton.1 hp
    rw [txt_eq ⟨kd, t, [p]⟩]
    unfold body
    rw [if_neg (by show ¬ kd = 1; omega), if_neg (by show ¬ kd = 2; omega), if_neg (by show ¬ kd = 3; omega)]
    show _ ≤ (wrp kd p.f0 (txt p) ++ sgn kd).length
    rw [List.length_append]; show (wrp kd p.f0 (txt p)).length ≤ _; omega
theorem join0 (ls : List T) : Lib.join ls [] = ls.flatten := by
  unfold Lib.join
  induction ls with
  | nil => rfl
  | cons t ls ih =>
    cases ls with
    | nil => simp [List.intercalate]
    | cons u ls => simp [List.intercalate] at ih ⊢; exact ih
theorem join1 (ls : List T) : Lib.join ls [124] = jn ls := by
  unfold Lib.join
  cases ls with
  | nil => rfl
  | cons t ls =>
    rw [jn]
    induction ls generalizing t with
    | nil => simp [List.intercalate, tail]
    | cons u ls ih =>
      have := ih u
      rw [tail]
      simp [List.intercalate] at this ⊢
      rw [this]
theorem join_f (ls : List T) (sep : T) (h1 : ls.length ≤ 1000000000) (h2 : (Lib.join ls sep).length ≤ 1000000000) : strings_Join.f (ls.map B) (B sep) = some (B (Lib.join ls sep)) := by
  have e : (ls.map B).map (·.data.toList) = ls := by
    rw [List.map_map]
    have : ((fun (x : ByteArray) => x.data.toList) ∘ B) = id := by funext l; rfl
    rw [this, List.map_id]
  unfold strings_Join.f
  rw [e, B_data, List.length_map, if_pos ⟨h1, h2⟩]
  rfl
/-- what stands when all parts' texts are there -/
theorem text_end {x : S} (h : Ok x) (hl : (txt x).length < 1000000) (ht : x.f2.length < 1000000) : Ev (fun k => expr_text.l0 k ((x.f2.map fun p => wrp x.f0 p.f0 (txt p)).map B) x.f2 (x.f2.length : Int) (x.f2.length : Int) x.f0 x.f1 x.f2) (B (txt x)) := by
  obtain ⟨kd, t, ps⟩ := x
  refine Ev.one (f := fun k => _) (fun k => by rw [expr_text.l0]) ?_
  refine Ev.ite_neg (by omega) ?_
  rcases h.loc with ⟨h1, h2, h3, h4⟩ | ⟨h1, h2, h3, h4⟩ | ⟨h1, h2, h3, h4⟩ | ⟨h1, h2, h3, p, h4⟩
  · replace h1 : kd = 1 := h1
    replace h2 : ps = [] := h2
    replace h3 : 0 ≤ t := h3
    replace h4 : t < 8 := h4
    subst h1 h2
    have hw : wrap64 (t + 1) = t + 1 := wrap_id (by omega) (by omega)
    refine Ev.ite_pos rfl (Ev.ite_pos h3 ?_)
    show Ev (fun k => if t ≤ wrap64 (t + 1) then (if wrap64 (t + 1) ≤ 8 then some (ByteArray.extract _ t.toNat (wrap64 (t + 1)).toNat) else none) else none) _
    rw [hw]
    refine Ev.ite_pos (by omega) (Ev.ite_pos (by omega) ?_)
    have e : (⟨#[97, 98, 99, 100, 101, 102, 103, 104]⟩ : ByteArray).extract t.toNat (t + 1).toNat = B (txt ⟨1, t, []⟩) := by
      rw [txt_eq]
      obtain rfl | rfl | rfl | rfl | rfl | rfl | rfl | rfl : t = 0 ∨ t = 1 ∨ t = 2 ∨ t = 3 ∨ t = 4 ∨ t = 5 ∨ t = 6 ∨ t = 7 := by omega
      all_goals decide +kernel
    rw [e]; exact Ev.some _
  · replace h1 : kd = 2 := h1
    subst h1
    have h5 := join_f (ps.map fun p => wrp 2 p.f0 (txt p)) [] (by rw [List.length_map]; exact Nat.le_trans (Nat.le_of_lt ht) (by omega)) (by rw [join0, ← txt2 t]; omega)
    rw [join0, ← txt2 t] at h5
    exact Ev.ite_neg (by simp) (Ev.ite_pos rfl (Ev.bnd0 h5 (Ev.some _)))
  · replace h1 : kd = 3 := h1
    subst h1
    have h5 := join_f (ps.map fun p => wrp 3 p.f0 (txt p)) [124] (by rw [List.length_map]; exact Nat.le_trans (Nat.le_of_lt ht) (by omega)) (by rw [join1, ← txt3 t]; omega)
    rw [join1, ← txt3 t] at h5
    exact Ev.ite_neg (by simp) (Ev.ite_neg (by simp) (Ev.ite_pos rfl (Ev.bnd0 h5 (Ev.some _))))
  · replace h1 : 4 ≤ kd := h1
    replace h2 : kd ≤ 6 := h2
    replace h4 : ps = [p] := h4
    subst h4
    refine Ev.ite_neg (by show ¬ kd = 1; omega) (Ev.ite_neg (by show ¬ kd = 2; omega) (Ev.ite_neg (by show ¬ kd = 3; omega) (Ev.ite_pos (by simp) ?_)))
    have e : txt ⟨kd, t, [p]⟩ = wrp kd p.f0 (txt p) ++ sgn kd := by
      rw [txt_eq]
      unfold body
      rw [if_neg (by show ¬ kd = 1; omega), if_neg (by show ¬ kd = 2; omega), if_neg (by show ¬ kd = 3; omega)]
      rfl
    have e2 : (wrp kd p.f0 (txt p)).length + 1 < 1000000 := by rw [e, List.length_append, sgn_len] at hl; exact hl
    rw [e, ← B_app]
    have hr : rdOf ByteArray.empty ((([p] : List S).map fun q => wrp kd q.f0 (txt q)).map B) 0 = B (wrp kd p.f0 (txt p)) := rfl
    show Ev (fun k => if 0 ≤ wrap64 (kd - 4) then (if wrap64 (kd - 4) ≤ wrap64 (wrap64 (kd - 4) + 1) then (if wrap64 (wrap64 (kd - 4) + 1) ≤ 3 then (if (rdOf ByteArray.empty ((([p] : List S).map fun q => wrp kd q.f0 (txt q)).map B) 0).size + (ByteArray.extract _ (wrap64 (kd - 4)).toNat (wrap64 (wrap64 (kd - 4) + 1)).toNat).size ≤ 9223372036854775807 then some (rdOf ByteArray.empty ((([p] : List S).map fun q => wrp kd q.f0 (txt q)).map B) 0 ++ ByteArray.extract _ (wrap64 (kd - 4)).toNat (wrap64 (wrap64 (kd - 4) + 1)).toNat) else none) else none) else none) else none) _
    rw [hr, wrap_id (i := kd - 4) (by omega) (by omega), wrap_id (i := kd - 4 + 1) (by omega) (by omega)]
    have e3 : (⟨#[42, 43, 63]⟩ : ByteArray).extract (kd - 4).toNat (kd - 4 + 1).toNat = B (sgn kd) := by
      obtain rfl | rfl | rfl : kd = 4 ∨ kd = 5 ∨ kd = 6 := by omega
      all_goals decide +kernel
    rw [e3]
    refine Ev.ite_pos (by omega) (Ev.ite_pos (by omega) (Ev.ite_pos (by omega) (Ev.ite_pos ?_ (Ev.some _))))
    rw [B_len, B_len, sgn_len]; omega
theorem text_ev {x : S} (h : Ok x) : tl x.f2 < 1000000 → (txt x).length < 1000000 → Ev (fun k => expr_text.f k x.f0 x.f1 x.f2) (B (txt x)) := by
  have h0 := h
  induction h with
  | @mk x hl hp ih =>
  intro ht hlen
  have h1 := tl_len x.f2
  have hend := text_end h0 hlen (by omega)
  have hparts : ∀ p ∈ x.f2, Ev (fun k => expr_text.f k p.f0 p.f1 p.f2) (B (txt p)) ∧ (wrp x.f0 p.f0 (txt p)).length < 1000000 ∧ (txt p).length ≤ (wrp x.f0 p.f0 (txt p)).length := by
    intro p hpm
    have h2 := part_len h0 hpm
    have h3 := len_le_wrp x.f0 p.f0 (txt p)
    have h4 := mem_tl hpm
    exact ⟨ih p hpm (hp p hpm) (by omega) (by omega), by omega, h3⟩
  clear ih
  have loop : ∀ (d i : Nat), x.f2.length - i = d → i ≤ x.f2.length → Ev (fun k => expr_text.l0 k (((x.f2.map fun p => wrp x.f0 p.f0 (txt p)).map B).take i) x.f2 (x.f2.length : Int) (i : Int) x.f0 x.f1 x.f2) (B (txt x)) := by
    intro d
    induction d with
    | zero =>
      intro i hd hi
      obtain rfl : i = x.f2.length := by omega
      rw [List.take_of_length_le (by simp)]
      exact hend
    | succ d ihd =>
      intro i hd hi
      have hlt : i < x.f2.length := by omega
      have hw : wrap64 ((i : Int) + 1) = ((i + 1 : Nat) : Int) := wrap_succ hlt (by omega)
      obtain ⟨hev, hb1, hb2⟩ := hparts x.f2[i] (List.getElem_mem hlt)
      have hnext := ihd (i + 1) (by omega) (by omega)
      rw [List.take_succ_eq_append_getElem (by simpa using hlt)] at hnext
      have e : ((x.f2.map fun p => wrp x.f0 p.f0 (txt p)).map B)[i]'(by simpa using hlt) = B (wrp x.f0 x.f2[i].f0 (txt x.f2[i])) := by simp
      rw [e] at hnext
      generalize hacc : ((x.f2.map fun p => wrp x.f0 p.f0 (txt p)).map B).take i = acc at hnext ⊢
      have hal : acc.length < 1000000 := by rw [← hacc]; simp; omega
      refine Ev.one (f := fun k => _) (fun k => by rw [expr_text.l0, hw, rdT_at x.f2 i hlt]) ?_
      refine Ev.ite_pos (by omega) (Ev.ite_pos (by omega) (Ev.ite_pos (by omega) (Ev.bnd hev ?_)))
      generalize hp' : x.f2[i] = p at hnext hb1 hb2 ⊢
      have plain : ¬ (p.f0 = 3 ∧ x.f0 ≠ 3 ∨ p.f0 = 2 ∧ 4 ≤ x.f0) → Ev (fun k => if acc.length < 8796093022208 then expr_text.l0 k (acc ++ [B (txt p)]) x.f2 (x.f2.length : Int) ((i + 1 : Nat) : Int) x.f0 x.f1 x.f2 else none) (B (txt x)) := by
        intro hn
        refine Ev.ite_pos (by omega) ?_
        unfold wrp at hnext
        rw [if_neg hn] at hnext
        exact hnext
      have paren : (p.f0 = 3 ∧ x.f0 ≠ 3 ∨ p.f0 = 2 ∧ 4 ≤ x.f0) → Ev (fun k => if 1 + (B (txt p)).size ≤ 9223372036854775807 then (if ((⟨#[40]⟩ : ByteArray) ++ B (txt p)).size + 1 ≤ 9223372036854775807 then (if acc.length < 8796093022208 then expr_text.l0 k (acc ++ [((⟨#[40]⟩ : ByteArray) ++ B (txt p)) ++ (⟨#[41]⟩ : ByteArray)]) x.f2 (x.f2.length : Int) ((i + 1 : Nat) : Int) x.f0 x.f1 x.f2 else none) else none) else none) (B (txt x)) := by
        intro hn
        have e1 : (⟨#[40]⟩ : ByteArray) ++ B (txt p) = B (40 :: txt p) := B_app [40] (txt p)
        have e2 : B (40 :: txt p) ++ (⟨#[41]⟩ : ByteArray) = B (40 :: txt p ++ [41]) := B_app (40 :: txt p) [41]
        rw [e1, e2]
        refine Ev.ite_pos (by rw [B_len]; omega) (Ev.ite_pos (by rw [B_len, List.length_cons]; omega) (Ev.ite_pos (by omega) ?_))
        unfold wrp at hnext
        rw [if_pos hn] at hnext
        exact hnext
      by_cases c1 : p.f0 = 3
      · refine Ev.ite_pos c1 ?_
        by_cases c2 : x.f0 = 3
        · refine Ev.ite_pos c2 (Ev.ite_neg (by omega) ?_)
          exact plain (by omega)
        · exact Ev.ite_neg c2 (paren (.inl ⟨c1, c2⟩))
      · refine Ev.ite_neg c1 ?_
        by_cases c3 : p.f0 = 2
        · refine Ev.ite_pos c3 ?_
          by_cases c4 : x.f0 ≥ 4
          · exact Ev.ite_pos c4 (paren (.inr ⟨c3, c4⟩))
          · exact Ev.ite_neg c4 (plain (by omega))
        · exact Ev.ite_neg c3 (plain (by omega))
  refine Ev.one (f := fun k => _) (fun k => by rw [expr_text.f]) ?_
  exact loop x.f2.length 0 (by omega) (by omega)
where
  mem_tl {p : S} : ∀ {l : List S}, p ∈ l → 1 + tl p.f2 ≤ tl l
  | q :: l, h => by
    rw [tl_cons]
    rcases List.mem_cons.1 h with rfl | h
    · omega
    · have := mem_tl h; omega
theorem check_ev {x : S} (h : Ok x) (ht : tl x.f2 < 1000000) (hl : (txt x).length ≤ 40) : Ev (fun k => expr_Check.f k x.f0 x.f1 x.f2) 0 := by
  unfold expr_Check.f
  refine Ev.bnd (fault_ev h ht) (Ev.ite_pos rfl (Ev.bnd (text_ev h ht (by omega)) (Ev.ite_neg ?_ (Ev.some _))))
  rw [B_len]; omega
/-- a text is parsed -/
theorem parse_ev {t : T} {x : S} (h : AP t x) (ho : Ok x) (hx : (txt x).length ≤ 40) (hl : t.length ≤ 40) : Ev (fun k => expr_Parse.f k (B t)) (x.f0, x.f1, x.f2, 0) := by
  unfold expr_Parse.f
  have h1 := h.1
  have h2 := h.all (by omega)
  refine Ev.ite_pos (by rw [B_len]; exact hl) ?_
  rw [B_data]
  exact Ev.bnd h2 (Ev.bnd (check_ev ho (show tl x.f2 < 1000000 by omega) hx) (Ev.ite_pos rfl (Ev.some _)))
end Go.Proofs.Ytjmhihadgpdiaaa.Expr
end
section
namespace Go.Proofs.Ytjmhihadgpdiaaa.Expr
open Go.RowKit Go.Proofs.Ytjmhihadgpdiaaa.X Go.Proofs.YtjmhihadgpdiaaaW.PrintWords Go.Proofs.YtjmhihadgpdiaaaW.PrintLast Go.Proofs.Ytjmhihadgpdiaaa.Base
set_option linter.unusedVariables false
set_option linter.unusedSimpArgs false
theorem pick_ev (xa : Int) (n : Int) (h0 : 0 < n) (hn : n ≤ 4294967296) : bobbinetkeep_Picked.f xa n = some (xa % n) := by
  unfold bobbinetkeep_Picked.f
  rw [if_neg (by omega), ← picked_eq xa n h0 hn]
  split <;> rfl
def renl (k : Int) : List S → List S
  | [] => []
  | p :: l => ⟨p.f0, if p.f0 = 1 then p.f1 + k else p.f1, renl k p.f2⟩ :: renl k l
termination_by l => SizeOf.sizeOf l
decreasing_by all_goals (cases p; simp; omega)
def ren (k : Int) (p : S) : S := ⟨p.f0, if p.f0 = 1 then p.f1 + k else p.f1, renl k p.f2⟩
theorem renl_eq (k : Int) : ∀ l : List S, renl k l = l.map (ren k)
  | [] => by rw [renl]; rfl
  | p :: l => by rw [renl, renl_eq k l]; rfl
theorem ren_eq (k : Int) (p : S) : ren k p = ⟨p.f0, if p.f0 = 1 then p.f1 + k else p.f1, p.f2.map (ren k)⟩ := by rw [ren, renl_eq]
theorem ren_f0 (k : Int) (p : S) : (ren k p).f0 = p.f0 := rfl
theorem rdT_map (f : S → S) (l : List S) (h : l.length = 1) : rd_T28 (l.map f) 0 = f (rd_T28 l 0) := by
  obtain ⟨x, rfl⟩ := len1 h; rfl
theorem flat_ren (k kd : Int) (l : List S) : flat kd (l.map (ren k)) = (flat kd l).map (ren k) := by
  induction l with
  | nil => rfl
  | cons p l ih =>
    rw [List.map_cons, flat, flat, List.map_append, ih, ren_f0]
    split
    · rw [ren_eq]
    · rfl
theorem tog_ren (k kd : Int) (h1 : kd ≠ 1) (l : List S) : tog kd (l.map (ren k)) = ren k (tog kd l) := by
  unfold tog
  rw [List.length_map]
  split
  · rename_i h; exact rdT_map _ _ h
  · unfold one
    rw [flat_ren, List.length_map]
    split
    · rename_i h; exact rdT_map _ _ h
    · rw [ren_eq, if_neg h1]
/-- a letter's other name -/
def rn (k : Nat) (c : UInt8) : UInt8 := if 97 ≤ c.toNat ∧ c.toNat ≤ 99 then c + k.toUInt8 else c
theorem rn_small (k : Nat) {c : UInt8} (h : c.toNat < 97 ∨ 99 < c.toNat) : rn k c = c := by unfold rn; rw [if_neg (by omega)]
theorem rn_nat {k : Nat} (hk : k ≤ 5) {c : UInt8} (h : 97 ≤ c.toNat ∧ c.toNat ≤ 99) : (rn k c).toNat = c.toNat + k := by
  unfold rn
  rw [if_pos h, UInt8.toNat_add, Nat.toUInt8, UInt8.toNat_ofNat']
  omega
/-- a text and its items, and those with other letters -/
def RQ (k : Nat) (s : T) (xs : List S) : Prop := SQ s xs ∧ SQ (s.map (rn k)) (xs.map (ren k))
def RB (k : Nat) (s : T) (x : S) : Prop := BQ s x ∧ BQ (s.map (rn k)) (ren k x)
theorem RQ.app {k : Nat} {a b : T} {xs ys : List S} (h : RQ k a xs) (g : RQ k b ys) : RQ k (a ++ b) (xs ++ ys) := by
  refine ⟨h.1.app g.1, ?_⟩
  rw [List.map_append, List.map_append]
  exact h.2.app g.2
theorem RB.rq {k : Nat} {s : T} {x : S} (h : RB k s x) : RQ k s [x] := ⟨h.1.sq, h.2.sq⟩
theorem RB.letter {k : Nat} (hk : k ≤ 5) (c : UInt8) (h : 97 ≤ c.toNat ∧ c.toNat ≤ 99) : RB k [c] ⟨1, (c.toNat : Int) - 97, []⟩ := by
  refine ⟨BQ.letter c (by omega), ?_⟩
  have h1 := rn_nat hk h
  have h2 := BQ.letter (rn k c) (by omega)
  rw [h1, show ((c.toNat + k : Nat) : Int) - 97 = (c.toNat : Int) - 97 + k by omega] at h2
  rw [ren_eq]
  exact h2
theorem sign_small {c : UInt8} {j : Int} (h : expr_Parse.sign c = some j) : c.toNat < 97 := by
  unfold expr_Parse.sign at h
  repeat' split at h
  all_goals cases h
  all_goals omega
theorem RB.sign {k : Nat} {s : T} {x : S} {c : UInt8} {j : Int} (h : RB k s x) (hc : expr_Parse.sign c = some j) : RB k (s ++ [c]) ⟨4 + j, 0, [x]⟩ := by
  refine ⟨h.1.sign hc, ?_⟩
  have h2 := h.2.sign hc
  rw [List.map_append, List.map_cons, List.map_nil, rn_small k (.inl (sign_small hc)), ren_eq, if_neg (by have := sgn_sign hc; show ¬ 4 + j = 1; omega)]
  exact h2
theorem RB.seq {k : Nat} {s : T} {xs : List S} (h : RQ k s xs) : RB k (40 :: s ++ [41]) (tog 2 xs) := by
  refine ⟨BQ.paren h.1.qq.aq, ?_⟩
  have h2 := BQ.paren h.2.qq.aq
  rw [tog_ren k 2 (by decide)] at h2
  rw [List.map_append, List.map_cons, List.map_cons, List.map_nil]
  exact h2
theorem RB.alt {k : Nat} {s u : T} {xs ys : List S} (h : RQ k s xs) (g : RQ k u ys) : RB k (40 :: (s ++ 124 :: u) ++ [41]) (tog 3 [tog 2 xs, tog 2 ys]) := by
  refine ⟨BQ.paren (AQ.two h.1.qq g.1.qq), ?_⟩
  have h2 := BQ.paren (AQ.two h.2.qq g.2.qq)
  have e : [tog 2 (xs.map (ren k)), tog 2 (ys.map (ren k))] = [tog 2 xs, tog 2 ys].map (ren k) := by
    rw [tog_ren k 2 (by decide), tog_ren k 2 (by decide)]; rfl
  rw [e, tog_ren k 3 (by decide)] at h2
  rw [List.map_append, List.map_cons, List.map_append, List.map_cons, List.map_cons, List.map_nil]
  exact h2
def bnd : Nat → Nat
  | 0 => 2
  | d + 1 => if d = 0 then 2 else 2 * bnd d + 4
def Gd (d : Nat) (s : T) : Prop := s.length ≤ bnd d ∧ s ≠ [] ∧ (∀ c ∈ s, c.toNat ≤ 99 ∨ c.toNat = 124) ∧ ∃ xs, ∀ k, k ≤ 5 → RQ k s xs
theorem letter_b {t : Int} (h : 0 ≤ t ∧ t < 3) : ((⟨#[97, 98, 99]⟩ : ByteArray).extract t.toNat (⟨#[97, 98, 99]⟩ : ByteArray).size).extract 0 1 = B [(97 + t).toNat.toUInt8] := by
  obtain rfl | rfl | rfl : t = 0 ∨ t = 1 ∨ t = 2 := by omega
  all_goals decide +kernel
theorem letter_n {t : Int} (h : 0 ≤ t ∧ t < 3) : ((97 + t).toNat.toUInt8).toNat = 97 + t.toNat := by
  rw [Nat.toUInt8, UInt8.toNat_ofNat']; omega
theorem Gd.of {d : Nat} {s : T} (h1 : s.length ≤ bnd d) (h2 : s ≠ []) (h3 : ∀ c ∈ s, c.toNat ≤ 99 ∨ c.toNat = 124) {xs : List S} (h4 : ∀ k, k ≤ 5 → RQ k s xs) : Gd d s := ⟨h1, h2, h3, xs, h4⟩
theorem atom_ev (d : Nat) (x0 : List Int) (a1 n t7 : Int) : ∃ s, Gd d s ∧ Ev (fun k => bobbinetkeep_ExprText.j1 k x0 a1 n t7 true) (B s, x0) := by
  have h1 := pick_ev (wrap64 (Int.tdiv n 9)) 3 (by decide) (by decide)
  have h2 := pick_ev (wrap64 (Int.tdiv n 27)) 4 (by decide) (by decide)
  have b1 : 0 ≤ wrap64 (Int.tdiv n 9) % 3 ∧ wrap64 (Int.tdiv n 9) % 3 < 3 := by omega
  have b2 : 0 ≤ wrap64 (Int.tdiv n 27) % 4 ∧ wrap64 (Int.tdiv n 27) % 4 < 4 := by omega
  generalize wrap64 (Int.tdiv n 9) % 3 = t at h1 b1
  generalize wrap64 (Int.tdiv n 27) % 4 = u at h2 b2
  have hlet := letter_b b1
  have hn := letter_n b1
  generalize hc : (97 + t).toNat.toUInt8 = c at hlet hn
  have base : ∀ k, k ≤ 5 → RB k [c] ⟨1, (c.toNat : Int) - 97, []⟩ := fun k hk => RB.letter hk c (by omega)
  have hsz : (1 : Int) ≤ (((⟨#[97, 98, 99]⟩ : ByteArray).extract t.toNat (⟨#[97, 98, 99]⟩ : ByteArray).size).size : Int) := by
    rw [ByteArray.size_extract, show (⟨#[97, 98, 99]⟩ : ByteArray).size = 3 from rfl]; omega
  have hd : 2 ≤ bnd d := by
    cases d with
    | zero => exact Nat.le_refl _
    | succ d => unfold bnd; split <;> omega
  have fin : ∀ v : T, v.length ≤ 1 → rdOf ByteArray.empty ([(⟨#[]⟩ : ByteArray), (⟨#[]⟩ : ByteArray), (⟨#[42]⟩ : ByteArray), (⟨#[63]⟩ : ByteArray)] : List ByteArray) u = B v → Ev (fun k => bobbinetkeep_ExprText.j1 k x0 a1 n t7 true) (B ([c] ++ v), x0) := by
    intro v hv e
    refine Ev.one (f := fun k => _) (fun k => by rw [bobbinetkeep_ExprText.j1]) ?_
    refine Ev.ite_pos rfl (Ev.bnd0 h1 (Ev.ite_pos b1.1 (Ev.ite_pos (by omega) (Ev.ite_pos (by decide) (Ev.ite_pos hsz (Ev.bnd0 rfl (Ev.bnd0 h2 (Ev.ite_pos b2.1 (Ev.ite_pos (by simp; omega) ?_)))))))))
    rw [hlet, e, B_app]
    refine Ev.ite_pos ?_ (Ev.some _)
    rw [B_len, B_len]; simp; omega
  have hu : u = 0 ∨ u = 1 ∨ u = 2 ∨ u = 3 := by omega
  have hmem : ∀ e ∈ [c], e.toNat ≤ 99 ∨ e.toNat = 124 := fun e he => by rw [List.mem_singleton.1 he]; omega
  rcases hu with rfl | rfl | rfl | rfl
  · exact ⟨[c] ++ [], Gd.of (by simp; omega) (by simp) hmem (fun k hk => (base k hk).rq), fin [] (by simp) rfl⟩
  · exact ⟨[c] ++ [], Gd.of (by simp; omega) (by simp) hmem (fun k hk => (base k hk).rq), fin [] (by simp) rfl⟩
  · refine ⟨[c] ++ [42], Gd.of (by simp; omega) (by simp) (fun e he => ?_) (fun k hk => ((base k hk).sign (c := 42) (j := 0) rfl).rq), fin [42] (by simp) rfl⟩
    rcases List.mem_append.1 he with he | he
    · exact hmem e he
    · rw [List.mem_singleton.1 he]; decide
  · refine ⟨[c] ++ [63], Gd.of (by simp; omega) (by simp) (fun e he => ?_) (fun k hk => ((base k hk).sign (c := 63) (j := 2) rfl).rq), fin [63] (by simp) rfl⟩
    rcases List.mem_append.1 he with he | he
    · exact hmem e he
    · rw [List.mem_singleton.1 he]; decide
theorem bnd_le : ∀ d, d ≤ 3 → bnd d ≤ 20 := by
  intro d hd
  obtain rfl | rfl | rfl | rfl : d = 0 ∨ d = 1 ∨ d = 2 ∨ d = 3 := by omega
  all_goals decide
/-- what two texts become -/
theorem two_ev (d : Nat) (hd : d ≤ 2) (hd1 : 1 ≤ d) (x0 : List Int) (n t7 : Int) (h7 : 3 ≤ t7 ∧ t7 < 9) {a b : T} {r1 r2 : List Int} (ga : Gd d a) (gb : Gd d b)
    (ha : Ev (fun k => bobbinetkeep_ExprText.f k x0 (d : Int)) (B a, r1)) (hb : Ev (fun k => bobbinetkeep_ExprText.f k r1 (d : Int)) (B b, r2)) :
    ∃ s, Gd (d + 1) s ∧ Ev (fun k => bobbinetkeep_ExprText.j1 k x0 ((d + 1 : Nat) : Int) n t7 false) (B s, r2) := by
  obtain ⟨a1, a2, a3, xs, a4⟩ := ga
  obtain ⟨b1, b2, b3, ys, b4⟩ := gb
  have hbd := bnd_le d (by omega)
  have e : bnd (d + 1) = 2 * bnd d + 4 := by
    rw [bnd, if_neg (by omega)]
  have hw : wrap64 (((d + 1 : Nat) : Int) - 1) = (d : Int) := by rw [wrap_id (by omega) (by omega)]; omega
  have key : ∀ s, Ev (fun k => (bobbinetkeep_ExprText.f k x0 (d : Int)).bind fun bt114 => ((bobbinetkeep_ExprText.f k bt114.2 (d : Int)).bind fun bt118 => (if t7 < 6 then (if bt114.1.size + bt118.1.size ≤ 9223372036854775807 then (some (bt114.1 ++ bt118.1, bt118.2)) else (none)) else (if t7 = 6 then (if 1 + bt114.1.size ≤ 9223372036854775807 then (if ((⟨#[40]⟩ : ByteArray) ++ bt114.1).size + 1 ≤ 9223372036854775807 then (if (((⟨#[40]⟩ : ByteArray) ++ bt114.1) ++ (⟨#[124]⟩ : ByteArray)).size + bt118.1.size ≤ 9223372036854775807 then (if ((((⟨#[40]⟩ : ByteArray) ++ bt114.1) ++ (⟨#[124]⟩ : ByteArray)) ++ bt118.1).size + 1 ≤ 9223372036854775807 then (some (((((⟨#[40]⟩ : ByteArray) ++ bt114.1) ++ (⟨#[124]⟩ : ByteArray)) ++ bt118.1) ++ (⟨#[41]⟩ : ByteArray), bt118.2)) else (none)) else (none)) else (none)) else (none)) else (if t7 = 7 then (if 1 + bt114.1.size ≤ 9223372036854775807 then (if ((⟨#[40]⟩ : ByteArray) ++ bt114.1).size + 1 ≤ 9223372036854775807 then (if (((⟨#[40]⟩ : ByteArray) ++ bt114.1) ++ (⟨#[124]⟩ : ByteArray)).size + bt118.1.size ≤ 9223372036854775807 then (if ((((⟨#[40]⟩ : ByteArray) ++ bt114.1) ++ (⟨#[124]⟩ : ByteArray)) ++ bt118.1).size + 2 ≤ 9223372036854775807 then (some (((((⟨#[40]⟩ : ByteArray) ++ bt114.1) ++ (⟨#[124]⟩ : ByteArray)) ++ bt118.1) ++ (⟨#[41, 42]⟩ : ByteArray), bt118.2)) else (none)) else (none)) else (none)) else (none)) else (if 1 + bt114.1.size ≤ 9223372036854775807 then (if ((⟨#[40]⟩ : ByteArray) ++ bt114.1).size + bt118.1.size ≤ 9223372036854775807 then (if (((⟨#[40]⟩ : ByteArray) ++ bt114.1) ++ bt118.1).size + 1 ≤ 9223372036854775807 then ((some (([(⟨#[43]⟩ : ByteArray), (⟨#[63]⟩ : ByteArray)] : List ByteArray) : List ByteArray)).bind fun y122 => ((bobbinetkeep_Picked.f (wrap64 (Int.tdiv n 9)) 2).bind fun t125 => (if 0 ≤ t125 then (if t125 < (y122.length : Int) then (if ((((⟨#[40]⟩ : ByteArray) ++ bt114.1) ++ bt118.1) ++ (⟨#[41]⟩ : ByteArray)).size + (rdOf ByteArray.empty y122 t125).size ≤ 9223372036854775807 then (some (((((⟨#[40]⟩ : ByteArray) ++ bt114.1) ++ bt118.1) ++ (⟨#[41]⟩ : ByteArray)) ++ (rdOf ByteArray.empty y122 t125), bt118.2)) else (none)) else (none)) else (none)))) else (none)) else (none)) else (none))))))) s → Ev (fun k => bobbinetkeep_ExprText.j1 k x0 ((d + 1 : Nat) : Int) n t7 false) s := by
    intro s hs
    exact Ev.one (f := fun k => _) (fun k => by rw [bobbinetkeep_ExprText.j1, hw, if_neg (by decide)]) hs
  have p1 : ∀ s : T, (⟨#[40]⟩ : ByteArray) ++ B s = B (40 :: s) := fun s => B_app [40] s
  have p2 : ∀ s : T, B s ++ (⟨#[124]⟩ : ByteArray) = B (s ++ [124]) := fun s => B_app s [124]
  have p3 : ∀ s : T, B s ++ (⟨#[41]⟩ : ByteArray) = B (s ++ [41]) := fun s => B_app s [41]
  have p4 : ∀ s : T, B s ++ (⟨#[41, 42]⟩ : ByteArray) = B (s ++ [41, 42]) := fun s => B_app s [41, 42]
  have hA : ∀ v : T, (∀ c ∈ v, c.toNat ≤ 99 ∨ c.toNat = 124) → ∀ c ∈ 40 :: (a ++ b) ++ [41] ++ v, c.toNat ≤ 99 ∨ c.toNat = 124 := by
    intro v hv c hc
    simp only [List.mem_append, List.mem_cons, List.mem_singleton, List.cons_append] at hc
    rcases hc with rfl | ((hc | hc) | rfl | hc) | hc
    · decide
    · exact a3 c hc
    · exact b3 c hc
    · decide
    · cases hc
    · exact hv c hc
  have hB : ∀ v : T, (∀ c ∈ v, c.toNat ≤ 99 ∨ c.toNat = 124) → ∀ c ∈ 40 :: (a ++ 124 :: b) ++ [41] ++ v, c.toNat ≤ 99 ∨ c.toNat = 124 := by
    intro v hv c hc
    simp only [List.mem_append, List.mem_cons, List.mem_singleton, List.cons_append] at hc
    rcases hc with rfl | ((hc | rfl | hc) | rfl | hc) | hc
    · decide
    · exact a3 c hc
    · decide
    · exact b3 c hc
    · decide
    · cases hc
    · exact hv c hc
  by_cases c1 : t7 < 6
  · refine ⟨a ++ b, Gd.of (by rw [List.length_append]; omega) (by simp [a2]) (fun c hc => (List.mem_append.1 hc).elim (a3 c) (b3 c)) (fun k hk => (a4 k hk).app (b4 k hk)), key _ (Ev.bnd ha (Ev.bnd hb (Ev.ite_pos c1 (Ev.ite_pos ?_ ?_))))⟩
    · dsimp only; rw [B_len, B_len]; omega
    · dsimp only; rw [B_app]; exact Ev.some _
  by_cases c2 : t7 = 6
  · refine ⟨40 :: (a ++ 124 :: b) ++ [41], Gd.of (by simp; omega) (by simp) (by have := hB [] (fun c hc => by cases hc); rwa [List.append_nil] at this) (fun k hk => (RB.alt (a4 k hk) (b4 k hk)).rq), key _ (Ev.bnd ha (Ev.bnd hb (Ev.ite_neg c1 (Ev.ite_pos c2 ?_))))⟩
    dsimp only
    rw [p1, p2, B_app, p3]
    simp only [B_len]
    refine Ev.ite_pos (by omega) (Ev.ite_pos (by simp; omega) (Ev.ite_pos (by simp; omega) (Ev.ite_pos (by simp; omega) ⟨0, fun _ _ => by simp⟩)))
  by_cases c3 : t7 = 7
  · refine ⟨40 :: (a ++ 124 :: b) ++ [41] ++ [42], Gd.of (by simp; omega) (by simp) (hB [42] (fun c hc => by rw [List.mem_singleton.1 hc]; decide)) (fun k hk => ((RB.alt (a4 k hk) (b4 k hk)).sign (c := 42) (j := 0) rfl).rq), key _ (Ev.bnd ha (Ev.bnd hb (Ev.ite_neg c1 (Ev.ite_neg c2 (Ev.ite_pos c3 ?_)))))⟩
    dsimp only
    rw [p1, p2, B_app, p4]
    simp only [B_len]
    refine Ev.ite_pos (by omega) (Ev.ite_pos (by simp; omega) (Ev.ite_pos (by simp; omega) (Ev.ite_pos (by simp; omega) ⟨0, fun _ _ => by simp⟩)))
  have h2 := pick_ev (wrap64 (Int.tdiv n 9)) 2 (by decide) (by decide)
  have b2' : 0 ≤ wrap64 (Int.tdiv n 9) % 2 ∧ wrap64 (Int.tdiv n 9) % 2 < 2 := by omega
  generalize wrap64 (Int.tdiv n 9) % 2 = u at h2 b2'
  have fin : ∀ (c : UInt8) (j : Int), expr_Parse.sign c = some j → rdOf ByteArray.empty ([(⟨#[43]⟩ : ByteArray), (⟨#[63]⟩ : ByteArray)] : List ByteArray) u = B [c] → ∃ s, Gd (d + 1) s ∧ Ev (fun k => bobbinetkeep_ExprText.j1 k x0 ((d + 1 : Nat) : Int) n t7 false) (B s, r2) := by
    intro c j hc e2
    refine ⟨40 :: (a ++ b) ++ [41] ++ [c], Gd.of (by simp; omega) (by simp) (hA [c] (fun q hq => by rw [List.mem_singleton.1 hq]; have := sign_small hc; omega)) (fun k hk => ((RB.seq ((a4 k hk).app (b4 k hk))).sign hc).rq), key _ (Ev.bnd ha (Ev.bnd hb (Ev.ite_neg c1 (Ev.ite_neg c2 (Ev.ite_neg c3 ?_)))))⟩
    dsimp only
    rw [p1, B_app, p3]
    simp only [B_len]
    refine Ev.ite_pos (by omega) (Ev.ite_pos (by simp; omega) (Ev.ite_pos (by simp; omega) (Ev.bnd0 rfl (Ev.bnd0 h2 (Ev.ite_pos b2'.1 (Ev.ite_pos (by simp; omega) ?_))))))
    rw [e2, B_app, B_len]
    refine Ev.ite_pos (by simp; omega) ⟨0, fun _ _ => by simp⟩
  obtain rfl | rfl : u = 0 ∨ u = 1 := by omega
  · exact fin 43 1 rfl rfl
  · exact fin 63 2 rfl rfl
/-- a text of the laws -/
theorem gen_ev : ∀ (d : Nat), d ≤ 3 → ∀ l : List Int, ∃ s rest, Gd d s ∧ Ev (fun k => bobbinetkeep_ExprText.f k l (d : Int)) (B s, rest) := by
  intro d
  induction d with
  | zero => 
    intro _ l
    obtain ⟨n, l', h⟩ := gen_f 0 l
    have h1 := pick_ev n 9 (by decide) (by decide)
    obtain ⟨s, h2, h3⟩ := atom_ev 0 l' ((0 : Nat) : Int) n (n % 9)
    refine ⟨s, l', h2, h _ ?_⟩
    exact Ev.one (f := fun k => _) (fun k => by rw [bobbinetkeep_ExprText.j0]) (Ev.bnd0 h1 (Ev.ite_pos (show ((0 : Nat) : Int) ≤ 1 by omega) h3))
  | succ d ih =>
    intro hd l
    obtain ⟨n, l', h⟩ := gen_f (d + 1) l
    have h1 := pick_ev n 9 (by decide) (by decide)
    have hb : 0 ≤ n % 9 ∧ n % 9 < 9 := by omega
    generalize n % 9 = t7 at h1 hb
    obtain ⟨s, h2, h3⟩ := atom_ev (d + 1) l' ((d + 1 : Nat) : Int) n t7
    by_cases hd1 : d = 0
    · subst hd1
      refine ⟨s, l', h2, h _ ?_⟩
      exact Ev.one (f := fun k => _) (fun k => by rw [bobbinetkeep_ExprText.j0]) (Ev.bnd0 h1 (Ev.ite_pos (show ((0 + 1 : Nat) : Int) ≤ 1 by omega) h3))
    · by_cases ht : t7 < 3
      · refine ⟨s, l', h2, h _ ?_⟩
        refine Ev.one (f := fun k => _) (fun k => by rw [bobbinetkeep_ExprText.j0]) (Ev.bnd0 h1 (Ev.ite_neg (show ¬ ((d + 1 : Nat) : Int) ≤ 1 by omega) ?_))
        rw [decide_eq_true ht]
        exact h3
      · obtain ⟨a, r1, ga, ha⟩ := ih (by omega) l'
        obtain ⟨b, r2, gb, hb2⟩ := ih (by omega) r1
        obtain ⟨s, h2, h3⟩ := two_ev d (by omega) (by omega) l' n t7 (by omega) ga gb ha hb2
        refine ⟨s, r2, h2, h _ ?_⟩
        refine Ev.one (f := fun k => _) (fun k => by rw [bobbinetkeep_ExprText.j0]) (Ev.bnd0 h1 (Ev.ite_neg (show ¬ ((d + 1 : Nat) : Int) ≤ 1 by omega) ?_))
        rw [decide_eq_false ht]
        exact h3
where
  gen_f (d : Nat) (l : List Int) : ∃ n l', ∀ R, Ev (fun k => bobbinetkeep_ExprText.j0 k l' (d : Int) n) R → Ev (fun k => bobbinetkeep_ExprText.f k l (d : Int)) R := by
    cases l with
    | nil => exact ⟨0, [], fun R h => Ev.one (f := fun k => _) (fun k => by rw [bobbinetkeep_ExprText.f]) (Ev.ite_neg (by simp) h)⟩
    | cons n l =>
      refine ⟨n, l, fun R h => Ev.one (f := fun k => _) (fun k => by rw [bobbinetkeep_ExprText.f]) (Ev.ite_pos (by simp) (Ev.ite_pos (by simp) (Ev.ite_pos (by simp; omega) ?_)))⟩
      exact h
theorem exprOf_ev {t : T} {x : S} (h : AQ t x) (hl : t.length ≤ 40) : Ev (fun k => bobbinetkeep_exprOf.f k (B t)) (x.f0, x.f1, x.f2, true) := by
  unfold bobbinetkeep_exprOf.f
  have h1 := parse_ev h.1 h.2.1 (Nat.le_trans h.2.2 hl) hl
  have h2 : AQ [97] ⟨1, 0, []⟩ := (BQ.letter 97 (by decide)).sq.qq.aq
  have h3 := parse_ev h2.1 h2.2.1 (Nat.le_trans h2.2.2 (by decide)) (by decide)
  exact Ev.bnd h1 (Ev.bnd h3 (Ev.ite_pos rfl (Ev.ite_pos rfl (Ev.some _))))
end Go.Proofs.Ytjmhihadgpdiaaa.Expr
end
section
namespace Go.Proofs.Ytjmhihadgpdiaaa.Expr
open Go.RowKit Go.Proofs.Ytjmhihadgpdiaaa.X Go.Proofs.YtjmhihadgpdiaaaW.PrintWords Go.Proofs.YtjmhihadgpdiaaaW.PrintLast Go.Proofs.Ytjmhihadgpdiaaa.Base
set_option linter.unusedVariables false
set_option linter.unusedSimpArgs false
theorem at_set {c : List Bool} {n : Nat} (v : Bool) (h : n < c.length) (j : Nat) : at_ (c.set n v) j ↔ if j = n then v = true else at_ c j := by
  unfold at_
  rw [List.getD_eq_getElem?_getD, List.getD_eq_getElem?_getD, List.getElem?_set]
  by_cases e : n = j
  · subst e; simp [h]
  · rw [if_neg e, if_neg (fun e2 => e e2.symm)]
theorem one_l0 (a : List Bool) (w : W) (f0 t : Int) (ps : List S) (ha : a.length = w.length + 1) (hl : w.length < 1000) : ∀ (d i : Nat) (c : List Bool), w.length - i = d → i ≤ w.length → c.length = w.length + 1 →
    ∃ b, Ev (fun k => expr_reach.l0 k a c w (w.length : Int) (i : Int) f0 t ps) b ∧ b.length = w.length + 1 ∧ ∀ j, at_ b j ↔ if i < j ∧ j ≤ w.length then at_ a (j - 1) ∧ w.getD (j - 1) 0 = t else at_ c j := by
  intro d
  induction d with
  | zero =>
    intro i c hd hi hc
    refine ⟨c, Ev.one (f := fun k => _) (fun k => by rw [expr_reach.l0]) (Ev.ite_neg (by omega) (Ev.some _)), hc, fun j => ?_⟩
    rw [if_neg (by omega)]
  | succ d ih =>
    intro i c hd hi hc
    have hlt : i < w.length := by omega
    have hw : wrap64 ((i : Int) + 1) = ((i + 1 : Nat) : Int) := wrap_succ hlt (by omega)
    have hr : rd w (i : Int) = w.getD i 0 := by simp [rd]
    have key : ∀ v : Bool, (v = true ↔ at_ a i ∧ w.getD i 0 = t) → ∃ b, Ev (fun k => expr_reach.l0 k a (c.set (i + 1) v) w (w.length : Int) ((i + 1 : Nat) : Int) f0 t ps) b ∧ b.length = w.length + 1 ∧ ∀ j, at_ b j ↔ if i < j ∧ j ≤ w.length then at_ a (j - 1) ∧ w.getD (j - 1) 0 = t else at_ c j := by
      intro v hv
      obtain ⟨b, h1, h2, h3⟩ := ih (i + 1) (c.set (i + 1) v) (by omega) (by omega) (by rw [List.length_set]; exact hc)
      refine ⟨b, h1, h2, fun j => (h3 j).trans ?_⟩
      by_cases hj : i + 1 < j ∧ j ≤ w.length
      · rw [if_pos hj, if_pos ⟨by omega, hj.2⟩]
      · rw [if_neg hj, at_set v (by omega)]
        by_cases hj2 : j = i + 1
        · subst hj2
          rw [if_pos rfl, if_pos ⟨by omega, by omega⟩]
          exact hv
        · rw [if_neg hj2, if_neg (by omega)]
    by_cases hat : at_ a i
    · obtain ⟨b, h1, h2⟩ := key (w.getD i 0 == t) ⟨fun h => ⟨hat, eq_of_beq h⟩, fun h => beq_iff_eq.2 h.2⟩
      refine ⟨b, ?_, h2⟩
      refine Ev.one (f := fun k => _) (fun k => by rw [expr_reach.l0, hw, rdOf_at, hr]) ?_
      exact Ev.ite_pos (by omega) (Ev.ite_pos (by omega) (Ev.ite_pos (by omega) (Ev.ite_pos (by omega) (Ev.ite_pos hat (Ev.ite_pos (by omega) (Ev.ite_pos (by omega) h1))))))
    · obtain ⟨b, h1, h2⟩ := key false (by simp [hat])
      refine ⟨b, ?_, h2⟩
      refine Ev.one (f := fun k => _) (fun k => by rw [expr_reach.l0, hw, rdOf_at, hr]) ?_
      exact Ev.ite_pos (by omega) (Ev.ite_pos (by omega) (Ev.ite_pos (by omega) (Ev.ite_pos (by omega) (Ev.ite_neg hat (Ev.ite_pos (by omega) (Ev.ite_pos (by omega) h1))))))
theorem tl_mem {p : S} : ∀ {l : List S}, p ∈ l → 1 + tl p.f2 ≤ tl l
  | q :: l, h => by
    rw [tl_cons]
    rcases List.mem_cons.1 h with rfl | h
    · omega
    · have := tl_mem h; omega
/-- what is meant is reached -/
def Go_ (w : W) (p : S) : Prop := ∀ a : List Bool, a.length = w.length + 1 → ∃ b, Ev (fun k => expr_reach.f k p.f0 p.f1 p.f2 w a) b ∧ Rch (M p) w a b
theorem seq_l1 (w : W) (ps : List S) (hp : ∀ p ∈ ps, Go_ w p) (hl : ps.length < 1000000) : ∀ (d i : Nat) (a : List Bool), ps.length - i = d → i ≤ ps.length → a.length = w.length + 1 →
    ∃ b, Ev (fun k => expr_reach.l1 k w a ps (ps.length : Int) (i : Int)) b ∧ Rch (MS (ps.drop i)) w a b := by
  intro d
  induction d with
  | zero =>
    intro i a hd hi ha
    rw [List.drop_eq_nil_of_le (by omega)]
    exact ⟨a, Ev.one (f := fun k => _) (fun k => by rw [expr_reach.l1]) (Ev.ite_neg (by omega) (Ev.some _)), Rch.nil ha⟩
  | succ d ih =>
    intro i a hd hi ha
    have hlt : i < ps.length := by omega
    have hw : wrap64 ((i : Int) + 1) = ((i + 1 : Nat) : Int) := wrap_succ hlt (by omega)
    obtain ⟨b, h1, h2⟩ := hp ps[i] (List.getElem_mem hlt) a ha
    obtain ⟨c, h3, h4⟩ := ih (i + 1) b (by omega) (by omega) h2.1
    rw [List.drop_eq_getElem_cons hlt]
    refine ⟨c, ?_, h2.cat h4⟩
    refine Ev.one (f := fun k => _) (fun k => by rw [expr_reach.l1, hw, rdT_at ps i hlt]) ?_
    exact Ev.ite_pos (by omega) (Ev.ite_pos (by omega) (Ev.ite_pos (by omega) (Ev.bnd h1 h3)))
theorem alt_l2 (w : W) (a : List Bool) (ha : a.length = w.length + 1) (hw0 : w.length < 1000) (ps : List S) (hp : ∀ p ∈ ps, Go_ w p) (hl : ps.length < 1000000) : ∀ (d i : Nat) (c : List Bool) (L : Lg), ps.length - i = d → i ≤ ps.length → Rch L w a c →
    ∃ b, Ev (fun k => expr_reach.l2 k w a c ps (ps.length : Int) (i : Int)) b ∧ Rch (Or L (fun u => ∃ p ∈ ps.drop i, M p u)) w a b := by
  intro d
  induction d with
  | zero =>
    intro i c L hd hi hc
    rw [List.drop_eq_nil_of_le (by omega)]
    exact ⟨c, Ev.one (f := fun k => _) (fun k => by rw [expr_reach.l2]) (Ev.ite_neg (by omega) (Ev.some _)), hc.congr (fun u => by simp [Or])⟩
  | succ d ih =>
    intro i c L hd hi hc
    have hlt : i < ps.length := by omega
    have hw : wrap64 ((i : Int) + 1) = ((i + 1 : Nat) : Int) := wrap_succ hlt (by omega)
    obtain ⟨b, h1, h2⟩ := hp ps[i] (List.getElem_mem hlt) a ha
    have h5 := either_ev (hc.1.trans h2.1.symm) (by have := hc.1; omega)
    obtain ⟨e, h3, h4⟩ := ih (i + 1) (eith c b) _ (by omega) (by omega) (hc.or h2)
    rw [List.drop_eq_getElem_cons hlt]
    refine ⟨e, ?_, h4.congr (fun u => ?_)⟩
    · refine Ev.one (f := fun k => _) (fun k => by rw [expr_reach.l2, hw, rdT_at ps i hlt]) ?_
      exact Ev.ite_pos (by omega) (Ev.ite_pos (by omega) (Ev.ite_pos (by omega) (Ev.bnd h1 (Ev.bnd h5 h3))))
    · constructor
      · rintro ((h | h) | ⟨p, hp, h⟩)
        · exact .inl h
        · exact .inr ⟨_, List.mem_cons_self, h⟩
        · exact .inr ⟨p, List.mem_cons_of_mem _ hp, h⟩
      · rintro (h | ⟨p, hp, h⟩)
        · exact .inl (.inl h)
        · rcases List.mem_cons.1 hp with rfl | hp
          · exact .inl (.inr h)
          · exact .inr ⟨p, hp, h⟩
theorem eith_le : ∀ (a b : List Bool), a.length = b.length → (eith a b).count false ≤ a.count false
  | [], b, _ => by simp [eith]
  | x :: a, [], h => by simp at h
  | x :: a, y :: b, h => by
    have ih := eith_le a b (by simpa using h)
    show ((x || y) :: eith a b).count false ≤ _
    rw [List.count_cons, List.count_cons]
    cases x <;> cases y <;> simp <;> omega
theorem eith_count : ∀ (a b : List Bool), a.length = b.length → eith a b ≠ a → (eith a b).count false < a.count false
  | [], b, _, hn => by simp [eith] at hn
  | x :: a, [], h, _ => by simp at h
  | x :: a, y :: b, h, hn => by
    have h0 : a.length = b.length := by simpa using h
    have hle := eith_le a b h0
    have e : eith (x :: a) (y :: b) = (x || y) :: eith a b := rfl
    rw [e] at hn ⊢
    rw [List.count_cons, List.count_cons]
    by_cases h1 : eith a b = a
    · rw [h1] at hn
      cases x <;> cases y <;> simp at hn
      rw [h1]
      simp
    · have := eith_count a b h0 h1
      cases x <;> cases y <;> simp <;> omega
theorem star_closed {L : Lg} {w : W} {c : List Bool} (h : ∀ i j, i ≤ j → j ≤ w.length → at_ c i → L (seg w i j) → at_ c j) {s : W} (hs : Star L s) : ∀ i j, i ≤ j → j ≤ w.length → at_ c i → seg w i j = s → at_ c j := by
  induction hs with
  | nil =>
    intro i j h1 h2 h3 h4
    rw [← seg_nil h1 h2 h4]; exact h3
  | cons hu _ ih =>
    intro i j h1 h2 h3 h4
    obtain ⟨m, h5, h6, h7, h8⟩ := seg_split h1 h2 h4
    exact ih m j h6 h2 (h i m h5 (by omega) h3 (by rw [h7]; exact hu)) h8
theorem star_l3 (w : W) (hw0 : w.length < 1000) (p : S) (hp : Go_ w p) (f0 f1 : Int) : ∀ (d : Nat) (c : List Bool), c.count false ≤ d → c.length = w.length + 1 →
    ∃ b, Ev (fun k => expr_reach.l3 k w c f0 f1 [p]) b ∧ Rch (Star (M p)) w c b := by
  intro d
  induction d using Nat.strongRecOn with
  | _ d ih =>
  intro c hd hc
  obtain ⟨t, h1, h2⟩ := hp c hc
  have hl : c.length = t.length := hc.trans h2.1.symm
  have h3 := either_ev hl (by omega)
  have hl2 := eith_len hl
  have h4 := equal_ev hl2 (by omega)
  have hat := fun j => eith_at hl j
  by_cases he : eith c t = c
  · refine ⟨c, ?_, hc, fun j hj => ⟨fun h => ⟨j, Nat.le_refl _, h, by rw [seg_self]; exact Star.nil⟩, ?_⟩⟩
    · refine Ev.one (f := fun k => _) (fun k => by rw [expr_reach.l3]) ?_
      exact Ev.ite_pos (by simp) (Ev.bnd h1 (Ev.bnd h3 (Ev.bnd h4 (Ev.ite_pos (by simp [he]) (Ev.some _)))))
    · rintro ⟨i, h5, h6, h7⟩
      refine star_closed (fun i j h1 h3 h4 h5 => ?_) h7 i j h5 hj h6 rfl
      rw [← he]
      exact (hat j).2 (.inr ((h2.2 j h3).2 ⟨i, h1, h4, h5⟩))
  · have h5 := eith_count c t hl he
    obtain ⟨b, h6, h7⟩ := ih _ (Nat.lt_of_lt_of_le h5 hd) (eith c t) (Nat.le_refl _) (hl2.trans hc)
    refine ⟨b, ?_, h7.1, fun j hj => (h7.2 j hj).trans ⟨?_, ?_⟩⟩
    · refine Ev.one (f := fun k => _) (fun k => by rw [expr_reach.l3]) ?_
      exact Ev.ite_pos (by simp) (Ev.bnd h1 (Ev.bnd h3 (Ev.bnd h4 (Ev.ite_neg (by simp [he]) h6))))
    · rintro ⟨i, h8, h9, h10⟩
      rcases (hat i).1 h9 with h9 | h9
      · exact ⟨i, h8, h9, h10⟩
      · obtain ⟨m, h11, h12, h13⟩ := (h2.2 i (by omega)).1 h9
        refine ⟨m, by omega, h12, ?_⟩
        rw [← seg_cat h11 h8]
        exact Star.cons h13 h10
    · rintro ⟨i, h8, h9, h10⟩
      exact ⟨i, h8, (hat i).2 (.inl h9), h10⟩
theorem clone_ev {a : List Bool} (h : a.length < 1000000) : slices_Clone_bool_bool.f a = some a := by
  unfold slices_Clone_bool_bool.f
  rw [if_pos (by omega)]
theorem falses_at (n j : Nat) : ¬ at_ (List.replicate n false) j := by
  unfold at_
  rw [List.getD_eq_getElem?_getD, List.getElem?_replicate]
  split <;> simp
theorem reach_ev {x : S} (h : Ok x) (w : W) (hw : w.length < 1000) : tl x.f2 < 1000000 → Go_ w x := by
  induction h with
  | @mk x hloc hparts ih =>
  intro htl a ha
  have hlen := tl_len x.f2
  have ih2 : ∀ p ∈ x.f2, Go_ w p := fun p hp => ih p hp (by have := tl_mem hp; omega)
  clear ih hparts
  obtain ⟨kd, t, ps⟩ := x
  replace hlen : ps.length ≤ tl ps := hlen
  replace htl : tl ps < 1000000 := htl
  have start : ∀ (b : List Bool) (g : Nat → List Bool → Option (List Bool)), Ev (fun k => g k (List.replicate a.length false)) b → Ev (fun k => if 0 ≤ (a.length : Int) then (if ((a.length : Int) : Int).toNat ≤ 281474976710656 then ((some (List.replicate ((a.length : Int) : Int).toNat false : List Bool)).bind fun y => g k y) else none) else none) b := by
    intro b g hg
    refine Ev.ite_pos (by omega) (Ev.ite_pos (by omega) ?_)
    exact hg
  have clone := clone_ev (a := a) (by omega)
  rcases hloc with ⟨rfl, rfl, -, -⟩ | ⟨rfl, rfl, -, -⟩ | ⟨rfl, rfl, -, -⟩ | ⟨h1, h2, rfl, p, rfl⟩
  · obtain ⟨b, h1, h2, h3⟩ := one_l0 a w 1 t [] ha hw w.length 0 (List.replicate a.length false) (by omega) (by omega) (by rw [List.length_replicate]; exact ha)
    refine ⟨b, ?_, h2, fun j hj => (h3 j).trans ?_⟩
    · refine Ev.one (f := fun k => _) (fun k => by rw [expr_reach.f]) (start b _ ?_)
      exact Ev.ite_pos rfl h1
    · by_cases h0 : 0 < j
      · rw [if_pos ⟨h0, hj⟩]
        constructor
        · rintro ⟨h4, h5⟩
          exact ⟨j - 1, by omega, h4, M_one.2 ((seg_one (by omega) hj).2 ⟨by omega, h5⟩)⟩
        · rintro ⟨i, h4, h5, h6⟩
          obtain ⟨rfl, h7⟩ := (seg_one h4 hj).1 (M_one.1 h6)
          exact ⟨h5, h7⟩
      · rw [if_neg (by omega)]
        constructor
        · intro h4; exact absurd h4 (falses_at _ _)
        · rintro ⟨i, h4, h5, h6⟩
          obtain ⟨rfl, h7⟩ := (seg_one h4 hj).1 (M_one.1 h6)
          omega
  · obtain ⟨b, h1, h2⟩ := seq_l1 w ps ih2 (by omega) ps.length 0 a (by omega) (by omega) ha
    refine ⟨b, ?_, h2.congr (fun u => M_seq.symm)⟩
    refine Ev.one (f := fun k => _) (fun k => by rw [expr_reach.f]) (start b _ ?_)
    exact Ev.ite_neg (by simp) (Ev.ite_pos rfl (Ev.bnd0 clone h1))
  · have h0 : Rch (fun _ => False) w a (List.replicate a.length false) := by
      refine ⟨by rw [List.length_replicate]; exact ha, fun j hj => ⟨fun h => absurd h (falses_at _ _), ?_⟩⟩
      rintro ⟨_, _, _, h⟩; exact h.elim
    obtain ⟨b, h1, h2⟩ := alt_l2 w a ha hw ps ih2 (by omega) ps.length 0 (List.replicate a.length false) _ (by omega) (by omega) h0
    refine ⟨b, ?_, h2.congr (fun u => ?_)⟩
    · refine Ev.one (f := fun k => _) (fun k => by rw [expr_reach.f]) (start b _ ?_)
      exact Ev.ite_neg (by simp) (Ev.ite_neg (by simp) (Ev.ite_pos rfl h1))
    · rw [M_alt, List.drop_zero]
      exact ⟨fun h => h.elim False.elim id, .inr⟩
  · have hp := ih2 p List.mem_cons_self
    have e4 : kd = 4 ∨ kd = 5 ∨ kd = 6 := by simp at h1 h2; omega
    clear h1 h2
    rcases e4 with rfl | rfl | rfl
    · obtain ⟨b, h1, h2⟩ := star_l3 w hw p hp 4 0 _ a (Nat.le_refl _) ha
      refine ⟨b, ?_, h2.congr (fun u => M_star.symm)⟩
      refine Ev.one (f := fun k => _) (fun k => by rw [expr_reach.f]) (start b _ ?_)
      refine Ev.ite_neg (by simp) (Ev.ite_neg (by simp) (Ev.ite_neg (by simp) (Ev.ite_neg (by simp) (Ev.bnd0 clone (Ev.ite_neg (by simp) ?_)))))
      exact Ev.one (f := fun k => _) (fun k => by rw [expr_reach.j3]) h1
    · obtain ⟨c, h3, h4⟩ := hp a ha
      obtain ⟨b, h1, h2⟩ := star_l3 w hw p hp 5 0 _ c (Nat.le_refl _) h4.1
      refine ⟨b, ?_, (h4.cat h2).congr (fun u => M_plus.symm)⟩
      refine Ev.one (f := fun k => _) (fun k => by rw [expr_reach.f]) (start b _ ?_)
      refine Ev.ite_neg (by simp) (Ev.ite_neg (by simp) (Ev.ite_neg (by simp) (Ev.ite_neg (by simp) (Ev.bnd0 clone (Ev.ite_pos rfl (Ev.ite_pos (by simp) (Ev.bnd h3 ?_)))))))
      exact Ev.one (f := fun k => _) (fun k => by rw [expr_reach.j3]) h1
    · obtain ⟨c, h3, h4⟩ := hp a ha
      have h5 := either_ev (ha.trans h4.1.symm) (by omega)
      refine ⟨eith a c, ?_, ((Rch.nil ha).or h4).congr (fun u => M_opt.symm)⟩
      refine Ev.one (f := fun k => _) (fun k => by rw [expr_reach.f]) (start (eith a c) _ ?_)
      exact Ev.ite_neg (by simp) (Ev.ite_neg (by simp) (Ev.ite_neg (by simp) (Ev.ite_pos rfl (Ev.ite_pos (by simp) (Ev.bnd h3 (Ev.bnd h5 (Ev.some _)))))))
end Go.Proofs.Ytjmhihadgpdiaaa.Expr
end
section
namespace Go.Proofs.Ytjmhihadgpdiaaa.Expr
open Go.RowKit Go.Proofs.Ytjmhihadgpdiaaa.X Go.Proofs.YtjmhihadgpdiaaaW.PrintWords Go.Proofs.YtjmhihadgpdiaaaW.PrintLast Go.Proofs.Ytjmhihadgpdiaaa.Base
set_option linter.unusedVariables false
set_option linter.unusedSimpArgs false
theorem matches_ev {x : S} (ho : Ok x) (ht : tl x.f2 < 1000000) (hx : (txt x).length ≤ 40) (w : W) (hw : w.length ≤ 40) (hl : ∀ n ∈ w, 0 ≤ n ∧ n < 8) : ∃ b, Ev (fun k => bobbinetkeep_matches.f k x.f0 x.f1 x.f2 w) b ∧ (b = true ↔ M x w) := by
  obtain ⟨out, h1, h2⟩ := reach_ev ho w (by omega) ht ((List.replicate (w.length + 1) false).set 0 true) (by simp)
  have hany : w.any cf_exprMatch.P = false := by
    rw [List.any_eq_false]
    intro n hn
    have := hl n hn
    unfold cf_exprMatch.P
    simp; omega
  have hwr : wrap64 ((w.length : Int) + 1) = ((w.length + 1 : Nat) : Int) := by rw [wrap_id (by omega) (by omega)]; omega
  have hat : ∀ i, at_ ((List.replicate (w.length + 1) false).set 0 true) i ↔ i = 0 := by
    intro i
    rw [at_set true (by simp)]
    by_cases e : i = 0
    · simp [e]
    · rw [if_neg e]; exact ⟨fun h => absurd h (falses_at _ _), fun h => absurd h e⟩
  have hm : at_ out w.length ↔ M x w := by
    rw [h2.2 w.length (Nat.le_refl _)]
    have e : seg w 0 w.length = w := by unfold seg; rw [List.take_length, List.drop_zero]
    constructor
    · rintro ⟨i, _, h4, h5⟩
      rw [(hat i).1 h4, e] at h5
      exact h5
    · intro h; exact ⟨0, Nat.zero_le _, (hat 0).2 rfl, by rw [e]; exact h⟩
  have hmatch : Ev (fun k => expr_Match.f k x.f0 x.f1 x.f2 w) (rdOf false out (w.length : Int), 0) := by
    unfold expr_Match.f
    refine Ev.bnd (check_ev ho ht hx) (Ev.ite_pos rfl (Ev.ite_neg (by omega) (Ev.bnd0 (show cf_exprMatch.f w = some false by unfold cf_exprMatch.f; rw [hany]) (Ev.ite_neg (by decide) ?_))))
    rw [hwr]
    refine Ev.ite_pos (by omega) (Ev.ite_pos (by omega) (Ev.bnd0 rfl (Ev.ite_pos (by simp) (Ev.bnd h1 (Ev.ite_pos (by omega) (Ev.ite_pos (by rw [h2.1]; omega) (Ev.some _)))))))
  refine ⟨rdOf false out (w.length : Int), ?_, by rw [rdOf_at]; exact hm⟩
  unfold bobbinetkeep_matches.f
  refine Ev.ite_pos (by simp; omega) ?_
  rw [List.nil_append]
  refine Ev.bnd hmatch ?_
  dsimp only
  by_cases hb : rdOf false out (w.length : Int) = true
  · refine Ev.ite_pos hb ⟨0, fun _ _ => by rw [hb]; rfl⟩
  · refine Ev.ite_neg hb ⟨0, fun _ _ => by rw [Bool.not_eq_true] at hb; rw [hb]⟩
theorem word_ev (l : List Int) (n : Nat) (hn : n ≤ 40) : ∃ w, Ev (fun k => bobbinetkeep_WordOf.f k l (n : Int)) w ∧ w.length ≤ n ∧ ∀ x ∈ w, 0 ≤ x ∧ x < 3 := by
  have loop : ∀ (d i : Nat) (acc : W), n - i = d → i ≤ n → acc.length = i → (∀ x ∈ acc, 0 ≤ x ∧ x < 3) → ∃ w, Ev (fun k => bobbinetkeep_WordOf.l0 k l (n : Int) acc (i : Int)) w ∧ w.length ≤ n ∧ ∀ x ∈ w, 0 ≤ x ∧ x < 3 := by
    intro d
    induction d with
    | zero =>
      intro i acc hd hi ha hx
      refine ⟨acc, Ev.one (f := fun k => _) (fun k => by rw [bobbinetkeep_WordOf.l0]) ?_, by omega, hx⟩
      by_cases h : (i : Int) < (l.length : Int)
      · exact Ev.ite_pos h (Ev.ite_neg (by omega) (Ev.some _))
      · exact Ev.ite_neg h (Ev.some _)
    | succ d ih =>
      intro i acc hd hi ha hx
      by_cases h : (i : Int) < (l.length : Int)
      · have hw : wrap64 ((i : Int) + 1) = ((i + 1 : Nat) : Int) := wrap_succ (n := n) (by omega) (by omega)
        obtain ⟨w, h1, h2⟩ := ih (i + 1) (acc ++ [rd l (i : Int) % 3]) (by omega) (by omega) (by simp; omega) (by
          intro x hx2
          rcases List.mem_append.1 hx2 with h2 | h2
          · exact hx x h2
          · rw [List.mem_singleton.1 h2]; omega)
        refine ⟨w, Ev.one (f := fun k => _) (fun k => by rw [bobbinetkeep_WordOf.l0, hw]) ?_, h2⟩
        exact Ev.ite_pos h (Ev.ite_pos (by omega) (Ev.ite_pos (by omega) (Ev.bnd0 (pick_ev _ 3 (by decide) (by decide)) (Ev.ite_pos (by omega) h1))))
      · refine ⟨acc, Ev.one (f := fun k => _) (fun k => by rw [bobbinetkeep_WordOf.l0]) ?_, by omega, hx⟩
        exact Ev.ite_neg h (Ev.some _)
  unfold bobbinetkeep_WordOf.f
  exact loop n 0 [] (by omega) (by omega) rfl (fun x hx => by cases hx)
/-- what is parsed matches as is meant -/
theorem AQ.matches {t : T} {x : S} (h : AQ t x) (hl : t.length ≤ 40) (w : W) (hw : w.length ≤ 40) (hn : ∀ n ∈ w, 0 ≤ n ∧ n < 8) : ∃ b, Ev (fun k => bobbinetkeep_matches.f k x.f0 x.f1 x.f2 w) b ∧ (b = true ↔ M x w) := by
  have h1 : tl x.f2 ≤ 2 * t.length + 1 := h.1.1
  have h2 := h.2.2
  exact matches_ev h.2.1 (by omega) (by omega) w hw hn
end Go.Proofs.Ytjmhihadgpdiaaa.Expr
end
section
namespace Go.Proofs.Ytjmhihadgpdiaaa.Expr
open Go.RowKit Go.Proofs.Ytjmhihadgpdiaaa.X Go.Proofs.YtjmhihadgpdiaaaW.PrintWords Go.Proofs.YtjmhihadgpdiaaaW.PrintLast Go.Proofs.YtjmhihadgpdiaaaW.PrintMore Go.Proofs.Ytjmhihadgpdiaaa.Base
set_option linter.unusedVariables false
set_option linter.unusedSimpArgs false
def Same.rSame3.T3 : Bool × List (List Nat × List Nat) := (true, [([], []), ([0], [0]), ([1], [1]), ([1, 2], [1, 2]), ([3, 1], [3]), ([4], [4]), ([4], [4]), ([5, 6, 4, 4], [4, 5, 6]), ([4], [4]), ([4], [4]), ([8, 9, 7, 4], [4, 8, 9]), ([7, 10, 4], [4, 7, 10]), ([4, 11], [4, 11]), ([12, 10, 0, 1, 2, 3, 4, 5, 6, 7, 8, 9, 10, 11, 12], [12])])
def Same.rSame3.B3 : List Nat := [0, 1, 3, 7, 15, 31, 31, 127, 31, 31, 1023, 2047, 4095, 8191]
theorem Same.rSame3.tab3 : rtab .any (opsOf Try.f15 3) = Same.rSame3.T3 := by kernel_rfl
theorem Same.rSame3.bits3 : waitsOk Same.rSame3.T3.2 Same.rSame3.B3 = true := by kernel_rfl
theorem Same.pack {P : Program} {c : Code} {Q : Exit → Act → World → Prop} {xa : Act} {W : World} (F : World → Prop) (h1 : F W) (h : ∀ W', F W' → Code.wp P c Q xa W') : Code.wp P c Q xa W := h W h1
set_option maxHeartbeats 4000000 in
set_option maxRecDepth 100000 in
theorem Same.calls (s t : ByteArray) (x y : S) (wd : W) (bq : Bool) (k1 k2 k3 k4 : Nat) (p1 : bobbinetkeep_exprOf.f k1 s = some (x.f0, x.f1, x.f2, true)) (p2 : bobbinetkeep_exprOf.f k2 t = some (y.f0, y.f1, y.f2, true)) (q1 : bobbinetkeep_matches.f k3 x.f0 x.f1 x.f2 wd = some bq) (q2 : bobbinetkeep_matches.f k4 y.f0 y.f1 y.f2 wd = some bq)
    (gw : Nat) (Aw : Option Addr) (cw : Nat) (w : World) (hbw : w.heap[gw]? = some (.cells #[.slice Aw wd.length cw] 22 (0, 0))) (hc : wd.length ≤ cw) (hr : Kd.C (Kd.int .i64) w Aw wd.length wd) :
    Calls Try.prog 15 #[.string s, .string t, .pointer (some ⟨gw, 0, none⟩)] w fun e w' => e = .returned (.bool true) ∧ Below w.heap.size w w' := by
  have hu28 := Try.underlying28
  have P1 := Aside0.mk p1
  have P2 := Aside0.mk p2
  have Q1 := Aside0.mk q1
  have Q2 := Aside0.mk q2
  have HBW := Aside0.mk hbw
  have HC := Aside0.mk hc
  have HR := Aside0.mk hr
  clear p1 p2 q1 q2 hbw hc hr
  go_enter Try.func15, Try.ntmps15
  go_upto_region 3 with (first
    | (go_at_call 11; (with_reducible refine (bobbinetkeep_exprOf.calls k1 s _ _ _ _ _ P1.out).mono ?_); rintro e W1 ⟨v2, rfl, hv, hb⟩; obtain ⟨A2, c2, rfl⟩ := Kd.V_slice hv; have HX := Aside0.mk (Kd.V_reads' hv).2.2; have HXC := Aside0.mk (Kd.V_reads' hv).2.1; have H0 := Aside0.mk hb; clear hv hb)
    | (go_at_call 11; (with_reducible refine (bobbinetkeep_exprOf.calls k2 t _ _ _ _ _ P2.out).mono ?_); rintro e W4 ⟨v4, rfl, hv, hb⟩; obtain ⟨A4, c4, rfl⟩ := Kd.V_slice hv; have HY := Aside0.mk (Kd.V_reads' hv).2.2; have HYC := Aside0.mk (Kd.V_reads' hv).2.1; have m0 := Aside0.mk (expr_Parse.below3 H0.out GX0.out (.int .i64 x.f0) (.int .i64 x.f1) (.slice A2 x.f2.length c2)); have m1 := Aside0.mk (expr_Parse.below3 H1.out GX1.out (.int .i64 x.f0) (.int .i64 x.f1) (.slice A2 x.f2.length c2)); have BX4 := Aside0.mk (blk_below (expr_Parse.put3 BX.out (.int .i64 x.f0) (.int .i64 x.f1) (.slice A2 x.f2.length c2)) hb); have H04 := Aside0.mk (m0.out.trans (hb.mono m0.out.size)); have H14 := Aside0.mk (m1.out.trans (hb.mono m1.out.size)); clear hv hb m0 m1 hz0 hz1 hz2 hf0 hf1 hf2)
    | ((with_reducible refine gate_dst (N := 6) rfl ?_); refine box_event ?hg (N := 6) ?hd (cs := #[.int .i64 0, .int .i64 0, .slice none 0 0]) (t := 28) ?hr ?_; (case hd => rfl); (case hg => rfl); (case hr => first | (go_simp; done) | (go_simp; rfl)); intro gx hg W2 hbox hb; have BX := Aside0.mk hbox; have GX1 := Aside0.mk (Nat.le_of_eq hg.symm); have GX0 := Aside0.mk (show w.heap.size ≤ gx by rw [hg]; exact H0.out.size); have H0 := Aside0.mk (H0.out.trans (hb.mono H0.out.size)); have H1 := Aside0.mk hb; have hz0 : W2.cell? ⟨gx, 0, none⟩ = some (.int .i64 0) := (blk_cell BX.out 0).trans rfl; have hz1 : W2.cell? ⟨gx, 1, none⟩ = some (.int .i64 0) := (blk_cell BX.out 1).trans rfl; have hz2 : W2.cell? ⟨gx, 2, none⟩ = some (.slice none 0 0) := (blk_cell BX.out 2).trans rfl; have hf0 := blk_frozen BX.out 0; have hf1 := blk_frozen BX.out 1; have hf2 := blk_frozen BX.out 2; clear hb hbox hg)
    | ((with_reducible refine gate_dst (N := 8) rfl ?_); refine box_event ?hg (N := 8) ?hd (cs := #[.int .i64 0, .int .i64 0, .slice none 0 0]) (t := 28) ?hr ?_; (case hd => rfl); (case hg => rfl); (case hr => first | (go_simp; done) | (go_simp; rfl)); intro gy hg W5 hbox hb; have BY5 := Aside0.mk hbox; have GY2 := Aside0.mk (Nat.le_of_eq hg.symm); have GY1 := Aside0.mk (show W1.heap.size ≤ gy by rw [hg]; exact H14.out.size); have GY0 := Aside0.mk (show w.heap.size ≤ gy by rw [hg]; exact H04.out.size); have GN := Aside0.mk (show gx ≠ gy by rw [hg]; exact Nat.ne_of_lt (blk_lt BX4.out)); have H05 := Aside0.mk (H04.out.trans (hb.mono H04.out.size)); have H15 := Aside0.mk (H14.out.trans (hb.mono H14.out.size)); have H25 := Aside0.mk hb; have BX5 := Aside0.mk (blk_below BX4.out hb); have hz0 : W5.cell? ⟨gy, 0, none⟩ = some (.int .i64 0) := (blk_cell BY5.out 0).trans rfl; have hz1 : W5.cell? ⟨gy, 1, none⟩ = some (.int .i64 0) := (blk_cell BY5.out 1).trans rfl; have hz2 : W5.cell? ⟨gy, 2, none⟩ = some (.slice none 0 0) := (blk_cell BY5.out 2).trans rfl; have hf0 := blk_frozen BY5.out 0; have hf1 := blk_frozen BY5.out 1; have hf2 := blk_frozen BY5.out 2; clear hb hbox hg))
  refine Same.pack (fun W => Below w.heap.size w W ∧ Below W1.heap.size W1 W ∧ Below W4.heap.size W4 W ∧ W.heap[gx]? = some (.cells #[.int .i64 x.f0, .int .i64 x.f1, .slice A2 x.f2.length c2] 28 (0, 0)) ∧ W.heap[gy]? = some (.cells #[.int .i64 y.f0, .int .i64 y.f1, .slice A4 y.f2.length c4] 28 (0, 0))) ⟨expr_Parse.below3 H05.out GY0.out _ _ _, expr_Parse.below3 H15.out GY1.out _ _ _, expr_Parse.below3 H25.out GY2.out _ _ _, expr_Parse.far3b BX5.out GN.out _ _ _, expr_Parse.put3 BY5.out _ _ _⟩ ?_
  clear H0 H1 BX H04 H14 BX4 H05 H15 H25 BX5 BY5 GX0 GX1 GY0 GY1 GY2 GN hz0 hz1 hz2 hf0 hf1 hf2
  rintro W9 ⟨m0, m1, m2, m3, m4⟩
  have H0 := Aside0.mk m0
  have H1 := Aside0.mk m1
  have H2 := Aside0.mk m2
  have BX := Aside0.mk m3
  have BY := Aside0.mk m4
  clear m0 m1 m2 m3 m4
  refine start_ (n := 14) (S := fun w' => True) (ds := []) #[false, false, false, false, false, false, false, false, false, false, false, false, false, false] (by kernel_rfl) rfl rfl trivial (fun hHeld => ?_)
  refine with_tabW Same.rSame3.tab3 Same.rSame3.bits3 (fun HT_ HW_ => ?_)
  have H0 := Aside0.mk (below_drew1 H0.out)
  have H1 := Aside0.mk (below_drew1 H1.out)
  have H2 := Aside0.mk (below_drew1 H2.out)
  have BX := Aside0.mk (blk_drew BX.out)
  have BY := Aside0.mk (blk_drew BY.out)
  generalize World.drew W9 = W9 at H0 H1 H2 BX BY ⊢
  refine pure_ (i := 0) (N := some 20) (v := ?_) (a' := ?_) #[true, false, false, false, false, false, false, false, false, false, false, false, false, false] rfl rfl (any_of HT_.out (by kernel_rfl)) (fun _ _ _ h => h) (Or.inl ⟨by rfl, ?_⟩) ?_ ?_
  rotate_left
  · intro w'
    go_simp
    with_reducible rfl
  rotate_left
  · simp only [Act.put, List.setIfInBounds_toArray, List.set_cons_zero, List.set_cons_succ, i64_w, i32_w]
    rfl
  refine pure_ (i := 1) (N := some 21) (v := ?_) (a' := ?_) #[true, true, false, false, false, false, false, false, false, false, false, false, false, false] rfl rfl (any_of HT_.out (by kernel_rfl)) (fun _ _ _ h => h) (Or.inl ⟨by rfl, ?_⟩) ?_ ?_
  rotate_left
  · intro w'
    go_simp
    with_reducible rfl
  rotate_left
  · simp only [Act.put, List.setIfInBounds_toArray, List.set_cons_zero, List.set_cons_succ, i64_w, i32_w]
    rfl
  refine inv_at [2, 3, 4, 5, 6, 7, 8, 9, 10, 11, 12, 13] (fun a0_ b a w' => a = putSel a0_ b [(2, 22, .bool true), (3, 23, .bool true), (4, 24, .bool true), (5, 25, .agg #[.int .i64 x.f0, .int .i64 x.f1, .slice A2 x.f2.length c2]), (6, 26, .slice Aw wd.length cw), (7, 27, .bool bq), (8, 28, .agg #[.int .i64 y.f0, .int .i64 y.f1, .slice A4 y.f2.length c4]), (9, 29, .slice Aw wd.length cw), (10, 30, .bool bq), (11, 31, .bool true), (12, 32, .bool true), (13, 5, .bool true)] ∧ (Below w.heap.size w w') ∧ (Below W1.heap.size W1 w') ∧ (Below W4.heap.size W4 w') ∧ (w'.heap[gx]? = some (.cells #[.int .i64 x.f0, .int .i64 x.f1, .slice A2 x.f2.length c2] 28 (0, 0))) ∧ (w'.heap[gy]? = some (.cells #[.int .i64 y.f0, .int .i64 y.f1, .slice A4 y.f2.length c4] 28 (0, 0)))) HT_.out HW_.out (by kernel_rfl) (by kernel_rfl) ?_ ?_ ?_
  · exact ⟨by simp only [putSel, Bool.false_eq_true, if_false], H0.out, H1.out, H2.out, BX.out, BY.out⟩
  · skip
    clear BX BY H0 H1 H2
    refine steps_cons ?_ ?_
    · rintro b a w' ⟨ha, Q_H0, Q_H1, Q_H2, Q_BX, Q_BY⟩ hb_ hon hoff
      refine ⟨_, rfl, fun K hK => ?_⟩
      have e9 : a.tmps[9]? = some (.bool true) := by rw [ha]; exact (putSel_off rfl).trans rfl
      have e21 : a.tmps[21]? = some (.bool true) := by rw [ha]; exact (putSel_off rfl).trans rfl
      replace ha := Aside0.mk ha
      have H0 := Aside0.mk Q_H0
      have H1 := Aside0.mk Q_H1
      have H2 := Aside0.mk Q_H2
      have BX := Aside0.mk Q_BX
      have BY := Aside0.mk Q_BY
      refine value_ (w1 := w') (v := .bool true) (wanted_on rfl rfl rfl (e21.trans (by first | rfl | (simp [*]; done)))) rfl ?_ ?_
      · go_simp
        (try simp only [i64_w])
        try rfl
      refine hK.out _ _ ⟨(by rw [ha.out]; exact putSel_upk 0 hb_ rfl rfl rfl), Q_H0, Q_H1, Q_H2, Q_BX, Q_BY⟩
    refine steps_cons ?_ ?_
    · rintro b a w' ⟨ha, Q_H0, Q_H1, Q_H2, Q_BX, Q_BY⟩ hb_ hon hoff
      refine ⟨_, rfl, fun K hK => ?_⟩
      have e21 : a.tmps[21]? = some (.bool true) := by rw [ha]; exact (putSel_off rfl).trans rfl
      have e22 : a.tmps[22]? = some (.bool true) := by rw [ha]; exact putSel_on (e := (2, 22, .bool true)) 0 rfl rfl (hon 2 (by kernel_rfl)) rfl
      replace ha := Aside0.mk ha
      have H0 := Aside0.mk Q_H0
      have H1 := Aside0.mk Q_H1
      have H2 := Aside0.mk Q_H2
      have BX := Aside0.mk Q_BX
      have BY := Aside0.mk Q_BY
      refine value_ (w1 := w') (v := .bool true) (by rfl) rfl ?_ ?_
      · go_simp
        (try simp only [i64_w])
        try rfl
      refine hK.out _ _ ⟨(by rw [ha.out]; exact putSel_upk 1 hb_ rfl rfl rfl), Q_H0, Q_H1, Q_H2, Q_BX, Q_BY⟩
    refine steps_cons ?_ ?_
    · rintro b a w' ⟨ha, Q_H0, Q_H1, Q_H2, Q_BX, Q_BY⟩ hb_ hon hoff
      refine ⟨_, rfl, fun K hK => ?_⟩
      have e23 : a.tmps[23]? = some (.bool true) := by rw [ha]; exact putSel_on (e := (3, 23, .bool true)) 1 rfl rfl (hon 3 (by kernel_rfl)) rfl
      replace ha := Aside0.mk ha
      have H0 := Aside0.mk Q_H0
      have H1 := Aside0.mk Q_H1
      have H2 := Aside0.mk Q_H2
      have BX := Aside0.mk Q_BX
      have BY := Aside0.mk Q_BY
      refine value_ (w1 := w') (v := .bool true) (by rfl) rfl ?_ ?_
      · go_simp
        (try simp only [i64_w])
        try rfl
      refine hK.out _ _ ⟨(by rw [ha.out]; exact putSel_upk 2 hb_ rfl rfl rfl), Q_H0, Q_H1, Q_H2, Q_BX, Q_BY⟩
    refine steps_cons ?_ ?_
    · rintro b a w' ⟨ha, Q_H0, Q_H1, Q_H2, Q_BX, Q_BY⟩ hb_ hon hoff
      refine ⟨_, rfl, fun K hK => ?_⟩
      have e6 : a.tmps[6]? = some (.pointer (some ⟨gx, 0, none⟩)) := by rw [ha]; exact (putSel_off rfl).trans rfl
      have e24 : a.tmps[24]? = some (.bool true) := by rw [ha]; exact putSel_on (e := (4, 24, .bool true)) 2 rfl rfl (hon 4 (by kernel_rfl)) rfl
      replace ha := Aside0.mk ha
      have H0 := Aside0.mk Q_H0
      have H1 := Aside0.mk Q_H1
      have H2 := Aside0.mk Q_H2
      have BX := Aside0.mk Q_BX
      have BY := Aside0.mk Q_BY
      have hc0_ := blk_cell BX.out 0
      have hc1_ := blk_cell BX.out 1
      have hc2_ := blk_cell BX.out 2
      simp only [List.getElem?_toArray, List.getElem?_cons_zero, List.getElem?_cons_succ] at hc0_ hc1_ hc2_
      refine value_ (w1 := w') (v := .agg #[.int .i64 x.f0, .int .i64 x.f1, .slice A2 x.f2.length c2]) (wanted_on rfl rfl rfl (e24.trans (by first | rfl | (simp [*]; done)))) rfl ?_ ?_
      · go_simp
        (try simp only [i64_w])
        try rfl
      refine hK.out _ _ ⟨(by rw [ha.out]; exact putSel_upk 3 hb_ rfl rfl rfl), Q_H0, Q_H1, Q_H2, Q_BX, Q_BY⟩
    refine steps_cons ?_ ?_
    · rintro b a w' ⟨ha, Q_H0, Q_H1, Q_H2, Q_BX, Q_BY⟩ hb_ hon hoff
      refine ⟨_, rfl, fun K hK => ?_⟩
      have e2 : a.tmps[2]? = some (.pointer (some ⟨gw, 0, none⟩)) := by rw [ha]; exact (putSel_off rfl).trans rfl
      have e24 : a.tmps[24]? = some (.bool true) := by rw [ha]; exact putSel_on (e := (4, 24, .bool true)) 2 rfl rfl (hon 4 (by kernel_rfl)) rfl
      replace ha := Aside0.mk ha
      have H0 := Aside0.mk Q_H0
      have H1 := Aside0.mk Q_H1
      have H2 := Aside0.mk Q_H2
      have BX := Aside0.mk Q_BX
      have BY := Aside0.mk Q_BY
      have hw_ := blk_cell ((H0.out.block gw (blk_lt HBW.out)).trans HBW.out) 0
      simp only [List.getElem?_toArray, List.getElem?_cons_zero] at hw_
      refine value_ (w1 := w') (v := .slice Aw wd.length cw) (wanted_on rfl rfl rfl (e24.trans (by first | rfl | (simp [*]; done)))) rfl ?_ ?_
      · go_simp
        (try simp only [i64_w])
        try rfl
      refine hK.out _ _ ⟨(by rw [ha.out]; exact putSel_upk 4 hb_ rfl rfl rfl), Q_H0, Q_H1, Q_H2, Q_BX, Q_BY⟩
    refine steps_cons ?_ ?_
    · rintro b a w' ⟨ha, Q_H0, Q_H1, Q_H2, Q_BX, Q_BY⟩ hb_ hon hoff
      refine ⟨_, rfl, fun K hK => ?_⟩
      have e25 : a.tmps[25]? = some (.agg #[.int .i64 x.f0, .int .i64 x.f1, .slice A2 x.f2.length c2]) := by rw [ha]; exact putSel_on (e := (5, 25, .agg #[.int .i64 x.f0, .int .i64 x.f1, .slice A2 x.f2.length c2])) 3 rfl rfl (hon 5 (by kernel_rfl)) rfl
      have e26 : a.tmps[26]? = some (.slice Aw wd.length cw) := by rw [ha]; exact putSel_on (e := (6, 26, .slice Aw wd.length cw)) 4 rfl rfl (hon 6 (by kernel_rfl)) rfl
      have e24 : a.tmps[24]? = some (.bool true) := by rw [ha]; exact putSel_on (e := (4, 24, .bool true)) 2 rfl rfl (hon 4 (by kernel_rfl)) rfl
      replace ha := Aside0.mk ha
      have H0 := Aside0.mk Q_H0
      have H1 := Aside0.mk Q_H1
      have H2 := Aside0.mk Q_H2
      have BX := Aside0.mk Q_BX
      have BY := Aside0.mk Q_BY
      refine goes_ Try.func16 (by kernel_rfl) rfl #[.agg #[.int .i64 x.f0, .int .i64 x.f1, .slice A2 x.f2.length c2], .slice Aw wd.length cw] (wanted_on rfl rfl rfl e24) rfl rfl (by first | (simp only [List.map_toArray, List.map_cons, List.map_nil, Act.eval, Array.getD_eq_getD_getElem?, Option.getD_some, e25, e26, e24]; done) | (simp only [List.map_toArray, List.map_cons, List.map_nil, Act.eval, Array.getD_eq_getD_getElem?, Option.getD_some, e25, e26, e24]; rfl)) ?_
      with_reducible refine (bobbinetkeep_matches.calls _ _ _ _ _ _ _ _ _ _ _ (Kd.C_below HX.out H1.out) HXC.out (Kd.C_below HR.out H0.out) HC.out Q1.out).mono ?_
      rintro e w3 ⟨rfl, hbl_⟩
      refine ⟨_, rfl, ?_⟩
      refine hK.out _ _ ⟨(by rw [ha.out]; exact putSel_upk 5 hb_ rfl rfl rfl), H0.out.trans (hbl_.mono H0.out.size), H1.out.trans (hbl_.mono H1.out.size), H2.out.trans (hbl_.mono H2.out.size), blk_below BX.out hbl_, blk_below BY.out hbl_⟩
    refine steps_cons ?_ ?_
    · rintro b a w' ⟨ha, Q_H0, Q_H1, Q_H2, Q_BX, Q_BY⟩ hb_ hon hoff
      refine ⟨_, rfl, fun K hK => ?_⟩
      have e8 : a.tmps[8]? = some (.pointer (some ⟨gy, 0, none⟩)) := by rw [ha]; exact (putSel_off rfl).trans rfl
      have e24 : a.tmps[24]? = some (.bool true) := by rw [ha]; exact putSel_on (e := (4, 24, .bool true)) 2 rfl rfl (hon 4 (by kernel_rfl)) rfl
      replace ha := Aside0.mk ha
      have H0 := Aside0.mk Q_H0
      have H1 := Aside0.mk Q_H1
      have H2 := Aside0.mk Q_H2
      have BX := Aside0.mk Q_BX
      have BY := Aside0.mk Q_BY
      have hc0_ := blk_cell BY.out 0
      have hc1_ := blk_cell BY.out 1
      have hc2_ := blk_cell BY.out 2
      simp only [List.getElem?_toArray, List.getElem?_cons_zero, List.getElem?_cons_succ] at hc0_ hc1_ hc2_
      refine value_ (w1 := w') (v := .agg #[.int .i64 y.f0, .int .i64 y.f1, .slice A4 y.f2.length c4]) (wanted_on rfl rfl rfl (e24.trans (by first | rfl | (simp [*]; done)))) rfl ?_ ?_
      · go_simp
        (try simp only [i64_w])
        try rfl
      refine hK.out _ _ ⟨(by rw [ha.out]; exact putSel_upk 6 hb_ rfl rfl rfl), Q_H0, Q_H1, Q_H2, Q_BX, Q_BY⟩
    refine steps_cons ?_ ?_
    · rintro b a w' ⟨ha, Q_H0, Q_H1, Q_H2, Q_BX, Q_BY⟩ hb_ hon hoff
      refine ⟨_, rfl, fun K hK => ?_⟩
      have e2 : a.tmps[2]? = some (.pointer (some ⟨gw, 0, none⟩)) := by rw [ha]; exact (putSel_off rfl).trans rfl
      have e24 : a.tmps[24]? = some (.bool true) := by rw [ha]; exact putSel_on (e := (4, 24, .bool true)) 2 rfl rfl (hon 4 (by kernel_rfl)) rfl
      replace ha := Aside0.mk ha
      have H0 := Aside0.mk Q_H0
      have H1 := Aside0.mk Q_H1
      have H2 := Aside0.mk Q_H2
      have BX := Aside0.mk Q_BX
      have BY := Aside0.mk Q_BY
      have hw_ := blk_cell ((H0.out.block gw (blk_lt HBW.out)).trans HBW.out) 0
      simp only [List.getElem?_toArray, List.getElem?_cons_zero] at hw_
      refine value_ (w1 := w') (v := .slice Aw wd.length cw) (wanted_on rfl rfl rfl (e24.trans (by first | rfl | (simp [*]; done)))) rfl ?_ ?_
      · go_simp
        (try simp only [i64_w])
        try rfl
      refine hK.out _ _ ⟨(by rw [ha.out]; exact putSel_upk 7 hb_ rfl rfl rfl), Q_H0, Q_H1, Q_H2, Q_BX, Q_BY⟩
    refine steps_cons ?_ ?_
    · rintro b a w' ⟨ha, Q_H0, Q_H1, Q_H2, Q_BX, Q_BY⟩ hb_ hon hoff
      refine ⟨_, rfl, fun K hK => ?_⟩
      have e28 : a.tmps[28]? = some (.agg #[.int .i64 y.f0, .int .i64 y.f1, .slice A4 y.f2.length c4]) := by rw [ha]; exact putSel_on (e := (8, 28, .agg #[.int .i64 y.f0, .int .i64 y.f1, .slice A4 y.f2.length c4])) 6 rfl rfl (hon 8 (by kernel_rfl)) rfl
      have e29 : a.tmps[29]? = some (.slice Aw wd.length cw) := by rw [ha]; exact putSel_on (e := (9, 29, .slice Aw wd.length cw)) 7 rfl rfl (hon 9 (by kernel_rfl)) rfl
      have e24 : a.tmps[24]? = some (.bool true) := by rw [ha]; exact putSel_on (e := (4, 24, .bool true)) 2 rfl rfl (hon 4 (by kernel_rfl)) rfl
      replace ha := Aside0.mk ha
      have H0 := Aside0.mk Q_H0
      have H1 := Aside0.mk Q_H1
      have H2 := Aside0.mk Q_H2
      have BX := Aside0.mk Q_BX
      have BY := Aside0.mk Q_BY
      refine goes_ Try.func16 (by kernel_rfl) rfl #[.agg #[.int .i64 y.f0, .int .i64 y.f1, .slice A4 y.f2.length c4], .slice Aw wd.length cw] (wanted_on rfl rfl rfl e24) rfl rfl (by first | (simp only [List.map_toArray, List.map_cons, List.map_nil, Act.eval, Array.getD_eq_getD_getElem?, Option.getD_some, e28, e29, e24]; done) | (simp only [List.map_toArray, List.map_cons, List.map_nil, Act.eval, Array.getD_eq_getD_getElem?, Option.getD_some, e28, e29, e24]; rfl)) ?_
      with_reducible refine (bobbinetkeep_matches.calls _ _ _ _ _ _ _ _ _ _ _ (Kd.C_below HY.out H2.out) HYC.out (Kd.C_below HR.out H0.out) HC.out Q2.out).mono ?_
      rintro e w3 ⟨rfl, hbl_⟩
      refine ⟨_, rfl, ?_⟩
      refine hK.out _ _ ⟨(by rw [ha.out]; exact putSel_upk 8 hb_ rfl rfl rfl), H0.out.trans (hbl_.mono H0.out.size), H1.out.trans (hbl_.mono H1.out.size), H2.out.trans (hbl_.mono H2.out.size), blk_below BX.out hbl_, blk_below BY.out hbl_⟩
    refine steps_cons ?_ ?_
    · rintro b a w' ⟨ha, Q_H0, Q_H1, Q_H2, Q_BX, Q_BY⟩ hb_ hon hoff
      refine ⟨_, rfl, fun K hK => ?_⟩
      have e27 : a.tmps[27]? = some (.bool bq) := by rw [ha]; exact putSel_on (e := (7, 27, .bool bq)) 5 rfl rfl (hon 7 (by kernel_rfl)) rfl
      have e30 : a.tmps[30]? = some (.bool bq) := by rw [ha]; exact putSel_on (e := (10, 30, .bool bq)) 8 rfl rfl (hon 10 (by kernel_rfl)) rfl
      have e24 : a.tmps[24]? = some (.bool true) := by rw [ha]; exact putSel_on (e := (4, 24, .bool true)) 2 rfl rfl (hon 4 (by kernel_rfl)) rfl
      replace ha := Aside0.mk ha
      have H0 := Aside0.mk Q_H0
      have H1 := Aside0.mk Q_H1
      have H2 := Aside0.mk Q_H2
      have BX := Aside0.mk Q_BX
      have BY := Aside0.mk Q_BY
      refine value_ (w1 := w') (v := .bool true) (wanted_on rfl rfl rfl (e24.trans (by first | rfl | (simp [*]; done)))) rfl ?_ ?_
      · go_simp
        (try simp only [i64_w])
        try rfl
      refine hK.out _ _ ⟨(by rw [ha.out]; exact putSel_upk 9 hb_ rfl rfl rfl), Q_H0, Q_H1, Q_H2, Q_BX, Q_BY⟩
    refine steps_cons ?_ ?_
    · rintro b a w' ⟨ha, Q_H0, Q_H1, Q_H2, Q_BX, Q_BY⟩ hb_ hon hoff
      refine ⟨_, rfl, fun K hK => ?_⟩
      have e24 : a.tmps[24]? = some (.bool true) := by rw [ha]; exact putSel_on (e := (4, 24, .bool true)) 2 rfl rfl (hon 4 (by kernel_rfl)) rfl
      have e31 : a.tmps[31]? = some (.bool true) := by rw [ha]; exact putSel_on (e := (11, 31, .bool true)) 9 rfl rfl (hon 11 (by kernel_rfl)) rfl
      replace ha := Aside0.mk ha
      have H0 := Aside0.mk Q_H0
      have H1 := Aside0.mk Q_H1
      have H2 := Aside0.mk Q_H2
      have BX := Aside0.mk Q_BX
      have BY := Aside0.mk Q_BY
      refine value_ (w1 := w') (v := .bool true) (by rfl) rfl ?_ ?_
      · go_simp
        (try simp only [i64_w])
        try rfl
      refine hK.out _ _ ⟨(by rw [ha.out]; exact putSel_upk 10 hb_ rfl rfl rfl), Q_H0, Q_H1, Q_H2, Q_BX, Q_BY⟩
    refine steps_cons ?_ ?_
    · rintro b a w' ⟨ha, Q_H0, Q_H1, Q_H2, Q_BX, Q_BY⟩ hb_ hon hoff
      refine ⟨_, rfl, fun K hK => ?_⟩
      have e32 : a.tmps[32]? = some (.bool true) := by rw [ha]; exact putSel_on (e := (12, 32, .bool true)) 10 rfl rfl (hon 12 (by kernel_rfl)) rfl
      replace ha := Aside0.mk ha
      have H0 := Aside0.mk Q_H0
      have H1 := Aside0.mk Q_H1
      have H2 := Aside0.mk Q_H2
      have BX := Aside0.mk Q_BX
      have BY := Aside0.mk Q_BY
      refine value_ (w1 := w') (v := .bool true) (by rfl) rfl ?_ ?_
      · go_simp
        (try simp only [i64_w])
        try rfl
      refine hK.out _ _ ⟨(by rw [ha.out]; exact putSel_upk 11 hb_ rfl rfl rfl), Q_H0, Q_H1, Q_H2, Q_BX, Q_BY⟩
    exact steps_nil
  · rintro b a w' hall ⟨ha, Q_H0, Q_H1, Q_H2, Q_BX, Q_BY⟩
    clear BX BY H0 H1 H2
    have hb2_ := hall 2 (by kernel_rfl)
    have hb3_ := hall 3 (by kernel_rfl)
    have hb4_ := hall 4 (by kernel_rfl)
    have hb5_ := hall 5 (by kernel_rfl)
    have hb6_ := hall 6 (by kernel_rfl)
    have hb7_ := hall 7 (by kernel_rfl)
    have hb8_ := hall 8 (by kernel_rfl)
    have hb9_ := hall 9 (by kernel_rfl)
    have hb10_ := hall 10 (by kernel_rfl)
    have hb11_ := hall 11 (by kernel_rfl)
    have hb12_ := hall 12 (by kernel_rfl)
    have hb13_ := hall 13 (by kernel_rfl)
    subst ha
    simp only [putSel, hb2_, hb3_, hb4_, hb5_, hb6_, hb7_, hb8_, hb9_, hb10_, hb11_, hb12_, hb13_, if_true, Act.put, List.setIfInBounds_toArray, List.set_cons_zero, List.set_cons_succ]
    have H0 := Aside0.mk Q_H0
    clear Q_H0
    have H1 := Aside0.mk Q_H1
    clear Q_H1
    have H2 := Aside0.mk Q_H2
    clear Q_H2
    have BX := Aside0.mk Q_BX
    clear Q_BX
    have BY := Aside0.mk Q_BY
    clear Q_BY
    clear hall hb2_ hb3_ hb4_ hb5_ hb6_ hb7_ hb8_ hb9_ hb10_ hb11_ hb12_ hb13_
    go_wp2
    go_ret
    exact ⟨rfl, H0.out⟩
end Go.Proofs.Ytjmhihadgpdiaaa.Expr
end
section
namespace Go.Proofs.Ytjmhihadgpdiaaa.Expr
open Go.RowKit Go.Proofs.Ytjmhihadgpdiaaa.X Go.Proofs.YtjmhihadgpdiaaaW.PrintWords Go.Proofs.YtjmhihadgpdiaaaW.PrintLast Go.Proofs.YtjmhihadgpdiaaaW.PrintMore Go.Proofs.Ytjmhihadgpdiaaa.Base
set_option linter.unusedVariables false
set_option linter.unusedSimpArgs false
/-- two texts' expressions match a word alike -/
def SameOk (s t : ByteArray) (wd : W) : Prop := ∃ (x y : S) (bq : Bool) (k1 k2 k3 k4 : Nat), bobbinetkeep_exprOf.f k1 s = some (x.f0, x.f1, x.f2, true) ∧ bobbinetkeep_exprOf.f k2 t = some (y.f0, y.f1, y.f2, true) ∧ bobbinetkeep_matches.f k3 x.f0 x.f1 x.f2 wd = some bq ∧ bobbinetkeep_matches.f k4 y.f0 y.f1 y.f2 wd = some bq
theorem Same.ok {s t : ByteArray} {wd : W} (h : SameOk s t wd) {gw : Nat} {Aw : Option Addr} {cw : Nat} {wb w : World} (hbw : wb.heap[gw]? = some (.cells #[.slice Aw wd.length cw] 22 (0, 0))) (hc : wd.length ≤ cw) (hr : Kd.C (Kd.int .i64) wb Aw wd.length wd) (hB : Below wb.heap.size wb w) :
    Calls Try.prog 15 #[.string s, .string t, .pointer (some ⟨gw, 0, none⟩)] w fun e w' => e = .returned (.bool true) ∧ Below w.heap.size w w' := by
  obtain ⟨x, y, bq, k1, k2, k3, k4, p1, p2, q1, q2⟩ := h
  exact Same.calls s t x y wd bq k1 k2 k3 k4 p1 p2 q1 q2 gw Aw cw w (blk_below hbw hB) hc (Kd.C_below hr hB)
theorem Alg.lit2 (w : World) : Kd.C (Kd.int .i64) (w.alloc (.cells #[.int .i64 0, .int .i64 0] 3)) (some ⟨w.heap.size, 0, none⟩) ([0, 0] : List Int).length [0, 0] := by
  refine ⟨rfl, by simp, fun _ => ⟨⟨w.heap.size, 0, none⟩, rfl, fun j p hj => ?_⟩⟩
  have hb := blk_new w (.cells #[.int .i64 0, .int .i64 0] 3)
  have hp : p = 0 ∧ j < 2 := by
    match j, hj with
    | 0, hj => exact ⟨by simpa using hj.symm, by omega⟩
    | 1, hj => exact ⟨by simpa using hj.symm, by omega⟩
    | j + 2, hj => simp at hj
  obtain ⟨rfl, hj2⟩ := hp
  refine ⟨[.int .i64 0], rfl, rfl, fun i u hi => ?_⟩
  cases i with
  | succ i => simp at hi
  | zero =>
    obtain rfl : Value.int .i64 0 = u := by simpa using hi
    have e : (⟨w.heap.size, 0, none⟩ : Addr).add (j * 1 + 0) = ⟨w.heap.size, j, none⟩ := by simp [Addr.add]; omega
    show (w.alloc _).cell? ((⟨w.heap.size, 0, none⟩ : Addr).add (j * 1 + 0)) = _
    rw [e, blk_cell hb j]
    obtain rfl | rfl : j = 0 ∨ j = 1 := by omega
    all_goals rfl
set_option maxHeartbeats 8000000 in
set_option maxRecDepth 100000 in
theorem Alg.calls (sa sb sc : ByteArray) (ra rb rc : List Int) (wd : W) (ka kb kc kw ko km : Nat)
    (A0 : Option Addr) (c0 : Nat) (l0 : List Int) (A1 : Option Addr) (c1 : Nat) (l1 : List Int) (A2 : Option Addr) (c2 : Nat) (l2 : List Int) (A3 : Option Addr) (c3 : Nat) (l3 : List Int) (w : World)
    (hr0 : Kd.C (Kd.int .i64) w A0 l0.length l0) (hc0 : l0.length ≤ c0) (hr1 : Kd.C (Kd.int .i64) w A1 l1.length l1) (hc1 : l1.length ≤ c1) (hr2 : Kd.C (Kd.int .i64) w A2 l2.length l2) (hc2 : l2.length ≤ c2) (hr3 : Kd.C (Kd.int .i64) w A3 l3.length l3) (hc3 : l3.length ≤ c3)
    (ta : bobbinetkeep_ExprText.f ka l0 2 = some (sa, ra)) (tb : bobbinetkeep_ExprText.f kb l1 2 = some (sb, rb)) (tc : bobbinetkeep_ExprText.f kc l2 2 = some (sc, rc)) (tw : bobbinetkeep_WordOf.f kw l3 10 = some wd)
    (po : bobbinetkeep_exprOf.f ko (⟨#[97, 42]⟩ : ByteArray) = some (4, 0, [(⟨1, 0, []⟩ : S)], true)) (pm : bobbinetkeep_matches.f km 4 0 [(⟨1, 0, []⟩ : S)] [0, 0] = some true)
    (za : sa.size ≤ 8) (zb : sb.size ≤ 8) (zc : sc.size ≤ 8)
    (same : ∀ a b c : ByteArray, a = (⟨#[40]⟩ : ByteArray) ++ sa ++ (⟨#[41]⟩ : ByteArray) → b = (⟨#[40]⟩ : ByteArray) ++ sb ++ (⟨#[41]⟩ : ByteArray) → c = (⟨#[40]⟩ : ByteArray) ++ sc ++ (⟨#[41]⟩ : ByteArray) → sa.size ≤ 7 → sb.size ≤ 7 → sc.size ≤ 7 →
      SameOk (a ++ (⟨#[124]⟩ : ByteArray) ++ b) (b ++ (⟨#[124]⟩ : ByteArray) ++ a) wd ∧
      SameOk (a ++ (⟨#[40]⟩ : ByteArray) ++ b ++ (⟨#[124]⟩ : ByteArray) ++ c ++ (⟨#[41]⟩ : ByteArray)) (a ++ b ++ (⟨#[124]⟩ : ByteArray) ++ a ++ c) wd ∧
      SameOk (a ++ (⟨#[42]⟩ : ByteArray)) ((⟨#[124]⟩ : ByteArray) ++ a ++ a ++ (⟨#[42]⟩ : ByteArray)) wd ∧
      SameOk (a ++ (⟨#[43]⟩ : ByteArray)) (a ++ a ++ (⟨#[42]⟩ : ByteArray)) wd ∧
      SameOk (a ++ (⟨#[63]⟩ : ByteArray)) (a ++ (⟨#[124]⟩ : ByteArray)) wd ∧
      SameOk ((⟨#[40]⟩ : ByteArray) ++ a ++ (⟨#[124]⟩ : ByteArray) ++ b ++ (⟨#[41, 42]⟩ : ByteArray)) ((⟨#[40]⟩ : ByteArray) ++ a ++ (⟨#[42]⟩ : ByteArray) ++ b ++ (⟨#[41, 42]⟩ : ByteArray) ++ a ++ (⟨#[42]⟩ : ByteArray)) wd) :
    Calls Try.prog 4 #[.slice A0 l0.length c0, .slice A1 l1.length c1, .slice A2 l2.length c2, .slice A3 l3.length c3] w fun e w' => e = .returned (.bool true) ∧ Below w.heap.size w w' := by
  have hu28 := Try.underlying28
  have HR0 := Aside0.mk hr0
  have HR1 := Aside0.mk hr1
  have HR2 := Aside0.mk hr2
  have HR3 := Aside0.mk hr3
  have HC0 := Aside0.mk hc0
  have HC1 := Aside0.mk hc1
  have HC2 := Aside0.mk hc2
  have HC3 := Aside0.mk hc3
  have TA := Aside0.mk ta
  have TB := Aside0.mk tb
  have TC := Aside0.mk tc
  have TW := Aside0.mk tw
  have PO := Aside0.mk po
  have PM := Aside0.mk pm
  have SAME := Aside0.mk same
  have ZA := Aside0.mk za
  have ZB := Aside0.mk zb
  have ZC := Aside0.mk zc
  have HB := Aside0.mk (Below.refl w.heap.size w)
  clear hr0 hr1 hr2 hr3 hc0 hc1 hc2 hc3 ta tb tc tw po pm same za zb zc
  go_enter Try.func4, Try.ntmps4
  go_upto_region 4 with (first
    | (go_at_call 9; (with_reducible refine (bobbinetkeep_ExprText.calls ka (fun k_ => k_ < w.heap.size) A0 c0 l0 2 sa ra _ (Kd.V_mk HC0.out (Kd.F_below (Kd.C_F (Kd.heap_int .i64) HR0.out) HB.out)) TA.out).mono ?_); rintro e W1 ⟨va, rfl, hv, hb⟩; have HB := Aside0.mk (HB.out.trans (hb.mono HB.out.size)); clear hv hb)
    | (go_at_call 9; (with_reducible refine (bobbinetkeep_ExprText.calls kb (fun k_ => k_ < w.heap.size) A1 c1 l1 2 sb rb _ (Kd.V_mk HC1.out (Kd.F_below (Kd.C_F (Kd.heap_int .i64) HR1.out) HB.out)) TB.out).mono ?_); rintro e W2 ⟨vb, rfl, hv, hb⟩; have HB := Aside0.mk (HB.out.trans (hb.mono HB.out.size)); clear hv hb)
    | (go_at_call 9; (with_reducible refine (bobbinetkeep_ExprText.calls kc (fun k_ => k_ < w.heap.size) A2 c2 l2 2 sc rc _ (Kd.V_mk HC2.out (Kd.F_below (Kd.C_F (Kd.heap_int .i64) HR2.out) HB.out)) TC.out).mono ?_); rintro e W3 ⟨vc, rfl, hv, hb⟩; have HB := Aside0.mk (HB.out.trans (hb.mono HB.out.size)); clear hv hb))
  refine Same.pack (fun W => Below w.heap.size w W) HB.out ?_
  clear HB
  rintro W3 hb3
  have HB := Aside0.mk hb3
  clear hb3
  by_cases d1 : sa.size ≤ 7
  case neg =>
    have e1 : decide (7 < (sa.size : Int)) = true := decide_eq_true (by omega)
    have e2 : decide (7 < sa.size) = true := decide_eq_true (by omega)
    clear d1
    go_wp2
    go_ret
    exact ⟨rfl, HB.out⟩
  have e1 : decide (7 < (sa.size : Int)) = false := decide_eq_false (by omega)
  have e2 : decide (7 < sa.size) = false := decide_eq_false (by omega)
  have D1 := Aside0.mk d1
  clear d1
  by_cases d2 : sb.size ≤ 7
  case neg =>
    have e3 : decide (7 < (sb.size : Int)) = true := decide_eq_true (by omega)
    have e4 : decide (7 < sb.size) = true := decide_eq_true (by omega)
    clear d2
    go_wp2
    go_ret
    exact ⟨rfl, HB.out⟩
  have e3 : decide (7 < (sb.size : Int)) = false := decide_eq_false (by omega)
  have e4 : decide (7 < sb.size) = false := decide_eq_false (by omega)
  have D2 := Aside0.mk d2
  clear d2
  by_cases d3 : sc.size ≤ 7
  case neg =>
    have e5 : decide (7 < (sc.size : Int)) = true := decide_eq_true (by omega)
    have e6 : decide (7 < sc.size) = true := decide_eq_true (by omega)
    clear d3
    go_wp2
    go_ret
    exact ⟨rfl, HB.out⟩
  have e5 : decide (7 < (sc.size : Int)) = false := decide_eq_false (by omega)
  have e6 : decide (7 < sc.size) = false := decide_eq_false (by omega)
  have D3 := Aside0.mk d3
  clear d3
  go_upto_region 7 with (first
    | (go_at_call 14; (with_reducible refine (bobbinetkeep_WordOf.calls kw A3 c3 l3 10 wd _ (Kd.C_below HR3.out HB.out) HC3.out TW.out).mono ?_); rintro e W4 ⟨vw, rfl, hv, hb⟩; have HB := Aside0.mk (HB.out.trans (hb.mono HB.out.size)); obtain ⟨Aw, cw, rfl, hcw, hrw⟩ := Kd.R_reads hv; have HCW := Aside0.mk hcw; have HRW := Aside0.mk hrw; clear hv hb hcw hrw)
    | ((with_reducible refine gate_dst (N := 15) rfl ?_); refine box_event ?hg (N := 15) ?hd (cs := #[.slice none 0 0]) (t := 22) ?hr ?_; (case hd => rfl); (case hg => rfl); (case hr => first | (go_simp; done) | (go_simp; rfl)); intro gw hg W5 hbox hb; have BW := Aside0.mk hbox; have GW := Aside0.mk (Nat.le_of_eq hg.symm); have HRW5 := Aside0.mk (Kd.C_below HRW.out hb); have GW0 := Aside0.mk (show w.heap.size ≤ gw by rw [hg]; exact HB.out.size); have HB := Aside0.mk (HB.out.trans (hb.mono HB.out.size)); have H4 := Aside0.mk hb; have hz0 : W5.cell? ⟨gw, 0, none⟩ = some (.slice none 0 0) := (blk_cell BW.out 0).trans rfl; have hf0 := blk_frozen BW.out 0; clear hb hbox hg))
  refine Same.pack (fun W => W.heap[gw]? = some (.cells #[.slice Aw wd.length cw] 22 (0, 0)) ∧ Kd.C (Kd.int .i64) W Aw wd.length wd ∧ Below w.heap.size w W) ⟨blk_put (cs := #[.slice none 0 0]) BW.out 0 _ rfl, Kd.C_below HRW.out (H4.out.setCell GW.out _), HB.out.setCell GW0.out _⟩ ?_
  clear HB BW GW HRW5 GW0 H4 hz0 hf0 HRW
  rintro Wb ⟨m0, m1, m2⟩
  have BW := Aside0.mk m0
  have HRW := Aside0.mk m1
  have HB0 := Aside0.mk m2
  have HB := Aside0.mk (Below.refl Wb.heap.size Wb)
  clear m0 m1 m2
  obtain ⟨ca, hca⟩ : ∃ ca : ByteArray, ca = (⟨#[40]⟩ : ByteArray) ++ sa ++ (⟨#[41]⟩ : ByteArray) := ⟨_, rfl⟩
  obtain ⟨cb, hcb⟩ : ∃ cb : ByteArray, cb = (⟨#[40]⟩ : ByteArray) ++ sb ++ (⟨#[41]⟩ : ByteArray) := ⟨_, rfl⟩
  obtain ⟨cc, hcc⟩ : ∃ cc : ByteArray, cc = (⟨#[40]⟩ : ByteArray) ++ sc ++ (⟨#[41]⟩ : ByteArray) := ⟨_, rfl⟩
  have HS := Aside0.mk (SAME.out ca cb cc hca hcb hcc D1.out D2.out D3.out)
  have na : ca.size ≤ 9 := by have := D1.out; rw [hca, ByteArray.size_append, ByteArray.size_append, show (⟨#[40]⟩ : ByteArray).size = 1 from rfl, show (⟨#[41]⟩ : ByteArray).size = 1 from rfl]; omega
  have nb : cb.size ≤ 9 := by have := D2.out; rw [hcb, ByteArray.size_append, ByteArray.size_append, show (⟨#[40]⟩ : ByteArray).size = 1 from rfl, show (⟨#[41]⟩ : ByteArray).size = 1 from rfl]; omega
  have nc : cc.size ≤ 9 := by have := D3.out; rw [hcc, ByteArray.size_append, ByteArray.size_append, show (⟨#[40]⟩ : ByteArray).size = 1 from rfl, show (⟨#[41]⟩ : ByteArray).size = 1 from rfl]; omega
  have HCA := Aside0.mk hca
  have HCB := Aside0.mk hcb
  have HCCC := Aside0.mk hcc
  have NA := Aside0.mk na
  have NB := Aside0.mk nb
  have NC := Aside0.mk nc
  clear hca hcb hcc na nb nc
  have z1 := D1.out
  have z2 := D2.out
  have z3 := D3.out
  go_upto_region 11 with (fail)
  rw [← HCA.out, ← HCB.out, ← HCCC.out]
  clear z1 z2 z3
  go_upto_region 12 with (first
    | (go_at_call 11; (with_reducible refine (bobbinetkeep_exprOf.calls ko (⟨#[97, 42]⟩ : ByteArray) _ _ _ _ _ PO.out).mono ?_); rintro e W6 ⟨v6, rfl, hv, hb⟩; obtain ⟨Ax, cx, rfl⟩ := Kd.V_slice hv; have HX := Aside0.mk (Kd.V_reads' hv).2.2; have HXC := Aside0.mk (Kd.V_reads' hv).2.1; have HB := Aside0.mk (HB.out.trans (hb.mono HB.out.size)); clear hv hb)
    | ((with_reducible refine gate_dst (N := 17) rfl ?_); refine box_event ?hg (N := 17) ?hd (cs := #[.int .i64 0, .int .i64 0, .slice none 0 0]) (t := 28) ?hr ?_; (case hd => rfl); (case hg => rfl); (case hr => first | (go_simp; done) | (go_simp; rfl)); intro gx hg W7 hbox hb; have BX := Aside0.mk hbox; have GX1 := Aside0.mk (Nat.le_of_eq hg.symm); have GX0 := Aside0.mk (show Wb.heap.size ≤ gx by rw [hg]; exact HB.out.size); have HB := Aside0.mk (HB.out.trans (hb.mono HB.out.size)); have H6 := Aside0.mk hb; have hz0 : W7.cell? ⟨gx, 0, none⟩ = some (.int .i64 0) := (blk_cell BX.out 0).trans rfl; have hz1 : W7.cell? ⟨gx, 1, none⟩ = some (.int .i64 0) := (blk_cell BX.out 1).trans rfl; have hz2 : W7.cell? ⟨gx, 2, none⟩ = some (.slice none 0 0) := (blk_cell BX.out 2).trans rfl; have hf0 := blk_frozen BX.out 0; have hf1 := blk_frozen BX.out 1; have hf2 := blk_frozen BX.out 2; clear hb hbox hg))
  refine Same.pack (fun W => W.heap[gx]? = some (.cells #[.int .i64 4, .int .i64 0, .slice Ax ([(⟨1, 0, []⟩ : S)] : List S).length cx] 28 (0, 0)) ∧ Kd.C k28 W Ax ([(⟨1, 0, []⟩ : S)] : List S).length [(⟨1, 0, []⟩ : S)] ∧ Below Wb.heap.size Wb W) ⟨expr_Parse.put3 BX.out _ _ _, Kd.C_below HX.out (expr_Parse.below3 H6.out GX1.out _ _ _), expr_Parse.below3 HB.out GX0.out _ _ _⟩ ?_
  clear HB BX GX1 GX0 H6 hz0 hz1 hz2 hf0 hf1 hf2 HX
  rintro Wc ⟨m0, m1, m2⟩
  have BX := Aside0.mk m0
  have HX := Aside0.mk m1
  have HB := Aside0.mk m2
  have hz0 : Wc.cell? ⟨gx, 0, none⟩ = some (.int .i64 4) := (blk_cell BX.out 0).trans rfl
  have hz1 : Wc.cell? ⟨gx, 1, none⟩ = some (.int .i64 0) := (blk_cell BX.out 1).trans rfl
  have hz2 : Wc.cell? ⟨gx, 2, none⟩ = some (.slice Ax ([(⟨1, 0, []⟩ : S)] : List S).length cx) := (blk_cell BX.out 2).trans rfl
  clear m0 m1 m2
  have S1 := Aside0.mk HS.out.1
  have S2 := Aside0.mk HS.out.2.1
  have S3 := Aside0.mk HS.out.2.2.1
  have S4 := Aside0.mk HS.out.2.2.2.1
  have S5 := Aside0.mk HS.out.2.2.2.2.1
  have S6 := Aside0.mk HS.out.2.2.2.2.2
  clear HS
  have na := NA.out
  have nb := NB.out
  have nc := NC.out
  go_wp2_with (first
    | (go_at_call 15; (with_reducible refine (Same.ok ?sm BW.out HCW.out HRW.out HB.out).mono ?_); (case sm => (with_reducible first | exact S1.out | exact S2.out | exact S3.out | exact S4.out | exact S5.out | exact S6.out)); rintro e W' ⟨rfl, hb⟩; have HB := Aside0.mk (HB.out.trans (hb.mono HB.out.size)); clear hb)
    | (go_at_call 16; (refine (bobbinetkeep_matches.calls km 4 0 Ax cx [(⟨1, 0, []⟩ : S)] (some ⟨Wc.heap.size, 0, none⟩) 2 [0, 0] true _ (Kd.C_below HX.out (below_alloc (Below.refl _ _) _)) HXC.out (Alg.lit2 Wc) (by simp) PM.out).mono ?_); rintro e W' ⟨rfl, hb⟩; have HB := Aside0.mk ((below_alloc HB.out _).trans (hb.mono (below_alloc HB.out _).size)); clear hb))
  go_ret
  exact ⟨rfl, HB0.out.trans (HB.out.mono HB0.out.size)⟩
end Go.Proofs.Ytjmhihadgpdiaaa.Expr
end
section
namespace Go.Proofs.Ytjmhihadgpdiaaa.Expr
open Go.RowKit Go.Proofs.Ytjmhihadgpdiaaa.X Go.Proofs.YtjmhihadgpdiaaaW.PrintWords Go.Proofs.YtjmhihadgpdiaaaW.PrintLast Go.Proofs.Ytjmhihadgpdiaaa.Base
set_option linter.unusedVariables false
set_option linter.unusedSimpArgs false
theorem Star.app {A : Lg} {u v : W} (h : Star A u) (g : Star A v) : Star A (u ++ v) := by
  induction h with
  | nil => exact g
  | cons h1 _ ih => rw [List.append_assoc]; exact Star.cons h1 ih
theorem Star.one {A : Lg} {u : W} (h : A u) : Star A u := by
  have := Star.cons h (Star.nil (L := A))
  rwa [List.append_nil] at this
theorem Star.mono {A B : Lg} (h : ∀ u, A u → Star B u) {u : W} (g : Star A u) : Star B u := by
  induction g with
  | nil => exact Star.nil
  | cons h1 _ ih => exact (h _ h1).app ih
theorem star_unfold {A : Lg} {w : W} : Star A w ↔ w = [] ∨ Cat A (Star A) w := by
  constructor
  · intro h
    cases h with
    | nil => exact .inl rfl
    | cons h1 h2 => exact .inr ⟨_, _, rfl, h1, h2⟩
  · rintro (rfl | ⟨u, v, rfl, h1, h2⟩)
    · exact Star.nil
    · exact Star.cons h1 h2
theorem star_or {A B : Lg} {w : W} : Star (Or A B) w ↔ Cat (Star (Cat (Star A) B)) (Star A) w := by
  constructor
  · intro h
    induction h with
    | nil => exact ⟨[], [], rfl, Star.nil, Star.nil⟩
    | @cons u v h1 _ ih =>
      obtain ⟨x, y, rfl, h3, h4⟩ := ih
      rcases h1 with h1 | h1
      · cases h3 with
        | nil => exact ⟨[], u ++ y, rfl, Star.nil, Star.cons h1 h4⟩
        | @cons x1 x2 h5 h6 =>
          obtain ⟨p, q, rfl, h7, h8⟩ := h5
          refine ⟨(u ++ p ++ q) ++ x2, y, by simp, Star.cons ⟨u ++ p, q, rfl, Star.cons h1 h7, h8⟩ h6, h4⟩
      · exact ⟨u ++ x, y, by simp, Star.cons ⟨[], u, rfl, Star.nil, h1⟩ h3, h4⟩
  · rintro ⟨u, v, rfl, h1, h2⟩
    have ha : ∀ x, Star A x → Star (Or A B) x := fun x h => Star.mono (fun y hy => Star.one (.inl hy)) h
    refine Star.app (Star.mono (fun x hx => ?_) h1) (ha _ h2)
    obtain ⟨p, q, rfl, h3, h4⟩ := hx
    exact (ha _ h3).app (Star.one (.inr h4))
theorem M_two {x y : S} {w : W} : M (tog 2 [x, y]) w ↔ Cat (M x) (M y) w := by
  rw [M_tog2]
  constructor
  · rintro ⟨u, v, rfl, h1, h2⟩; exact ⟨u, v, rfl, h1, MS_one.1 h2⟩
  · rintro ⟨u, v, rfl, h1, h2⟩; exact ⟨u, v, rfl, h1, MS_one.2 h2⟩
theorem M_or {x y : S} {w : W} : M (tog 3 [x, y]) w ↔ M x w ∨ M y w := by
  rw [M_tog3]; simp
theorem M_empty {w : W} : M (tog 2 []) w ↔ w = [] := by
  rw [M_tog2]; exact Iff.rfl
theorem Star.congr {A B : Lg} (h : ∀ u, A u ↔ B u) {w : W} : Star A w ↔ Star B w :=
  ⟨Star.mono (fun u hu => Star.one ((h u).1 hu)), Star.mono (fun u hu => Star.one ((h u).2 hu))⟩
theorem sameOk {ts tt : T} {x y : S} {s t : ByteArray} (es : s = B ts) (et : t = B tt) (ax : AQ ts x) (ay : AQ tt y) (lx : ts.length ≤ 40) (ly : tt.length ≤ 40) {wd : W} (hw : wd.length ≤ 40) (hn : ∀ n ∈ wd, 0 ≤ n ∧ n < 8) (h : M x wd ↔ M y wd) : SameOk s t wd := by
  subst es et
  obtain ⟨b1, ⟨k3, e1⟩, m1⟩ := ax.matches lx wd hw hn
  obtain ⟨b2, ⟨k4, e2⟩, m2⟩ := ay.matches ly wd hw hn
  obtain ⟨k1, e3⟩ := exprOf_ev ax lx
  obtain ⟨k2, e4⟩ := exprOf_ev ay ly
  have hb : b2 = b1 := by rw [Bool.eq_iff_iff, m1, m2, h]
  subst hb
  exact ⟨x, y, b2, k1, k2, k3, k4, e3 k1 (Nat.le_refl _), e4 k2 (Nat.le_refl _), e1 k3 (Nat.le_refl _), e2 k4 (Nat.le_refl _)⟩
theorem sixOk {p q r : T} {x y z : S} (hp : BQ p x) (hq : BQ q y) (hr : BQ r z) (lp : p.length ≤ 9) (lq : q.length ≤ 9) (lr : r.length ≤ 9) {wd : W} (hw : wd.length ≤ 40) (hn : ∀ n ∈ wd, 0 ≤ n ∧ n < 8) :
      SameOk (B p ++ (⟨#[124]⟩ : ByteArray) ++ B q) (B q ++ (⟨#[124]⟩ : ByteArray) ++ B p) wd ∧
      SameOk (B p ++ (⟨#[40]⟩ : ByteArray) ++ B q ++ (⟨#[124]⟩ : ByteArray) ++ B r ++ (⟨#[41]⟩ : ByteArray)) (B p ++ B q ++ (⟨#[124]⟩ : ByteArray) ++ B p ++ B r) wd ∧
      SameOk (B p ++ (⟨#[42]⟩ : ByteArray)) ((⟨#[124]⟩ : ByteArray) ++ B p ++ B p ++ (⟨#[42]⟩ : ByteArray)) wd ∧
      SameOk (B p ++ (⟨#[43]⟩ : ByteArray)) (B p ++ B p ++ (⟨#[42]⟩ : ByteArray)) wd ∧
      SameOk (B p ++ (⟨#[63]⟩ : ByteArray)) (B p ++ (⟨#[124]⟩ : ByteArray)) wd ∧
      SameOk ((⟨#[40]⟩ : ByteArray) ++ B p ++ (⟨#[124]⟩ : ByteArray) ++ B q ++ (⟨#[41, 42]⟩ : ByteArray)) ((⟨#[40]⟩ : ByteArray) ++ B p ++ (⟨#[42]⟩ : ByteArray) ++ B q ++ (⟨#[41, 42]⟩ : ByteArray) ++ B p ++ (⟨#[42]⟩ : ByteArray)) wd := by
  have c1 : (⟨#[124]⟩ : ByteArray) = B [124] := rfl
  have c2 : (⟨#[40]⟩ : ByteArray) = B [40] := rfl
  have c3 : (⟨#[41]⟩ : ByteArray) = B [41] := rfl
  have c4 : (⟨#[42]⟩ : ByteArray) = B [42] := rfl
  have c5 : (⟨#[43]⟩ : ByteArray) = B [43] := rfl
  have c6 : (⟨#[63]⟩ : ByteArray) = B [63] := rfl
  have c7 : (⟨#[41, 42]⟩ : ByteArray) = B [41, 42] := rfl
  have st : ∀ {t : T} {u : S}, BQ t u → BQ (t ++ [42]) ⟨4, 0, [u]⟩ := fun h => h.sign (c := 42) (j := 0) rfl
  have pl : BQ (p ++ [43]) ⟨5, 0, [x]⟩ := hp.sign (c := 43) (j := 1) rfl
  have op : BQ (p ++ [63]) ⟨6, 0, [x]⟩ := hp.sign (c := 63) (j := 2) rfl
  have qp : QQ p x := hp.sq.qq
  have qq : QQ q y := hq.sq.qq
  have qr : QQ r z := hr.sq.qq
  have nil : QQ [] (tog 2 []) := SQ.nil.qq
  refine ⟨?_, ?_, ?_, ?_, ?_, ?_⟩
  · refine sameOk (ts := p ++ 124 :: q) (tt := q ++ 124 :: p) ?_ ?_ (AQ.two qp qq) (AQ.two qq qp) (by simp; omega) (by simp; omega) hw hn ?_
    · rw [c1, B_app, B_app]; congr 1; simp
    · rw [c1, B_app, B_app]; congr 1; simp
    · rw [M_or, M_or]; exact Or.comm
  · refine sameOk (ts := p ++ (40 :: (q ++ 124 :: r) ++ [41])) (tt := (p ++ q) ++ 124 :: (p ++ r)) ?_ ?_ (hp.sq.app (BQ.paren (AQ.two qq qr)).sq).qq.aq (AQ.two (hp.sq.app hq.sq).qq (hp.sq.app hr.sq).qq) (by simp; omega) (by simp; omega) hw hn ?_
    · rw [c1, c2, c3, B_app, B_app, B_app, B_app, B_app]; congr 1; simp
    · rw [c1, B_app, B_app, B_app, B_app]; congr 1; simp
    · show M (tog 2 [x, tog 3 [y, z]]) wd ↔ M (tog 3 [tog 2 [x, y], tog 2 [x, z]]) wd
      rw [M_two, M_or, M_two, M_two]
      constructor
      · rintro ⟨u, v, rfl, h1, h2⟩
        rcases M_or.1 h2 with h2 | h2
        · exact .inl ⟨u, v, rfl, h1, h2⟩
        · exact .inr ⟨u, v, rfl, h1, h2⟩
      · rintro (⟨u, v, rfl, h1, h2⟩ | ⟨u, v, rfl, h1, h2⟩)
        · exact ⟨u, v, rfl, h1, M_or.2 (.inl h2)⟩
        · exact ⟨u, v, rfl, h1, M_or.2 (.inr h2)⟩
  · refine sameOk (ts := p ++ [42]) (tt := [] ++ 124 :: (p ++ (p ++ [42]))) ?_ ?_ (st hp).sq.qq.aq (AQ.two nil (hp.sq.app (st hp).sq).qq) (by simp; omega) (by simp; omega) hw hn ?_
    · rw [c4, B_app]
    · rw [c1, c4, B_app, B_app, B_app]; congr 1; simp
    · show M ⟨4, 0, [x]⟩ wd ↔ M (tog 3 [tog 2 [], tog 2 [x, ⟨4, 0, [x]⟩]]) wd
      rw [M_star, M_or, M_empty, M_two, star_unfold]
      constructor
      · rintro (h | ⟨u, v, rfl, h1, h2⟩)
        · exact .inl h
        · exact .inr ⟨u, v, rfl, h1, M_star.2 h2⟩
      · rintro (h | ⟨u, v, rfl, h1, h2⟩)
        · exact .inl h
        · exact .inr ⟨u, v, rfl, h1, M_star.1 h2⟩
  · refine sameOk (ts := p ++ [43]) (tt := p ++ (p ++ [42])) ?_ ?_ pl.sq.qq.aq (hp.sq.app (st hp).sq).qq.aq (by simp; omega) (by simp; omega) hw hn ?_
    · rw [c5, B_app]
    · rw [c4, B_app, B_app]; congr 1; simp
    · show M ⟨5, 0, [x]⟩ wd ↔ M (tog 2 [x, ⟨4, 0, [x]⟩]) wd
      rw [M_plus, M_two]
      constructor
      · rintro ⟨u, v, rfl, h1, h2⟩; exact ⟨u, v, rfl, h1, M_star.2 h2⟩
      · rintro ⟨u, v, rfl, h1, h2⟩; exact ⟨u, v, rfl, h1, M_star.1 h2⟩
  · refine sameOk (ts := p ++ [63]) (tt := p ++ 124 :: []) ?_ ?_ op.sq.qq.aq (AQ.two qp nil) (by simp; omega) (by simp; omega) hw hn ?_
    · rw [c6, B_app]
    · rw [c1, B_app]
    · show M ⟨6, 0, [x]⟩ wd ↔ M (tog 3 [x, tog 2 []]) wd
      rw [M_opt, M_or, M_empty]
      exact Or.comm
  · refine sameOk (ts := (40 :: (p ++ 124 :: q) ++ [41]) ++ [42]) (tt := ((40 :: ((p ++ [42]) ++ q) ++ [41]) ++ [42]) ++ (p ++ [42])) ?_ ?_ (st (BQ.paren (AQ.two qp qq))).sq.qq.aq ((st (BQ.paren ((st hp).sq.app hq.sq).qq.aq)).sq.app (st hp).sq).qq.aq (by simp; omega) (by simp; omega) hw hn ?_
    · rw [c1, c2, c7, B_app, B_app, B_app, B_app]; congr 1; simp
    · rw [c2, c4, c7, B_app, B_app, B_app, B_app, B_app, B_app]; congr 1; simp
    · show M ⟨4, 0, [tog 3 [x, y]]⟩ wd ↔ M (tog 2 [⟨4, 0, [tog 2 [⟨4, 0, [x]⟩, y]]⟩, ⟨4, 0, [x]⟩]) wd
      rw [M_star, M_two, Star.congr (B := Or (M x) (M y)) (fun u => M_or), star_or]
      have e : ∀ u, M (tog 2 [⟨4, 0, [x]⟩, y]) u ↔ Cat (Star (M x)) (M y) u := by
        intro u
        rw [M_two]
        constructor
        · rintro ⟨a, b, rfl, h1, h2⟩; exact ⟨a, b, rfl, M_star.1 h1, h2⟩
        · rintro ⟨a, b, rfl, h1, h2⟩; exact ⟨a, b, rfl, M_star.2 h1, h2⟩
      constructor
      · rintro ⟨u, v, rfl, h1, h2⟩
        exact ⟨u, v, rfl, M_star.2 ((Star.congr e).2 h1), M_star.2 h2⟩
      · rintro ⟨u, v, rfl, h1, h2⟩
        exact ⟨u, v, rfl, (Star.congr e).1 (M_star.1 h1), M_star.1 h2⟩
theorem Alg.walk (a0 : Option Addr) (len0 cap0 : Nat) (z0 : List Int) (a1 : Option Addr) (len1 cap1 : Nat) (z1 : List Int) (a2 : Option Addr) (len2 cap2 : Nat) (z2 : List Int) (a3 : Option Addr) (len3 cap3 : Nat) (z3 : List Int) (w : World)
    (w0 : (a0 = none ∧ len0 = 0 ∧ cap0 = 0 ∧ z0 = []) ∨ ∃ x, a0 = some x ∧ len0 ≤ cap0 ∧ cap0 ≤ maxLen ∧ z0.length = cap0 ∧ (∀ i, i < z0.length → w.cell? (x.add i) = some (.int .i64 (z0.getD i 0))) ∧ ∀ n ∈ z0, (Lit.int .i64 n).wf = true)
    (w1 : (a1 = none ∧ len1 = 0 ∧ cap1 = 0 ∧ z1 = []) ∨ ∃ x, a1 = some x ∧ len1 ≤ cap1 ∧ cap1 ≤ maxLen ∧ z1.length = cap1 ∧ (∀ i, i < z1.length → w.cell? (x.add i) = some (.int .i64 (z1.getD i 0))) ∧ ∀ n ∈ z1, (Lit.int .i64 n).wf = true)
    (w2 : (a2 = none ∧ len2 = 0 ∧ cap2 = 0 ∧ z2 = []) ∨ ∃ x, a2 = some x ∧ len2 ≤ cap2 ∧ cap2 ≤ maxLen ∧ z2.length = cap2 ∧ (∀ i, i < z2.length → w.cell? (x.add i) = some (.int .i64 (z2.getD i 0))) ∧ ∀ n ∈ z2, (Lit.int .i64 n).wf = true)
    (w3 : (a3 = none ∧ len3 = 0 ∧ cap3 = 0 ∧ z3 = []) ∨ ∃ x, a3 = some x ∧ len3 ≤ cap3 ∧ cap3 ≤ maxLen ∧ z3.length = cap3 ∧ (∀ i, i < z3.length → w.cell? (x.add i) = some (.int .i64 (z3.getD i 0))) ∧ ∀ n ∈ z3, (Lit.int .i64 n).wf = true) :
    Calls Try.prog 4 #[.slice a0 len0 cap0, .slice a1 len1 cap1, .slice a2 len2 cap2, .slice a3 len3 cap3] w fun e w' => e = .returned (.bool true) ∧ Below w.heap.size w w' := by
  obtain ⟨l0, rfl, hr0, hm0, hw0, hc0⟩ := ReadsInt.ofRowC w0
  obtain ⟨l1, rfl, hr1, hm1, hw1, hc1⟩ := ReadsInt.ofRowC w1
  obtain ⟨l2, rfl, hr2, hm2, hw2, hc2⟩ := ReadsInt.ofRowC w2
  obtain ⟨l3, rfl, hr3, hm3, hw3, hc3⟩ := ReadsInt.ofRowC w3
  obtain ⟨s, ra, ⟨g1, _, _, xs, g4⟩, ⟨ka, hs⟩⟩ := gen_ev 2 (by omega) l0
  obtain ⟨t, rb, ⟨g1', _, _, ys, g4'⟩, ⟨kb, ht⟩⟩ := gen_ev 2 (by omega) l1
  obtain ⟨u, rc, ⟨g1'', _, _, zs, g4''⟩, ⟨kc, hu⟩⟩ := gen_ev 2 (by omega) l2
  obtain ⟨wd, ⟨kw, ew⟩, hwl, hn⟩ := word_ev l3 10 (by omega)
  have hn8 : ∀ n ∈ wd, 0 ≤ n ∧ n < 8 := fun n h => by have := hn n h; omega
  have b2 : bnd 2 = 8 := by decide
  rw [b2] at g1 g1' g1''
  have qx := ((g4 0 (by omega)).1).qq.aq
  have qy := ((g4' 0 (by omega)).1).qq.aq
  have qz := ((g4'' 0 (by omega)).1).qq.aq
  have as_ : AQ [97, 42] ⟨4, 0, [⟨1, 0, []⟩]⟩ := by
    have := ((BQ.letter 97 (by decide)).sign (c := 42) (j := 0) rfl).sq.qq.aq
    exact this
  obtain ⟨ko, eo⟩ := exprOf_ev as_ (by decide)
  obtain ⟨bm, ⟨km, em⟩, hm⟩ := as_.matches (by decide) [0, 0] (by decide) (fun n hn => by simp at hn; omega)
  have hbm : bm = true := hm.2 (M_star.2 (Star.cons (M.one 0 []) (Star.cons (M.one 0 []) Star.nil)))
  subst hbm
  refine Alg.calls (B s) (B t) (B u) ra rb rc wd ka kb kc kw ko km _ _ l0 _ _ l1 _ _ l2 _ _ l3 w (Kd.C_of_reads (d := (0 : Int)) (h1 := fun _ => rfl) hr0) hc0 (Kd.C_of_reads (d := (0 : Int)) (h1 := fun _ => rfl) hr1) hc1 (Kd.C_of_reads (d := (0 : Int)) (h1 := fun _ => rfl) hr2) hc2 (Kd.C_of_reads (d := (0 : Int)) (h1 := fun _ => rfl) hr3) hc3
    (hs ka (Nat.le_refl _)) (ht kb (Nat.le_refl _)) (hu kc (Nat.le_refl _)) (ew kw (Nat.le_refl _)) (eo ko (Nat.le_refl _)) (em km (Nat.le_refl _)) (by rw [B_len]; exact g1) (by rw [B_len]; exact g1') (by rw [B_len]; exact g1'') ?_
  intro a b c ea eb ec n1 n2 n3
  rw [B_len] at n1 n2 n3
  have e : ∀ v : T, (⟨#[40]⟩ : ByteArray) ++ B v ++ (⟨#[41]⟩ : ByteArray) = B (40 :: v ++ [41]) := by
    intro v
    have h1 : (⟨#[40]⟩ : ByteArray) ++ B v = B (40 :: v) := B_app [40] v
    rw [h1]; exact B_app (40 :: v) [41]
  rw [e] at ea eb ec
  subst ea eb ec
  exact sixOk (BQ.paren qx) (BQ.paren qy) (BQ.paren qz) (by simp; omega) (by simp; omega) (by simp; omega) (by omega) hn8
end Go.Proofs.Ytjmhihadgpdiaaa.Expr
end
