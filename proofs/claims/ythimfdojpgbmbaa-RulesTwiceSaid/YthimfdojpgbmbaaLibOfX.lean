/- rules.Of: what it makes; texts that are joined. -/
import Derived.Test.YthimfdojpgbmbaaX16
import Derived.Test.YthimfdojpgbmbaaLibWordsX
namespace Go.Proofs.Ythimfdojpgbmbaa.Tree
open Go.RowKit Go.Proofs.Ythimfdojpgbmbaa.X Go.Proofs.YthimfdojpgbmbaaW.PrintWords Go.Proofs.YthimfdojpgbmbaaW.PrintLast Go.Proofs.Ythimfdojpgbmbaa.Base
abbrev Ru := S53
abbrev nl : ByteArray := (⟨#[]⟩ : ByteArray)
/-! ### joined texts -/
theorem join_nil (a : List S) : rules_Joined.join a [] = a := rfl
theorem join_one (a : List S) (n : S) : rules_Joined.join a [n] = rules_Joined.one a n := rfl
theorem join_app (a b c : List S) : rules_Joined.join a (b ++ c) = rules_Joined.join (rules_Joined.join a b) c := by simp [rules_Joined.join]
/-- behind a text: one with it; else: behind all -/
theorem one_snoc (a : List S) (p n : S) : rules_Joined.one (a ++ [p]) n = if n.f0 = nl ∧ p.f0 = nl then a ++ [(⟨p.f0, p.f1, p.f2 ++ n.f2, p.f3⟩ : S)] else a ++ [p] ++ [n] := by
  have e : (((a ++ [p]).length : Int) - 1) = (a.length : Int) := by simp
  have r : rd_T60 (a ++ [p]) (a.length : Int) = p := rd_mid a p []
  unfold rules_Joined.one
  rw [e, r]
  by_cases h : n.f0 = nl ∧ p.f0 = nl
  · rw [if_pos h, if_pos ⟨toList_nil.2 h.1, by simp, toList_nil.2 h.2⟩]
    simp
  · rw [if_neg h, if_neg (fun h2 => h ⟨toList_nil.1 h2.1, toList_nil.1 h2.2.2⟩)]
theorem one_empty (n : S) : rules_Joined.one [] n = [n] := by
  unfold rules_Joined.one
  rw [if_neg (fun h => absurd h.2.1 (by simp))]
  rfl
theorem one_tot (a : List S) (n : S) : tot (rules_Joined.one a n) ≤ tot a + tot [n] := by
  rcases List.eq_nil_or_concat a with h | ⟨i, p, h⟩
  · subst h; rw [one_empty]; omega
  · have h : a = i ++ [p] := by simpa using h
    subst h
    rw [one_snoc]
    split
    · rw [tot_app, tot_app]
      simp only [tot_cons, tot_nil, ByteArray.size_append]
      omega
    · rw [tot_app]; omega
theorem join_tot (a b : List S) : tot (rules_Joined.join a b) ≤ tot a + tot b := by
  induction b generalizing a with
  | nil => rw [join_nil]; omega
  | cons n b ih =>
    have h1 := ih (rules_Joined.one a n)
    have h2 := one_tot a n
    have e : rules_Joined.join a (n :: b) = rules_Joined.join (rules_Joined.one a n) b := rfl
    rw [e, tot_cons]
    rw [tot_cons, tot_nil] at h2
    omega
theorem txt_tot (a : List S) : rules_Joined.txt a ≤ tot a := by
  induction a with
  | nil => simp [rules_Joined.txt]
  | cons n a ih =>
    have e : rules_Joined.txt (n :: a) = n.f2.size + rules_Joined.txt a := by simp [rules_Joined.txt]
    rw [e, tot_cons]
    omega
theorem fits_of (a b : List S) (h : tot a + tot b ≤ 1099511627776) : rules_Joined.fits a b = true := by
  have h1 := tot_len a
  have h2 := tot_len b
  have h3 := txt_tot a
  have h4 := txt_tot b
  exact (rules_Joined.fits_iff a b).2 ⟨by omega, by omega⟩
/-! ### Of -/
/-- what is done with elements of a name: the kind, and the new name -/
def act (rs : List Ru) (s : ByteArray) : Int × ByteArray := match rs.findIdx? (fun x => x.f0.toList == s.toList) with
  | some i => ((rd_T53 rs (i : Int)).f1, (rd_T53 rs (i : Int)).f2)
  | none => (2, nl)
def ofA (rs : List Ru) : List S → List S → List S
  | acc, [] => acc
  | acc, n :: l => ofA rs (if n.f0 = nl then (if n.f2 = nl then acc else rules_Joined.join acc [(⟨nl, [], n.f2, []⟩ : S)]) else if (act rs n.f0).1 = 1 then acc ++ [(⟨(act rs n.f0).2, n.f1, nl, ofA rs [] n.f3⟩ : S)] else if (act rs n.f0).1 = 2 then rules_Joined.join acc (ofA rs [] n.f3) else acc) l
termination_by _ l => SizeOf.sizeOf l
decreasing_by all_goals (cases n; simp; omega)
def step (rs : List Ru) (acc : List S) (n : S) : List S := if n.f0 = nl then (if n.f2 = nl then acc else rules_Joined.join acc [(⟨nl, [], n.f2, []⟩ : S)]) else if (act rs n.f0).1 = 1 then acc ++ [(⟨(act rs n.f0).2, n.f1, nl, ofA rs [] n.f3⟩ : S)] else if (act rs n.f0).1 = 2 then rules_Joined.join acc (ofA rs [] n.f3) else acc
theorem ofA_nil (rs : List Ru) (acc : List S) : ofA rs acc [] = acc := by rw [ofA]
theorem ofA_cons (rs : List Ru) (acc : List S) (n : S) (l : List S) : ofA rs acc (n :: l) = ofA rs (step rs acc n) l := by rw [ofA]; rfl
theorem ofA_app (rs : List Ru) (acc a b : List S) : ofA rs acc (a ++ b) = ofA rs (ofA rs acc a) b := by
  induction a generalizing acc with
  | nil => rw [ofA_nil]; rfl
  | cons n a ih => rw [List.cons_append, ofA_cons, ofA_cons, ih]
theorem ofA_tot (rs : List Ru) : ∀ (l acc : List S), tot (ofA rs acc l) ≤ tot acc + tot l := by
  intro l
  induction l using ind with
  | h0 => intro acc; rw [ofA_nil]; omega
  | h1 n l ih1 ih2 =>
    intro acc
    have h1 := ih1 []
    have h2 := ih2 (step rs acc n)
    rw [ofA_cons, tot_cons]
    rw [tot_nil] at h1
    have h3 : tot (step rs acc n) ≤ tot acc + (1 + n.f1.length + n.f2.size + tot n.f3) := by
      unfold step
      split
      · split
        · omega
        · have := join_tot acc [(⟨nl, [], n.f2, []⟩ : S)]
          rw [tot_cons, tot_nil] at this
          simp only [List.length_nil, tot_nil] at this
          omega
      · split
        · rw [tot_app, tot_cons, tot_nil]
          have : nl.size = 0 := rfl
          simp only [this]
          omega
        · split
          · have := join_tot acc (ofA rs [] n.f3)
            omega
          · omega
    omega
theorem of_l0 (rs : List Ru) : ∀ (suf pre acc : List S), tot (pre ++ suf) ≤ 1099511627776 → tot acc + tot suf ≤ 1099511627776 → (∀ n ∈ suf, Ev (fun k => rules_Of.f k rs n.f3) (ofA rs [] n.f3)) → Ev (fun k => rules_Of.l0 k rs acc (pre ++ suf) ((pre ++ suf).length : Int) (pre.length : Int)) (ofA rs acc suf)
  | [], pre, acc, ht, ha, h => by
    refine Ev.succ ?_
    simp only [rules_Of.l0, List.append_nil, ofA_nil]
    exact Ev.ite_neg (by omega) (Ev.now _)
  | n :: suf, pre, acc, ht, ha, h => by
    have h1 := tot_len (pre ++ n :: suf)
    have h2 := tot_mem (show n ∈ pre ++ n :: suf by simp)
    have h3 : (pre ++ n :: suf).length = pre.length + suf.length + 1 := by simp; omega
    have h4 := tot_cons n suf
    have h5 := tot_len acc
    have h6 := ofA_tot rs n.f3 []
    rw [tot_nil] at h6
    have hs : tot (step rs acc n) + tot suf ≤ 1099511627776 := by
      have h7 := ofA_tot rs [n] acc
      rw [ofA_cons, ofA_nil, tot_cons, tot_nil] at h7
      omega
    have ih := of_l0 rs suf (pre ++ [n]) (step rs acc n) (by simpa using ht) hs (fun m hm => h m (List.mem_cons_of_mem _ hm))
    have e : pre ++ [n] ++ suf = pre ++ n :: suf := by simp
    rw [e] at ih
    rw [ofA_cons]
    refine Ev.succ ?_
    simp only [rules_Of.l0]
    rw [rd_mid, wrap_pre pre n suf (by omega)]
    refine Ev.ite_pos (by omega) (Ev.ite_pos (by omega) (Ev.ite_pos (by omega) ?_))
    by_cases c0 : n.f0 = nl
    · refine Ev.ite_pos (toList_nil.2 c0) ?_
      by_cases c1 : n.f2 = nl
      · have es : step rs acc n = acc := by unfold step; rw [if_pos c0, if_pos c1]
        rw [es] at ih ⊢
        exact Ev.ite_pos (toList_nil.2 c1) ih
      · have es : step rs acc n = rules_Joined.join acc [(⟨nl, [], n.f2, []⟩ : S)] := by unfold step; rw [if_pos c0, if_neg c1]
        rw [es] at ih ⊢
        refine Ev.ite_neg (fun h => c1 (toList_nil.1 h)) (Ev.bnd0 rfl (Ev.ite_pos (fits_of _ _ ?_) ih))
        rw [tot_cons, tot_nil]
        simp only [List.length_nil, tot_nil]
        omega
    · refine Ev.ite_neg (fun h => c0 (toList_nil.1 h)) ?_
      have key : Ev (fun k => rules_Of.j1 k rs acc (pre ++ n :: suf) ((pre ++ n :: suf).length : Int) (pre.length : Int) n.f0 n.f1 n.f2 n.f3 (⟨#[]⟩ : ByteArray) (act rs n.f0).1 (act rs n.f0).2) (ofA rs (step rs acc n) suf) ∧ ∀ x, Ev (fun k => rules_Of.j1 k rs acc (pre ++ n :: suf) ((pre ++ n :: suf).length : Int) (pre.length : Int) n.f0 n.f1 n.f2 n.f3 x (act rs n.f0).1 (act rs n.f0).2) (ofA rs (step rs acc n) suf) := by
        have : ∀ x, Ev (fun k => rules_Of.j1 k rs acc (pre ++ n :: suf) ((pre ++ n :: suf).length : Int) (pre.length : Int) n.f0 n.f1 n.f2 n.f3 x (act rs n.f0).1 (act rs n.f0).2) (ofA rs (step rs acc n) suf) := by
          intro x
          refine Ev.succ ?_
          simp only [rules_Of.j1]
          rw [wrap_pre pre n suf (by omega)]
          by_cases c1 : (act rs n.f0).1 = 1
          · have es : step rs acc n = acc ++ [(⟨(act rs n.f0).2, n.f1, nl, ofA rs [] n.f3⟩ : S)] := by unfold step; rw [if_neg c0, if_pos c1]
            rw [es] at ih ⊢
            refine Ev.ite_pos c1 (Ev.bnd0 (a := n.f1) ?_ (Ev.bnd (h n List.mem_cons_self) (Ev.ite_pos (by omega) ih)))
            unfold api_Attr.f
            rw [if_pos (by omega)]
          · refine Ev.ite_neg c1 ?_
            by_cases c2 : (act rs n.f0).1 = 2
            · have es : step rs acc n = rules_Joined.join acc (ofA rs [] n.f3) := by unfold step; rw [if_neg c0, if_neg c1, if_pos c2]
              rw [es] at ih ⊢
              exact Ev.ite_pos c2 (Ev.bnd (h n List.mem_cons_self) (Ev.ite_pos (fits_of _ _ (by omega)) ih))
            · have es : step rs acc n = acc := by unfold step; rw [if_neg c0, if_neg c1, if_neg c2]
              rw [es] at ih ⊢
              exact Ev.ite_neg c2 ih
        exact ⟨this _, this⟩
      have ea : act rs n.f0 = match rs.findIdx? (fun x => x.f0.toList == n.f0.toList) with
        | some i => ((rd_T53 rs (i : Int)).f1, (rd_T53 rs (i : Int)).f2)
        | none => (2, nl) := rfl
      refine Ev.bnd0 rfl ?_
      cases hf : rs.findIdx? (fun x => x.f0.toList == n.f0.toList) with
      | none =>
        rw [hf] at ea
        simp only at ea ⊢
        rw [ea] at key
        exact Ev.ite_neg (by omega) (key.2 _)
      | some i =>
        rw [hf] at ea
        have hi := (List.findIdx?_eq_some_iff_getElem.1 hf).1
        simp only at ea ⊢
        rw [ea] at key
        exact Ev.ite_pos (by omega) (Ev.ite_pos (by omega) (Ev.ite_pos (by omega) (key.2 _)))
theorem of_f (rs : List Ru) (l : List S) : tot l ≤ 1099511627776 → Ev (fun k => rules_Of.f k rs l) (ofA rs [] l) := by
  induction l using ind2 with
  | h l ih =>
    intro ht
    refine Ev.succ ?_
    simp only [rules_Of.f]
    exact of_l0 rs l [] [] ht (by rw [tot_nil]; omega) (fun n hn => ih n hn (by have := tot_mem hn; omega))
/-! ### what comes out -/
/-- names of elements are such (P); texts are not empty, and not side by side -/
inductive Clean (P : ByteArray → Prop) : List S → Prop
  | none : Clean P []
  | text {l : List S} {t : ByteArray} : Clean P l → (∀ p : S, l.getLast? = some p → p.f0 ≠ nl) → t ≠ nl → Clean P (l ++ [(⟨nl, [], t, []⟩ : S)])
  | elem {l q : List S} {s : ByteArray} {a : List S75} : Clean P l → s ≠ nl → P s → Clean P q → Clean P (l ++ [(⟨s, a, nl, q⟩ : S)])
theorem snoc_inj {a b : List S} {x y : S} (h : a ++ [x] = b ++ [y]) : a = b ∧ x = y := by
  have := List.append_inj' h rfl
  exact ⟨this.1, by simpa using this.2⟩
theorem app_ne (a b : ByteArray) (h : b ≠ nl) : a ++ b ≠ nl := by
  intro e
  have h1 : (a ++ b).size = 0 := by rw [e]; rfl
  rw [ByteArray.size_append] at h1
  apply h
  apply ByteArray.ext
  exact Array.size_eq_zero_iff.1 (by show b.size = 0; omega)
theorem Clean.addText {P : ByteArray → Prop} {a : List S} (h : Clean P a) {t : ByteArray} (ht : t ≠ nl) : Clean P (rules_Joined.one a (⟨nl, [], t, []⟩ : S)) := by
  cases h with
  | none => rw [one_empty]; exact Clean.text (l := []) Clean.none (by simp) ht
  | @text l u h1 h2 h3 =>
    rw [one_snoc, if_pos ⟨rfl, rfl⟩]
    exact Clean.text h1 h2 (app_ne _ _ ht)
  | @elem l q s a' h1 h2 h3 h4 =>
    rw [one_snoc, if_neg (fun h => h2 h.2)]
    exact Clean.text (Clean.elem h1 h2 h3 h4) (by intro p hp; simp at hp; rw [← hp]; exact h2) ht
theorem one_elem (a : List S) (n : S) (h : n.f0 ≠ nl) : rules_Joined.one a n = a ++ [n] := by
  rcases List.eq_nil_or_concat a with h1 | ⟨i, p, h1⟩
  · subst h1; rw [one_empty]; rfl
  · have h1 : a = i ++ [p] := by simpa using h1
    subst h1
    rw [one_snoc, if_neg (fun h2 => h h2.1)]
theorem Clean.join {P : ByteArray → Prop} {a b : List S} (ha : Clean P a) (hb : Clean P b) : Clean P (rules_Joined.join a b) := by
  induction hb with
  | none => exact ha
  | text _ _ ht ih => rw [join_app, join_one]; exact ih.addText ht
  | elem _ hs hp hq ih _ => rw [join_app, join_one, one_elem _ _ hs]; exact Clean.elem ih hs hp hq
theorem ofA_clean (rs : List Ru) (P : ByteArray → Prop) (hP : ∀ s, s ≠ nl → (act rs s).1 = 1 → P (act rs s).2 ∧ (act rs s).2 ≠ nl) : ∀ (l acc : List S), Clean P acc → Clean P (ofA rs acc l) := by
  intro l
  induction l using ind with
  | h0 => intro acc h; rw [ofA_nil]; exact h
  | h1 n l ih1 ih2 =>
    intro acc h
    rw [ofA_cons]
    apply ih2
    unfold step
    split
    · split
      · exact h
      · rename_i h1 h2
        exact h.join (Clean.text (l := []) Clean.none (by simp) h2)
    · rename_i h0
      split
      · rename_i h1
        exact Clean.elem h (hP _ h0 h1).2 (hP _ h0 h1).1 (ih1 [] Clean.none)
      · split
        · exact h.join (ih1 [] Clean.none)
        · exact h
/-! ### texts -/
theorem wB_one {P : ByteArray → Prop} {a : List S} (h : Clean P a) (t : ByteArray) : wB (rules_Joined.one a (⟨nl, [], t, []⟩ : S)) = wB a ++ t := by
  have e : ∀ u : ByteArray, wB [(⟨nl, [], u, []⟩ : S)] = u := by
    intro u
    rw [wB_cons, wB_nil, B_app_nil, B_app_nil]
  cases h with
  | none => rw [one_empty, e, wB_nil, B_nil_app]
  | text h1 h2 h3 => rw [one_snoc, if_pos ⟨rfl, rfl⟩, wB_app, wB_app, e, e, ByteArray.append_assoc]
  | elem h1 h2 h3 h4 => rw [one_snoc, if_neg (fun h => h2 h.2), wB_app, e]
theorem wB_join {P : ByteArray → Prop} {a b : List S} (ha : Clean P a) (hb : Clean P b) : wB (rules_Joined.join a b) = wB a ++ wB b := by
  induction hb with
  | none => rw [join_nil, wB_nil, B_app_nil]
  | text hb _ ht ih =>
    rw [join_app, join_one, wB_one (ha.join hb), ih, wB_app, wB_cons, wB_nil, B_app_nil, B_app_nil, ByteArray.append_assoc]
  | elem hb hs hp hq ih _ => rw [join_app, join_one, one_elem _ _ hs, wB_app, ih, wB_app, ByteArray.append_assoc]
/-- texts of what has names, of the kind 'nothing but a text, or no text' -/
def Plain : List S → Prop
  | [] => True
  | n :: l => ((n.f0 = nl ∧ n.f3 = []) ∨ (n.f0 ≠ nl ∧ n.f2 = nl)) ∧ Plain n.f3 ∧ Plain l
termination_by l => SizeOf.sizeOf l
decreasing_by all_goals (cases n; simp; omega)
theorem Plain_cons (n : S) (l : List S) : Plain (n :: l) = (((n.f0 = nl ∧ n.f3 = []) ∨ (n.f0 ≠ nl ∧ n.f2 = nl)) ∧ Plain n.f3 ∧ Plain l) := by rw [Plain]
theorem Plain_nil : Plain [] = True := by rw [Plain]
theorem ofA_words (rs : List Ru) (hP : ∀ s, s ≠ nl → (act rs s).1 = 1 → (act rs s).2 ≠ nl) (hL : ∀ s, s ≠ nl → (act rs s).1 = 1 ∨ (act rs s).1 = 2) : ∀ (l acc : List S), Plain l → Clean (fun _ => True) acc → wB (ofA rs acc l) = wB acc ++ wB l := by
  have hC := ofA_clean rs (fun _ => True) (fun s h0 h1 => ⟨trivial, hP s h0 h1⟩)
  intro l
  induction l using ind with
  | h0 => intro acc _ _; rw [ofA_nil, wB_nil, B_app_nil]
  | h1 n l ih1 ih2 =>
    intro acc hp hc
    rw [Plain_cons] at hp
    obtain ⟨hn, hq, hl⟩ := hp
    have hs : Clean (fun _ => True) (step rs acc n) := by
      have := hC [n] acc hc
      rwa [ofA_cons, ofA_nil] at this
    have h3 := ih1 [] hq Clean.none
    rw [wB_nil, B_nil_app] at h3
    rw [ofA_cons, ih2 _ hl hs, wB_cons, ← ByteArray.append_assoc]
    congr 1
    unfold step
    rcases hn with ⟨h0, h1⟩ | ⟨h0, h1⟩
    · rw [if_pos h0, h1, wB_nil, B_app_nil]
      split
      · rename_i h2; rw [h2, B_app_nil]
      · rw [join_one, wB_one hc]
    · rw [if_neg h0, h1, B_nil_app]
      rcases hL _ h0 with h2 | h2
      · rw [if_pos h2, wB_app, wB_cons, wB_nil, B_app_nil, B_nil_app, h3]
      · rw [if_neg (by omega), if_pos h2, wB_join hc (hC _ _ Clean.none), h3]
theorem ofA_words_le (rs : List Ru) (hP : ∀ s, s ≠ nl → (act rs s).1 = 1 → (act rs s).2 ≠ nl) : ∀ (l acc : List S), Clean (fun _ => True) acc → (wB (ofA rs acc l)).size ≤ (wB acc).size + (wB l).size := by
  have hC := ofA_clean rs (fun _ => True) (fun s h0 h1 => ⟨trivial, hP s h0 h1⟩)
  intro l
  induction l using ind with
  | h0 => intro acc _; rw [ofA_nil, wB_nil]; exact Nat.le_add_right _ _
  | h1 n l ih1 ih2 =>
    intro acc hc
    have hs : Clean (fun _ => True) (step rs acc n) := by
      have := hC [n] acc hc
      rwa [ofA_cons, ofA_nil] at this
    have h3 := ih1 [] Clean.none
    have h4 := ih2 _ hs
    rw [wB_nil] at h3
    have hz : (⟨#[]⟩ : ByteArray).size = 0 := rfl
    rw [hz] at h3
    rw [ofA_cons, wB_cons, ByteArray.size_append, ByteArray.size_append]
    have h5 : (wB (step rs acc n)).size ≤ (wB acc).size + (n.f2.size + (wB n.f3).size) := by
      unfold step
      split
      · split
        · omega
        · rw [join_one, wB_one hc, ByteArray.size_append]; omega
      · split
        · rw [wB_app, wB_cons, wB_nil, B_app_nil, B_nil_app, ByteArray.size_append]; simp only; omega
        · split
          · rw [wB_join hc (hC _ _ Clean.none), ByteArray.size_append]; omega
          · omega
    omega
theorem join_clean {P : ByteArray → Prop} {q : List S} (h : Clean P q) : rules_Joined.join [] q = q := by
  induction h with
  | none => rfl
  | @text l u h1 h2 h3 ih =>
    rw [join_app, ih, join_one]
    rcases List.eq_nil_or_concat l with h4 | ⟨i, p, h4⟩
    · subst h4; rw [one_empty]; rfl
    · have h4 : l = i ++ [p] := by simpa using h4
      subst h4
      rw [one_snoc, if_neg (fun h5 => h2 p (by simp) h5.2)]
  | elem h1 h2 h3 h4 ih _ => rw [join_app, ih, join_one, one_elem _ _ h2]
/-- what rules keep as it is -/
theorem ofA_fix (rs : List Ru) (P : ByteArray → Prop) (hP : ∀ s, P s → act rs s = (1, s)) : ∀ (l : List S), Clean P l → ∀ acc, ofA rs acc l = rules_Joined.join acc l := by
  intro l h
  induction h with
  | none => intro acc; rw [ofA_nil, join_nil]
  | text h1 h2 h3 ih =>
    intro acc
    rw [ofA_app, ih, ofA_cons, ofA_nil, join_app]
    unfold step
    rw [if_pos rfl, if_neg h3]
  | elem h1 h2 h3 h4 ih ihq =>
    intro acc
    rw [ofA_app, ih, ofA_cons, ofA_nil, join_app, join_one, one_elem _ _ h2]
    unfold step
    rw [if_neg h2, hP _ h3, if_pos rfl, ihq]
    rw [join_clean h4]
end Go.Proofs.Ythimfdojpgbmbaa.Tree
