/- StyleOnce: of declarations with names of a list, Only keeps each name once, with its last value; asked again it is the same. For every list of numbers. -/
import Derived.Test.YthimfdojpgbmbaaX11
import Derived.Test.YthimfdojpgbmbaaLibBase
namespace Go.Proofs.Ythimfdojpgbmbaa.Pure
open Go.RowKit Go.Proofs.Ythimfdojpgbmbaa.X Go.Proofs.YthimfdojpgbmbaaW.PrintWords Go.Proofs.YthimfdojpgbmbaaW.PrintLast Go.Proofs.Ythimfdojpgbmbaa.Base

abbrev D := S42
open Classical
theorem rdD_mid (pre : List D) (d : D) (suf : List D) : rd_T42 (pre ++ d :: suf) (pre.length : Int) = d := by
  simp [rd_T42, List.getD]
theorem rdB_mid (pre : List ByteArray) (d : ByteArray) (suf : List ByteArray) : rdOf ByteArray.empty (pre ++ d :: suf) (pre.length : Int) = d := by
  simp [rdOf, List.getD]
theorem rdI_mid (pre : List Int) (d : Int) (suf : List Int) : rd (pre ++ d :: suf) (pre.length : Int) = d := by
  simp [rd, List.getD]

/-! ### is a name in a list -/
theorem index_ev (s : ByteArray) : ∀ (suf pre : List ByteArray), (pre ++ suf).length ≤ 4398046511104 → ∃ r : Int, Ev (fun k => slices_Index_string_string.l0 k (pre ++ suf) s ((pre ++ suf).length : Int) (pre.length : Int)) r ∧ (decide (r ≥ 0)) = decide (s ∈ suf)
  | [], pre, h => ⟨-1, Ev.one (fun k => by simp only [slices_Index_string_string.l0]; rw [if_neg (by simp)]) (Ev.some _), by simp⟩
  | d :: suf, pre, h => by
    have hl : (pre ++ d :: suf).length = pre.length + suf.length + 1 := by simp; omega
    by_cases e : s = d
    · refine ⟨pre.length, Ev.one (fun k => ?_) (Ev.some _), by simp [e]⟩
      simp only [slices_Index_string_string.l0]
      rw [if_pos (by omega), if_pos (by omega), if_pos (by omega), rdB_mid, if_pos (by rw [e])]
    · obtain ⟨r, hr, hd⟩ := index_ev s suf (pre ++ [d]) (by simpa using h)
      refine ⟨r, Ev.one (fun k => ?_) hr, by rw [hd]; simp [e]⟩
      simp only [slices_Index_string_string.l0]
      rw [if_pos (by omega), if_pos (by omega), if_pos (by omega), rdB_mid, if_neg (by rw [toList_inj]; exact e), wrap_succ (n := (pre ++ d :: suf).length) (by omega) (by omega)]
      simp only [List.append_assoc, List.singleton_append, List.length_append, List.length_singleton]
theorem contains_ev (s : ByteArray) (l : List ByteArray) (h : l.length ≤ 4398046511104) : Ev (fun k => slices_Contains_string_string.f k l s) (decide (s ∈ l)) := by
  obtain ⟨r, hr, hd⟩ := index_ev s l [] h
  simp only [slices_Contains_string_string.f, slices_Index_string_string.f]
  refine Ev.bnd hr ?_
  try dsimp only
  rw [← hd]
  exact Ev.some _

/-! ### Only -/
noncomputable def only (ns : List ByteArray) : List D → List D
  | [] => []
  | d :: l => if d.f0 ∈ ns ∧ ¬ (∃ x ∈ l, x.f0 = d.f0) then d :: only ns l else only ns l
theorem only_nil (ns : List ByteArray) : only ns [] = [] := by unfold only; rfl
theorem only_cons (ns : List ByteArray) (d : D) (l : List D) : only ns (d :: l) = if d.f0 ∈ ns ∧ ¬ (∃ x ∈ l, x.f0 = d.f0) then d :: only ns l else only ns l := by
  conv => lhs; unfold only
theorem only_len (ns : List ByteArray) : ∀ l : List D, (only ns l).length ≤ l.length
  | [] => Nat.le_refl _
  | d :: l => by
    have := only_len ns l
    rw [only_cons]
    split <;> simp <;> omega
theorem only_ev (ns : List ByteArray) (hn : ns.length ≤ 4398046511104) : ∀ (suf pre acc : List D), (pre ++ suf).length ≤ 4398046511104 → acc.length + suf.length ≤ 4398046511104 →
    Ev (fun k => style_Only.l0 k (pre ++ suf) ns acc (pre ++ suf) ((pre ++ suf).length : Int) (pre.length : Int)) (acc ++ only ns suf, 0)
  | [], pre, acc, h, ha => Ev.one (fun k => by simp only [style_Only.l0]; rw [if_neg (by simp)]) (by simpa [only] using Ev.some (acc, (0 : Int)))
  | d :: suf, pre, acc, h, ha => by
    have hl : (pre ++ d :: suf).length = pre.length + suf.length + 1 := by simp; omega
    have hal : acc.length + suf.length + 1 ≤ 4398046511104 := by simpa [Nat.add_assoc] using ha
    have hw : wrap64 ((pre.length : Int) + 1) = ((pre.length + 1 : Nat) : Int) := wrap_succ (n := (pre ++ d :: suf).length) (by omega) (by omega)
    have hdrop : (pre ++ d :: suf).drop (((pre.length + 1 : Nat) : Int)).toNat = suf := by
      rw [Int.toNat_natCast, show pre ++ d :: suf = (pre ++ [d]) ++ suf by simp]
      exact List.drop_left' (by simp)
    have ih := fun a (ha : a.length + suf.length ≤ 4398046511104) => only_ev ns hn suf (pre ++ [d]) a (by simpa using h) ha
    simp only [List.append_assoc, List.singleton_append, List.length_append, List.length_singleton] at ih
    have hc := contains_ev d.f0 ns hn
    have hany : (suf.any fun x => x.f0.toList == d.f0.toList) = decide (∃ x ∈ suf, x.f0 = d.f0) := by
      rw [Bool.eq_iff_iff]
      simp [toList_inj]
    refine Ev.one (f := fun k => (some (suf.any fun x => x.f0.toList == d.f0.toList)).bind fun t124 => ((slices_Contains_string_string.f k ns d.f0).bind fun t125 => (if t125 = true then (if t124 = true then (style_Only.l0 k (pre ++ d :: suf) ns acc (pre ++ d :: suf) ((pre ++ d :: suf).length : Int) ((pre.length + 1 : Nat) : Int)) else (if acc.length < 4398046511104 then (style_Only.l0 k (pre ++ d :: suf) ns (acc ++ [d]) (pre ++ d :: suf) ((pre ++ d :: suf).length : Int) ((pre.length + 1 : Nat) : Int)) else none)) else (style_Only.l0 k (pre ++ d :: suf) ns acc (pre ++ d :: suf) ((pre ++ d :: suf).length : Int) ((pre.length + 1 : Nat) : Int))))) (fun k => ?_) ?_
    · simp only [style_Only.l0]
      rw [if_pos (by omega), if_pos (by omega), if_pos (by omega), hw, if_pos (by omega), if_pos (by omega), rdD_mid, hdrop]
      rfl
    · refine Ev.bnd0 rfl ?_
      try dsimp only
      refine Ev.bnd hc ?_
      try dsimp only
      rw [hany]
      simp only [List.length_append, List.length_cons]
      by_cases c1 : d.f0 ∈ ns
      · by_cases c2 : ∃ x ∈ suf, x.f0 = d.f0
        · simp only [decide_eq_true c1, decide_eq_true c2, if_true]
          have : only ns (d :: suf) = only ns suf := by rw [only_cons, if_neg (fun h => h.2 c2)]
          rw [this]
          simpa using ih acc (by omega)
        · simp only [decide_eq_true c1, decide_eq_false c2, if_true, Bool.false_eq_true, if_false]
          have : only ns (d :: suf) = d :: only ns suf := by rw [only_cons, if_pos ⟨c1, c2⟩]
          rw [this]
          refine Ev.ite_pos (by omega) ?_
          have := ih (acc ++ [d]) (by simp; omega)
          simpa using this
      · simp only [decide_eq_false c1, Bool.false_eq_true, if_false]
        have : only ns (d :: suf) = only ns suf := by rw [only_cons, if_neg (fun h => c1 h.1)]
        rw [this]
        simpa using ih acc (by omega)
theorem only_f (ns : List ByteArray) (hn : ns.length ≤ 40) (l : List D) (h : l.length ≤ 4398046511104) : Ev (fun k => style_Only.f k l ns) (only ns l, 0) := by
  simp only [style_Only.f]
  exact Ev.ite_neg (by omega) (only_ev ns (by omega) l [] [] h (by simpa using h))

theorem only_mem (ns : List ByteArray) : ∀ (l : List D) (x : D), x ∈ only ns l → x ∈ l ∧ x.f0 ∈ ns
  | [], x, h => by rw [only_nil] at h; cases h
  | d :: l, x, h => by
    rw [only_cons] at h
    split at h
    · rename_i hc
      rcases List.mem_cons.1 h with rfl | h
      · exact ⟨List.mem_cons_self, hc.1⟩
      · have := only_mem ns l x h
        exact ⟨List.mem_cons_of_mem _ this.1, this.2⟩
    · have := only_mem ns l x h
      exact ⟨List.mem_cons_of_mem _ this.1, this.2⟩
def apart (l : List D) : Prop := l.Pairwise fun x y => x.f0 ≠ y.f0
theorem only_apart (ns : List ByteArray) : ∀ l : List D, apart (only ns l)
  | [] => by rw [only_nil]; exact List.Pairwise.nil
  | d :: l => by
    rw [only_cons]
    split
    · rename_i hc
      refine List.Pairwise.cons ?_ (only_apart ns l)
      intro y hy he
      exact hc.2 ⟨y, (only_mem ns l y hy).1, he.symm⟩
    · exact only_apart ns l
theorem only_fix (ns : List ByteArray) : ∀ l : List D, apart l → (∀ x ∈ l, x.f0 ∈ ns) → only ns l = l
  | [], _, _ => only_nil ns
  | d :: l, ha, hm => by
    cases ha with
    | cons h1 h2 =>
      rw [only_cons, if_pos ⟨hm d List.mem_cons_self, fun ⟨x, hx, he⟩ => h1 x hx he.symm⟩, only_fix ns l h2 (fun x hx => hm x (List.mem_cons_of_mem _ hx))]
theorem only_twice (ns : List ByteArray) (l : List D) : only ns (only ns l) = only ns l :=
  only_fix ns _ (only_apart ns l) (fun x hx => (only_mem ns l x hx).2)
theorem apart_len : ∀ (ns : List ByteArray) (l : List D), apart l → (∀ x ∈ l, x.f0 ∈ ns) → l.length ≤ ns.length
  | [], [], _, _ => Nat.le_refl _
  | [], x :: l, _, h => by have := h x List.mem_cons_self; cases this
  | n :: ns, l, ha, h => by
    have h1 : (l.filter fun x => decide (x.f0 ≠ n)).length ≤ ns.length := by
      refine apart_len ns _ (List.Pairwise.filter _ ha) ?_
      intro x hx
      rw [List.mem_filter] at hx
      have := h x hx.1
      rcases List.mem_cons.1 this with e | e
      · have h2 := hx.2
        simp only [decide_eq_true_eq] at h2
        exact absurd e h2
      · exact e
    have h2 : (l.filter fun x => ! decide (x.f0 ≠ n)).length ≤ 1 := by
      have hp : apart (l.filter fun x => ! decide (x.f0 ≠ n)) := List.Pairwise.filter (fun x : D => ! decide (x.f0 ≠ n)) ha
      have hm : ∀ x ∈ l.filter (fun x => ! decide (x.f0 ≠ n)), x.f0 = n := by
        intro x hx
        rw [List.mem_filter] at hx
        simpa using hx.2
      generalize l.filter (fun x => ! decide (x.f0 ≠ n)) = q at hp hm
      cases hp with
      | nil => simp
      | @cons x r h1 h2 =>
        cases r with
        | nil => simp
        | cons y r => exact absurd ((hm x (by simp)).trans (hm y (by simp)).symm) (h1 y (by simp))
    have h3 : ∀ q : List D, q.length = (q.filter fun x => decide (x.f0 ≠ n)).length + (q.filter fun x => ! decide (x.f0 ≠ n)).length := by
      intro q
      induction q with
      | nil => rfl
      | cons x q ih => by_cases hx : x.f0 = n <;> simp [hx] at ih ⊢ <;> omega
    have h4 := h3 l
    simp only [List.length_cons]
    omega

/-! ### a name's last value -/
noncomputable def lastV (n : ByteArray) : List D → ByteArray → ByteArray
  | [], w => w
  | d :: l, w => lastV n l (if d.f0 = n then d.f1 else w)
theorem lastV_any (n : ByteArray) : ∀ (l : List D) (w v : ByteArray), (∃ x ∈ l, x.f0 = n) → lastV n l w = lastV n l v
  | [], _, _, ⟨x, hx, _⟩ => by cases hx
  | d :: l, w, v, ⟨x, hx, he⟩ => by
    unfold lastV
    by_cases hd : d.f0 = n
    · rw [if_pos hd, if_pos hd]
    · rw [if_neg hd, if_neg hd]
      rcases List.mem_cons.1 hx with rfl | hx
      · exact absurd he hd
      · exact lastV_any n l w v ⟨x, hx, he⟩
theorem lastV_none (n : ByteArray) : ∀ (l : List D) (w : ByteArray), (∀ x ∈ l, x.f0 ≠ n) → lastV n l w = w
  | [], _, _ => by unfold lastV; rfl
  | d :: l, w, h => by
    unfold lastV
    rw [if_neg (h d List.mem_cons_self)]
    exact lastV_none n l w (fun x hx => h x (List.mem_cons_of_mem _ hx))
theorem lastV_only (ns : List ByteArray) (n : ByteArray) (hn : n ∈ ns) : ∀ (l : List D) (w : ByteArray), lastV n (only ns l) w = lastV n l w
  | [], w => by rw [only_nil]
  | d :: l, w => by
    rw [only_cons]
    split
    · show lastV n (only ns l) (if d.f0 = n then d.f1 else w) = lastV n l (if d.f0 = n then d.f1 else w)
      exact lastV_only ns n hn l _
    · rename_i hc
      rw [lastV_only ns n hn l w]
      show _ = lastV n l (if d.f0 = n then d.f1 else w)
      by_cases hd : d.f0 = n
      · have hx : ∃ x ∈ l, x.f0 = n := by
          by_cases hx : ∃ x ∈ l, x.f0 = d.f0
          · rw [hd] at hx; exact hx
          · exact absurd ⟨by rw [hd]; exact hn, hx⟩ hc
        exact lastV_any n l _ _ hx
      · rw [if_neg hd]

/-! ### the law's loops -/
theorem got_ev (ds x : List D) (ns : List ByteArray) (i : Int) (n want : ByteArray) (hi0 : 0 ≤ i) (hi : i < (ns.length : Int)) (hn : rdOf ByteArray.empty ns i = n) (hx : x.length ≤ 4398046511104) (r : Bool)
    (next : Ev (fun k => bobbinetkeep_StyleOnce.l0 k ds ns x (wrap64 (i + 1))) r) :
    ∀ (suf pre : List D), pre ++ suf = x → ∀ got : ByteArray, apart suf → (got = (⟨#[]⟩ : ByteArray) ∨ ∀ y ∈ suf, y.f0 ≠ n) → lastV n suf got = want →
      Ev (fun k => bobbinetkeep_StyleOnce.l2 k ds ns x i want got (pre.length : Int)) r
  | [], pre, hp, got, _, _, hw => by
    subst hp
    have hw' : got = want := by unfold lastV at hw; exact hw
    refine Ev.one (fun k => ?_) next
    simp only [bobbinetkeep_StyleOnce.l2]
    rw [if_neg (by simp), if_pos (by rw [hw'])]
  | d :: suf, pre, hp, got, ha, hg, hw => by
    subst hp
    have hl : (pre ++ d :: suf).length = pre.length + suf.length + 1 := by simp; omega
    have ih := got_ev ds (pre ++ d :: suf) ns i n want hi0 hi hn hx r next suf (pre ++ [d]) (by simp)
    simp only [List.length_append, List.length_singleton] at ih
    cases ha with
    | cons h1 h2 =>
      unfold lastV at hw
      by_cases hd : d.f0 = n
      · have hg0 : got = (⟨#[]⟩ : ByteArray) := by
          rcases hg with hg | hg
          · exact hg
          · exact absurd hd (hg d List.mem_cons_self)
        rw [if_pos hd] at hw
        refine Ev.one (fun k => ?_) (ih d.f1 h2 (.inr fun y hy he => h1 y hy (hd.trans he.symm)) hw)
        simp only [bobbinetkeep_StyleOnce.l2]
        rw [if_pos (by omega), if_pos (by omega), if_pos hi0, if_pos hi, rdD_mid, hn, if_pos (by rw [hd]), if_pos (by rw [toList_nil]; exact hg0), wrap_succ (n := (pre ++ d :: suf).length) (by omega) (by omega)]
      · rw [if_neg hd] at hw
        refine Ev.one (fun k => ?_) (ih got h2 (hg.imp id fun h y hy => h y (List.mem_cons_of_mem _ hy)) hw)
        simp only [bobbinetkeep_StyleOnce.l2]
        rw [if_pos (by omega), if_pos (by omega), if_pos hi0, if_pos hi, rdD_mid, hn, if_neg (by rw [toList_inj]; exact hd), wrap_succ (n := (pre ++ d :: suf).length) (by omega) (by omega)]
theorem want_ev (ds x : List D) (ns : List ByteArray) (i : Int) (n : ByteArray) (hi0 : 0 ≤ i) (hi : i < (ns.length : Int)) (hn : rdOf ByteArray.empty ns i = n) (hx : ds.length ≤ 4398046511104) (r : Bool)
    (next : Ev (fun k => bobbinetkeep_StyleOnce.l2 k ds ns x i (lastV n ds (⟨#[]⟩ : ByteArray)) (⟨#[]⟩ : ByteArray) 0) r) :
    ∀ (suf pre : List D), pre ++ suf = ds → ∀ want : ByteArray, lastV n suf want = lastV n ds (⟨#[]⟩ : ByteArray) →
      Ev (fun k => bobbinetkeep_StyleOnce.l1 k ds ns x i want (pre.length : Int)) r
  | [], pre, hp, want, hw => by
    subst hp
    have hw' : want = lastV n (pre ++ []) (⟨#[]⟩ : ByteArray) := by conv at hw => lhs; unfold lastV
                                                                    exact hw
    refine Ev.one (fun k => ?_) next
    simp only [bobbinetkeep_StyleOnce.l1]
    rw [if_neg (by simp), hw']
  | d :: suf, pre, hp, want, hw => by
    subst hp
    have hl : (pre ++ d :: suf).length = pre.length + suf.length + 1 := by simp; omega
    have ih := want_ev (pre ++ d :: suf) x ns i n hi0 hi hn hx r next suf (pre ++ [d]) (by simp)
    simp only [List.length_append, List.length_singleton] at ih
    conv at hw => lhs; unfold lastV
    refine Ev.one (fun k => ?_) (ih _ hw)
    simp only [bobbinetkeep_StyleOnce.l1]
    rw [if_pos (by omega), if_pos (by omega), if_pos hi0, if_pos hi, rdD_mid, hn, wrap_succ (n := (pre ++ d :: suf).length) (by omega) (by omega)]
    by_cases hd : d.f0 = n
    · rw [if_pos (by rw [hd]), if_pos hd]
    · rw [if_neg (by rw [toList_inj]; exact hd), if_neg hd]
theorem names_ev (ds : List D) (ns : List ByteArray) (hns : ns.length ≤ 40) (hx : ds.length ≤ 4398046511104) :
    ∀ (suf pre : List ByteArray), pre ++ suf = ns → Ev (fun k => bobbinetkeep_StyleOnce.l0 k ds ns (only ns ds) (pre.length : Int)) true
  | [], pre, hp => by
    subst hp
    refine Ev.one (fun k => ?_) (Ev.some true)
    simp only [bobbinetkeep_StyleOnce.l0]
    rw [if_neg (by simp)]
  | n :: suf, pre, hp => by
    subst hp
    have hl : (pre ++ n :: suf).length = pre.length + suf.length + 1 := by simp; omega
    have ih := names_ev ds (pre ++ n :: suf) hns hx suf (pre ++ [n]) (by simp)
    have hm : n ∈ pre ++ n :: suf := by simp
    have ho := only_len (pre ++ n :: suf) ds
    refine Ev.one (fun k => ?_) (want_ev ds (only (pre ++ n :: suf) ds) (pre ++ n :: suf) (pre.length : Int) n (by omega) (by omega) (rdB_mid _ _ _) hx true
      (got_ev ds (only (pre ++ n :: suf) ds) _ _ n _ (by omega) (by omega) (rdB_mid _ _ _) (by omega) true ?_ _ [] rfl _ (only_apart _ _) (.inl rfl) (lastV_only _ n hm ds _)) ds [] rfl _ rfl)
    · simp only [bobbinetkeep_StyleOnce.l0]
      rw [if_pos (by omega)]
      rfl
    · rw [wrap_succ (n := (pre ++ n :: suf).length) (by omega) (by omega)]
      simpa using ih

/-! ### the declarations, and what is the same -/
theorem picked_f (a n : Int) (h : 0 < n) (hn : n ≤ 4294967296) : bobbinetkeep_Picked.f a n = some (a % n) := by
  unfold bobbinetkeep_Picked.f
  rw [if_neg (by omega)]
  have := picked_eq a n h hn
  split at this
  · rename_i hc; rw [if_pos hc, this]
  · rename_i hc; rw [if_neg hc, this]
theorem decls_ev : ∀ (suf pre : List Int) (acc : List D), (pre ++ suf).length ≤ 17592186044416 → acc.length = pre.length → pre.length ≤ 20 →
    ∃ r : List D, r.length ≤ 20 ∧ Ev (fun k => bobbinetkeep_Decls.l0 k (pre ++ suf) 20 acc (pre.length : Int)) r
  | [], pre, acc, h, ha, h20 => ⟨acc, by omega, by
    refine Ev.one (fun k => ?_) (Ev.one (g := fun k => bobbinetkeep_Decls.j1 k (pre ++ []) 20 acc (pre.length : Int) false) (fun k => ?_) (Ev.some acc))
    · simp only [bobbinetkeep_Decls.l0]
      rw [if_neg (by simp)]
    · simp only [bobbinetkeep_Decls.j1]
      simp⟩
  | x :: suf, pre, acc, h, ha, h20 => by
    have hl : (pre ++ x :: suf).length = pre.length + suf.length + 1 := by simp; omega
    by_cases hc : pre.length < 20
    · have p1 := picked_f x 4 (by omega) (by omega)
      have p2 := picked_f (wrap64 (Int.tdiv x 4)) 7 (by omega) (by omega)
      have b1 := Int.emod_nonneg x (show (4 : Int) ≠ 0 by omega)
      have b2 := Int.emod_lt_of_pos x (show (0 : Int) < 4 by omega)
      have b3 := Int.emod_nonneg (wrap64 (Int.tdiv x 4)) (show (7 : Int) ≠ 0 by omega)
      have b4 := Int.emod_lt_of_pos (wrap64 (Int.tdiv x 4)) (show (0 : Int) < 7 by omega)
      obtain ⟨r, hr, ih⟩ := decls_ev suf (pre ++ [x]) (acc ++ [(⟨rdOf ByteArray.empty [(⟨#[99, 111, 108, 111, 114]⟩ : ByteArray), (⟨#[119, 105, 100, 116, 104]⟩ : ByteArray), (⟨#[97, 45, 98]⟩ : ByteArray), (⟨#[120, 49]⟩ : ByteArray)] (x % 4), rdOf ByteArray.empty [(⟨#[114, 101, 100]⟩ : ByteArray), (⟨#[49, 112, 120, 32, 50, 112, 120]⟩ : ByteArray), (⟨#[117, 114, 108, 40, 97, 59, 98, 41]⟩ : ByteArray), (⟨#[34, 59, 58, 34]⟩ : ByteArray), (⟨#[97, 58, 98]⟩ : ByteArray), (⟨#[102, 40, 103, 40, 59, 41, 41]⟩ : ByteArray), (⟨#[39, 120, 39]⟩ : ByteArray)] (wrap64 (Int.tdiv x 4) % 7)⟩ : D)]) (by simpa using h) (by simp [ha]) (by simp; omega)
      refine ⟨r, hr, Ev.one (fun k => ?_) (Ev.one (g := fun k => bobbinetkeep_Decls.j1 k (pre ++ x :: suf) 20 acc (pre.length : Int) true) (fun k => ?_) ih)⟩
      · simp only [bobbinetkeep_Decls.l0]
        rw [if_pos (by omega), decide_eq_true (by omega)]
      · simp only [bobbinetkeep_Decls.j1, if_true, Option.bind_some]
        rw [if_pos (by omega), if_pos (by omega), rdI_mid, p1]
        simp only [Option.bind_some]
        rw [if_pos b1, if_pos (by simp; omega), p2]
        simp only [Option.bind_some]
        rw [if_pos b3, if_pos (by simp; omega), if_pos (by omega), wrap_succ (n := (pre ++ x :: suf).length) (by omega) (by omega)]
        simp only [List.append_assoc, List.singleton_append, List.length_append, List.length_singleton]
    · refine ⟨acc, by omega, Ev.one (fun k => ?_) (Ev.one (g := fun k => bobbinetkeep_Decls.j1 k (pre ++ x :: suf) 20 acc (pre.length : Int) false) (fun k => ?_) (Ev.some acc))⟩
      · simp only [bobbinetkeep_Decls.l0]
        rw [if_pos (by omega), decide_eq_false (by omega)]
      · simp only [bobbinetkeep_Decls.j1]
        simp
theorem same_ev : ∀ (suf pre : List D), (pre ++ suf).length ≤ 4398046511104 → Ev (fun k => bobbinetkeep_sameDecls.l0 k (pre ++ suf) (pre ++ suf) (pre.length : Int)) true
  | [], pre, h => Ev.one (fun k => by simp only [bobbinetkeep_sameDecls.l0]; rw [if_neg (by simp)]) (Ev.some _)
  | d :: suf, pre, h => by
    have hl : (pre ++ d :: suf).length = pre.length + suf.length + 1 := by simp; omega
    have ih := same_ev suf (pre ++ [d]) (by simpa using h)
    refine Ev.one (fun k => ?_) ih
    simp only [bobbinetkeep_sameDecls.l0]
    rw [if_pos (by omega), if_pos (by omega), if_pos (by omega), if_neg (by simp), wrap_succ (n := (pre ++ d :: suf).length) (by omega) (by omega)]
    simp only [List.append_assoc, List.singleton_append, List.length_append, List.length_singleton]
theorem same_f (l : List D) (h : l.length ≤ 4398046511104) : Ev (fun k => bobbinetkeep_sameDecls.f k l l) true := by
  simp only [bobbinetkeep_sameDecls.f]
  exact Ev.ite_pos (by first | trivial | rfl) (same_ev l [] h)

theorem StyleOnce : bobbinetkeep_StyleOnce.Pure := by
  intro l hl h8 hwf
  obtain ⟨ds, hds, hd⟩ := decls_ev l [] [] (by simp; omega) rfl (by simp)
  refine Ev.rounds (r := true) ?_
  simp only [bobbinetkeep_StyleOnce.f, bobbinetkeep_Decls.f]
  refine Ev.bnd hd ?_
  try dsimp only
  refine Ev.bnd0 rfl ?_
  try dsimp only
  have hns : ([(⟨#[99, 111, 108, 111, 114]⟩ : ByteArray), (⟨#[97, 45, 98]⟩ : ByteArray)] : List ByteArray).length = 2 := rfl
  have hone : only ([(⟨#[99, 111, 108, 111, 114]⟩ : ByteArray), (⟨#[97, 45, 98]⟩ : ByteArray)] : List ByteArray) [(⟨(⟨#[99, 111, 108, 111, 114]⟩ : ByteArray), (⟨#[120]⟩ : ByteArray)⟩ : D)] = [(⟨(⟨#[99, 111, 108, 111, 114]⟩ : ByteArray), (⟨#[120]⟩ : ByteArray)⟩ : D)] :=
    only_fix _ _ (by simp [apart]) (by simp)
  generalize ([(⟨#[99, 111, 108, 111, 114]⟩ : ByteArray), (⟨#[97, 45, 98]⟩ : ByteArray)] : List ByteArray) = ns at hns hone
  have ho := only_len ns ds
  have h2 := apart_len ns _ (only_apart ns ds) (fun x hx => (only_mem ns ds x hx).2)
  refine Ev.ite_pos (by simp; omega) ?_
  rw [List.nil_append]
  refine Ev.bnd (only_f ns (by omega) ds (by omega)) ?_
  try dsimp only
  refine Ev.ite_pos (by simp; omega) ?_
  rw [List.nil_append]
  refine Ev.bnd (only_f ns (by omega) _ (by omega)) ?_
  try dsimp only
  refine Ev.bnd (only_f ns (by omega) _ (by simp)) ?_
  try dsimp only
  rw [hone, only_twice]
  refine Ev.ite_pos (by first | trivial | rfl) (Ev.ite_pos (by first | trivial | rfl) (Ev.ite_pos (by first | trivial | rfl) (Ev.ite_pos (by first | trivial | rfl) ?_)))
  refine Ev.bnd (same_f _ (by omega)) ?_
  try dsimp only
  refine Ev.ite_pos rfl ?_
  rw [decide_eq_false (by omega)]
  refine Ev.one (fun k => ?_) (names_ev ds ns (by omega) (by omega) ns [] rfl)
  simp only [bobbinetkeep_StyleOnce.j0]
  simp
end Go.Proofs.Ythimfdojpgbmbaa.Pure
