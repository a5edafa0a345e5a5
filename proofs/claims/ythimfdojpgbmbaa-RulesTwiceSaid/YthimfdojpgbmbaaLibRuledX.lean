/- rules by numbers; Check; ruledBy. -/
import Derived.Test.YthimfdojpgbmbaaX19
import Derived.Test.YthimfdojpgbmbaaX2
import Derived.Test.YthimfdojpgbmbaaLibOfX
import Derived.Test.YthimfdojpgbmbaaLibCopiedX
import Derived.Test.YthimfdojpgbmbaaLibNodesX
namespace Go.Proofs.Ythimfdojpgbmbaa.Tree
open Go.RowKit Go.Proofs.Ythimfdojpgbmbaa.X Go.Proofs.YthimfdojpgbmbaaW.PrintWords Go.Proofs.YthimfdojpgbmbaaW.PrintLast Go.Proofs.Ythimfdojpgbmbaa.Base
def NameOk (s : ByteArray) : Prop := emit_Name.f s = some true
def strong : ByteArray := (⟨#[115, 116, 114, 111, 110, 103]⟩ : ByteArray)
def x1 : ByteArray := (⟨#[120, 45, 49]⟩ : ByteArray)
theorem nameOk_elems : ∀ s ∈ elems, NameOk s := by
  intro s hs
  simp only [elems, List.mem_cons, List.not_mem_nil, or_false] at hs
  unfold NameOk
  rcases hs with rfl | rfl | rfl | rfl | rfl | rfl <;> decide +kernel
theorem nameOk_voids : ∀ s ∈ voids, NameOk s := by
  intro s hs
  simp only [voids, List.mem_cons, List.not_mem_nil, or_false] at hs
  unfold NameOk
  rcases hs with rfl | rfl <;> decide +kernel
theorem nameOk_strong : NameOk strong := by unfold NameOk strong; decide +kernel
theorem nameOk_x1 : NameOk x1 := by unfold NameOk x1; decide +kernel
theorem nameOk_i : NameOk (⟨#[105]⟩ : ByteArray) := by unfold NameOk; decide +kernel
theorem nameOk_b : NameOk (⟨#[98]⟩ : ByteArray) := by unfold NameOk; decide +kernel
theorem nameOk_ne {s : ByteArray} (h : NameOk s) : s ≠ nl := by
  rintro rfl
  revert h
  unfold NameOk
  decide +kernel
/-! ### Check -/
def ChkOk (rs : List Ru) : Prop := rs.length ≤ 12 ∧ (∀ r ∈ rs, NameOk r.f0 ∧ 1 ≤ r.f1 ∧ r.f1 ≤ 3 ∧ (r.f1 = 1 → NameOk r.f2) ∧ (r.f1 ≠ 1 → r.f2 = nl)) ∧ rs.Pairwise (fun a b => a.f0 ≠ b.f0)
theorem check_l0 (rs : List Ru) (h : ChkOk rs) : ∀ (d i : Nat), i + d = rs.length → Ev (fun k => rules_Check.l0 k rs rs (rs.length : Int) (i : Int)) 0
  | 0, i, hi => by
    refine Ev.succ ?_
    simp only [rules_Check.l0]
    exact Ev.ite_neg (by omega) (Ev.now _)
  | d + 1, i, hi => by
    have ih := check_l0 rs h d (i + 1) (by omega)
    obtain ⟨hl, hr, hp⟩ := h
    have hil : i < rs.length := by omega
    have e : rd_T53 rs (i : Int) = rs[i] := by simp [rd_T53, List.getD, hil]
    have hm : rd_T53 rs (i : Int) ∈ rs := by rw [e]; exact List.getElem_mem hil
    obtain ⟨h1, h2, h3, h4, h5⟩ := hr _ hm
    have hw : wrap64 ((i : Int) + 1) = ((i + 1 : Nat) : Int) := wrap_succ (n := i + 1) (by omega) (by omega)
    have hany : (rs.take (i : Int).toNat).any (fun x => x.f0.toList == (rd_T53 rs (i : Int)).f0.toList) = false := by
      rw [List.any_eq_false]
      intro x hx
      rw [Int.toNat_natCast, List.mem_take_iff_getElem] at hx
      obtain ⟨j, hj, rfl⟩ := hx
      have := (List.pairwise_iff_getElem.1 hp) j i (by omega) hil (by omega)
      rw [e]
      simpa [toList_inj] using this
    refine Ev.succ ?_
    simp only [rules_Check.l0]
    refine Ev.ite_pos (by omega) (Ev.ite_pos (by omega) (Ev.ite_pos (by omega) (Ev.bnd0 h1 (Ev.ite_pos (by first | trivial | rfl) (Ev.ite_neg (by omega) (Ev.succ ?_))))))
    simp only [rules_Check.j1]
    refine Ev.ite_neg (by simp; omega) ?_
    have fin : ∀ b : Bool, b = false → Ev (fun k => rules_Check.j3 k rs (i : Int) rs (rs.length : Int) (i : Int) b (rd_T53 rs (i : Int)).f0 (rd_T53 rs (i : Int)).f1 (rd_T53 rs (i : Int)).f2) 0 := by
      rintro b rfl
      refine Ev.succ ?_
      simp only [rules_Check.j3]
      refine Ev.ite_neg (by simp) (Ev.ite_pos (by omega) (Ev.ite_pos (by omega) (Ev.bnd0 rfl ?_)))
      rw [hany, hw]
      exact Ev.ite_neg (by simp) ih
    by_cases c : (rd_T53 rs (i : Int)).f1 = 1
    · refine Ev.ite_pos c (Ev.bnd0 (h4 c) (Ev.succ ?_))
      simp only [rules_Check.j2]
      exact Ev.ite_neg (by simp) (Ev.ite_pos c (fin _ rfl))
    · refine Ev.ite_neg c (Ev.succ ?_)
      simp only [rules_Check.j2]
      refine Ev.ite_neg (by simp) (Ev.ite_neg c (fin _ ?_))
      rw [h5 c, toList_nil.2 rfl]
      rfl
theorem check_f (rs : List Ru) (h : ChkOk rs) : Ev (fun k => rules_Check.f k rs) 0 := by
  simp only [rules_Check.f]
  exact Ev.ite_neg (by have := h.1; omega) (check_l0 rs h rs.length 0 (Nat.zero_add _))
theorem apply_f (rs : List Ru) (h : ChkOk rs) (l : List S) (ht : tot l ≤ 1099511627776) : Ev (fun k => rules_Apply.f k rs l) (ofA rs [] l, 0) := by
  simp only [rules_Apply.f]
  exact Ev.bnd (check_f rs h) (Ev.ite_pos (by first | trivial | rfl) (Ev.bnd (of_f rs l ht) (Ev.now _)))
theorem ruled_f (rs : List Ru) (h : ChkOk rs) (l : List S) (ht : tot l ≤ 1099511627776) : Ev (fun k => bobbinetkeep_ruledBy.f k rs l) (ofA rs [] l, true) := by
  simp only [bobbinetkeep_ruledBy.f]
  have h1 : ChkOk [(⟨(⟨#[98]⟩ : ByteArray), 1, (⟨#[105]⟩ : ByteArray)⟩ : Ru)] := by
    refine ⟨by decide, ?_, by simp⟩
    intro r hr
    rw [List.mem_singleton.1 hr]
    exact ⟨nameOk_b, by decide, by decide, fun _ => nameOk_i, fun h => absurd rfl h⟩
  have h2 : ofA [(⟨(⟨#[98]⟩ : ByteArray), 1, (⟨#[105]⟩ : ByteArray)⟩ : Ru)] [] [(⟨(⟨#[98]⟩ : ByteArray), [], nl, []⟩ : S)] = [(⟨(⟨#[105]⟩ : ByteArray), [], nl, []⟩ : S)] := by
    rw [ofA_cons, ofA_nil]
    unfold step
    have e : act [(⟨(⟨#[98]⟩ : ByteArray), 1, (⟨#[105]⟩ : ByteArray)⟩ : Ru)] (⟨#[98]⟩ : ByteArray) = (1, (⟨#[105]⟩ : ByteArray)) := by
      unfold act
      simp [List.findIdx?_cons, rd_T53]
    rw [if_neg (nameOk_ne nameOk_b), e, if_pos rfl, ofA_nil]
    rfl
  have h3 := apply_f _ h1 [(⟨(⟨#[98]⟩ : ByteArray), [], nl, []⟩ : S)] (by rw [tot_cons, tot_nil]; decide)
  rw [h2] at h3
  have h0 : rs.length ≤ 12 := h.1
  refine Ev.ite_pos (by simp; omega) (Ev.bnd (copied_f l ht) (Ev.bnd (apply_f _ (by simpa using h) l ht) (Ev.bnd h3 (Ev.ite_pos (by first | trivial | rfl) (Ev.ite_pos (by first | trivial | rfl) (Ev.ite_pos (by first | trivial | rfl) (Ev.ite_pos (by decide) ?_)))))))
  have e : ((rd_T60 [(⟨(⟨#[105]⟩ : ByteArray), [], nl, []⟩ : S)] 0).f0.toList == ([105] : List UInt8)) = true := by
    rw [rd_zero, toList_eq]
    rfl
  simp only [List.nil_append]
  rw [e]
  exact Ev.now _
/-! ### rules of numbers -/
def ROk (r : Ru) : Prop := (r.f1 = 1 ∧ (r.f2 = r.f0 ∨ r.f2 = strong ∨ r.f2 = x1)) ∨ ((r.f1 = 2 ∨ r.f1 = 3) ∧ r.f2 = nl)
def RsOk (rs : List Ru) : Prop := (∃ j, rs.map (fun r => r.f0) = elems.take j) ∧ ∀ r ∈ rs, ROk r
theorem rulesOf_l0 (l : List Int) (hl : l.length ≤ 17592186044416) : ∀ (d i : Nat) (acc : List Ru), i + d = 6 → acc.length = i → acc.map (fun r => r.f0) = elems.take i → (∀ r ∈ acc, ROk r) → ∃ rs, RsOk rs ∧ Ev (fun k => bobbinetkeep_RulesOf.l0 k l acc elems (i : Int)) rs
  | 0, i, acc, hd, hi, he, hr => by
    refine ⟨acc, ⟨⟨i, he⟩, hr⟩, Ev.succ ?_⟩
    have : elems.length = 6 := rfl
    simp only [bobbinetkeep_RulesOf.l0]
    refine Ev.ite_neg (by omega) (Ev.succ ?_)
    simp only [bobbinetkeep_RulesOf.j1]
    exact Ev.ite_neg (by simp) (Ev.now _)
  | d + 1, i, acc, hd, hi, he, hr => by
    have h6 : elems.length = 6 := rfl
    by_cases c : i < l.length
    · have hw : wrap64 ((i : Int) + 1) = ((i + 1 : Nat) : Int) := wrap_succ (n := i + 1) (by omega) (by omega)
      have p0 := Int.emod_nonneg (rd l (i : Int)) (show (3 : Int) ≠ 0 by omega)
      have p1 := Int.emod_lt_of_pos (rd l (i : Int)) (show (0 : Int) < 3 by omega)
      have hw2 : wrap64 (1 + rd l (i : Int) % 3) = 1 + rd l (i : Int) % 3 := wrap_id (by omega) (by omega)
      have hn : rdOf ByteArray.empty elems (i : Int) = elems[i] := by simp [rdOf, List.getD, show i < elems.length by omega]
      have go : ∀ r : Ru, r.f0 = elems[i] → ROk r → ∃ rs, RsOk rs ∧ Ev (fun k => bobbinetkeep_RulesOf.l0 k l (acc ++ [r]) elems (wrap64 ((i : Int) + 1))) rs := by
        intro r h0 h1
        rw [hw]
        refine rulesOf_l0 l hl d (i + 1) (acc ++ [r]) (by omega) (by simp [hi]) ?_ ?_
        · rw [List.map_append, he, List.take_succ_eq_append_getElem (by omega)]
          simp [h0]
        · intro x hx
          rcases List.mem_append.1 hx with hx | hx
          · exact hr x hx
          · rw [List.mem_singleton.1 hx]; exact h1
      have key : ∀ rs, Ev (fun k => bobbinetkeep_RulesOf.j1 k l acc elems (i : Int) true) rs → Ev (fun k => bobbinetkeep_RulesOf.l0 k l acc elems (i : Int)) rs := by
        intro rs h
        refine Ev.succ ?_
        simp only [bobbinetkeep_RulesOf.l0]
        rw [decide_eq_true (show (i : Int) < (l.length : Int) by omega)]
        exact Ev.ite_pos (by omega) h
      by_cases c1 : rd l (i : Int) % 3 = 0
      · have p2 := Int.emod_nonneg (wrap64 (Int.tdiv (rd l (i : Int)) 3)) (show (3 : Int) ≠ 0 by omega)
        have p3 := Int.emod_lt_of_pos (wrap64 (Int.tdiv (rd l (i : Int)) 3)) (show (0 : Int) < 3 by omega)
        have hmem := rdOf_mem ByteArray.empty [elems[i], strong, x1] (wrap64 (Int.tdiv (rd l (i : Int)) 3) % 3) p2 (by simpa using p3)
        simp only [List.mem_cons, List.not_mem_nil, or_false] at hmem
        obtain ⟨rs, h1, h2⟩ := go (⟨elems[i], 1 + rd l (i : Int) % 3, rdOf ByteArray.empty [elems[i], strong, x1] (wrap64 (Int.tdiv (rd l (i : Int)) 3) % 3)⟩ : Ru) rfl (.inl ⟨by simp only; omega, hmem⟩)
        refine ⟨rs, h1, key _ (Ev.succ ?_)⟩
        simp only [bobbinetkeep_RulesOf.j1]
        refine Ev.ite_pos (by first | trivial | rfl) (Ev.ite_pos (by omega) (Ev.ite_pos (by omega) (Ev.ite_pos (by omega) (Ev.bnd0 (picked_f _ _ (by omega) (by omega)) ?_))))
        rw [hw2, hn]
        exact Ev.ite_pos (by omega) (Ev.bnd0 rfl (Ev.bnd0 (picked_f _ _ (by omega) (by omega)) (Ev.ite_pos p2 (Ev.ite_pos (by simpa using p3) (Ev.ite_pos (by omega) h2)))))
      · obtain ⟨rs, h1, h2⟩ := go (⟨elems[i], 1 + rd l (i : Int) % 3, nl⟩ : Ru) rfl (.inr ⟨by simp only; omega, rfl⟩)
        refine ⟨rs, h1, key _ (Ev.succ ?_)⟩
        simp only [bobbinetkeep_RulesOf.j1]
        refine Ev.ite_pos (by first | trivial | rfl) (Ev.ite_pos (by omega) (Ev.ite_pos (by omega) (Ev.ite_pos (by omega) (Ev.bnd0 (picked_f _ _ (by omega) (by omega)) ?_))))
        rw [hw2, hn]
        exact Ev.ite_neg (by omega) (Ev.ite_pos (by omega) h2)
    · refine ⟨acc, ⟨⟨i, he⟩, hr⟩, Ev.succ ?_⟩
      simp only [bobbinetkeep_RulesOf.l0]
      rw [decide_eq_false (show ¬ (i : Int) < (l.length : Int) by omega)]
      refine Ev.ite_pos (by omega) (Ev.succ ?_)
      simp only [bobbinetkeep_RulesOf.j1]
      exact Ev.ite_neg (by simp) (Ev.now _)
theorem rulesOf_f (l : List Int) (hl : l.length ≤ 17592186044416) : ∃ rs, RsOk rs ∧ Ev (fun k => bobbinetkeep_RulesOf.f k l) rs := rulesOf_l0 l hl 6 0 [] rfl rfl rfl (by simp)
theorem rsOk_len {rs : List Ru} (h : RsOk rs) : rs.length ≤ 6 := by
  obtain ⟨⟨j, hj⟩, _⟩ := h
  have := congrArg List.length hj
  rw [List.length_map, List.length_take] at this
  have h6 : elems.length = 6 := rfl
  omega
theorem rsOk_apart {rs : List Ru} (h : ∃ j, rs.map (fun r => r.f0) = elems.take j) : rs.Pairwise (fun a b => a.f0 ≠ b.f0) := by
  obtain ⟨j, hj⟩ := h
  have h1 : elems.Pairwise (· ≠ ·) := by decide +kernel
  have h2 : (elems.take j).Pairwise (· ≠ ·) := h1.sublist (List.take_sublist j elems)
  rw [← hj, List.pairwise_map] at h2
  exact h2
theorem rsOk_name {rs : List Ru} (h : ∃ j, rs.map (fun r => r.f0) = elems.take j) : ∀ r ∈ rs, r.f0 ∈ elems := by
  obtain ⟨j, hj⟩ := h
  intro r hr
  have : r.f0 ∈ rs.map (fun r => r.f0) := List.mem_map_of_mem hr
  rw [hj] at this
  exact List.mem_of_mem_take this
theorem rok_keep {r : Ru} (hn : r.f0 ∈ elems) (h : ROk r) : 1 ≤ r.f1 ∧ r.f1 ≤ 3 ∧ (r.f1 = 1 → NameOk r.f2) ∧ (r.f1 ≠ 1 → r.f2 = nl) := by
  rcases h with ⟨h1, h2⟩ | ⟨h1, h2⟩
  · refine ⟨by omega, by omega, fun _ => ?_, fun h => absurd h1 h⟩
    rcases h2 with h2 | h2 | h2
    · rw [h2]; exact nameOk_elems _ hn
    · rw [h2]; exact nameOk_strong
    · rw [h2]; exact nameOk_x1
  · exact ⟨by omega, by omega, fun h => by omega, fun _ => h2⟩
theorem rsOk_chk {rs : List Ru} (h : RsOk rs) : ChkOk rs := by
  refine ⟨by have := rsOk_len h; omega, fun r hr => ?_, rsOk_apart h.1⟩
  have hn := rsOk_name h.1 r hr
  exact ⟨nameOk_elems _ hn, rok_keep hn (h.2 r hr)⟩
/-- what is done comes from a rule, or it is none's -/
theorem act_cases (rs : List Ru) (s : ByteArray) : (∃ r ∈ rs, r.f0 = s ∧ act rs s = (r.f1, r.f2)) ∨ ((∀ r ∈ rs, r.f0 ≠ s) ∧ act rs s = (2, nl)) := by
  unfold act
  cases hf : rs.findIdx? (fun x => x.f0.toList == s.toList) with
  | none =>
    right
    rw [List.findIdx?_eq_none_iff] at hf
    refine ⟨fun r hr he => ?_, rfl⟩
    have := hf r hr
    rw [he] at this
    simp at this
  | some i =>
    left
    obtain ⟨hi, h1, _⟩ := List.findIdx?_eq_some_iff_getElem.1 hf
    have e : rd_T53 rs (i : Int) = rs[i] := by simp [rd_T53, List.getD, hi]
    refine ⟨rs[i], List.getElem_mem hi, by simpa [toList_inj] using h1, by simp only [e]⟩
theorem Clean.mono {P Q : ByteArray → Prop} (hPQ : ∀ s, P s → Q s) {l : List S} (h : Clean P l) : Clean Q l := by
  induction h with
  | none => exact Clean.none
  | text _ h2 h3 ih => exact Clean.text ih h2 h3
  | elem _ h2 h3 _ ih ihq => exact Clean.elem ih h2 (hPQ _ h3) ihq
/-! ### nodes of numbers are plain -/
theorem plain_of {l : List S} (h : ∀ n ∈ l, ((n.f0 = nl ∧ n.f3 = []) ∨ (n.f0 ≠ nl ∧ n.f2 = nl)) ∧ Plain n.f3) : Plain l := by
  induction l with
  | nil => rw [Plain_nil]; trivial
  | cons n l ih =>
    rw [Plain_cons]
    exact ⟨(h n List.mem_cons_self).1, (h n List.mem_cons_self).2, ih (fun m hm => h m (List.mem_cons_of_mem _ hm))⟩
theorem good_plain (l : List S) : ∀ d m, Good d m l → Plain l := by
  induction l using ind2 with
  | h l ih =>
    intro d m hg
    refine plain_of (fun n hn => ?_)
    rcases hg.mem n hn with ⟨h0, h1, h2, h3⟩ | ⟨h0, h1, h2, h3⟩ | ⟨h0, h1, h2, h3, h4⟩
    · rw [h3, Plain_nil]; exact ⟨.inl ⟨h0, rfl⟩, trivial⟩
    · rw [h3, Plain_nil]; exact ⟨.inr ⟨nameOk_ne (nameOk_voids _ h0), h2⟩, trivial⟩
    · exact ⟨.inr ⟨nameOk_ne (nameOk_elems _ h1), h3⟩, ih n hn _ _ h4⟩
end Go.Proofs.Ythimfdojpgbmbaa.Tree
