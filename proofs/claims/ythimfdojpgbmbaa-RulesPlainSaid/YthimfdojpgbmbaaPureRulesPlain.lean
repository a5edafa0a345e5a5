/- RulesPlain: without rules nothing but one text is left, all of it; where all elements are left out there is no text within elements. For all numbers. -/
import Derived.Test.YthimfdojpgbmbaaX27
import Derived.Test.YthimfdojpgbmbaaLibRuledX
namespace Go.Proofs.Ythimfdojpgbmbaa.Pure
open Go.RowKit Go.Proofs.Ythimfdojpgbmbaa.X Go.Proofs.YthimfdojpgbmbaaW.PrintWords Go.Proofs.YthimfdojpgbmbaaW.PrintLast Go.Proofs.Ythimfdojpgbmbaa.Base Go.Proofs.Ythimfdojpgbmbaa.Tree
def names8 : List ByteArray := [(⟨#[100, 105, 118]⟩ : ByteArray), (⟨#[98]⟩ : ByteArray), (⟨#[101, 109]⟩ : ByteArray), (⟨#[112]⟩ : ByteArray), (⟨#[97]⟩ : ByteArray), (⟨#[117, 108]⟩ : ByteArray), (⟨#[98, 114]⟩ : ByteArray), (⟨#[105, 109, 103]⟩ : ByteArray)]
theorem names8_eq : names8 = elems ++ voids := rfl
def leave (s : ByteArray) : Ru := ⟨s, 3, nl⟩
def rs8 : List Ru := names8.map leave
theorem chk8 : ChkOk rs8 := by
  refine ⟨by decide, ?_, ?_⟩
  · intro r hr
    obtain ⟨s, hs, rfl⟩ := List.mem_map.1 hr
    rw [names8_eq] at hs
    refine ⟨?_, by simp [leave], by simp [leave], fun h => absurd h (by simp [leave]), fun _ => rfl⟩
    rcases List.mem_append.1 hs with hs | hs
    · exact nameOk_elems _ hs
    · exact nameOk_voids _ hs
  · have h1 : names8.Pairwise (· ≠ ·) := by decide +kernel
    unfold rs8
    rw [List.pairwise_map]
    exact h1
theorem act8 (s : ByteArray) (h : s ∈ names8) : act rs8 s = (3, nl) := by
  rcases act_cases rs8 s with ⟨r, hr, _, h3⟩ | ⟨h2, _⟩
  · rw [h3]
    obtain ⟨q, _, rfl⟩ := List.mem_map.1 hr
    rfl
  · exact absurd rfl (h2 (leave s) (List.mem_map_of_mem h))
theorem act8_any (s : ByteArray) : (act rs8 s).1 ≠ 1 := by
  rcases act_cases rs8 s with ⟨r, hr, _, h3⟩ | ⟨_, h3⟩
  · rw [h3]
    obtain ⟨q, _, rfl⟩ := List.mem_map.1 hr
    simp [leave]
  · rw [h3]; simp
theorem act0 (s : ByteArray) : act [] s = (2, nl) := rfl
theorem clean_false {l : List S} (h : Tree.Clean (fun _ => False) l) : l = [] ∨ ∃ u, u ≠ nl ∧ l = [(⟨nl, [], u, []⟩ : S)] := by
  induction h with
  | none => exact .inl rfl
  | @text l t h1 h2 h3 ih =>
    rcases ih with rfl | ⟨u, hu, rfl⟩
    · exact .inr ⟨t, h3, rfl⟩
    · exact absurd rfl (h2 _ rfl)
  | elem h1 h2 h3 h4 => exact h3.elim
/-- the texts that stand outermost -/
def top : List S → ByteArray
  | [] => nl
  | n :: l => n.f2 ++ top l
theorem top_nil : top [] = nl := rfl
theorem top_cons (n : S) (l : List S) : top (n :: l) = n.f2 ++ top l := rfl
theorem top_size : ∀ l : List S, (top l).size ≤ tot l
  | [] => Nat.zero_le _
  | n :: l => by
    have := top_size l
    rw [tot_cons, top_cons, ByteArray.size_append]
    omega
theorem wB_single (u : ByteArray) : wB [(⟨nl, [], u, []⟩ : S)] = u := by rw [wB_cons, wB_nil, B_app_nil, B_app_nil]
theorem ofA_top : ∀ (l acc : List S), (∀ n ∈ l, n.f0 ∈ names8 ∨ n.f0 = nl) → Plain l → Tree.Clean (fun _ => False) acc → wB (ofA rs8 acc l) = wB acc ++ top l
  | [], acc, _, _, _ => by rw [ofA_nil, top_nil, B_app_nil]
  | n :: l, acc, hn, hp, hc => by
    rw [Plain_cons] at hp
    obtain ⟨hk, _, hl⟩ := hp
    have hs : Tree.Clean (fun _ => False) (Tree.step rs8 acc n) := by
      have := ofA_clean rs8 (fun _ => False) (fun s _ h => absurd h (act8_any s)) [n] acc hc
      rwa [ofA_cons, ofA_nil] at this
    rw [ofA_cons, ofA_top l _ (fun m hm => hn m (List.mem_cons_of_mem _ hm)) hl hs]
    rw [top_cons, ← ByteArray.append_assoc]
    congr 1
    unfold Tree.step
    by_cases h0 : n.f0 = nl
    · rw [if_pos h0]
      split
      · rename_i h2; rw [h2, B_app_nil]
      · rw [join_one, wB_one hc]
    · rcases hk with ⟨h1, _⟩ | ⟨_, h2⟩
      · exact absurd h1 h0
      · have h3 := hn n List.mem_cons_self
        have h4 : n.f0 ∈ names8 := by
          rcases h3 with h3 | h3
          · exact h3
          · exact absurd h3 h0
        rw [if_neg h0, act8 _ h4, if_neg (by simp), if_neg (by simp), h2, B_app_nil]
theorem outer_l1 (t x y : List S) (ht : tot t ≤ 1099511627776) (hy : wB y = top t) (hyt : tot y ≤ 1099511627776) (hy1 : y.length ≤ 1) (hx : (x = [] ∧ wB t = nl) ∨ ∃ u, u ≠ nl ∧ x = [(⟨nl, [], u, []⟩ : S)] ∧ u = wB t) : ∀ (suf pre : List S) (acc : ByteArray), t = pre ++ suf → acc.size ≤ tot pre → acc ++ top suf = top t →
    Ev (fun k => bobbinetkeep_RulesPlain.l1 k t x true (wB t) y true acc (pre.length : Int)) true
  | [], pre, acc, he, ha, hs => by
    have he : t = pre := by simpa using he
    have hacc : acc = top t := by
      have h0 : top [] = nl := rfl
      rw [h0, B_app_nil] at hs
      exact hs
    refine Ev.succ ?_
    simp only [bobbinetkeep_RulesPlain.l1]
    refine Ev.ite_neg (by rw [he]; omega) (Ev.ite_pos (by first | trivial | rfl) (Ev.ite_pos (by first | trivial | rfl) (Ev.bnd (words_f y hyt) (Ev.ite_pos (by rw [hy, hacc]) (Ev.ite_neg (by omega) ?_)))))
    rcases hx with ⟨rfl, h2⟩ | ⟨u, hu, rfl, h2⟩
    · exact Ev.ite_pos (toList_nil.2 h2) (Ev.ite_pos (by simp) (Ev.now _))
    · have e : ((rd_T60 [(⟨nl, [], u, []⟩ : S)] 0).f2.toList == (wB t).toList) = true := by
        rw [rd_zero, ← h2]
        simp
      refine Ev.ite_neg (fun h => hu (by rw [h2]; exact toList_nil.1 h)) (Ev.ite_pos (by simp) (Ev.ite_pos (by simp) (Ev.ite_pos (toList_nil.2 rfl) ?_)))
      rw [e]
      exact Ev.now _
  | n :: suf, pre, acc, he, ha, hs => by
    have h1 := tot_len t
    have h5 := tot_app pre (n :: suf)
    have h6 := tot_cons n suf
    rw [← he] at h5
    have h3 : t.length = pre.length + suf.length + 1 := by rw [he]; simp; omega
    have hrd : rd_T60 t (pre.length : Int) = n := by rw [he]; exact rd_mid _ _ _
    have hw : wrap64 ((pre.length : Int) + 1) = ((pre ++ [n]).length : Int) := by
      rw [wrap_id (by omega) (by omega)]; simp
    have ih := outer_l1 t x y ht hy hyt hy1 hx suf (pre ++ [n]) (acc ++ n.f2) (by rw [he]; simp) (by rw [tot_app, tot_cons, tot_nil, ByteArray.size_append]; omega) (by
      have h0 : top (n :: suf) = n.f2 ++ top suf := rfl
      rw [← hs, h0, ByteArray.append_assoc])
    refine Ev.succ ?_
    simp only [bobbinetkeep_RulesPlain.l1]
    rw [hrd, hw]
    exact Ev.ite_pos (by omega) (Ev.ite_pos (by omega) (Ev.ite_pos (by omega) ih))
theorem rules_l0 (t x : List S) (fin : Ev (fun k => bobbinetkeep_RulesPlain.l1 k t x true (wB t) (ofA rs8 [] t) true (⟨#[]⟩ : ByteArray) 0) true) (ht : tot t ≤ 1099511627776) : ∀ (suf pre : List ByteArray), names8 = pre ++ suf → Ev (fun k => bobbinetkeep_RulesPlain.l0 k t x true (wB t) (pre.map leave) names8 (pre.length : Int)) true
  | [], pre, he => by
    have he : pre = names8 := by simpa using he.symm
    subst he
    refine Ev.succ ?_
    simp only [bobbinetkeep_RulesPlain.l0]
    exact Ev.ite_neg (by omega) (Ev.bnd (ruled_f rs8 chk8 t ht) fin)
  | s :: suf, pre, he => by
    have h8 : names8.length = 8 := rfl
    have h3 : names8.length = pre.length + suf.length + 1 := by rw [he]; simp; omega
    have hrd : rdOf ByteArray.empty names8 (pre.length : Int) = s := by rw [he]; simp [rdOf, List.getD]
    have hw : wrap64 ((pre.length : Int) + 1) = ((pre ++ [s]).length : Int) := by
      rw [wrap_id (by omega) (by omega)]; simp
    have ih := rules_l0 t x fin ht suf (pre ++ [s]) (by rw [he]; simp)
    rw [List.map_append] at ih
    refine Ev.succ ?_
    simp only [bobbinetkeep_RulesPlain.l0]
    rw [hrd, hw]
    exact Ev.ite_pos (by omega) (Ev.ite_pos (by omega) (Ev.ite_pos (by simp; omega) ih))
theorem RulesPlain : bobbinetkeep_RulesPlain.Pure := by
  intro l _ h1 _
  obtain ⟨t, rest, e2, hg⟩ := nodes_f l (by omega) 4 6 (by omega) (by omega)
  have ht : tot t ≤ 1099511627776 := by
    have h2 := hg.tot
    have h3 := hg.len
    have h4 : t.length * cap 4 ≤ 6 * cap 4 := Nat.mul_le_mul h3 (Nat.le_refl _)
    have h5 : cap 4 ≤ 10000 := by decide
    omega
  have hp := good_plain t _ _ hg
  have hn : ∀ n ∈ t, n.f0 ∈ names8 ∨ n.f0 = nl := by
    intro n hn
    rw [names8_eq]
    rcases hg.mem n hn with ⟨h0, _⟩ | ⟨h0, _⟩ | ⟨_, h0, _⟩
    · exact .inr h0
    · exact .inl (List.mem_append_right _ h0)
    · exact .inl (List.mem_append_left _ h0)
  have hy := ofA_top t [] hn hp Clean.none
  rw [wB_nil, B_nil_app] at hy
  have hyt := ofA_tot rs8 t []
  rw [tot_nil] at hyt
  have hyc := clean_false (ofA_clean rs8 (fun _ => False) (fun s _ h => absurd h (act8_any s)) t [] Clean.none)
  have hxc := clean_false (ofA_clean [] (fun _ => False) (fun s _ h => absurd h (by rw [act0]; simp)) t [] Clean.none)
  have hxw := ofA_words [] (fun s _ h => absurd h (by rw [act0]; simp)) (fun s _ => .inr (by rw [act0])) t [] hp Clean.none
  rw [wB_nil, B_nil_app] at hxw
  have hx : (ofA [] [] t = [] ∧ wB t = nl) ∨ ∃ u, u ≠ nl ∧ ofA [] [] t = [(⟨nl, [], u, []⟩ : S)] ∧ u = wB t := by
    rcases hxc with h | ⟨u, hu, h⟩
    · left
      rw [h, wB_nil] at hxw
      exact ⟨h, hxw.symm⟩
    · right
      rw [h, wB_single] at hxw
      exact ⟨u, hu, h, hxw⟩
  have hy1 : (ofA rs8 [] t).length ≤ 1 := by
    rcases hyc with h | ⟨u, _, h⟩
    · rw [h]; simp
    · rw [h]; simp
  have fin := outer_l1 t (ofA [] [] t) (ofA rs8 [] t) ht hy (by omega) hy1 hx t [] (⟨#[]⟩ : ByteArray) rfl (Nat.zero_le _) (B_nil_app _)
  have e3 := rules_l0 t (ofA [] [] t) fin ht names8 [] rfl
  refine Ev.rounds ?_
  simp only [bobbinetkeep_RulesPlain.f]
  exact Ev.bnd e2 (Ev.bnd (ruled_f [] ⟨by simp, by simp, by simp⟩ t ht) (Ev.bnd (words_f t ht) e3))
end Go.Proofs.Ythimfdojpgbmbaa.Pure
