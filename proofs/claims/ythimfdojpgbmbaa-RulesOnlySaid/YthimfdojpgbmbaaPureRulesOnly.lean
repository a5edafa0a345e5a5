/- RulesOnly: nothing but what rules keep is left; texts are not made, and without a rule that leaves something out all of them are there. For all numbers. -/
import Derived.Test.YthimfdojpgbmbaaX24
import Derived.Test.YthimfdojpgbmbaaLibRuledX
namespace Go.Proofs.Ythimfdojpgbmbaa.Pure
open Go.RowKit Go.Proofs.Ythimfdojpgbmbaa.X Go.Proofs.YthimfdojpgbmbaaW.PrintWords Go.Proofs.YthimfdojpgbmbaaW.PrintLast Go.Proofs.Ythimfdojpgbmbaa.Base Go.Proofs.Ythimfdojpgbmbaa.Tree
/-- names that are kept -/
def kp (l : List Ru) : List ByteArray := (l.filter (fun r => decide (r.f1 = 1))).map (fun r => r.f2)
theorem kp_cons (r : Ru) (l : List Ru) : kp (r :: l) = if r.f1 = 1 then r.f2 :: kp l else kp l := by
  unfold kp
  by_cases h : r.f1 = 1
  · simp [h]
  · simp [h]
theorem loop (t x : List S) (ht : tot t ≤ 1099511627776) (hx : tot x ≤ 1099511627776) (hle : (wB x).size ≤ (wB t).size) : ∀ (suf pre : List Ru) (names : List ByteArray) (all : Bool), pre.length + suf.length ≤ 6 → names.length ≤ pre.length → Tree.Clean (fun s => s ∈ names ++ kp suf) x → (all = true → (∀ r ∈ suf, r.f1 ≠ 3) → wB x = wB t) →
    Ev (fun k => bobbinetkeep_RulesOnly.l0 k (pre ++ suf) t x true names all (pre.length : Int)) true
  | [], pre, names, all, hl, hn, hc, hw => by
    have hc' : Tree.Clean (fun s => s ∈ names) x := hc.mono (fun s h => by simpa [kp] using h)
    have hd : decide (((wB x).size : Int) ≤ ((wB t).size : Int)) = true := decide_eq_true (by omega)
    refine Ev.succ ?_
    simp only [bobbinetkeep_RulesOnly.l0, List.append_nil]
    refine Ev.ite_neg (by omega) (Ev.ite_pos (by first | trivial | rfl) (Ev.bnd (only_f names (by simp at hl; omega) x hc' hx) (Ev.ite_pos (by first | trivial | rfl) (Ev.bnd (apart_f x hc' hx) (Ev.ite_pos (by first | trivial | rfl) ?_)))))
    cases all with
    | true =>
      have e := hw rfl (by simp)
      refine Ev.ite_pos (by first | trivial | rfl) (Ev.bnd (words_f x hx) (Ev.bnd (words_f t ht) (Ev.ite_pos (by rw [e]) (Ev.bnd (words_f x hx) (Ev.bnd (words_f t ht) ?_)))))
      rw [hd]
      exact Ev.now _
    | false =>
      refine Ev.ite_neg (by simp) (Ev.bnd (words_f x hx) (Ev.bnd (words_f t ht) ?_))
      rw [hd]
      exact Ev.now _
  | r :: suf, pre, names, all, hl, hn, hc, hw => by
    have h3 : (pre ++ r :: suf).length = pre.length + suf.length + 1 := by simp; omega
    simp only [List.length_cons] at hl
    have hrd : rd_T53 (pre ++ r :: suf) (pre.length : Int) = r := by simp [rd_T53, List.getD]
    have hwr : wrap64 ((pre.length : Int) + 1) = ((pre ++ [r]).length : Int) := by
      rw [wrap_id (by omega) (by omega)]; simp
    have e : pre ++ [r] ++ suf = pre ++ r :: suf := by simp
    rw [kp_cons] at hc
    refine Ev.succ ?_
    simp only [bobbinetkeep_RulesOnly.l0]
    rw [hrd, hwr]
    have hb : (r.f1 != 3) = true ↔ r.f1 ≠ 3 := by simp
    refine Ev.ite_pos (by omega) (Ev.ite_pos (by omega) ?_)
    by_cases c : r.f1 = 1
    · rw [if_pos c] at hc
      have go : ∀ b : Bool, (b = true → (∀ r ∈ suf, r.f1 ≠ 3) → wB x = wB t) → Ev (fun k => bobbinetkeep_RulesOnly.l0 k (pre ++ r :: suf) t x true (names ++ [r.f2]) b ((pre ++ [r]).length : Int)) true := by
        intro b h
        have := loop t x ht hx hle suf (pre ++ [r]) (names ++ [r.f2]) b (by simp; omega) (by simp; omega) (by simpa using hc) h
        rwa [e] at this
      refine Ev.ite_pos c (Ev.ite_pos (by omega) (Ev.bnd0 rfl ?_))
      cases all with
      | true => exact Ev.ite_pos (by first | trivial | rfl) (go _ (fun h1 h2 => hw rfl (fun r' hr' => by
          rcases List.mem_cons.1 hr' with rfl | hr'
          · exact hb.1 h1
          · exact h2 _ hr')))
      | false => exact Ev.ite_neg (by simp) (go _ (fun h => by cases h))
    · rw [if_neg c] at hc
      have go : ∀ b : Bool, (b = true → (∀ r ∈ suf, r.f1 ≠ 3) → wB x = wB t) → Ev (fun k => bobbinetkeep_RulesOnly.l0 k (pre ++ r :: suf) t x true names b ((pre ++ [r]).length : Int)) true := by
        intro b h
        have := loop t x ht hx hle suf (pre ++ [r]) names b (by simp; omega) (by simp; omega) hc h
        rwa [e] at this
      refine Ev.ite_neg c ?_
      cases all with
      | true => exact Ev.ite_pos (by first | trivial | rfl) (go _ (fun h1 h2 => hw rfl (fun r' hr' => by
          rcases List.mem_cons.1 hr' with rfl | hr'
          · exact hb.1 h1
          · exact h2 _ hr')))
      | false => exact Ev.ite_neg (by simp) (go _ (fun h => by cases h))
theorem RulesOnly : bobbinetkeep_RulesOnly.Pure := by
  intro l0 l1 _ h0 _ _ h1 _
  obtain ⟨rs, hrs, e1⟩ := rulesOf_f l0 (by omega)
  obtain ⟨t, rest, e2, hg⟩ := nodes_f l1 (by omega) 4 6 (by omega) (by omega)
  have ht : tot t ≤ 1099511627776 := by
    have h2 := hg.tot
    have h3 := hg.len
    have h4 : t.length * cap 4 ≤ 6 * cap 4 := Nat.mul_le_mul h3 (Nat.le_refl _)
    have h5 : cap 4 ≤ 10000 := by decide
    omega
  have hx := ofA_tot rs t []
  rw [tot_nil] at hx
  have hne : ∀ s, s ≠ nl → (act rs s).1 = 1 → (act rs s).2 ∈ [] ++ kp rs ∧ (act rs s).2 ≠ nl := by
    intro s _ h
    rcases act_cases rs s with ⟨r, hr, h2, h3⟩ | ⟨_, h3⟩
    · rw [h3] at h ⊢
      refine ⟨?_, nameOk_ne ((rok_keep (rsOk_name hrs.1 r hr) (hrs.2 r hr)).2.2.1 h)⟩
      rw [List.nil_append]
      unfold kp
      exact List.mem_map_of_mem (List.mem_filter.2 ⟨hr, by simpa using h⟩)
    · rw [h3] at h; simp at h
  have hle := ofA_words_le rs (fun s h0 h1 => (hne s h0 h1).2) t [] Clean.none
  have hz : (wB []).size = 0 := by rw [wB_nil]; rfl
  have e3 := loop t (ofA rs [] t) ht (by omega) (by omega) rs [] [] true (by simpa using rsOk_len hrs) (Nat.le_refl _) (ofA_clean rs _ hne t [] Clean.none) (fun _ hall => by
    have := ofA_words rs (fun s h0 h1 => (hne s h0 h1).2) (fun s _ => by
      rcases act_cases rs s with ⟨r, hr, _, h3⟩ | ⟨_, h3⟩
      · rw [h3]
        have h4 := hall r hr
        have h5 := rok_keep (rsOk_name hrs.1 r hr) (hrs.2 r hr)
        simp only
        omega
      · rw [h3]; exact .inr rfl) t [] (good_plain t _ _ hg) Clean.none
    rwa [wB_nil, B_nil_app] at this)
  refine Ev.rounds ?_
  simp only [bobbinetkeep_RulesOnly.f]
  exact Ev.bnd e1 (Ev.bnd e2 (Ev.bnd (ruled_f rs (rsOk_chk hrs) t ht) e3))
end Go.Proofs.Ythimfdojpgbmbaa.Pure
