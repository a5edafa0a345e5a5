/- RulesTwice: rules that keep names as they are do nothing a second time. For all numbers. -/
import Derived.Test.YthimfdojpgbmbaaX25
import Derived.Test.YthimfdojpgbmbaaLibRuledX
import Derived.Test.YthimfdojpgbmbaaLibSameX
namespace Go.Proofs.Ythimfdojpgbmbaa.Pure
open Go.RowKit Go.Proofs.Ythimfdojpgbmbaa.X Go.Proofs.YthimfdojpgbmbaaW.PrintWords Go.Proofs.YthimfdojpgbmbaaW.PrintLast Go.Proofs.Ythimfdojpgbmbaa.Base Go.Proofs.Ythimfdojpgbmbaa.Tree
def upd (r : Ru) : Ru := if r.f1 = 1 then ⟨r.f0, r.f1, r.f0⟩ else r
theorem upd_name (r : Ru) : (upd r).f0 = r.f0 := by unfold upd; split <;> rfl
theorem upd_kind (r : Ru) : (upd r).f1 = r.f1 := by unfold upd; split <;> rfl
theorem loop2 (l : List Int) {G : Nat → List Ru → Option Bool} (hG : ∀ k (r : List Ru) (i : Int), ¬ i < (r.length : Int) → bobbinetkeep_RulesTwice.l0 (k + 1) l r i = G k r) : ∀ (suf pre : List Ru), pre.length + suf.length ≤ 6 → Ev (fun k => G k (pre.map upd ++ suf.map upd)) true → Ev (fun k => bobbinetkeep_RulesTwice.l0 k l (pre.map upd ++ suf) (pre.length : Int)) true
  | [], pre, hl, h => by
    refine Ev.succ ?_
    refine Ev.congr (f := fun k => G k (pre.map upd ++ [])) (fun k => hG k _ _ (by simp)) h
  | r :: suf, pre, hl, h => by
    simp only [List.length_cons] at hl
    have h3 : (pre.map upd ++ r :: suf).length = pre.length + suf.length + 1 := by simp; omega
    have hrd : rd_T53 (pre.map upd ++ r :: suf) (pre.length : Int) = r := by simp [rd_T53, List.getD]
    have hwr : wrap64 ((pre.length : Int) + 1) = ((pre ++ [r]).length : Int) := by
      rw [wrap_id (by omega) (by omega)]; simp
    have ih := loop2 l hG suf (pre ++ [r]) (by simp; omega) (by simpa using h)
    have e : (pre ++ [r]).map upd ++ suf = pre.map upd ++ upd r :: suf := by simp
    rw [e] at ih
    refine Ev.succ ?_
    simp only [bobbinetkeep_RulesTwice.l0]
    rw [hrd, hwr]
    refine Ev.ite_pos (by omega) (Ev.ite_pos (by omega) ?_)
    by_cases c : r.f1 = 1
    · refine Ev.ite_pos c ?_
      have e2 : (pre.map upd ++ r :: suf).set (pre.length : Int).toNat (⟨r.f0, r.f1, r.f0⟩ : Ru) = pre.map upd ++ upd r :: suf := by
        rw [Int.toNat_natCast, List.set_append_right _ _ (by simp)]
        simp [upd, c]
      rw [e2]
      exact ih
    · refine Ev.ite_neg c ?_
      have e2 : upd r = r := by unfold upd; rw [if_neg c]
      rw [e2] at ih
      exact ih
theorem RulesTwice : bobbinetkeep_RulesTwice.Pure := by
  intro l0 l1 _ h0 _ _ h1 _
  obtain ⟨rs, hrs, e1⟩ := rulesOf_f l0 (by omega)
  obtain ⟨t, rest, e2, hg⟩ := nodes_f l1 (by omega) 4 6 (by omega) (by omega)
  have ht : tot t ≤ 1099511627776 := by
    have h2 := hg.tot
    have h3 := hg.len
    have h4 : t.length * cap 4 ≤ 6 * cap 4 := Nat.mul_le_mul h3 (Nat.le_refl _)
    have h5 : cap 4 ≤ 10000 := by decide
    omega
  have hn2 : ∃ j, (rs.map upd).map (fun r => r.f0) = elems.take j := by
    obtain ⟨j, hj⟩ := hrs.1
    refine ⟨j, ?_⟩
    rw [List.map_map, ← hj]
    exact List.map_congr_left (fun r _ => upd_name r)
  have hrs2 : ChkOk (rs.map upd) := by
    refine ⟨by have := rsOk_len hrs; simp; omega, fun r hr => ?_, rsOk_apart hn2⟩
    have hn := rsOk_name hn2 r hr
    obtain ⟨q, hq, rfl⟩ := List.mem_map.1 hr
    have h5 := rok_keep (rsOk_name hrs.1 q hq) (hrs.2 q hq)
    rw [upd_name] at hn
    refine ⟨by rw [upd_name]; exact nameOk_elems _ hn, by rw [upd_kind]; exact h5.1, by rw [upd_kind]; exact h5.2.1, fun h => ?_, fun h => ?_⟩
    · rw [upd_kind] at h
      unfold upd; rw [if_pos h]; exact nameOk_elems _ hn
    · rw [upd_kind] at h
      unfold upd; rw [if_neg h]; exact h5.2.2.2 h
  have hx := ofA_tot (rs.map upd) t []
  rw [tot_nil] at hx
  have hne : ∀ s, s ≠ nl → (act (rs.map upd) s).1 = 1 → act (rs.map upd) (act (rs.map upd) s).2 = (1, (act (rs.map upd) s).2) ∧ (act (rs.map upd) s).2 ≠ nl := by
    intro s hs h
    have key : (act (rs.map upd) s).2 = s := by
      rcases act_cases (rs.map upd) s with ⟨r, hr, h2, h3⟩ | ⟨_, h3⟩
      · rw [h3] at h ⊢
        obtain ⟨q, hq, rfl⟩ := List.mem_map.1 hr
        simp only at h ⊢
        rw [upd_kind] at h
        rw [upd_name] at h2
        unfold upd
        rw [if_pos h]
        exact h2
      · rw [h3] at h; simp at h
    rw [key]
    exact ⟨Prod.ext h key, hs⟩
  have hc := ofA_clean (rs.map upd) (fun s => act (rs.map upd) s = (1, s)) hne t [] Clean.none
  have e3 := ofA_fix (rs.map upd) (fun s => act (rs.map upd) s = (1, s)) (fun s h => h) _ hc []
  rw [join_clean hc] at e3
  have r1 := ruled_f (rs.map upd) hrs2 t ht
  have r2 := ruled_f (rs.map upd) hrs2 (ofA (rs.map upd) [] t) (by omega)
  rw [e3] at r2
  refine Ev.rounds ?_
  simp only [bobbinetkeep_RulesTwice.f]
  refine Ev.bnd e1 ?_
  have := loop2 l1 (G := fun k x5 => ((bobbinetkeep_Nodes.f k l1 4 6).bind fun bt321 => ((bobbinetkeep_ruledBy.f k x5 bt321.1).bind fun bt327 => ((bobbinetkeep_ruledBy.f k x5 bt327.1).bind fun bt331 => (if bt327.2 = true then (if bt331.2 = true then ((bobbinetkeep_sameNodes.f bt327.1 bt331.1).bind fun t335 => (some t335)) else none) else none))))) (fun k r i h => by
    simp only [bobbinetkeep_RulesTwice.l0]
    rw [if_neg h]) rs [] (by simpa using rsOk_len hrs) ?_
  · simpa using this
  · simp only [List.map_nil, List.nil_append]
    exact Ev.bnd e2 (Ev.bnd r1 (Ev.bnd r2 (Ev.ite_pos (by first | trivial | rfl) (Ev.ite_pos (by first | trivial | rfl) (Ev.bnd (same_refl _) (Ev.now _))))))
end Go.Proofs.Ythimfdojpgbmbaa.Pure
