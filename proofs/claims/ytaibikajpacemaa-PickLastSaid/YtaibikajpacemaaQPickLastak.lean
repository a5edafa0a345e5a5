/- Parts of the proof of PickLast that are needed, put together by pack.py. -/
import Derived.Test.YtaibikajpacemaaQPickLastaf
import Derived.Test.YtaibikajpacemaaQPickLastaj
import Derived.Laws.EntriesVeiled
section
namespace Go.Proofs.Ytaibikajpacemaa.X
open Go.RowKit Go.Proofs.YtaibikajpacemaaW.PrintWords Go.Proofs.YtaibikajpacemaaW.PrintLast Go.Proofs.YtaibikajpacemaaW.PrintMore
attribute [local go_sem] max2_int min2_int max_two min_two max_three min_three max_four min_four   -- for this text's walks alone
set_option linter.unusedVariables false
set_option linter.unusedSimpArgs false
def pick_check.nm (s : ByteArray) : Bool := s.toList == ([] : List UInt8) || emit_Name.f s == some true
def pick_check.ok (ps : List S61) : Bool := decide (0 < ps.length) && decide (ps.length ≤ 10) && ps.all fun p => pick_check.nm p.f0 && pick_check.nm p.f1
def pick_check.f (l0 : List S61) : Option Int := if pick_check.ok l0 = true then some 0 else none
theorem pick_check.nm_odd (s : ByteArray) (h : pick_check.nm s = true) : pick_check_1.f s = some false := by
  unfold pick_check.nm at h
  unfold pick_check_1.f
  by_cases c : s.toList = ([] : List UInt8)
  · simp [c]
  · have h2 : emit_Name.f s = some true := by simpa [c] using h
    simp [c, h2]
set_option maxHeartbeats 1000000 in
set_option maxRecDepth 100000 in
theorem pick_check.clo (x0 x1 : ByteArray) (x2 : Bool) (g : Nat) (w : World) (hg : w.heap[g]? = some (.cells #[.func (.func 44) #[] #[]] 90 (0, 0))) (h0 : pick_check.nm x0 = true) (h1 : pick_check.nm x1 = true) :
    Calls Try.prog 47 #[.agg #[.string x0, .string x1, .bool x2], .pointer (some ⟨g, 0, none⟩)] w fun e w' => e = .returned (.bool false) ∧ Below w.heap.size w w' := by
  have H0 := Aside0.mk (pick_check.nm_odd x0 h0)
  have H1 := Aside0.mk (pick_check.nm_odd x1 h1)
  have BK := Aside0.mk hg
  have hc0 := blk_cell hg 0
  simp only [List.getElem?_toArray, List.getElem?_cons_zero] at hc0
  have hca : ∀ o, (w.alloc o).cell? ⟨g, 0, none⟩ = some (.func (.func 44) #[] #[]) := fun o => ((below_alloc (Below.refl _ _) o).cell (World.block_lt_of_cell? w _ hc0)).trans hc0
  clear hg h0 h1
  go_enter Try.func47, Try.ntmps47
  go_wp2_with (first
    | (go_at_call 44; (with_reducible refine (pick_check_1.calls x0 false _ H0.out).mono ?_); rintro e w2 ⟨rfl, hb⟩; have HB2 := Aside0.mk (below_step (below_alloc (Below.refl w.heap.size w) _) hb); have hc2 := (hb.cell (World.block_lt_of_cell? _ _ (hca _))).trans (hca _); have hz := blk_cell (blk_below (blk_new w _) hb) 1; simp only [List.getElem?_toArray, List.getElem?_cons_zero, List.getElem?_cons_succ] at hz; clear hb hca hc0)
    | (go_at_call 44; (with_reducible refine (pick_check_1.calls x1 false _ H1.out).mono ?_); rintro e w3 ⟨rfl, hb⟩; have HB3 := Aside0.mk (below_step HB2.out hb); clear hb))
  go_ret
  exact ⟨rfl, HB3.out⟩
set_option maxHeartbeats 1000000 in
set_option maxRecDepth 100000 in
theorem pick_check.index (A0 : Option Addr) (c0 : Nat) (l0 : List S61) (g : Nat) (w : World) (hg : w.heap[g]? = some (.cells #[.func (.func 44) #[] #[]] 90 (0, 0))) (hr0 : Kd.C k61 w A0 l0.length l0) (hall : ∀ x ∈ l0, pick_check.nm x.f0 = true ∧ pick_check.nm x.f1 = true) :
    Calls Try.prog 54 #[.slice A0 l0.length c0, .func (.func 47) #[] #[.pointer (some ⟨g, 0, none⟩)]] w fun e w' => e = .returned (.int .i64 (-1)) ∧ Below w.heap.size w w' := by
  have HR0 := Aside0.mk hr0
  have HA := Aside0.mk hall
  have BK := Aside0.mk hg
  have hmax := Kd.C_max hr0
  clear hr0 hall hg
  go_enter Try.func54, Try.ntmps54
  go_wp2
  go_loopw [8] (fun v8 wr => ∃ x8 : Int, v8 = .int .i64 x8 ∧ Aside0 (0 ≤ x8 ∧ x8 ≤ l0.length) ∧ Aside0 (Below w.heap.size w wr)) (fun v8 _ => l0.length - (intOf v8).toNat)
  case atStart => exact ⟨0, rfl, ⟨by omega⟩, ⟨Below.refl _ _⟩⟩
  case round =>
    obtain ⟨x8, rfl, HI, HB⟩ := hrel
    have p0 := HI.out.1
    by_cases q0 : x8 < (l0.length : Int)
    · obtain ⟨ad, e0, hx0, hx1, hx2⟩ := at_T61 HR0.out x8 p0 q0
      cases e0
      replace hx0 := (HB.out.cell (World.block_lt_of_cell? w _ hx0)).trans hx0
      replace hx1 := (HB.out.cell (World.block_lt_of_cell? w _ hx1)).trans hx1
      replace hx2 := (HB.out.cell (World.block_lt_of_cell? w _ hx2)).trans hx2
      have hmem : rd_T61 l0 x8 ∈ l0 := by
        have : x8.toNat < l0.length := by omega
        simp [rd_T61, List.getD, this]
      have HN := Aside0.mk (HA.out _ hmem)
      clear hmem
      have hw : wrap64 (x8 + 1) = x8 + 1 := by unfold wrap64; omega
      have HW := Aside0.mk hw
      clear hw
      have HQ := Aside0.mk q0
      have hb0 : decide (x8 < (l0.length : Int)) = true := decide_eq_true q0
      have hb1 : decide (0 ≤ x8) = true := decide_eq_true p0
      replace p0 := eq_true p0
      replace q0 := eq_true q0
      go_wp2_with (first | (go_at_call 47; (with_reducible refine (pick_check.clo (rd_T61 l0 x8).f0 (rd_T61 l0 x8).f1 (rd_T61 l0 x8).f2 g _ ?side1 HN.out.1 HN.out.2).mono ?_); (case side1 => exact blk_below BK.out HB.out); rintro e w2 ⟨rfl, hb⟩; have HB2 := Aside0.mk (below_step HB.out hb); clear hb))
      go_roundw
      case rel => exact ⟨x8 + 1, by rw [HW.out], ⟨by have := HI.out; have := HQ.out; omega⟩, ⟨by repeat (first | (with_reducible first | exact HB2.out | apply below_alloc | apply pw_below_drewN | apply below_drew1) | exact HB2.out)⟩⟩
      case measure => have := HQ.out; have := HI.out; simp [intOf, HW.out]; omega
    · have hb0 : decide (x8 < (l0.length : Int)) = false := decide_eq_false q0
      go_wp2
      go_ret
      exact ⟨rfl, by repeat (first | (with_reducible first | exact HB.out | apply below_alloc | apply pw_below_drewN | apply below_drew1) | exact HB.out)⟩
set_option maxHeartbeats 4000000 in
set_option maxRecDepth 100000 in
theorem pick_check.any (A0 : Option Addr) (c0 : Nat) (l0 : List S61) (g : Nat) (w : World) (hg : w.heap[g]? = some (.cells #[.func (.func 44) #[] #[]] 90 (0, 0))) (hr0 : Kd.C k61 w A0 l0.length l0) (hall : ∀ x ∈ l0, pick_check.nm x.f0 = true ∧ pick_check.nm x.f1 = true) :
    Calls Try.prog 46 #[.slice A0 l0.length c0, .func (.func 47) #[] #[.pointer (some ⟨g, 0, none⟩)]] w fun e w' => e = .returned (.bool false) ∧ Below w.heap.size w w' := by
  have HC := Aside0.mk (pick_check.index A0 c0 l0 g w hg hr0 hall)
  clear hr0 hg hall
  go_enter Try.func46, Try.ntmps46
  go_wp2_with (go_at_call 54; (with_reducible refine HC.out.mono ?_); rintro e w1 ⟨rfl, hb⟩)
  go_ret
  exact ⟨rfl, hb⟩
set_option maxHeartbeats 4000000 in
set_option maxRecDepth 100000 in
theorem pick_check.calls (A0 : Option Addr) (c0 : Nat) (l0 : List S61) (r : Int) (w : World) (hr0 : Kd.C k61 w A0 l0.length l0) (hc0 : l0.length ≤ c0) (h : pick_check.f l0 = some r) :
    Calls Try.prog 38 #[.slice A0 l0.length c0] w fun e w' => e = .returned (.int .i64 r) ∧ Below w.heap.size w w' := by
  have h2 : (0 < l0.length ∧ l0.length ≤ 10 ∧ ∀ x ∈ l0, pick_check.nm x.f0 = true ∧ pick_check.nm x.f1 = true) ∧ 0 = r := by
    unfold pick_check.f at h
    split at h
    · rename_i hc
      unfold pick_check.ok at hc
      simp only [Bool.and_eq_true, decide_eq_true_eq, List.all_eq_true] at hc
      exact ⟨⟨hc.1.1, hc.1.2, hc.2⟩, Option.some.inj h⟩
    · cases h
  obtain ⟨⟨n0, n1, hall⟩, rfl⟩ := h2
  have HR0 := Aside0.mk hr0
  have HA := Aside0.mk hall
  have z0 : ((l0.length : Int) == 0) = false := beq_eq_false_iff_ne.mpr (by omega)
  have z1 : decide ((10 : Int) < (l0.length : Int)) = false := decide_eq_false (by omega)
  have z2 : (l0.length == 0) = false := beq_eq_false_iff_ne.mpr (by omega)
  have z3 : decide ((l0.length : Int) = 0) = false := decide_eq_false (by omega)
  have z4 : decide (10 < l0.length) = false := decide_eq_false (by omega)
  clear hr0 hc0 h hall
  go_enter Try.func38, Try.ntmps38
  go_wp2_with (go_at_call 46; (with_reducible refine (pick_check.any _ _ l0 _ _ ?side1 ?side2 HA.out).mono ?_); (case side1 => exact blk_new _ _); (case side2 => exact Kd.C_alloc HR0.out _); rintro e w1 ⟨rfl, hb⟩; have HB := Aside0.mk (below_step (below_alloc (Below.refl w.heap.size w) _) hb); clear hb)
  go_ret
  exact ⟨rfl, HB.out⟩
end Go.Proofs.Ytaibikajpacemaa.X
end
