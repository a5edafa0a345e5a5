-- Written by xprint.py (a program of this repo) for seat Ythimfdojpgbmbaa.
import Derived.Test.YthimfdojpgbmbaaX0
namespace Go.Proofs.Ythimfdojpgbmbaa.X
open Go.RowKit Go.Proofs.YthimfdojpgbmbaaW.PrintWords Go.Proofs.YthimfdojpgbmbaaW.PrintLast Go.Proofs.YthimfdojpgbmbaaW.PrintMore
attribute [local go_sem] max2_int min2_int max_two min_two max_three min_three max_four min_four   -- for this text's walks alone
set_option linter.unusedVariables false
set_option linter.unusedSimpArgs false

/-! ### cf_rulesCheck: function 100051 -/
def cf_rulesCheck.f (l0 : List S53) (s0 : ByteArray) (i1 : Int) (s2 : ByteArray) : Option Bool := some (l0.any fun x => x.f0.toList == s0.toList)
def cf_rulesCheck.idx (l0 : List S53) (s0 : ByteArray) : Int := match l0.findIdx? (fun x => x.f0.toList == s0.toList) with | some i => i | none => -1
theorem cf_rulesCheck.idx_none (l0 : List S53) (s0 : ByteArray) (h : ∀ j, j < l0.length → ((rd_T53 l0 (j : Int)).f0.toList == s0.toList) = false) : cf_rulesCheck.idx l0 s0 = -1 := by
  have : l0.findIdx? (fun x => x.f0.toList == s0.toList) = none := by
    rw [List.findIdx?_eq_none_iff]
    intro x hx
    obtain ⟨j, hj, rfl⟩ := List.getElem_of_mem hx
    have := h j hj
    simpa [rd_T53, List.getD, hj] using this
  unfold cf_rulesCheck.idx
  rw [this]
theorem cf_rulesCheck.idx_some (l0 : List S53) (s0 : ByteArray) (i : Nat) (hi : i < l0.length) (h : ∀ j, j < i → ((rd_T53 l0 (j : Int)).f0.toList == s0.toList) = false) (ht : ((rd_T53 l0 (i : Int)).f0.toList == s0.toList) = true) : cf_rulesCheck.idx l0 s0 = i := by
  have : l0.findIdx? (fun x => x.f0.toList == s0.toList) = some i := by
    rw [List.findIdx?_eq_some_iff_getElem]
    refine ⟨hi, ?_, ?_⟩
    · simpa [rd_T53, List.getD, hi] using ht
    · intro j hj
      have := h j hj
      have hjl : j < l0.length := by omega
      simp [rd_T53, List.getD, hjl] at this
      simpa using this
  unfold cf_rulesCheck.idx
  rw [this]
set_option maxHeartbeats 4000000 in
set_option maxRecDepth 100000 in
theorem cf_rulesCheck.index (A0 : Option Addr) (c0 : Nat) (l0 : List S53) (g : Nat) (s0 : ByteArray) (i1 : Int) (s2 : ByteArray) (w : World) (hr0 : Kd.C k53 w A0 l0.length l0) (hg : w.heap[g]? = some (.cells #[.string s0, .int .i64 i1, .string s2] 53 (0, 0))) :
    Calls Try.prog 54 #[.slice A0 l0.length c0, .func (.func 52) #[] #[.pointer (some ⟨g, 0, none⟩)]] w fun e w' => e = .returned (.int .i64 (cf_rulesCheck.idx l0 s0)) ∧ Below w.heap.size w w' := by
  have HR0 := Aside0.mk hr0
  have hc0 := blk_cell hg 0
  have hc1 := blk_cell hg 1
  have hc2 := blk_cell hg 2
  have hmax := Kd.C_max hr0
  simp only [List.getElem?_toArray, List.getElem?_cons_zero, List.getElem?_cons_succ] at hc0 hc1 hc2
  clear hr0 hg
  go_enter Try.func54, Try.ntmps54
  go_wp2
  go_loopw [8] (fun v8 wr => ∃ x8 : Int, v8 = .int .i64 x8 ∧ Aside0 (0 ≤ x8 ∧ x8 ≤ l0.length) ∧ Aside0 (∀ j : Nat, (j : Int) < x8 → ((rd_T53 l0 (j : Int)).f0.toList == s0.toList) = false) ∧ Aside0 (Below w.heap.size w wr)) (fun v8 _ => l0.length - (intOf v8).toNat)
  case atStart => exact ⟨0, rfl, ⟨by omega⟩, ⟨fun j hj => absurd hj (by omega)⟩, ⟨Below.refl _ _⟩⟩
  case round =>
    obtain ⟨x8, rfl, HI, HN, HB⟩ := hrel
    have hcr0 := (HB.out.cell (World.block_lt_of_cell? w _ hc0)).trans hc0
    have hcr1 := (HB.out.cell (World.block_lt_of_cell? w _ hc1)).trans hc1
    have hcr2 := (HB.out.cell (World.block_lt_of_cell? w _ hc2)).trans hc2
    have hca0 : ∀ o, (wr.alloc o).cell? ⟨g, 0, none⟩ = some (.string s0) := fun o => ((below_alloc (Below.refl _ _) o).cell (World.block_lt_of_cell? wr _ hcr0)).trans hcr0
    have p0 := HI.out.1
    by_cases q0 : x8 < (l0.length : Int)
    · obtain ⟨ad, e0, hx0, hx1, hx2⟩ := at_T53 HR0.out x8 p0 q0
      cases e0
      replace hx0 := (HB.out.cell (World.block_lt_of_cell? w _ hx0)).trans hx0
      replace hx1 := (HB.out.cell (World.block_lt_of_cell? w _ hx1)).trans hx1
      replace hx2 := (HB.out.cell (World.block_lt_of_cell? w _ hx2)).trans hx2
      have hw : wrap64 (x8 + 1) = x8 + 1 := by unfold wrap64; omega
      have HW := Aside0.mk hw
      clear hw
      obtain ⟨j, HJ⟩ : ∃ j : Nat, Aside0 (x8 = (j : Int)) := ⟨x8.toNat, ⟨by omega⟩⟩
      have HQ := Aside0.mk q0
      have hb0 : decide (x8 < (l0.length : Int)) = true := decide_eq_true q0
      have hb1 : decide (0 ≤ x8) = true := decide_eq_true p0
      replace p0 := eq_true p0
      replace q0 := eq_true q0
      cases hp : (rd_T53 l0 x8).f0.toList == s0.toList with
      | true =>
        have HE : Aside0 (cf_rulesCheck.idx l0 s0 = x8) := by
          constructor
          have hj := HJ.out
          have hq := HQ.out
          rw [hj] at hp ⊢
          exact cf_rulesCheck.idx_some l0 s0 j (by omega) (fun k hk => HN.out k (by omega)) hp
        go_wp2
        repeat (go_quiet (fail); try go_wp2)
        go_ret
        exact ⟨by rw [HE.out]; rfl, by repeat (first | (with_reducible first | exact HB.out | apply below_alloc | apply pw_below_drewN | apply below_drew1) | exact HB.out)⟩
      | false =>
        have HP := Aside0.mk hp
        go_wp2
        repeat (go_quiet (fail); try go_wp2)
        go_roundw
        case rel =>
          refine ⟨x8 + 1, by rw [HW.out], ⟨by have := HI.out; have := HQ.out; omega⟩, ⟨fun k hk => ?_⟩, ⟨by repeat (first | (with_reducible first | exact HB.out | apply below_alloc | apply pw_below_drewN | apply below_drew1) | exact HB.out)⟩⟩
          by_cases hkx : (k : Int) < x8
          · exact HN.out k hkx
          · obtain rfl : x8 = (k : Int) := by omega
            exact HP.out
        case measure => have := HQ.out; have := HI.out; simp [intOf, HW.out]; omega
    · have hb0 : decide (x8 < (l0.length : Int)) = false := decide_eq_false q0
      have HE : Aside0 (cf_rulesCheck.idx l0 s0 = -1) := ⟨cf_rulesCheck.idx_none l0 s0 (fun j hj => HN.out j (by omega))⟩
      go_wp2
      repeat (go_quiet (fail); try go_wp2)
      go_ret
      exact ⟨by rw [HE.out]; rfl, by repeat (first | (with_reducible first | exact HB.out | apply below_alloc | apply pw_below_drewN | apply below_drew1) | exact HB.out)⟩
set_option maxHeartbeats 4000000 in
set_option maxRecDepth 100000 in
theorem cf_rulesCheck.calls (A0 : Option Addr) (c0 : Nat) (l0 : List S53) (g : Nat) (s0 : ByteArray) (i1 : Int) (s2 : ByteArray) (r : Bool) (w : World) (hr0 : Kd.C k53 w A0 l0.length l0) (hc0 : l0.length ≤ c0) (hg : w.heap[g]? = some (.cells #[.string s0, .int .i64 i1, .string s2] 53 (0, 0))) (h : cf_rulesCheck.f l0 s0 i1 s2 = some r) :
    Calls Try.prog 51 #[.slice A0 l0.length c0, .func (.func 52) #[] #[.pointer (some ⟨g, 0, none⟩)]] w fun e w' => e = .returned (.bool r) ∧ Below w.heap.size w w' := by
  have HC := Aside0.mk (cf_rulesCheck.index A0 c0 l0 g s0 i1 s2 w hr0 hg)
  have HB : Aside0 (r = decide (cf_rulesCheck.idx l0 s0 ≥ 0)) := by
    constructor
    unfold cf_rulesCheck.f at h
    obtain rfl := Option.some.inj h
    unfold cf_rulesCheck.idx
    cases hf : l0.findIdx? (fun x => x.f0.toList == s0.toList) with
    | none =>
      rw [List.findIdx?_eq_none_iff] at hf
      rw [Bool.eq_iff_iff]
      simp only [List.any_eq_true, decide_eq_true_eq]
      constructor
      · rintro ⟨x, hx, ht⟩
        rw [hf x hx] at ht
        cases ht
      · intro h0
        omega
    | some i =>
      rw [List.findIdx?_eq_some_iff_getElem] at hf
      obtain ⟨hi, ht, _⟩ := hf
      rw [Bool.eq_iff_iff]
      simp only [List.any_eq_true, decide_eq_true_eq]
      exact ⟨fun _ => by omega, fun _ => ⟨_, List.getElem_mem hi, ht⟩⟩
  clear hr0 hc0 hg h
  go_enter Try.func51, Try.ntmps51
  go_wp2_with (go_at_call 54; (with_reducible refine HC.out.mono ?_); rintro e w1 ⟨rfl, hb⟩)
  go_ret
  exact ⟨by rw [HB.out]; rfl, hb⟩

end Go.Proofs.Ythimfdojpgbmbaa.X
