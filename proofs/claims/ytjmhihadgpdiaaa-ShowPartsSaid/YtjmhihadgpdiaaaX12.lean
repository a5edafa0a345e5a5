-- Written by xprint.py (a program of this repo) for seat Ytjmhihadgpdiaaa.
import Derived.Test.YtjmhihadgpdiaaaX0
namespace Go.Proofs.Ytjmhihadgpdiaaa.X
open Go.RowKit Go.Proofs.YtjmhihadgpdiaaaW.PrintWords Go.Proofs.YtjmhihadgpdiaaaW.PrintLast Go.Proofs.YtjmhihadgpdiaaaW.PrintMore
attribute [local go_sem] max2_int min2_int max_two min_two max_three min_three max_four min_four   -- for this text's walks alone
set_option linter.unusedVariables false
set_option linter.unusedSimpArgs false

/-! ### cf_emitAttrs2: function 200060 -/
def cf_emitAttrs2.f (l0 : List S63) (s0 : ByteArray) (s1 : ByteArray) : Option Bool := some (l0.any fun x => x.f0.toList == s0.toList)
def cf_emitAttrs2.idx (l0 : List S63) (s0 : ByteArray) : Int := match l0.findIdx? (fun x => x.f0.toList == s0.toList) with | some i => i | none => -1
theorem cf_emitAttrs2.idx_none (l0 : List S63) (s0 : ByteArray) (h : ∀ j, j < l0.length → ((rd_T63 l0 (j : Int)).f0.toList == s0.toList) = false) : cf_emitAttrs2.idx l0 s0 = -1 := by
  have : l0.findIdx? (fun x => x.f0.toList == s0.toList) = none := by
    rw [List.findIdx?_eq_none_iff]
    intro x hx
    obtain ⟨j, hj, rfl⟩ := List.getElem_of_mem hx
    have := h j hj
    simpa [rd_T63, List.getD, hj] using this
  unfold cf_emitAttrs2.idx
  rw [this]
theorem cf_emitAttrs2.idx_some (l0 : List S63) (s0 : ByteArray) (i : Nat) (hi : i < l0.length) (h : ∀ j, j < i → ((rd_T63 l0 (j : Int)).f0.toList == s0.toList) = false) (ht : ((rd_T63 l0 (i : Int)).f0.toList == s0.toList) = true) : cf_emitAttrs2.idx l0 s0 = i := by
  have : l0.findIdx? (fun x => x.f0.toList == s0.toList) = some i := by
    rw [List.findIdx?_eq_some_iff_getElem]
    refine ⟨hi, ?_, ?_⟩
    · simpa [rd_T63, List.getD, hi] using ht
    · intro j hj
      have := h j hj
      have hjl : j < l0.length := by omega
      simp [rd_T63, List.getD, hjl] at this
      simpa using this
  unfold cf_emitAttrs2.idx
  rw [this]
set_option maxHeartbeats 4000000 in
set_option maxRecDepth 100000 in
theorem cf_emitAttrs2.index (A0 : Option Addr) (c0 : Nat) (l0 : List S63) (g : Nat) (s0 : ByteArray) (s1 : ByteArray) (w : World) (hr0 : Kd.C k63 w A0 l0.length l0) (hg : w.heap[g]? = some (.cells #[.string s0, .string s1] 63 (0, 0))) :
    Calls Try.prog 70 #[.slice A0 l0.length c0, .func (.func 62) #[] #[.pointer (some ⟨g, 0, none⟩)]] w fun e w' => e = .returned (.int .i64 (cf_emitAttrs2.idx l0 s0)) ∧ Below w.heap.size w w' := by
  have HR0 := Aside0.mk hr0
  have hc0 := blk_cell hg 0
  have hc1 := blk_cell hg 1
  have hmax := Kd.C_max hr0
  simp only [List.getElem?_toArray, List.getElem?_cons_zero, List.getElem?_cons_succ] at hc0 hc1
  clear hr0 hg
  go_enter Try.func70, Try.ntmps70
  go_wp2
  go_loopw [8] (fun v8 wr => ∃ x8 : Int, v8 = .int .i64 x8 ∧ Aside0 (0 ≤ x8 ∧ x8 ≤ l0.length) ∧ Aside0 (∀ j : Nat, (j : Int) < x8 → ((rd_T63 l0 (j : Int)).f0.toList == s0.toList) = false) ∧ Aside0 (Below w.heap.size w wr)) (fun v8 _ => l0.length - (intOf v8).toNat)
  case atStart => exact ⟨0, rfl, ⟨by omega⟩, ⟨fun j hj => absurd hj (by omega)⟩, ⟨Below.refl _ _⟩⟩
  case round =>
    obtain ⟨x8, rfl, HI, HN, HB⟩ := hrel
    have hcr0 := (HB.out.cell (World.block_lt_of_cell? w _ hc0)).trans hc0
    have hcr1 := (HB.out.cell (World.block_lt_of_cell? w _ hc1)).trans hc1
    have hca0 : ∀ o, (wr.alloc o).cell? ⟨g, 0, none⟩ = some (.string s0) := fun o => ((below_alloc (Below.refl _ _) o).cell (World.block_lt_of_cell? wr _ hcr0)).trans hcr0
    have p0 := HI.out.1
    by_cases q0 : x8 < (l0.length : Int)
    · obtain ⟨ad, e0, hx0, hx1⟩ := at_T63 HR0.out x8 p0 q0
      cases e0
      replace hx0 := (HB.out.cell (World.block_lt_of_cell? w _ hx0)).trans hx0
      replace hx1 := (HB.out.cell (World.block_lt_of_cell? w _ hx1)).trans hx1
      have hw : wrap64 (x8 + 1) = x8 + 1 := by unfold wrap64; omega
      have HW := Aside0.mk hw
      clear hw
      obtain ⟨j, HJ⟩ : ∃ j : Nat, Aside0 (x8 = (j : Int)) := ⟨x8.toNat, ⟨by omega⟩⟩
      have HQ := Aside0.mk q0
      have hb0 : decide (x8 < (l0.length : Int)) = true := decide_eq_true q0
      have hb1 : decide (0 ≤ x8) = true := decide_eq_true p0
      replace p0 := eq_true p0
      replace q0 := eq_true q0
      cases hp : (rd_T63 l0 x8).f0.toList == s0.toList with
      | true =>
        have hp2 : (s0.toList == (rd_T63 l0 x8).f0.toList) = true := beq_iff_eq.mpr (beq_iff_eq.mp hp).symm
        have HE : Aside0 (cf_emitAttrs2.idx l0 s0 = x8) := by
          constructor
          have hj := HJ.out
          have hq := HQ.out
          rw [hj] at hp ⊢
          exact cf_emitAttrs2.idx_some l0 s0 j (by omega) (fun k hk => HN.out k (by omega)) hp
        go_wp2
        repeat (go_quiet (fail); try go_wp2)
        go_ret
        exact ⟨by rw [HE.out]; rfl, by repeat (first | (with_reducible first | exact HB.out | apply below_alloc | apply pw_below_drewN | apply below_drew1) | exact HB.out)⟩
      | false =>
        have hp2 : (s0.toList == (rd_T63 l0 x8).f0.toList) = false := beq_eq_false_iff_ne.mpr (fun h => (beq_eq_false_iff_ne.mp hp) h.symm)
        have HP := Aside0.mk hp
        go_wp2
        repeat (go_quiet (fail); try go_wp2)
        go_roundw
        case rel =>
          refine ⟨x8 + 1, by rw [HW.out], ⟨by have := HI.out; have := HQ.out; omega⟩, ⟨fun k hk => ?_⟩, ⟨by repeat (first | (with_reducible first | exact HB.out | apply below_alloc | apply pw_below_drewN | apply below_drew1) | exact HB.out)⟩⟩
          by_cases hkx : (k : Int) < x8
          · exact HN.out k hkx
          · obtain rfl : x8 = (k : Int) := by omega
            exact HP.out
        case measure => have := HQ.out; have := HI.out; simp [intOf, HW.out]; omega
    · have hb0 : decide (x8 < (l0.length : Int)) = false := decide_eq_false q0
      have HE : Aside0 (cf_emitAttrs2.idx l0 s0 = -1) := ⟨cf_emitAttrs2.idx_none l0 s0 (fun j hj => HN.out j (by omega))⟩
      go_wp2
      repeat (go_quiet (fail); try go_wp2)
      go_ret
      exact ⟨by rw [HE.out]; rfl, by repeat (first | (with_reducible first | exact HB.out | apply below_alloc | apply pw_below_drewN | apply below_drew1) | exact HB.out)⟩
set_option maxHeartbeats 4000000 in
set_option maxRecDepth 100000 in
theorem cf_emitAttrs2.calls (A0 : Option Addr) (c0 : Nat) (l0 : List S63) (g : Nat) (s0 : ByteArray) (s1 : ByteArray) (r : Bool) (w : World) (hr0 : Kd.C k63 w A0 l0.length l0) (hc0 : l0.length ≤ c0) (hg : w.heap[g]? = some (.cells #[.string s0, .string s1] 63 (0, 0))) (h : cf_emitAttrs2.f l0 s0 s1 = some r) :
    Calls Try.prog 60 #[.slice A0 l0.length c0, .func (.func 62) #[] #[.pointer (some ⟨g, 0, none⟩)]] w fun e w' => e = .returned (.bool r) ∧ Below w.heap.size w w' := by
  have HC := Aside0.mk (cf_emitAttrs2.index A0 c0 l0 g s0 s1 w hr0 hg)
  have HB : Aside0 (r = decide (cf_emitAttrs2.idx l0 s0 ≥ 0)) := by
    constructor
    unfold cf_emitAttrs2.f at h
    obtain rfl := Option.some.inj h
    unfold cf_emitAttrs2.idx
    cases hf : l0.findIdx? (fun x => x.f0.toList == s0.toList) with
    | none =>
      rw [List.findIdx?_eq_none_iff] at hf
      rw [Bool.eq_iff_iff]
      simp only [List.any_eq_true, decide_eq_true_eq]
      constructor
      · rintro ⟨x, hx, ht⟩
        rw [hf x hx] at ht
        cases ht
      · intro h0
        omega
    | some i =>
      rw [List.findIdx?_eq_some_iff_getElem] at hf
      obtain ⟨hi, ht, _⟩ := hf
      rw [Bool.eq_iff_iff]
      simp only [List.any_eq_true, decide_eq_true_eq]
      exact ⟨fun _ => by omega, fun _ => ⟨_, List.getElem_mem hi, ht⟩⟩
  clear hr0 hc0 hg h
  go_enter Try.func60, Try.ntmps60
  go_wp2_with (go_at_call 70; (with_reducible refine HC.out.mono ?_); rintro e w1 ⟨rfl, hb⟩)
  go_ret
  exact ⟨by rw [HB.out]; rfl, hb⟩

end Go.Proofs.Ytjmhihadgpdiaaa.X
