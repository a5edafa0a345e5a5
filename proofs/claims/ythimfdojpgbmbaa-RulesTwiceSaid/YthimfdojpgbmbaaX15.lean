-- Written by xprint.py (a program of this repo) for seat Ythimfdojpgbmbaa.
import Derived.Test.YthimfdojpgbmbaaX0
namespace Go.Proofs.Ythimfdojpgbmbaa.X
open Go.RowKit Go.Proofs.YthimfdojpgbmbaaW.PrintWords Go.Proofs.YthimfdojpgbmbaaW.PrintLast Go.Proofs.YthimfdojpgbmbaaW.PrintMore
attribute [local go_sem] max2_int min2_int max_two min_two max_three min_three max_four min_four   -- for this text's walks alone
set_option linter.unusedVariables false
set_option linter.unusedSimpArgs false

/-! ### ix_rulesOf: function 200054 -/
def ix_rulesOf.f (l0 : List S53) (s0 : ByteArray) (l1_ : List S75) (s2 : ByteArray) (l3_ : List S60) : Option Int := some (match l0.findIdx? (fun x => x.f0.toList == s0.toList) with | some i => (i : Int) | none => -1)
def ix_rulesOf.idx (l0 : List S53) (s0 : ByteArray) : Int := match l0.findIdx? (fun x => x.f0.toList == s0.toList) with | some i => i | none => -1
theorem ix_rulesOf.idx_none (l0 : List S53) (s0 : ByteArray) (h : ∀ j, j < l0.length → ((rd_T53 l0 (j : Int)).f0.toList == s0.toList) = false) : ix_rulesOf.idx l0 s0 = -1 := by
  have : l0.findIdx? (fun x => x.f0.toList == s0.toList) = none := by
    rw [List.findIdx?_eq_none_iff]
    intro x hx
    obtain ⟨j, hj, rfl⟩ := List.getElem_of_mem hx
    have := h j hj
    simpa [rd_T53, List.getD, hj] using this
  unfold ix_rulesOf.idx
  rw [this]
theorem ix_rulesOf.idx_some (l0 : List S53) (s0 : ByteArray) (i : Nat) (hi : i < l0.length) (h : ∀ j, j < i → ((rd_T53 l0 (j : Int)).f0.toList == s0.toList) = false) (ht : ((rd_T53 l0 (i : Int)).f0.toList == s0.toList) = true) : ix_rulesOf.idx l0 s0 = i := by
  have : l0.findIdx? (fun x => x.f0.toList == s0.toList) = some i := by
    rw [List.findIdx?_eq_some_iff_getElem]
    refine ⟨hi, ?_, ?_⟩
    · simpa [rd_T53, List.getD, hi] using ht
    · intro j hj
      have := h j hj
      have hjl : j < l0.length := by omega
      simp [rd_T53, List.getD, hjl] at this
      simpa using this
  unfold ix_rulesOf.idx
  rw [this]
set_option maxHeartbeats 4000000 in
set_option maxRecDepth 100000 in
theorem ix_rulesOf.index (A0 : Option Addr) (c0 : Nat) (l0 : List S53) (g : Nat) (s0 : ByteArray) (A1_ : Option Addr) (c1_ : Nat) (l1_ : List S75) (s2 : ByteArray) (A3_ : Option Addr) (c3_ : Nat) (l3_ : List S60) (w : World) (hr0 : Kd.C k53 w A0 l0.length l0) (hg : w.heap[g]? = some (.cells #[.string s0, .slice A1_ l1_.length c1_, .string s2, .slice A3_ l3_.length c3_] 60 (0, 0))) :
    Calls Try.prog 54 #[.slice A0 l0.length c0, .func (.func 55) #[] #[.pointer (some ⟨g, 0, none⟩)]] w fun e w' => e = .returned (.int .i64 (ix_rulesOf.idx l0 s0)) ∧ Below w.heap.size w w' := by
  have HR0 := Aside0.mk hr0
  have hc0 := blk_cell hg 0
  have hc1 := blk_cell hg 1
  have hc2 := blk_cell hg 2
  have hc3 := blk_cell hg 3
  have hmax := Kd.C_max hr0
  simp only [List.getElem?_toArray, List.getElem?_cons_zero, List.getElem?_cons_succ] at hc0 hc1 hc2 hc3
  clear hr0 hg
  go_enter Try.func54, Try.ntmps54
  go_wp2
  go_loopw [8] (fun v8 wr => ∃ x8 : Int, v8 = .int .i64 x8 ∧ Aside0 (0 ≤ x8 ∧ x8 ≤ l0.length) ∧ Aside0 (∀ j : Nat, (j : Int) < x8 → ((rd_T53 l0 (j : Int)).f0.toList == s0.toList) = false) ∧ Aside0 (Below w.heap.size w wr)) (fun v8 _ => l0.length - (intOf v8).toNat)
  case atStart => exact ⟨0, rfl, ⟨by omega⟩, ⟨fun j hj => absurd hj (by omega)⟩, ⟨Below.refl _ _⟩⟩
  case round =>
    obtain ⟨x8, rfl, HI, HN, HB⟩ := hrel
    have hcr0 := (HB.out.cell (World.block_lt_of_cell? w _ hc0)).trans hc0
    have hcr1 := (HB.out.cell (World.block_lt_of_cell? w _ hc1)).trans hc1
    have hcr2 := (HB.out.cell (World.block_lt_of_cell? w _ hc2)).trans hc2
    have hcr3 := (HB.out.cell (World.block_lt_of_cell? w _ hc3)).trans hc3
    have hca0 : ∀ o, (wr.alloc o).cell? ⟨g, 0, none⟩ = some (.string s0) := fun o => ((below_alloc (Below.refl _ _) o).cell (World.block_lt_of_cell? wr _ hcr0)).trans hcr0
    have p0 := HI.out.1
    by_cases q0 : x8 < (l0.length : Int)
    · obtain ⟨ad, e0, hx0, hx1, hx2⟩ := at_T53 HR0.out x8 p0 q0
      cases e0
      replace hx0 := (HB.out.cell (World.block_lt_of_cell? w _ hx0)).trans hx0
      replace hx1 := (HB.out.cell (World.block_lt_of_cell? w _ hx1)).trans hx1
      replace hx2 := (HB.out.cell (World.block_lt_of_cell? w _ hx2)).trans hx2
      have hw : wrap64 (x8 + 1) = x8 + 1 := by unfold wrap64; omega
      have HW := Aside0.mk hw
      clear hw
      obtain ⟨j, HJ⟩ : ∃ j : Nat, Aside0 (x8 = (j : Int)) := ⟨x8.toNat, ⟨by omega⟩⟩
      have HQ := Aside0.mk q0
      have hb0 : decide (x8 < (l0.length : Int)) = true := decide_eq_true q0
      have hb1 : decide (0 ≤ x8) = true := decide_eq_true p0
      replace p0 := eq_true p0
      replace q0 := eq_true q0
      cases hp : (rd_T53 l0 x8).f0.toList == s0.toList with
      | true =>
        have HE : Aside0 (ix_rulesOf.idx l0 s0 = x8) := by
          constructor
          have hj := HJ.out
          have hq := HQ.out
          rw [hj] at hp ⊢
          exact ix_rulesOf.idx_some l0 s0 j (by omega) (fun k hk => HN.out k (by omega)) hp
        go_wp2
        repeat (go_quiet (fail); try go_wp2)
        go_ret
        exact ⟨by rw [HE.out]; rfl, by repeat (first | (with_reducible first | exact HB.out | apply below_alloc | apply pw_below_drewN | apply below_drew1) | exact HB.out)⟩
      | false =>
        have HP := Aside0.mk hp
        go_wp2
        repeat (go_quiet (fail); try go_wp2)
        go_roundw
        case rel =>
          refine ⟨x8 + 1, by rw [HW.out], ⟨by have := HI.out; have := HQ.out; omega⟩, ⟨fun k hk => ?_⟩, ⟨by repeat (first | (with_reducible first | exact HB.out | apply below_alloc | apply pw_below_drewN | apply below_drew1) | exact HB.out)⟩⟩
          by_cases hkx : (k : Int) < x8
          · exact HN.out k hkx
          · obtain rfl : x8 = (k : Int) := by omega
            exact HP.out
        case measure => have := HQ.out; have := HI.out; simp [intOf, HW.out]; omega
    · have hb0 : decide (x8 < (l0.length : Int)) = false := decide_eq_false q0
      have HE : Aside0 (ix_rulesOf.idx l0 s0 = -1) := ⟨ix_rulesOf.idx_none l0 s0 (fun j hj => HN.out j (by omega))⟩
      go_wp2
      repeat (go_quiet (fail); try go_wp2)
      go_ret
      exact ⟨by rw [HE.out]; rfl, by repeat (first | (with_reducible first | exact HB.out | apply below_alloc | apply pw_below_drewN | apply below_drew1) | exact HB.out)⟩
theorem ix_rulesOf.calls (A0 : Option Addr) (c0 : Nat) (l0 : List S53) (g : Nat) (s0 : ByteArray) (A1_ : Option Addr) (c1_ : Nat) (l1_ : List S75) (s2 : ByteArray) (A3_ : Option Addr) (c3_ : Nat) (l3_ : List S60) (r : Int) (w : World) (hr0 : Kd.C k53 w A0 l0.length l0) (hc0 : l0.length ≤ c0) (hg : w.heap[g]? = some (.cells #[.string s0, .slice A1_ l1_.length c1_, .string s2, .slice A3_ l3_.length c3_] 60 (0, 0))) (hr1_ : Kd.C k75 w A1_ l1_.length l1_) (hc1_ : l1_.length ≤ c1_) (hr3_ : Kd.C k60 w A3_ l3_.length l3_) (hc3_ : l3_.length ≤ c3_) (h : ix_rulesOf.f l0 s0 l1_ s2 l3_ = some r) :
    Calls Try.prog 54 #[.slice A0 l0.length c0, .func (.func 55) #[] #[.pointer (some ⟨g, 0, none⟩)]] w fun e w' => e = .returned (.int .i64 r) ∧ Below w.heap.size w w' := by
  have HC := ix_rulesOf.index A0 c0 l0 g s0 A1_ c1_ l1_ s2 A3_ c3_ l3_ w hr0 hg
  have e : ix_rulesOf.idx l0 s0 = r := by
    unfold ix_rulesOf.f at h
    exact Option.some.inj h
  rw [e] at HC
  exact HC

end Go.Proofs.Ythimfdojpgbmbaa.X
