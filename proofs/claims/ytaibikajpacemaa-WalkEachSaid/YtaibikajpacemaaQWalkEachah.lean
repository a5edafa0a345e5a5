/- Parts of the proof of WalkEach that are needed, put together by pack.py. -/
import Derived.Test.YtaibikajpacemaaQWalkEachaf
import Derived.Test.YtaibikajpacemaaQWalkEachag
import Derived.Test.YtaibikajpacemaaQWalkEachaa
section
namespace Go.Proofs.Ytaibikajpacemaa.X
open Go.RowKit Go.Proofs.YtaibikajpacemaaW.PrintWords Go.Proofs.YtaibikajpacemaaW.PrintLast Go.Proofs.YtaibikajpacemaaW.PrintMore
attribute [local go_sem] max2_int min2_int max_two min_two max_three min_three max_four min_four   -- for this text's walks alone
set_option linter.unusedVariables false
set_option linter.unusedSimpArgs false
def bobbinetkeep_nodeAt.l0 : Nat → List (S28) → List Int → Int → ByteArray → List (S68) → ByteArray → List (S28) → Option (ByteArray × (List (S68)) × ByteArray × (List (S28)) × Bool)
  | 0, _, _, _, _, _, _, _ => none
  | k + 1, x0, x1, x7, x204000, x204001, x204002, x204003 => if x7 < (x1.length : Int) then (if 0 ≤ x7 then (if (rd x1 x7) < 0 then (some ((⟨#[]⟩ : ByteArray), ([] : List (S68)), (⟨#[]⟩ : ByteArray), ([] : List (S28)), false)) else (if (rd x1 x7) ≥ (x0.length : Int) then (some ((⟨#[]⟩ : ByteArray), ([] : List (S68)), (⟨#[]⟩ : ByteArray), ([] : List (S28)), false)) else (if 0 ≤ (rd x1 x7) then (if (rd x1 x7) < (x0.length : Int) then (bobbinetkeep_nodeAt.l0 k ((rd_T28 x0 (rd x1 x7)).f3) x1 (wrap64 (x7 + 1)) ((rd_T28 x0 (rd x1 x7)).f0) ((rd_T28 x0 (rd x1 x7)).f1) ((rd_T28 x0 (rd x1 x7)).f2) ((rd_T28 x0 (rd x1 x7)).f3)) else (none)) else (none)))) else (none)) else (some (x204000, x204001, x204002, x204003, decide ((x1.length : Int) > 0)))
def bobbinetkeep_nodeAt.f (k : Nat) (l0 : List (S28)) (l1 : List Int) : Option (ByteArray × (List (S68)) × ByteArray × (List (S28)) × Bool) := bobbinetkeep_nodeAt.l0 k l0 l1 0 (⟨#[]⟩ : ByteArray) ([] : List (S68)) (⟨#[]⟩ : ByteArray) ([] : List (S28))
set_option maxHeartbeats 8000000 in
set_option maxRecDepth 100000 in
theorem bobbinetkeep_nodeAt.calls (k : Nat) (P0_ : Nat → Prop) (A0 : Option Addr) (c0 : Nat) (l0 : List (S28)) (A1 : Option Addr) (c1 : Nat) (l1 : List Int) (r1 : ByteArray) (r2 : List (S68)) (r3 : ByteArray) (r4 : List (S28)) (r5 : Bool) (w : World) (hs0 : Kd.V k28 28 w w.heap.size (fun k_ => P0_ k_) (.slice A0 l0.length c0) l0) (hr1 : Kd.C (Kd.int .i64) w A1 l1.length l1) (hc1 : l1.length ≤ c1) (h : bobbinetkeep_nodeAt.f k l0 l1 = some (r1, r2, r3, r4, r5)) :
    Calls Try.prog 16 #[.slice A0 l0.length c0, .slice A1 l1.length c1] w fun e w' => ∃ v1_ v3_ : Value, e = .returned (.tuple #[.agg #[.string r1, v1_, .string r3, v3_], .bool r5]) ∧ Kd.V k68 68 w' w.heap.size (fun k_ => (P0_ k_ ∨ w.heap.size ≤ k_)) v1_ r2 ∧ Kd.V k28 28 w' w.heap.size (fun k_ => (P0_ k_ ∨ w.heap.size ≤ k_)) v3_ r4 ∧ Below w.heap.size w w' := by
  have hu28 := Try.underlying28
  have HO0 := Aside0.mk (show Kd.V k28 28 w w.heap.size (fun k_ => (P0_ k_ ∨ w.heap.size ≤ k_)) (.slice A0 l0.length c0) l0 from Kd.V_mono hs0 (fun k_ hk => .inl hk))
  have HR1 := Aside0.mk hr1
  have HC1 := Aside0.mk hc1
  clear hr1 hc1
  have HB := Aside0.mk (Below.refl w.heap.size w)
  have H : (bobbinetkeep_nodeAt.l0 k l0 l1 0 (⟨#[]⟩ : ByteArray) ([] : List (S68)) (⟨#[]⟩ : ByteArray) ([] : List (S28))) = some (r1, r2, r3, r4, r5) := h
  clear h
  have H' := Aside0.mk H
  clear H
  go_enter Try.func16, Try.ntmps16
  go_wp2_with (first | ((with_reducible refine gate_dst (N := 4) rfl ?_); (try (refine gate_guard (by rfl) ?_; dsimp only)); refine box_event ?hg (N := 4) ?hd (cs := #[.string (⟨#[]⟩ : ByteArray), .slice none 0 0, .string (⟨#[]⟩ : ByteArray), .slice none 0 0]) (t := 28) ?hr ?_; (case hd => rfl); (case hg => rfl); (case hr => first | (go_simp; done) | (go_simp; rfl)); intro gb202 hg w3 hbox hb; have n0_ := Aside0.mk (Kd.V_below (Kd.V_elderB (by (with_reducible repeat (first | apply Kd.V_alloc | apply Kd.V_drewN | apply Kd.V_drew)); exact HO0.out) gb202 (Nat.le_of_eq hg.symm)) hb); have n1_ := Aside0.mk (below_step (by repeat (first | (with_reducible first | exact HB.out | apply below_alloc | apply pw_below_drewN | apply below_drew1) | exact HB.out)) hb); have n2_ := Aside0.mk (hbox); have n3_ := Aside0.mk ((by rw [hg]; exact (below_size (by repeat (first | (with_reducible first | exact HB.out | apply below_alloc | apply pw_below_drewN | apply below_drew1) | exact HB.out))) : w.heap.size ≤ gb202)); have n4_ := Aside0.mk ((by rw [hg]; exact (below_size (by repeat (first | (with_reducible first | exact HB.out | apply below_alloc | apply pw_below_drewN | apply below_drew1) | exact HB.out))) : w.heap.size ≤ gb202)); clear HO0; clear HB; have HO0 := n0_; have HB := n1_; have BK202 := n2_; have GW202 := n3_; have GE202 := n4_; clear n0_ n1_ n2_ n3_ n4_; clear hb hbox hg) | ((with_reducible refine gate_dst (N := 6) rfl ?_); (try (refine gate_guard (by rfl) ?_; dsimp only)); refine box_event ?hg (N := 6) ?hd (cs := #[.string (⟨#[]⟩ : ByteArray), .slice none 0 0, .string (⟨#[]⟩ : ByteArray), .slice none 0 0]) (t := 28) ?hr ?_; (case hd => rfl); (case hg => rfl); (case hr => first | (go_simp; done) | (go_simp; rfl)); intro gb203 hg w4 hbox hb; have n0_ := Aside0.mk (Kd.V_below (Kd.V_elderB (by (with_reducible repeat (first | apply Kd.V_alloc | apply Kd.V_drewN | apply Kd.V_drew)); exact HO0.out) gb203 (Nat.le_of_eq hg.symm)) hb); have n1_ := Aside0.mk (blk_below (g := gb202) (o := .cells #[.string (⟨#[]⟩ : ByteArray), .slice none 0 0, .string (⟨#[]⟩ : ByteArray), .slice none 0 0] 28 (0, 0)) (by (with_reducible repeat (first | refine blk_drewN ?_ _ | refine blk_drew ?_ | refine blk_alloc ?_ _)); exact BK202.out) hb); have n2_ := Aside0.mk (below_step (by repeat (first | (with_reducible first | exact HB.out | apply below_alloc | apply pw_below_drewN | apply below_drew1 | refine below_set ?_ GE202.out) | exact HB.out)) hb); have n3_ := Aside0.mk (hbox); have n4_ := Aside0.mk ((by rw [hg]; exact (below_size (by repeat (first | (with_reducible first | exact HB.out | apply below_alloc | apply pw_below_drewN | apply below_drew1 | refine below_set ?_ GE202.out) | exact HB.out))) : w.heap.size ≤ gb203)); have n5_ := Aside0.mk ((by rw [hg]; exact (below_size (by repeat (first | (with_reducible first | exact HB.out | apply below_alloc | apply pw_below_drewN | apply below_drew1 | refine below_set ?_ GE202.out) | exact HB.out))) : w.heap.size ≤ gb203)); have n6_ := Aside0.mk ((by rw [hg]; exact Nat.ne_of_lt (blk_lt (g := gb202) (o := .cells #[.string (⟨#[]⟩ : ByteArray), .slice none 0 0, .string (⟨#[]⟩ : ByteArray), .slice none 0 0] 28 (0, 0)) (by (with_reducible repeat (first | refine blk_drewN ?_ _ | refine blk_drew ?_ | refine blk_alloc ?_ _)); exact BK202.out)) : gb202 ≠ gb203)); have n7_ := Aside0.mk ((by rw [hg]; exact Nat.ne_of_gt (blk_lt (g := gb202) (o := .cells #[.string (⟨#[]⟩ : ByteArray), .slice none 0 0, .string (⟨#[]⟩ : ByteArray), .slice none 0 0] 28 (0, 0)) (by (with_reducible repeat (first | refine blk_drewN ?_ _ | refine blk_drew ?_ | refine blk_alloc ?_ _)); exact BK202.out)) : gb203 ≠ gb202)); clear HO0; clear BK202; clear HB; have HO0 := n0_; have BK202 := n1_; have HB := n2_; have BK203 := n3_; have GW203 := n4_; have GE203 := n5_; have NB202_203 := n6_; have NB203_202 := n7_; clear n0_ n1_ n2_ n3_ n4_ n5_ n6_ n7_; clear hb hbox hg))
  go_loopg [0, 7] k (fun kq v0 v7 w' => ∃ (x0_1 : List (S28)) (x7_1 : Int) (x203000_1 : ByteArray) (x203002_1 : ByteArray) (x204000_1 : ByteArray) (x204001_1 : List (S68)) (x204002_1 : ByteArray) (x204003_1 : List (S28)) (u204001 : Value) (u204003 : Value), v7 = .int .i64 x7_1 ∧ Aside0 (bobbinetkeep_nodeAt.l0 kq x0_1 l1 x7_1 x204000_1 x204001_1 x204002_1 x204003_1 = some (r1, r2, r3, r4, r5)) ∧ Aside0 (kq ≤ k) ∧ Aside0 (Kd.V k28 28 w' w.heap.size (fun k_ => (P0_ k_ ∨ w.heap.size ≤ k_) ∧ k_ ≠ gb202 ∧ k_ ≠ gb203) v0 x0_1) ∧ Aside0 (Kd.V k68 68 w' w.heap.size (fun k_ => (P0_ k_ ∨ w.heap.size ≤ k_) ∧ k_ ≠ gb202 ∧ k_ ≠ gb203) u204001 x204001_1) ∧ Aside0 (Kd.V k28 28 w' w.heap.size (fun k_ => (P0_ k_ ∨ w.heap.size ≤ k_) ∧ k_ ≠ gb202 ∧ k_ ≠ gb203) u204003 x204003_1) ∧ Aside0 (w'.heap[gb202]? = some (.cells #[.string x203000_1, (.slice none 0 0), .string x203002_1, (.slice none 0 0)] 28 (0, 0))) ∧ Aside0 (w'.heap[gb203]? = some (.cells #[.string x204000_1, u204001, .string x204002_1, u204003] 28 (0, 0))) ∧ Aside0 (Below w.heap.size w w'))
  case atStart => exact ⟨(l0), (0), ((⟨#[]⟩ : ByteArray)), ((⟨#[]⟩ : ByteArray)), ((⟨#[]⟩ : ByteArray)), (([] : List (S68))), ((⟨#[]⟩ : ByteArray)), (([] : List (S28))), (.slice none 0 0), (.slice none 0 0), (by first | rfl | (simp; done) | (simp [*]; done) | (simp [bne]; done)), H', ⟨Nat.le_refl _⟩, ⟨by (with_reducible repeat (first | apply Kd.V_alloc | apply Kd.V_drewN | apply Kd.V_drew)); exact Kd.V_mono HO0.out (fun _ hk => (by first | exact ⟨hk.1.1, ⟨hk.1.2, hk.2⟩⟩ | grind))⟩, ⟨Kd.V_nil _ _ _ _ _⟩, ⟨Kd.V_nil _ _ _ _ _⟩, ⟨by (with_reducible repeat (first | refine blk_drewN ?_ _ | refine blk_drew ?_ | refine blk_alloc ?_ _)); exact BK202.out⟩, ⟨by (with_reducible repeat (first | refine blk_drewN ?_ _ | refine blk_drew ?_ | refine blk_alloc ?_ _)); exact BK203.out⟩, ⟨by repeat (first | (with_reducible first | exact HB.out | apply below_alloc | apply pw_below_drewN | apply below_drew1 | refine below_set ?_ GE202.out | refine below_set ?_ GE203.out) | exact HB.out)⟩⟩
  case round =>
    clear H'
    try clear c1
    try clear p2
    obtain ⟨x0_1, x7_1, x203000_1, x203002_1, x204000_1, x204001_1, x204002_1, x204003_1, u204001, u204003, rfl, HA, HK1, HO_0, HO_204001, HO_204003, BK202, BK203, HB⟩ := hrel
    cases gk with
    | zero => exact absurd HA.out (by simp [bobbinetkeep_nodeAt.l0])
    | succ k1 =>
      have H := HA.out
      clear HA
      simp only [bobbinetkeep_nodeAt.l0] at H
      by_cases c5 : x7_1 < (l1.length : Int)
      · rw [if_pos c5] at H
        have c5b0 : decide (x7_1 < (l1.length : Int)) = true := decide_eq_true c5
        clear c5
        by_cases c6 : 0 ≤ x7_1
        · rw [if_pos c6] at H
          have c6b0 : decide (0 ≤ x7_1) = true := decide_eq_true c6
          clear c6
          by_cases c7 : (rd l1 x7_1) < 0
          · rw [if_pos c7] at H
            have c7b0 : decide ((rd l1 x7_1) < 0) = true := decide_eq_true c7
            clear c7
            simp only [Option.some.injEq, Prod.mk.injEq] at H
            obtain ⟨rfl, rfl, rfl, rfl, rfl⟩ := H
            have p204 : 0 ≤ (x7_1 : Int) := of_decide_eq_true (by first | (with_reducible assumption) | assumption)
            have q204 : x7_1 < (l1.length : Int) := of_decide_eq_true (by first | (with_reducible assumption) | assumption)
            obtain ⟨ad204, e204, hx204_0⟩ := Kd.at_int HR1.out x7_1 p204 q204
            cases e204
            replace hx204_0 := (HB.out.cell (World.block_lt_of_cell? w _ hx204_0)).trans hx204_0
            replace p204 := eq_true p204
            replace q204 := eq_true q204
            have hnb8 := NB202_203.out
            have hnc8 := NB203_202.out
            have hcz9_0 : wr.cell? ⟨gb202, 0, none⟩ = some (.string x203000_1) := (blk_cell BK202.out 0).trans rfl
            have hcz9_1 : wr.cell? ⟨gb202, 1, none⟩ = some (.slice none 0 0) := (blk_cell BK202.out 1).trans rfl
            have hcz9_2 : wr.cell? ⟨gb202, 2, none⟩ = some (.string x203002_1) := (blk_cell BK202.out 2).trans rfl
            have hcz9_3 : wr.cell? ⟨gb202, 3, none⟩ = some (.slice none 0 0) := (blk_cell BK202.out 3).trans rfl
            have hfz9_0 := blk_frozen BK202.out 0
            have hfz9_1 := blk_frozen BK202.out 1
            have hfz9_2 := blk_frozen BK202.out 2
            have hfz9_3 := blk_frozen BK202.out 3
            go_wp2
            refine bodyPost_ret (results_ct rfl _ _ gb202 28 #[.string (⟨#[]⟩ : ByteArray), .slice none 0 0, .string (⟨#[]⟩ : ByteArray), .slice none 0 0] (0, 0) _ rfl (by (with_reducible repeat (first | refine blk_drewN ?_ _ | refine blk_drew ?_ | refine blk_alloc ?_ _)); refine blk_put (cs := #[.string (⟨#[]⟩ : ByteArray), .slice none 0 0, .string (⟨#[]⟩ : ByteArray), .slice none 0 0]) ?_ 3 _ rfl; (with_reducible repeat (first | refine blk_drewN ?_ _ | refine blk_drew ?_ | refine blk_alloc ?_ _)); refine blk_put (cs := #[.string (⟨#[]⟩ : ByteArray), .slice none 0 0, .string x203002_1, .slice none 0 0]) ?_ 2 _ rfl; (with_reducible repeat (first | refine blk_drewN ?_ _ | refine blk_drew ?_ | refine blk_alloc ?_ _)); refine blk_put (cs := #[.string (⟨#[]⟩ : ByteArray), .slice none 0 0, .string x203002_1, .slice none 0 0]) ?_ 1 _ rfl; (with_reducible repeat (first | refine blk_drewN ?_ _ | refine blk_drew ?_ | refine blk_alloc ?_ _)); refine blk_put (cs := #[.string x203000_1, .slice none 0 0, .string x203002_1, .slice none 0 0]) ?_ 0 _ rfl; (with_reducible repeat (first | refine blk_drewN ?_ _ | refine blk_drew ?_ | refine blk_alloc ?_ _)); exact BK202.out) Try.underlying28 rfl (by kernel_rfl)) rfl ?_
            exact ⟨.slice none 0 0, .slice none 0 0, by first | rfl | (simp [errW_none, errW_some] <;> rfl) | (simp [*, errW_none, errW_some] <;> rfl), Kd.V_nil _ _ _ _ _, Kd.V_nil _ _ _ _ _, by repeat (first | (with_reducible first | exact HB.out | apply below_alloc | apply pw_below_drewN | apply below_drew1 | refine below_set ?_ GE202.out | refine below_set ?_ GE203.out) | exact HB.out)⟩
          · rw [if_neg c7] at H
            have c7b0 : decide ((rd l1 x7_1) < 0) = false := decide_eq_false c7
            clear c7
            by_cases c10 : (rd l1 x7_1) ≥ (x0_1.length : Int)
            · rw [if_pos c10] at H
              have c10b0 : decide ((x0_1.length : Int) ≤ (rd l1 x7_1)) = true := decide_eq_true c10
              clear c10
              simp only [Option.some.injEq, Prod.mk.injEq] at H
              obtain ⟨rfl, rfl, rfl, rfl, rfl⟩ := H
              have p204 : 0 ≤ (x7_1 : Int) := of_decide_eq_true (by first | (with_reducible assumption) | assumption)
              have q204 : x7_1 < (l1.length : Int) := of_decide_eq_true (by first | (with_reducible assumption) | assumption)
              obtain ⟨ad204, e204, hx204_0⟩ := Kd.at_int HR1.out x7_1 p204 q204
              cases e204
              replace hx204_0 := (HB.out.cell (World.block_lt_of_cell? w _ hx204_0)).trans hx204_0
              replace p204 := eq_true p204
              replace q204 := eq_true q204
              have p205 : 0 ≤ (x7_1 : Int) := of_decide_eq_true (by first | (with_reducible assumption) | assumption)
              have q205 : x7_1 < (l1.length : Int) := of_decide_eq_true (by first | (with_reducible assumption) | assumption)
              obtain ⟨ad205, e205, hx205_0⟩ := Kd.at_int HR1.out x7_1 p205 q205
              obtain rfl : ad204 = ad205 := (by injection e205)
              replace hx205_0 := (HB.out.cell (World.block_lt_of_cell? w _ hx205_0)).trans hx205_0
              replace p205 := eq_true p205
              replace q205 := eq_true q205
              obtain ⟨Ao11, co11, eo11⟩ := Kd.V_slice HO_0.out
              subst eo11
              have hnb12 := NB202_203.out
              have hnc12 := NB203_202.out
              have hcz13_0 : wr.cell? ⟨gb202, 0, none⟩ = some (.string x203000_1) := (blk_cell BK202.out 0).trans rfl
              have hcz13_1 : wr.cell? ⟨gb202, 1, none⟩ = some (.slice none 0 0) := (blk_cell BK202.out 1).trans rfl
              have hcz13_2 : wr.cell? ⟨gb202, 2, none⟩ = some (.string x203002_1) := (blk_cell BK202.out 2).trans rfl
              have hcz13_3 : wr.cell? ⟨gb202, 3, none⟩ = some (.slice none 0 0) := (blk_cell BK202.out 3).trans rfl
              have hfz13_0 := blk_frozen BK202.out 0
              have hfz13_1 := blk_frozen BK202.out 1
              have hfz13_2 := blk_frozen BK202.out 2
              have hfz13_3 := blk_frozen BK202.out 3
              go_wp2
              refine bodyPost_ret (results_ct rfl _ _ gb202 28 #[.string (⟨#[]⟩ : ByteArray), .slice none 0 0, .string (⟨#[]⟩ : ByteArray), .slice none 0 0] (0, 0) _ rfl (by (with_reducible repeat (first | refine blk_drewN ?_ _ | refine blk_drew ?_ | refine blk_alloc ?_ _)); refine blk_put (cs := #[.string (⟨#[]⟩ : ByteArray), .slice none 0 0, .string (⟨#[]⟩ : ByteArray), .slice none 0 0]) ?_ 3 _ rfl; (with_reducible repeat (first | refine blk_drewN ?_ _ | refine blk_drew ?_ | refine blk_alloc ?_ _)); refine blk_put (cs := #[.string (⟨#[]⟩ : ByteArray), .slice none 0 0, .string x203002_1, .slice none 0 0]) ?_ 2 _ rfl; (with_reducible repeat (first | refine blk_drewN ?_ _ | refine blk_drew ?_ | refine blk_alloc ?_ _)); refine blk_put (cs := #[.string (⟨#[]⟩ : ByteArray), .slice none 0 0, .string x203002_1, .slice none 0 0]) ?_ 1 _ rfl; (with_reducible repeat (first | refine blk_drewN ?_ _ | refine blk_drew ?_ | refine blk_alloc ?_ _)); refine blk_put (cs := #[.string x203000_1, .slice none 0 0, .string x203002_1, .slice none 0 0]) ?_ 0 _ rfl; (with_reducible repeat (first | refine blk_drewN ?_ _ | refine blk_drew ?_ | refine blk_alloc ?_ _)); exact BK202.out) Try.underlying28 rfl (by kernel_rfl)) rfl ?_
              exact ⟨.slice none 0 0, .slice none 0 0, by first | rfl | (simp [errW_none, errW_some] <;> rfl) | (simp [*, errW_none, errW_some] <;> rfl), Kd.V_nil _ _ _ _ _, Kd.V_nil _ _ _ _ _, by repeat (first | (with_reducible first | exact HB.out | apply below_alloc | apply pw_below_drewN | apply below_drew1 | refine below_set ?_ GE202.out | refine below_set ?_ GE203.out) | exact HB.out)⟩
            · rw [if_neg c10] at H
              have c10b0 : decide ((x0_1.length : Int) ≤ (rd l1 x7_1)) = false := decide_eq_false c10
              clear c10
              by_cases c14 : 0 ≤ (rd l1 x7_1)
              · rw [if_pos c14] at H
                have c14b0 : decide (0 ≤ (rd l1 x7_1)) = true := decide_eq_true c14
                clear c14
                by_cases c15 : (rd l1 x7_1) < (x0_1.length : Int)
                · rw [if_pos c15] at H
                  have c15b0 : decide ((rd l1 x7_1) < (x0_1.length : Int)) = true := decide_eq_true c15
                  clear c15
                  have H' := Aside0.mk H
                  clear H
                  have p204 : 0 ≤ (x7_1 : Int) := of_decide_eq_true (by first | (with_reducible assumption) | assumption)
                  have q204 : x7_1 < (l1.length : Int) := of_decide_eq_true (by first | (with_reducible assumption) | assumption)
                  obtain ⟨ad204, e204, hx204_0⟩ := Kd.at_int HR1.out x7_1 p204 q204
                  cases e204
                  replace hx204_0 := (HB.out.cell (World.block_lt_of_cell? w _ hx204_0)).trans hx204_0
                  replace p204 := eq_true p204
                  replace q204 := eq_true q204
                  have p205 : 0 ≤ (x7_1 : Int) := of_decide_eq_true (by first | (with_reducible assumption) | assumption)
                  have q205 : x7_1 < (l1.length : Int) := of_decide_eq_true (by first | (with_reducible assumption) | assumption)
                  obtain ⟨ad205, e205, hx205_0⟩ := Kd.at_int HR1.out x7_1 p205 q205
                  obtain rfl : ad204 = ad205 := (by injection e205)
                  replace hx205_0 := (HB.out.cell (World.block_lt_of_cell? w _ hx205_0)).trans hx205_0
                  replace p205 := eq_true p205
                  replace q205 := eq_true q205
                  obtain ⟨Ao16, co16, eo16⟩ := Kd.V_slice HO_0.out
                  subst eo16
                  have p206 : 0 ≤ (x7_1 : Int) := of_decide_eq_true (by first | (with_reducible assumption) | assumption)
                  have q206 : x7_1 < (l1.length : Int) := of_decide_eq_true (by first | (with_reducible assumption) | assumption)
                  obtain ⟨ad206, e206, hx206_0⟩ := Kd.at_int HR1.out x7_1 p206 q206
                  obtain rfl : ad204 = ad206 := (by injection e206)
                  replace hx206_0 := (HB.out.cell (World.block_lt_of_cell? w _ hx206_0)).trans hx206_0
                  replace p206 := eq_true p206
                  replace q206 := eq_true q206
                  have p207 : 0 ≤ ((rd l1 x7_1) : Int) := of_decide_eq_true (by first | (with_reducible assumption) | assumption)
                  have q207 : (rd l1 x7_1) < (x0_1.length : Int) := of_decide_eq_true (by first | (with_reducible assumption) | assumption)
                  obtain ⟨ad207, A207_1, c207_1, A207_3, c207_3, e207, hx207_0, hx207_1, hx207_2, hx207_3, hl207_1, hi207_1, hl207_3, hi207_3⟩ := at_T28 (Kd.V_reads' HO_0.out).2.2 (rd l1 x7_1) p207 q207
                  cases e207
                  obtain ⟨ce207, hce207, hMe207, hcc207⟩ := Kd.V_get HO_0.out z28 (rd l1 x7_1) p207 (by first | exact q207 | exact of_decide_eq_true (by first | (with_reducible assumption) | assumption) | (have e_ := (Kd.V_reads' HO_0.out).1; omega))
                  obtain ⟨ua207_1, uc207_1, ua207_3, uc207_3, rfl, ul207_1, ge207_1, ul207_3, ge207_3⟩ := k28_openF hMe207
                  have hv207_1 := hcc207 1 _ rfl
                  rw [add_field _ _ 1 (by omega)] at hv207_1
                  replace hv207_1 := Option.some.inj (hv207_1.symm.trans hx207_1)
                  injection hv207_1 with hva_ hvn_ hvc_
                  rw [hva_] at ge207_1
                  rw [hvc_] at ul207_1
                  have HL207_1 := Aside0.mk (show Kd.V k68 68 _ w.heap.size _ _ ((rd_T28 x0_1 (rd l1 x7_1)).f1) from Kd.V_mk ul207_1 ge207_1)
                  clear hva_ hvn_ hvc_ ge207_1 ul207_1
                  have hv207_3 := hcc207 3 _ rfl
                  rw [add_field _ _ 3 (by omega)] at hv207_3
                  replace hv207_3 := Option.some.inj (hv207_3.symm.trans hx207_3)
                  injection hv207_3 with hva_ hvn_ hvc_
                  rw [hva_] at ge207_3
                  rw [hvc_] at ul207_3
                  have HL207_3 := Aside0.mk (show Kd.V k28 28 _ w.heap.size _ _ ((rd_T28 x0_1 (rd l1 x7_1)).f3) from Kd.V_mk ul207_3 ge207_3)
                  clear hva_ hvn_ hvc_ ge207_3 ul207_3
                  clear hcc207 hce207
                  have HR207_1 := Aside0.mk hi207_1
                  have HC207_1 := Aside0.mk hl207_1
                  clear hi207_1 hl207_1
                  have HR207_3 := Aside0.mk hi207_3
                  have HC207_3 := Aside0.mk hl207_3
                  clear hi207_3 hl207_3
                  replace p207 := eq_true p207
                  replace q207 := eq_true q207
                  have hnb17 := NB203_202.out
                  have hnc17 := NB202_203.out
                  have hcz18_0 : wr.cell? ⟨gb203, 0, none⟩ = some (.string x204000_1) := (blk_cell BK203.out 0).trans rfl
                  have hcz18_1 : wr.cell? ⟨gb203, 1, none⟩ = some (u204001) := (blk_cell BK203.out 1).trans rfl
                  have hcz18_2 : wr.cell? ⟨gb203, 2, none⟩ = some (.string x204002_1) := (blk_cell BK203.out 2).trans rfl
                  have hcz18_3 : wr.cell? ⟨gb203, 3, none⟩ = some (u204003) := (blk_cell BK203.out 3).trans rfl
                  have hfz18_0 := blk_frozen BK203.out 0
                  have hfz18_1 := blk_frozen BK203.out 1
                  have hfz18_2 := blk_frozen BK203.out 2
                  have hfz18_3 := blk_frozen BK203.out 3
                  go_wp2
                  go_roundg k1
                  case measure => have := HK1.out; omega
                  case rel => exact ⟨((rd_T28 x0_1 (rd l1 x7_1)).f3), (wrap64 (x7_1 + 1)), (x203000_1), (x203002_1), ((rd_T28 x0_1 (rd l1 x7_1)).f0), ((rd_T28 x0_1 (rd l1 x7_1)).f1), ((rd_T28 x0_1 (rd l1 x7_1)).f2), ((rd_T28 x0_1 (rd l1 x7_1)).f3), (.slice A207_1 ((rd_T28 x0_1 (rd l1 x7_1)).f1).length c207_1), (.slice A207_3 ((rd_T28 x0_1 (rd l1 x7_1)).f3).length c207_3), (by first | rfl | (simp; done) | (simp [*]; done) | (simp [bne]; done)), H', ⟨by have := HK1.out; omega⟩, ⟨by (with_reducible repeat (first | apply Kd.V_alloc | apply Kd.V_drewN | apply Kd.V_drew)); exact Kd.V_mono (Kd.V_far (p := ⟨gb203, 3, none⟩) (Kd.V_far (p := ⟨gb203, 2, none⟩) (Kd.V_far (p := ⟨gb203, 1, none⟩) (Kd.V_far (p := ⟨gb203, 0, none⟩) (Kd.V_mono HL207_3.out (fun k_ hk => (⟨hk, (by first | exact hk.2.2 | grind)⟩ : _ ∧ k_ ≠ gb203))) (fun _ hk => hk.2) (.string ((rd_T28 x0_1 (rd l1 x7_1)).f0))) (fun _ hk => hk.2) (.slice A207_1 ((rd_T28 x0_1 (rd l1 x7_1)).f1).length c207_1)) (fun _ hk => hk.2) (.string ((rd_T28 x0_1 (rd l1 x7_1)).f2))) (fun _ hk => hk.2) (.slice A207_3 ((rd_T28 x0_1 (rd l1 x7_1)).f3).length c207_3)) (fun _ hk => (by first | exact ⟨hk.1.1, ⟨hk.1.2.1, hk.1.2.2⟩⟩ | grind))⟩, ⟨by (with_reducible repeat (first | apply Kd.V_alloc | apply Kd.V_drewN | apply Kd.V_drew)); exact Kd.V_mono (Kd.V_far (p := ⟨gb203, 3, none⟩) (Kd.V_far (p := ⟨gb203, 2, none⟩) (Kd.V_far (p := ⟨gb203, 1, none⟩) (Kd.V_far (p := ⟨gb203, 0, none⟩) (Kd.V_mono HL207_1.out (fun k_ hk => (⟨hk, (by first | exact hk.2.2 | grind)⟩ : _ ∧ k_ ≠ gb203))) (fun _ hk => hk.2) (.string ((rd_T28 x0_1 (rd l1 x7_1)).f0))) (fun _ hk => hk.2) (.slice A207_1 ((rd_T28 x0_1 (rd l1 x7_1)).f1).length c207_1)) (fun _ hk => hk.2) (.string ((rd_T28 x0_1 (rd l1 x7_1)).f2))) (fun _ hk => hk.2) (.slice A207_3 ((rd_T28 x0_1 (rd l1 x7_1)).f3).length c207_3)) (fun _ hk => (by first | exact ⟨hk.1.1, ⟨hk.1.2.1, hk.1.2.2⟩⟩ | grind))⟩, ⟨by (with_reducible repeat (first | apply Kd.V_alloc | apply Kd.V_drewN | apply Kd.V_drew)); exact Kd.V_mono (Kd.V_far (p := ⟨gb203, 3, none⟩) (Kd.V_far (p := ⟨gb203, 2, none⟩) (Kd.V_far (p := ⟨gb203, 1, none⟩) (Kd.V_far (p := ⟨gb203, 0, none⟩) (Kd.V_mono HL207_3.out (fun k_ hk => (⟨hk, (by first | exact hk.2.2 | grind)⟩ : _ ∧ k_ ≠ gb203))) (fun _ hk => hk.2) (.string ((rd_T28 x0_1 (rd l1 x7_1)).f0))) (fun _ hk => hk.2) (.slice A207_1 ((rd_T28 x0_1 (rd l1 x7_1)).f1).length c207_1)) (fun _ hk => hk.2) (.string ((rd_T28 x0_1 (rd l1 x7_1)).f2))) (fun _ hk => hk.2) (.slice A207_3 ((rd_T28 x0_1 (rd l1 x7_1)).f3).length c207_3)) (fun _ hk => (by first | exact ⟨hk.1.1, ⟨hk.1.2.1, hk.1.2.2⟩⟩ | grind))⟩, ⟨by (with_reducible repeat (first | refine blk_drewN ?_ _ | refine blk_drew ?_ | refine blk_alloc ?_ _)); refine blk_far ?_ NB202_203.out _; (with_reducible repeat (first | refine blk_drewN ?_ _ | refine blk_drew ?_ | refine blk_alloc ?_ _)); refine blk_far ?_ NB202_203.out _; (with_reducible repeat (first | refine blk_drewN ?_ _ | refine blk_drew ?_ | refine blk_alloc ?_ _)); refine blk_far ?_ NB202_203.out _; (with_reducible repeat (first | refine blk_drewN ?_ _ | refine blk_drew ?_ | refine blk_alloc ?_ _)); refine blk_far ?_ NB202_203.out _; (with_reducible repeat (first | refine blk_drewN ?_ _ | refine blk_drew ?_ | refine blk_alloc ?_ _)); exact BK202.out⟩, ⟨by (with_reducible repeat (first | refine blk_drewN ?_ _ | refine blk_drew ?_ | refine blk_alloc ?_ _)); refine blk_put (cs := #[.string ((rd_T28 x0_1 (rd l1 x7_1)).f0), .slice A207_1 ((rd_T28 x0_1 (rd l1 x7_1)).f1).length c207_1, .string ((rd_T28 x0_1 (rd l1 x7_1)).f2), u204003]) ?_ 3 _ rfl; (with_reducible repeat (first | refine blk_drewN ?_ _ | refine blk_drew ?_ | refine blk_alloc ?_ _)); refine blk_put (cs := #[.string ((rd_T28 x0_1 (rd l1 x7_1)).f0), .slice A207_1 ((rd_T28 x0_1 (rd l1 x7_1)).f1).length c207_1, .string x204002_1, u204003]) ?_ 2 _ rfl; (with_reducible repeat (first | refine blk_drewN ?_ _ | refine blk_drew ?_ | refine blk_alloc ?_ _)); refine blk_put (cs := #[.string ((rd_T28 x0_1 (rd l1 x7_1)).f0), u204001, .string x204002_1, u204003]) ?_ 1 _ rfl; (with_reducible repeat (first | refine blk_drewN ?_ _ | refine blk_drew ?_ | refine blk_alloc ?_ _)); refine blk_put (cs := #[.string x204000_1, u204001, .string x204002_1, u204003]) ?_ 0 _ rfl; (with_reducible repeat (first | refine blk_drewN ?_ _ | refine blk_drew ?_ | refine blk_alloc ?_ _)); exact BK203.out⟩, ⟨by repeat (first | (with_reducible first | exact HB.out | apply below_alloc | apply pw_below_drewN | apply below_drew1 | refine below_set ?_ GE202.out | refine below_set ?_ GE203.out) | exact HB.out)⟩⟩
                · rw [if_neg c15] at H
                  exact absurd H (by simp)
              · rw [if_neg c14] at H
                exact absurd H (by simp)
        · rw [if_neg c6] at H
          exact absurd H (by simp)
      · rw [if_neg c5] at H
        have c5b0 : decide (x7_1 < (l1.length : Int)) = false := decide_eq_false c5
        clear c5
        simp only [Option.some.injEq, Prod.mk.injEq] at H
        obtain ⟨rfl, rfl, rfl, rfl, rfl⟩ := H
        have hnb19 := NB203_202.out
        have hnc19 := NB202_203.out
        have hcz20_0 : wr.cell? ⟨gb203, 0, none⟩ = some (.string x204000_1) := (blk_cell BK203.out 0).trans rfl
        have hcz20_1 : wr.cell? ⟨gb203, 1, none⟩ = some (u204001) := (blk_cell BK203.out 1).trans rfl
        have hcz20_2 : wr.cell? ⟨gb203, 2, none⟩ = some (.string x204002_1) := (blk_cell BK203.out 2).trans rfl
        have hcz20_3 : wr.cell? ⟨gb203, 3, none⟩ = some (u204003) := (blk_cell BK203.out 3).trans rfl
        have hfz20_0 := blk_frozen BK203.out 0
        have hfz20_1 := blk_frozen BK203.out 1
        have hfz20_2 := blk_frozen BK203.out 2
        have hfz20_3 := blk_frozen BK203.out 3
        have hcz21_0 : wr.cell? ⟨gb202, 0, none⟩ = some (.string x203000_1) := (blk_cell BK202.out 0).trans rfl
        have hcz21_1 : wr.cell? ⟨gb202, 1, none⟩ = some (.slice none 0 0) := (blk_cell BK202.out 1).trans rfl
        have hcz21_2 : wr.cell? ⟨gb202, 2, none⟩ = some (.string x203002_1) := (blk_cell BK202.out 2).trans rfl
        have hcz21_3 : wr.cell? ⟨gb202, 3, none⟩ = some (.slice none 0 0) := (blk_cell BK202.out 3).trans rfl
        have hfz21_0 := blk_frozen BK202.out 0
        have hfz21_1 := blk_frozen BK202.out 1
        have hfz21_2 := blk_frozen BK202.out 2
        have hfz21_3 := blk_frozen BK202.out 3
        obtain ⟨Ao22, co22, eo22⟩ := Kd.V_slice HO_204001.out
        subst eo22
        obtain ⟨Ao23, co23, eo23⟩ := Kd.V_slice HO_204003.out
        subst eo23
        go_wp2
        refine bodyPost_ret (results_ct rfl _ _ gb202 28 #[.string x204000_1, .slice Ao22 x204001_1.length co22, .string x204002_1, .slice Ao23 x204003_1.length co23] (0, 0) _ rfl (by (with_reducible repeat (first | refine blk_drewN ?_ _ | refine blk_drew ?_ | refine blk_alloc ?_ _)); refine blk_put (cs := #[.string x204000_1, .slice Ao22 x204001_1.length co22, .string x204002_1, .slice none 0 0]) ?_ 3 _ rfl; (with_reducible repeat (first | refine blk_drewN ?_ _ | refine blk_drew ?_ | refine blk_alloc ?_ _)); refine blk_put (cs := #[.string x204000_1, .slice Ao22 x204001_1.length co22, .string x203002_1, .slice none 0 0]) ?_ 2 _ rfl; (with_reducible repeat (first | refine blk_drewN ?_ _ | refine blk_drew ?_ | refine blk_alloc ?_ _)); refine blk_put (cs := #[.string x204000_1, .slice none 0 0, .string x203002_1, .slice none 0 0]) ?_ 1 _ rfl; (with_reducible repeat (first | refine blk_drewN ?_ _ | refine blk_drew ?_ | refine blk_alloc ?_ _)); refine blk_put (cs := #[.string x203000_1, .slice none 0 0, .string x203002_1, .slice none 0 0]) ?_ 0 _ rfl; (with_reducible repeat (first | refine blk_drewN ?_ _ | refine blk_drew ?_ | refine blk_alloc ?_ _)); exact BK202.out) Try.underlying28 rfl (by kernel_rfl)) rfl ?_
        exact ⟨.slice Ao22 x204001_1.length co22, .slice Ao23 x204003_1.length co23, by first | rfl | (simp [errW_none, errW_some] <;> rfl) | (simp [*, errW_none, errW_some] <;> rfl), by (with_reducible repeat (first | apply Kd.V_alloc | apply Kd.V_drewN | apply Kd.V_drew)); exact Kd.V_mono (Kd.V_far (p := ⟨gb202, 3, none⟩) (Kd.V_far (p := ⟨gb202, 2, none⟩) (Kd.V_far (p := ⟨gb202, 1, none⟩) (Kd.V_far (p := ⟨gb202, 0, none⟩) (Kd.V_mono HO_204001.out (fun k_ hk => (⟨hk, (by first | exact hk.2.1 | grind)⟩ : _ ∧ k_ ≠ gb202))) (fun _ hk => hk.2) (.string x204000_1)) (fun _ hk => hk.2) (.slice Ao22 x204001_1.length co22)) (fun _ hk => hk.2) (.string x204002_1)) (fun _ hk => hk.2) (.slice Ao23 x204003_1.length co23)) (fun _ hk => (by first | exact hk.1.1 | grind)), by (with_reducible repeat (first | apply Kd.V_alloc | apply Kd.V_drewN | apply Kd.V_drew)); exact Kd.V_mono (Kd.V_far (p := ⟨gb202, 3, none⟩) (Kd.V_far (p := ⟨gb202, 2, none⟩) (Kd.V_far (p := ⟨gb202, 1, none⟩) (Kd.V_far (p := ⟨gb202, 0, none⟩) (Kd.V_mono HO_204003.out (fun k_ hk => (⟨hk, (by first | exact hk.2.1 | grind)⟩ : _ ∧ k_ ≠ gb202))) (fun _ hk => hk.2) (.string x204000_1)) (fun _ hk => hk.2) (.slice Ao22 x204001_1.length co22)) (fun _ hk => hk.2) (.string x204002_1)) (fun _ hk => hk.2) (.slice Ao23 x204003_1.length co23)) (fun _ hk => (by first | exact hk.1.1 | grind)), by repeat (first | (with_reducible first | exact HB.out | apply below_alloc | apply pw_below_drewN | apply below_drew1 | refine below_set ?_ GE202.out | refine below_set ?_ GE203.out) | exact HB.out)⟩
end Go.Proofs.Ytaibikajpacemaa.X
end
section
namespace Go.Proofs.Ytaibikajpacemaa.X
open Go.RowKit Go.Proofs.YtaibikajpacemaaW.PrintWords Go.Proofs.YtaibikajpacemaaW.PrintLast Go.Proofs.YtaibikajpacemaaW.PrintMore
attribute [local go_sem] max2_int min2_int max_two min_two max_three min_three max_four min_four   -- for this text's walks alone
set_option linter.unusedVariables false
set_option linter.unusedSimpArgs false
def api_Attr.f (l0 : List (S68)) : Option (List (S68)) := if l0.length < 4398046511104 then some l0 else none
set_option maxHeartbeats 4000000 in
set_option maxRecDepth 100000 in
theorem api_Attr.calls (A0 : Option Addr) (c0 : Nat) (l0 : List (S68)) (r : List (S68)) (w : World) (hr0 : Kd.C k68 w A0 l0.length l0) (hc0 : l0.length ≤ c0) (h : api_Attr.f l0 = some r) :
    Calls Try.prog 34 #[.slice A0 l0.length c0] w fun e w' => ∃ v0_ : Value, e = .returned (v0_) ∧ Kd.R k68 68 w' w.heap.size (fun _ => True) v0_ r ∧ Below w.heap.size w w' := by
  have hl : l0.length < 4398046511104 ∧ l0 = r := by
    unfold api_Attr.f at h
    split at h
    · cases h; exact ⟨by assumption, rfl⟩
    · cases h
  obtain ⟨hl, rfl⟩ := hl
  have LM := Aside0.mk hl
  have HR0 := Aside0.mk hr0
  clear h hl hr0
  cases A0 with
  | none =>
    have h0 : l0 = [] := by
      cases l0 with
      | nil => rfl
      | cons x l =>
        obtain ⟨ad, h, _⟩ := HR0.out.2.2 (by simp)
        cases h
    subst h0
    have hnil := fun w => Lib.run_eql_slice_nil (P := Try.prog) w 26 68 none 0 c0 0 0 Try.underlying26
    simp only [List.length_nil] at *
    go_enter Try.func34, Try.ntmps34
    go_wp2
    go_ret
    exact ⟨_, rfl, Kd.R_nil _ _ _ _ _, Below.refl _ _⟩
  | some ad =>
    have hnil := fun w => Lib.run_eql_slice_nil (P := Try.prog) w 26 68 (some ad) l0.length c0 0 0 Try.underlying26
    have HB := Aside0.mk (Below.refl w.heap.size w)
    go_enter Try.func34, Try.ntmps34
    go_wp2_with (first | ((with_reducible refine gate_dst (N := 5) rfl ?_); refine Kd.R_lit k68 _ 68 ?hg (N := 5) ?hd (xs := ([] : List (S68))) (inner := []) (ok := fun _ => True) (okp := fun _ => True) ?hr ?hp (fun _ hk => hk) trivial (Below.refl _ _) (Nat.le_refl _) (by simp) ?_; (case hd => rfl); (case hg => rfl); (case hr => first | (go_simp; done) | (go_simp; rfl)); (case hp => exact (Reps.none _ _)); intro v5 w5 ho5 hb hg_ hnew_; clear hg_ hnew_; have HO5 := Aside0.mk (Kd.R_lower ho5 (Nat.le_refl _)); have n3_ := Aside0.mk (below_step (HB.out) hb); clear HB; have HB := n3_; clear n3_; clear hb ho5; obtain ⟨Ao8, co8, eo8⟩ := Kd.R_slice HO5.out; subst eo8; have HR1 := Aside0.mk (Kd.C_below HR0.out HB.out)) | ((with_reducible refine gate_builtin (b := .append) (xs := #[.tmp 5, .tmp 6]) rfl ?_); at_builtin; refine Kd.R_append_rows k68 (w0 := w) w.heap.size rfl (.tmp 5) (.tmp 6) 26 68 (.agg #[(.string ⟨#[]⟩), (.string ⟨#[]⟩)]) 32 rfl Try.underlying26 info68 rfl (by decide) (by omega) (.slice Ao8 ([] : List (S68)).length co8) ([] : List (S68)) l0 _ _ _ (fun _ => True) (fun _ => False) rfl rfl ?aO ?aR (fun _ _ h => h) (fun _ h => h.elim) ?aF ?aB ?aS ?aL ?_; (case aR => exact HR1.out); (case aB => exact HB.out); (case aF => exact (fun _ _ => trivial)); (case aO => exact HO5.out); (case aS => exact (below_size HB.out)); (case aL => have := LM.out; (simp only [List.length_nil]; omega)); intro v7 w7 ho hb hg hat; have HO7 := Aside0.mk ho; clear HB; have HB := Aside0.mk hb; clear ho hb hg hat))
    go_ret
    exact ⟨_, rfl, HO7.out, HB.out⟩
end Go.Proofs.Ytaibikajpacemaa.X
end
section
namespace Go.Proofs.Ytaibikajpacemaa.X
open Go.RowKit Go.Proofs.YtaibikajpacemaaW.PrintWords Go.Proofs.YtaibikajpacemaaW.PrintLast Go.Proofs.YtaibikajpacemaaW.PrintMore
attribute [local go_sem] max2_int min2_int max_two min_two max_three min_three max_four min_four   -- for this text's walks alone
set_option linter.unusedVariables false
set_option linter.unusedSimpArgs false
mutual
def walk_copies.l0 : Nat → List (S28) → List (S28) → Int → Int → Option ((List (S28)))
  | 0, _, _, _, _ => none
  | k + 1, x3, x6, x7, x8 => if x8 < x7 then (if 0 ≤ x8 then (if x8 < (x6.length : Int) then ((walk_Copy.f k ((rd_T28 x6 x8).f0) ((rd_T28 x6 x8).f1) ((rd_T28 x6 x8).f2) ((rd_T28 x6 x8).f3)).bind fun bt210 => (if x3.length < 1759218604441 then (walk_copies.l0 k (x3 ++ [(⟨bt210.1, bt210.2.1, bt210.2.2.1, bt210.2.2.2⟩ : S28)]) x6 x7 (wrap64 (x8 + 1))) else (none))) else (none)) else (none)) else (some x3)
def walk_copies.f : Nat → List (S28) → Option ((List (S28)))
  | 0, _ => none
  | k + 1, l0 => walk_copies.l0 k ([] : List (S28)) l0 (l0.length : Int) 0
def walk_Copy.f : Nat → ByteArray → List (S68) → ByteArray → List (S28) → Option (ByteArray × (List (S68)) × ByteArray × (List (S28)))
  | 0, _, _, _, _ => none
  | k + 1, a0_0, l0_1, a0_2, l0_3 => (api_Attr.f l0_1).bind fun t223 => ((walk_copies.f k l0_3).bind fun t226 => (some (a0_0, t223, a0_2, t226)))
end
abbrev walk_copies.Holds (k : Nat) : Prop := ∀ (A0 : Option Addr) (c0 : Nat) (l0 : List (S28)) (r : List (S28)) (w : World) (hr0 : Kd.C k28 w A0 l0.length l0) (hc0 : l0.length ≤ c0) (h : walk_copies.f k l0 = some r),
    Calls Try.prog 35 #[.slice A0 l0.length c0] w fun e w' => ∃ v0_ : Value, e = .returned (v0_) ∧ Kd.R k28 28 w' w.heap.size (fun _ => True) v0_ r ∧ Below w.heap.size w w'
abbrev walk_Copy.Holds (k : Nat) : Prop := ∀ (a0_0 : ByteArray) (A0_1 : Option Addr) (c0_1 : Nat) (l0_1 : List (S68)) (a0_2 : ByteArray) (A0_3 : Option Addr) (c0_3 : Nat) (l0_3 : List (S28)) (r1 : ByteArray) (r2 : List (S68)) (r3 : ByteArray) (r4 : List (S28)) (w : World) (hr0_1 : Kd.C k68 w A0_1 l0_1.length l0_1) (hc0_1 : l0_1.length ≤ c0_1) (hr0_3 : Kd.C k28 w A0_3 l0_3.length l0_3) (hc0_3 : l0_3.length ≤ c0_3) (h : walk_Copy.f k a0_0 l0_1 a0_2 l0_3 = some (r1, r2, r3, r4)),
    Calls Try.prog 30 #[.agg #[.string a0_0, .slice A0_1 l0_1.length c0_1, .string a0_2, .slice A0_3 l0_3.length c0_3]] w fun e w' => ∃ v1_ v3_ : Value, e = .returned (.agg #[.string r1, v1_, .string r3, v3_]) ∧ Kd.R k68 68 w' w.heap.size (fun _ => True) v1_ r2 ∧ Kd.R k28 28 w' w.heap.size (fun k_ => some k_ ≠ (v1_ : Value).ownBlock) v3_ r4 ∧ Below w.heap.size w w'
set_option maxHeartbeats 8000000 in
set_option maxRecDepth 100000 in
theorem walk_copies.calls_ (k : Nat) (ih_walk_copies : ∀ j, j < k → walk_copies.Holds j) (ih_walk_Copy : ∀ j, j < k → walk_Copy.Holds j) : walk_copies.Holds k := by
  intro A0 c0 l0 r w hr0 hc0 h
  cases k with
  | zero => exact absurd h (by simp [walk_copies.f])
  | succ k =>
  simp only [walk_copies.f] at h
  have hu28 := Try.underlying28
  have HR0 := Aside0.mk hr0
  have HC0 := Aside0.mk hc0
  clear hr0 hc0
  have HB := Aside0.mk (Below.refl w.heap.size w)
  have H : (walk_copies.l0 k ([] : List (S28)) l0 (l0.length : Int) 0) = some r := h
  clear h
  have H' := Aside0.mk H
  clear H
  go_enter Try.func35, Try.ntmps35
  go_wp2
  go_loopg [3, 8] k (fun kq v3 v8 w' => ∃ (x3_1 : List (S28)) (x8_1 : Int), v8 = .int .i64 x8_1 ∧ Aside0 (walk_copies.l0 kq x3_1 l0 (l0.length : Int) x8_1 = some r) ∧ Aside0 (kq ≤ k) ∧ Aside0 (Kd.R k28 28 w' w.heap.size (fun _ => True) v3 x3_1) ∧ Aside0 (Below w.heap.size w w'))
  case atStart => exact ⟨(([] : List (S28))), (0), (by first | rfl | (simp; done) | (simp [*]; done) | (simp [bne]; done)), H', ⟨Nat.le_refl _⟩, ⟨by first | exact Kd.R_nil _ _ _ _ _ | exact Kd.N_nil _ _ _ _ _ | exact Kd.V_nil _ _ _ _ _ | exact Kd.Q_nil _ _ _ _ _ | exact Kd.S_nil _ _ _ _ _⟩, ⟨by repeat (first | (with_reducible first | exact HB.out | apply below_alloc | apply pw_below_drewN | apply below_drew1) | exact HB.out)⟩⟩
  case round =>
    clear H'
    obtain ⟨x3_1, x8_1, rfl, HA, HK1, HO_3, HB⟩ := hrel
    cases gk with
    | zero => exact absurd HA.out (by simp [walk_copies.l0])
    | succ k1 =>
      have H := HA.out
      clear HA
      simp only [walk_copies.l0] at H
      by_cases c2 : x8_1 < (l0.length : Int)
      · rw [if_pos c2] at H
        have c2b0 : decide (x8_1 < (l0.length : Int)) = true := decide_eq_true c2
        clear c2
        by_cases c3 : 0 ≤ x8_1
        · rw [if_pos c3] at H
          have c3b0 : decide (0 ≤ x8_1) = true := decide_eq_true c3
          clear c3
          by_cases c4 : x8_1 < (l0.length : Int)
          · rw [if_pos c4] at H
            have c4b0 : decide (x8_1 < (l0.length : Int)) = true := decide_eq_true c4
            clear c4
            replace H := Option.bind_eq_some_iff.mp H
            obtain ⟨⟨t210, t211, t214, t215⟩, A50, H⟩ := H
            replace H : (if x3_1.length < 1759218604441 then (walk_copies.l0 k1 (x3_1 ++ [(⟨t210, t211, t214, t215⟩ : S28)]) l0 (l0.length : Int) (wrap64 (x8_1 + 1))) else (none)) = some r := H
            have A5 := Aside0.mk A50
            clear A50
            by_cases c6 : x3_1.length < 1759218604441
            · rw [if_pos c6] at H
              have LMc6 := Aside0.mk c6
              clear c6
              obtain ⟨y218, hy218⟩ : ∃ y_ : List (S28), y_ = (x3_1 ++ [(⟨t210, t211, t214, t215⟩ : S28)]) := ⟨_, rfl⟩
              replace H : (walk_copies.l0 k1 y218 l0 (l0.length : Int) (wrap64 (x8_1 + 1))) = some r := by first | (rw [hy218]; with_reducible exact H) | (have H2_ := (Option.bind_some _ _).symm.trans H; rw [hy218]; with_reducible exact H2_) | (have H2_ := (Option.bind_some _ _).symm.trans H; with_reducible exact H2_) | with_reducible exact H | (rw [hy218]; exact H) | exact H
              have Ny218 := Aside0.mk hy218
              clear hy218
              have H' := Aside0.mk H
              clear H
              have p208 : 0 ≤ (x8_1 : Int) := of_decide_eq_true (by first | (with_reducible assumption) | assumption)
              have q208 : x8_1 < (l0.length : Int) := of_decide_eq_true (by first | (with_reducible assumption) | assumption)
              obtain ⟨ad208, A208_1, c208_1, A208_3, c208_3, e208, hx208_0, hx208_1, hx208_2, hx208_3, hl208_1, hi208_1, hl208_3, hi208_3⟩ := at_T28 HR0.out x8_1 p208 q208
              cases e208
              replace hx208_0 := (HB.out.cell (World.block_lt_of_cell? w _ hx208_0)).trans hx208_0
              replace hx208_1 := (HB.out.cell (World.block_lt_of_cell? w _ hx208_1)).trans hx208_1
              replace hx208_2 := (HB.out.cell (World.block_lt_of_cell? w _ hx208_2)).trans hx208_2
              replace hx208_3 := (HB.out.cell (World.block_lt_of_cell? w _ hx208_3)).trans hx208_3
              have HR208_1 := Aside0.mk hi208_1
              have HC208_1 := Aside0.mk hl208_1
              clear hi208_1 hl208_1
              have HR208_3 := Aside0.mk hi208_3
              have HC208_3 := Aside0.mk hl208_3
              clear hi208_3 hl208_3
              replace p208 := eq_true p208
              replace q208 := eq_true q208
              go_wp2_with (first | ((with_reducible refine gate_dst (N := 5) rfl ?_); refine box_event ?hg (N := 5) ?hd (cs := #[.string (⟨#[]⟩ : ByteArray), .slice none 0 0, .string (⟨#[]⟩ : ByteArray), .slice none 0 0]) (t := 28) ?hr ?_; (case hd => rfl); (case hg => rfl); (case hr => first | (go_simp; done) | (go_simp; rfl)); intro gb209 hg w7 hbox hb; have n0_ := Aside0.mk (Kd.R_below (Kd.R_elderB (by (with_reducible repeat (first | apply Kd.R_alloc | apply Kd.R_drewN | apply Kd.R_drew)); exact HO_3.out) gb209 (Nat.le_of_eq hg.symm)) hb); have n1_ := Aside0.mk (below_step (by repeat (first | (with_reducible first | exact HB.out | apply below_alloc | apply pw_below_drewN | apply below_drew1) | exact HB.out)) hb); have n2_ := Aside0.mk (hbox); have n3_ := Aside0.mk ((by rw [hg]; exact (below_size (by repeat (first | (with_reducible first | exact HB.out | apply below_alloc | apply pw_below_drewN | apply below_drew1) | exact HB.out))) : w.heap.size ≤ gb209)); have n4_ := Aside0.mk ((by rw [hg]; exact (below_size (by repeat (first | (with_reducible first | exact HB.out | apply below_alloc | apply pw_below_drewN | apply below_drew1) | exact HB.out))) : w.heap.size ≤ gb209)); clear HO_3; clear HB; have HO_3 := n0_; have HB := n1_; have BK209 := n2_; have GW209 := n3_; have GE209 := n4_; clear n0_ n1_ n2_ n3_ n4_; clear hb hbox hg; have hcz8_0 : w7.cell? ⟨gb209, 0, none⟩ = some (.string (⟨#[]⟩ : ByteArray)) := (blk_cell BK209.out 0).trans rfl; have hcz8_1 : w7.cell? ⟨gb209, 1, none⟩ = some (.slice none 0 0) := (blk_cell BK209.out 1).trans rfl; have hcz8_2 : w7.cell? ⟨gb209, 2, none⟩ = some (.string (⟨#[]⟩ : ByteArray)) := (blk_cell BK209.out 2).trans rfl; have hcz8_3 : w7.cell? ⟨gb209, 3, none⟩ = some (.slice none 0 0) := (blk_cell BK209.out 3).trans rfl; have hfz8_0 := blk_frozen BK209.out 0; have hfz8_1 := blk_frozen BK209.out 1; have hfz8_2 := blk_frozen BK209.out 2; have hfz8_3 := blk_frozen BK209.out 3) | ((with_reducible refine gate_callee (f := 30) rfl ?_); refine goesL_ (some 14) rfl rfl Try.func30 (by kernel_rfl) rfl #[.agg #[.string ((rd_T28 l0 x8_1).f0), .slice A208_1 ((rd_T28 l0 x8_1).f1).length c208_1, .string ((rd_T28 l0 x8_1).f2), .slice A208_3 ((rd_T28 l0 x8_1).f3).length c208_3]] rfl (by (try simp only [List.map_toArray, List.map_cons, List.map_nil]); first | done | rfl | (simp only [List.length_drop, List.length_take]; rfl)) ?_; (with_reducible refine (ih_walk_Copy k1 (by have := HK1.out; omega) ((rd_T28 l0 x8_1).f0) _ _ ((rd_T28 l0 x8_1).f1) ((rd_T28 l0 x8_1).f2) _ _ ((rd_T28 l0 x8_1).f3) t210 t211 t214 t215 _ ?side1 ?side2 ?side3 ?side4 A5.out).mono ?_); (case side1 => exact Kd.C_below HR208_1.out (by repeat (first | (with_reducible first | exact HB.out | apply below_alloc | apply pw_below_drewN | apply below_drew1 | refine below_set ?_ GE209.out) | exact HB.out))); (case side2 => exact HC208_1.out); (case side3 => exact Kd.C_below HR208_3.out (by repeat (first | (with_reducible first | exact HB.out | apply below_alloc | apply pw_below_drewN | apply below_drew1 | refine below_set ?_ GE209.out) | exact HB.out))); (case side4 => exact HC208_3.out); rintro e w9 ⟨v212, v216, rfl, ho0, ho1, hb⟩; refine ⟨_, rfl, ?_⟩; have n0_ := Aside0.mk (Kd.R_mono (Kd.R_told (Kd.R_told (Kd.R_old (by (with_reducible repeat (first | apply Kd.R_alloc | apply Kd.R_drewN | apply Kd.R_drew)); exact (Kd.R_mono (Kd.R_far (p := ⟨gb209, 3, none⟩) (Kd.R_far (p := ⟨gb209, 2, none⟩) (Kd.R_far (p := ⟨gb209, 1, none⟩) (Kd.R_far (p := ⟨gb209, 0, none⟩) (Kd.R_mono HO_3.out (fun k_ hk => (⟨hk, hk.2⟩ : _ ∧ k_ ≠ gb209))) (fun _ hk => hk.2) (.string ((rd_T28 l0 x8_1).f0))) (fun _ hk => hk.2) (.slice A208_1 ((rd_T28 l0 x8_1).f1).length c208_1)) (fun _ hk => hk.2) (.string ((rd_T28 l0 x8_1).f2))) (fun _ hk => hk.2) (.slice A208_3 ((rd_T28 l0 x8_1).f3).length c208_3)) (fun _ h_ => h_.1))) hb) (Kd.R_base ho0)) (Kd.R_base ho1)) (fun _ h_ => h_.1)); have n1_ := Aside0.mk (Kd.R_lower ho0 (below_size (by repeat (first | (with_reducible first | exact HB.out | apply below_alloc | apply pw_below_drewN | apply below_drew1 | refine below_set ?_ GE209.out) | exact HB.out)))); have n2_ := Aside0.mk (Kd.R_lower (Kd.R_newB (Kd.R_new' ho1 (Kd.R_lt (by (with_reducible repeat (first | apply Kd.R_alloc | apply Kd.R_drewN | apply Kd.R_drew)); exact (Kd.R_mono (Kd.R_far (p := ⟨gb209, 3, none⟩) (Kd.R_far (p := ⟨gb209, 2, none⟩) (Kd.R_far (p := ⟨gb209, 1, none⟩) (Kd.R_far (p := ⟨gb209, 0, none⟩) (Kd.R_mono HO_3.out (fun k_ hk => (⟨hk, hk.2⟩ : _ ∧ k_ ≠ gb209))) (fun _ hk => hk.2) (.string ((rd_T28 l0 x8_1).f0))) (fun _ hk => hk.2) (.slice A208_1 ((rd_T28 l0 x8_1).f1).length c208_1)) (fun _ hk => hk.2) (.string ((rd_T28 l0 x8_1).f2))) (fun _ hk => hk.2) (.slice A208_3 ((rd_T28 l0 x8_1).f3).length c208_3)) (fun _ h_ => h_.1))))) (g := gb209) (o := .cells #[.string ((rd_T28 l0 x8_1).f0), .slice A208_1 ((rd_T28 l0 x8_1).f1).length c208_1, .string ((rd_T28 l0 x8_1).f2), .slice A208_3 ((rd_T28 l0 x8_1).f3).length c208_3] 28 (0, 0)) (by (with_reducible repeat (first | refine blk_drewN ?_ _ | refine blk_drew ?_ | refine blk_alloc ?_ _)); refine blk_put (cs := #[.string ((rd_T28 l0 x8_1).f0), .slice A208_1 ((rd_T28 l0 x8_1).f1).length c208_1, .string ((rd_T28 l0 x8_1).f2), .slice none 0 0]) ?_ 3 _ rfl; (with_reducible repeat (first | refine blk_drewN ?_ _ | refine blk_drew ?_ | refine blk_alloc ?_ _)); refine blk_put (cs := #[.string ((rd_T28 l0 x8_1).f0), .slice A208_1 ((rd_T28 l0 x8_1).f1).length c208_1, .string (⟨#[]⟩ : ByteArray), .slice none 0 0]) ?_ 2 _ rfl; (with_reducible repeat (first | refine blk_drewN ?_ _ | refine blk_drew ?_ | refine blk_alloc ?_ _)); refine blk_put (cs := #[.string ((rd_T28 l0 x8_1).f0), .slice none 0 0, .string (⟨#[]⟩ : ByteArray), .slice none 0 0]) ?_ 1 _ rfl; (with_reducible repeat (first | refine blk_drewN ?_ _ | refine blk_drew ?_ | refine blk_alloc ?_ _)); refine blk_put (cs := #[.string (⟨#[]⟩ : ByteArray), .slice none 0 0, .string (⟨#[]⟩ : ByteArray), .slice none 0 0]) ?_ 0 _ rfl; (with_reducible repeat (first | refine blk_drewN ?_ _ | refine blk_drew ?_ | refine blk_alloc ?_ _)); exact BK209.out)) (below_size (by repeat (first | (with_reducible first | exact HB.out | apply below_alloc | apply pw_below_drewN | apply below_drew1 | refine below_set ?_ GE209.out) | exact HB.out)))); have n3_ := Aside0.mk (blk_below (g := gb209) (o := .cells #[.string ((rd_T28 l0 x8_1).f0), .slice A208_1 ((rd_T28 l0 x8_1).f1).length c208_1, .string ((rd_T28 l0 x8_1).f2), .slice A208_3 ((rd_T28 l0 x8_1).f3).length c208_3] 28 (0, 0)) (by (with_reducible repeat (first | refine blk_drewN ?_ _ | refine blk_drew ?_ | refine blk_alloc ?_ _)); refine blk_put (cs := #[.string ((rd_T28 l0 x8_1).f0), .slice A208_1 ((rd_T28 l0 x8_1).f1).length c208_1, .string ((rd_T28 l0 x8_1).f2), .slice none 0 0]) ?_ 3 _ rfl; (with_reducible repeat (first | refine blk_drewN ?_ _ | refine blk_drew ?_ | refine blk_alloc ?_ _)); refine blk_put (cs := #[.string ((rd_T28 l0 x8_1).f0), .slice A208_1 ((rd_T28 l0 x8_1).f1).length c208_1, .string (⟨#[]⟩ : ByteArray), .slice none 0 0]) ?_ 2 _ rfl; (with_reducible repeat (first | refine blk_drewN ?_ _ | refine blk_drew ?_ | refine blk_alloc ?_ _)); refine blk_put (cs := #[.string ((rd_T28 l0 x8_1).f0), .slice none 0 0, .string (⟨#[]⟩ : ByteArray), .slice none 0 0]) ?_ 1 _ rfl; (with_reducible repeat (first | refine blk_drewN ?_ _ | refine blk_drew ?_ | refine blk_alloc ?_ _)); refine blk_put (cs := #[.string (⟨#[]⟩ : ByteArray), .slice none 0 0, .string (⟨#[]⟩ : ByteArray), .slice none 0 0]) ?_ 0 _ rfl; (with_reducible repeat (first | refine blk_drewN ?_ _ | refine blk_drew ?_ | refine blk_alloc ?_ _)); exact BK209.out) hb); have n4_ := Aside0.mk (below_step (by repeat (first | (with_reducible first | exact HB.out | apply below_alloc | apply pw_below_drewN | apply below_drew1 | refine below_set ?_ GE209.out) | exact HB.out)) hb); clear HO_3; clear BK209; clear HB; have HO_3 := n0_; have HO213 := n1_; have HO217 := n2_; have BK209 := n3_; have HB := n4_; clear n0_ n1_ n2_ n3_ n4_; (try clear hb); (try clear hb2); (try clear hk); (try clear hi); (try clear ho0); (try clear ho1); obtain ⟨Ao11, co11, eo11⟩ := Kd.R_slice HO213.out; subst eo11; obtain ⟨Ao12, co12, eo12⟩ := Kd.R_slice HO217.out; subst eo12) | ((with_reducible refine gate_builtin (b := .append) (xs := #[.tmp 12, .tmp 15]) rfl ?_); at_builtin; refine Kd.R_append k28 (w0 := w) w.heap.size rfl (.tmp 12) (.tmp 15) 23 28 (.agg #[(.string ⟨#[]⟩), (.slice none 0 0), (.string ⟨#[]⟩), (.slice none 0 0)]) 80 rfl Try.underlying23 info28 rfl (by decide) (by omega) u3 x3_1 (⟨t210, t211, t214, t215⟩ : S28) [.string t210, .slice Ao11 t211.length co11, .string t214, .slice Ao12 t215.length co12] (fun k_ => k_ ≠ gb209) (fun k_ => ((fun k_ => k_ ≠ gb209)) k_ ∧ some k_ ≠ (u3 : Value).ownBlock) rfl rfl ?aP (fun _ hk => hk) ?aF ?aO ?aB ?aS ?aL ?_; (case aP => exact k28_mkM _ _ _ (⟨t210, t211, t214, t215⟩ : S28) (Kd.R_mono (Kd.R_types (Kd.R_apart' (HO213.out) (Kd.R_typed HO_3.out) (by decide)) BK209.out (by decide)) (fun k_ hk => ⟨hk.2, hk.1.2⟩)) (Kd.R_mono (HO217.out) (fun k_ hk => ⟨hk.2, hk.1.2⟩))); (case aB => exact (by repeat (first | (with_reducible first | exact HB.out | apply below_alloc | apply pw_below_drewN | apply below_drew1 | refine below_set ?_ GE209.out) | exact HB.out))); (case aF => exact (fun k_ hk => Kd.freshB (g := gb209) (o := .cells #[.string ((rd_T28 l0 x8_1).f0), .slice A208_1 ((rd_T28 l0 x8_1).f1).length c208_1, .string ((rd_T28 l0 x8_1).f2), .slice A208_3 ((rd_T28 l0 x8_1).f3).length c208_3] 28 (0, 0)) (by (with_reducible repeat (first | refine blk_drewN ?_ _ | refine blk_drew ?_ | refine blk_alloc ?_ _)); exact BK209.out) k_ hk)); (case aO => exact (by (with_reducible repeat (first | apply Kd.R_alloc | apply Kd.R_drewN | apply Kd.R_drew)); exact Kd.R_mono HO_3.out (fun _ hk => hk.1.1.2))); (case aS => exact (below_size (by repeat (first | (with_reducible first | exact HB.out | apply below_alloc | apply pw_below_drewN | apply below_drew1 | refine below_set ?_ GE209.out) | exact HB.out)))); (case aL => have := LMc6.out; omega); intro v219 w10 ho hb hg hat; rw [← Ny218.out] at ho; have n0_ := Aside0.mk (blk_grown (g := gb209) (o := .cells #[.string ((rd_T28 l0 x8_1).f0), .slice A208_1 ((rd_T28 l0 x8_1).f1).length c208_1, .string ((rd_T28 l0 x8_1).f2), .slice A208_3 ((rd_T28 l0 x8_1).f3).length c208_3] 28 (0, 0)) (by (with_reducible repeat (first | refine blk_drewN ?_ _ | refine blk_drew ?_ | refine blk_alloc ?_ _)); exact BK209.out) hg (Kd.R_away HO_3.out (fun _ hk => hk.1.1.2))); have n1_ := Aside0.mk (hb); have n2_ := Aside0.mk (ho); clear BK209; clear HB; clear HO_3; clear HO213; clear HO217; have BK209 := n0_; have HB := n1_; have HO220 := n2_; clear n0_ n1_ n2_; clear ho hb hg hat))
              go_roundg k1
              case measure => have := HK1.out; omega
              case rel => exact ⟨(y218), (wrap64 (x8_1 + 1)), (by first | rfl | (simp; done) | (simp [*]; done) | (simp [bne]; done)), H', ⟨by have := HK1.out; omega⟩, ⟨by (with_reducible repeat (first | apply Kd.R_alloc | apply Kd.R_drewN | apply Kd.R_drew)); exact Kd.R_mono HO220.out (fun _ hk => trivial)⟩, ⟨by repeat (first | (with_reducible first | exact HB.out | apply below_alloc | apply pw_below_drewN | apply below_drew1 | refine below_set ?_ GE209.out) | exact HB.out)⟩⟩
            · rw [if_neg c6] at H
              exact absurd H (by simp)
          · rw [if_neg c4] at H
            exact absurd H (by simp)
        · rw [if_neg c3] at H
          exact absurd H (by simp)
      · rw [if_neg c2] at H
        have c2b0 : decide (x8_1 < (l0.length : Int)) = false := decide_eq_false c2
        clear c2
        obtain rfl := Option.some.inj H
        go_wp2
        go_ret
        exact ⟨_, by first | rfl | (simp [errW_none, errW_some] <;> rfl) | (simp [*, errW_none, errW_some] <;> rfl), by (with_reducible repeat (first | apply Kd.R_alloc | apply Kd.R_drewN | apply Kd.R_drew)); exact HO_3.out, by repeat (first | (with_reducible first | exact HB.out | apply below_alloc | apply pw_below_drewN | apply below_drew1) | exact HB.out)⟩
set_option maxHeartbeats 8000000 in
set_option maxRecDepth 100000 in
theorem walk_Copy.calls_ (k : Nat) (ih_walk_copies : ∀ j, j < k → walk_copies.Holds j) (ih_walk_Copy : ∀ j, j < k → walk_Copy.Holds j) : walk_Copy.Holds k := by
  intro a0_0 A0_1 c0_1 l0_1 a0_2 A0_3 c0_3 l0_3 r1 r2 r3 r4 w hr0_1 hc0_1 hr0_3 hc0_3 h
  cases k with
  | zero => exact absurd h (by simp [walk_Copy.f])
  | succ k =>
  simp only [walk_Copy.f] at h
  have hu28 := Try.underlying28
  have HR0_1 := Aside0.mk hr0_1
  have HC0_1 := Aside0.mk hc0_1
  clear hr0_1 hc0_1
  have HR0_3 := Aside0.mk hr0_3
  have HC0_3 := Aside0.mk hc0_3
  clear hr0_3 hc0_3
  have HB := Aside0.mk (Below.refl w.heap.size w)
  have H : ((api_Attr.f l0_1).bind fun t223 => ((walk_copies.f k l0_3).bind fun t226 => (some (a0_0, t223, a0_2, t226)))) = some (r1, r2, r3, r4) := h
  clear h
  replace H := Option.bind_eq_some_iff.mp H
  obtain ⟨t223, A20, H⟩ := H
  replace H : ((walk_copies.f k l0_3).bind fun t226 => (some (a0_0, t223, a0_2, t226))) = some (r1, r2, r3, r4) := H
  have A2 := Aside0.mk A20
  clear A20
  replace H := Option.bind_eq_some_iff.mp H
  obtain ⟨t226, A30, H⟩ := H
  replace H : (some (a0_0, t223, a0_2, t226)) = some (r1, r2, r3, r4) := H
  have A3 := Aside0.mk A30
  clear A30
  simp only [Option.some.injEq, Prod.mk.injEq] at H
  obtain ⟨rfl, rfl, rfl, rfl⟩ := H
  go_enter Try.func30, Try.ntmps30
  go_wp2_with (first | ((with_reducible refine gate_dst (N := 1) rfl ?_); refine box_event ?hg (N := 1) ?hd (cs := #[.string a0_0, .slice A0_1 l0_1.length c0_1, .string a0_2, .slice A0_3 l0_3.length c0_3]) (t := 28) ?hr ?_; (case hd => rfl); (case hg => rfl); (case hr => first | (go_simp; done) | (go_simp; rfl)); intro gb221 hg w4 hbox hb; have n0_ := Aside0.mk (below_step (by repeat (first | (with_reducible first | exact HB.out | apply below_alloc | apply pw_below_drewN | apply below_drew1) | exact HB.out)) hb); have n1_ := Aside0.mk (hbox); have n2_ := Aside0.mk ((by rw [hg]; exact (below_size (by repeat (first | (with_reducible first | exact HB.out | apply below_alloc | apply pw_below_drewN | apply below_drew1) | exact HB.out))) : w.heap.size ≤ gb221)); have n3_ := Aside0.mk ((by rw [hg]; exact (below_size (by repeat (first | (with_reducible first | exact HB.out | apply below_alloc | apply pw_below_drewN | apply below_drew1) | exact HB.out))) : w.heap.size ≤ gb221)); clear HB; have HB := n0_; have BK221 := n1_; have GW221 := n2_; have GE221 := n3_; clear n0_ n1_ n2_ n3_; clear hb hbox hg) | ((with_reducible refine gate_dst (N := 2) rfl ?_); refine box_event ?hg (N := 2) ?hd (cs := #[.string (⟨#[]⟩ : ByteArray), .slice none 0 0, .string (⟨#[]⟩ : ByteArray), .slice none 0 0]) (t := 28) ?hr ?_; (case hd => rfl); (case hg => rfl); (case hr => first | (go_simp; done) | (go_simp; rfl)); intro gb222 hg w5 hbox hb; have n0_ := Aside0.mk (blk_below (g := gb221) (o := .cells #[.string a0_0, .slice A0_1 l0_1.length c0_1, .string a0_2, .slice A0_3 l0_3.length c0_3] 28 (0, 0)) (by (with_reducible repeat (first | refine blk_drewN ?_ _ | refine blk_drew ?_ | refine blk_alloc ?_ _)); exact BK221.out) hb); have n1_ := Aside0.mk (below_step (by repeat (first | (with_reducible first | exact HB.out | apply below_alloc | apply pw_below_drewN | apply below_drew1 | refine below_set ?_ GE221.out) | exact HB.out)) hb); have n2_ := Aside0.mk (hbox); have n3_ := Aside0.mk ((by rw [hg]; exact (below_size (by repeat (first | (with_reducible first | exact HB.out | apply below_alloc | apply pw_below_drewN | apply below_drew1 | refine below_set ?_ GE221.out) | exact HB.out))) : w.heap.size ≤ gb222)); have n4_ := Aside0.mk ((by rw [hg]; exact (below_size (by repeat (first | (with_reducible first | exact HB.out | apply below_alloc | apply pw_below_drewN | apply below_drew1 | refine below_set ?_ GE221.out) | exact HB.out))) : w.heap.size ≤ gb222)); have n5_ := Aside0.mk ((by rw [hg]; exact Nat.ne_of_lt (blk_lt (g := gb221) (o := .cells #[.string a0_0, .slice A0_1 l0_1.length c0_1, .string a0_2, .slice A0_3 l0_3.length c0_3] 28 (0, 0)) (by (with_reducible repeat (first | refine blk_drewN ?_ _ | refine blk_drew ?_ | refine blk_alloc ?_ _)); exact BK221.out)) : gb221 ≠ gb222)); have n6_ := Aside0.mk ((by rw [hg]; exact Nat.ne_of_gt (blk_lt (g := gb221) (o := .cells #[.string a0_0, .slice A0_1 l0_1.length c0_1, .string a0_2, .slice A0_3 l0_3.length c0_3] 28 (0, 0)) (by (with_reducible repeat (first | refine blk_drewN ?_ _ | refine blk_drew ?_ | refine blk_alloc ?_ _)); exact BK221.out)) : gb222 ≠ gb221)); clear BK221; clear HB; have BK221 := n0_; have HB := n1_; have BK222 := n2_; have GW222 := n3_; have GE222 := n4_; have NB221_222 := n5_; have NB222_221 := n6_; clear n0_ n1_ n2_ n3_ n4_ n5_ n6_; clear hb hbox hg; have hnb6 := NB221_222.out; have hnc6 := NB222_221.out; have hcz7_0 : w5.cell? ⟨gb221, 0, none⟩ = some (.string a0_0) := (blk_cell BK221.out 0).trans rfl; have hcz7_1 : w5.cell? ⟨gb221, 1, none⟩ = some (.slice A0_1 l0_1.length c0_1) := (blk_cell BK221.out 1).trans rfl; have hcz7_2 : w5.cell? ⟨gb221, 2, none⟩ = some (.string a0_2) := (blk_cell BK221.out 2).trans rfl; have hcz7_3 : w5.cell? ⟨gb221, 3, none⟩ = some (.slice A0_3 l0_3.length c0_3) := (blk_cell BK221.out 3).trans rfl; have hfz7_0 := blk_frozen BK221.out 0; have hfz7_1 := blk_frozen BK221.out 1; have hfz7_2 := blk_frozen BK221.out 2; have hfz7_3 := blk_frozen BK221.out 3) | ((with_reducible refine gate_callee (f := 34) rfl ?_); refine goesL_ (some 5) rfl rfl Try.func34 (by kernel_rfl) rfl #[.slice A0_1 l0_1.length c0_1] rfl (by (try simp only [List.map_toArray, List.map_cons, List.map_nil]); first | done | rfl | (simp only [List.length_drop, List.length_take]; rfl)) ?_; (with_reducible refine (api_Attr.calls _ _ l0_1 t223 _ ?side1 ?side2 A2.out).mono ?_); (case side1 => repeat (first | exact (Kd.C_below HR0_1.out HB.out) | (with_reducible refine Kd.C_alloc ?_ _) | (with_reducible refine Kd.C_drewN ?_ _) | (with_reducible refine Kd.C_drew ?_))); (case side2 => exact HC0_1.out); rintro e w8 ⟨v224, rfl, ho0, hb⟩; refine ⟨_, rfl, ?_⟩; have n0_ := Aside0.mk (Kd.R_lower ho0 (below_size (by repeat (first | (with_reducible first | exact HB.out | apply below_alloc | apply pw_below_drewN | apply below_drew1 | refine below_set ?_ GE221.out | refine below_set ?_ GE222.out) | exact HB.out)))); have n1_ := Aside0.mk (blk_below (g := gb221) (o := .cells #[.string a0_0, .slice A0_1 l0_1.length c0_1, .string a0_2, .slice A0_3 l0_3.length c0_3] 28 (0, 0)) (by (with_reducible repeat (first | refine blk_drewN ?_ _ | refine blk_drew ?_ | refine blk_alloc ?_ _)); exact BK221.out) hb); have n2_ := Aside0.mk (blk_below (g := gb222) (o := .cells #[.string (⟨#[]⟩ : ByteArray), .slice none 0 0, .string (⟨#[]⟩ : ByteArray), .slice none 0 0] 28 (0, 0)) (by (with_reducible repeat (first | refine blk_drewN ?_ _ | refine blk_drew ?_ | refine blk_alloc ?_ _)); exact BK222.out) hb); have n3_ := Aside0.mk (below_step (by repeat (first | (with_reducible first | exact HB.out | apply below_alloc | apply pw_below_drewN | apply below_drew1 | refine below_set ?_ GE221.out | refine below_set ?_ GE222.out) | exact HB.out)) hb); clear BK221; clear BK222; clear HB; have HO225 := n0_; have BK221 := n1_; have BK222 := n2_; have HB := n3_; clear n0_ n1_ n2_ n3_; (try clear hb); (try clear hb2); (try clear hk); (try clear hi); (try clear ho0); obtain ⟨Ao9, co9, eo9⟩ := Kd.R_slice HO225.out; subst eo9; have hcz10_0 : w8.cell? ⟨gb221, 0, none⟩ = some (.string a0_0) := (blk_cell BK221.out 0).trans rfl; have hcz10_1 : w8.cell? ⟨gb221, 1, none⟩ = some (.slice A0_1 l0_1.length c0_1) := (blk_cell BK221.out 1).trans rfl; have hcz10_2 : w8.cell? ⟨gb221, 2, none⟩ = some (.string a0_2) := (blk_cell BK221.out 2).trans rfl; have hcz10_3 : w8.cell? ⟨gb221, 3, none⟩ = some (.slice A0_3 l0_3.length c0_3) := (blk_cell BK221.out 3).trans rfl; have hfz10_0 := blk_frozen BK221.out 0; have hfz10_1 := blk_frozen BK221.out 1; have hfz10_2 := blk_frozen BK221.out 2; have hfz10_3 := blk_frozen BK221.out 3) | ((with_reducible refine gate_callee (f := 35) rfl ?_); refine goesL_ (some 9) rfl rfl Try.func35 (by kernel_rfl) rfl #[.slice A0_3 l0_3.length c0_3] rfl (by (try simp only [List.map_toArray, List.map_cons, List.map_nil]); first | done | rfl | (simp only [List.length_drop, List.length_take]; rfl)) ?_; (with_reducible refine (ih_walk_copies k (by omega) _ _ l0_3 t226 _ ?side1 ?side2 A3.out).mono ?_); (case side1 => exact Kd.C_below HR0_3.out (by repeat (first | (with_reducible first | exact HB.out | apply below_alloc | apply pw_below_drewN | apply below_drew1 | refine below_set ?_ GE221.out | refine below_set ?_ GE222.out) | exact HB.out))); (case side2 => exact HC0_3.out); rintro e w11 ⟨v227, rfl, ho0, hb⟩; refine ⟨_, rfl, ?_⟩; have n0_ := Aside0.mk (Kd.R_below (by (with_reducible repeat (first | apply Kd.R_alloc | apply Kd.R_drewN | apply Kd.R_drew)); exact (Kd.R_mono (Kd.R_far (p := ⟨gb221, 1, none⟩) (Kd.R_types HO225.out BK221.out (by decide)) (fun _ hk => hk.2) (.slice Ao9 t223.length co9)) (fun _ h_ => h_.1))) hb); have n1_ := Aside0.mk (Kd.R_lower (Kd.R_newB (Kd.R_newB (Kd.R_new' ho0 (Kd.R_lt (by (with_reducible repeat (first | apply Kd.R_alloc | apply Kd.R_drewN | apply Kd.R_drew)); exact (Kd.R_mono (Kd.R_far (p := ⟨gb221, 1, none⟩) (Kd.R_types HO225.out BK221.out (by decide)) (fun _ hk => hk.2) (.slice Ao9 t223.length co9)) (fun _ h_ => h_.1))))) (g := gb221) (o := .cells #[.string a0_0, .slice Ao9 t223.length co9, .string a0_2, .slice A0_3 l0_3.length c0_3] 28 (0, 0)) (by (with_reducible repeat (first | refine blk_drewN ?_ _ | refine blk_drew ?_ | refine blk_alloc ?_ _)); refine blk_put (cs := #[.string a0_0, .slice A0_1 l0_1.length c0_1, .string a0_2, .slice A0_3 l0_3.length c0_3]) ?_ 1 _ rfl; (with_reducible repeat (first | refine blk_drewN ?_ _ | refine blk_drew ?_ | refine blk_alloc ?_ _)); exact BK221.out)) (g := gb222) (o := .cells #[.string (⟨#[]⟩ : ByteArray), .slice none 0 0, .string (⟨#[]⟩ : ByteArray), .slice none 0 0] 28 (0, 0)) (by (with_reducible repeat (first | refine blk_drewN ?_ _ | refine blk_drew ?_ | refine blk_alloc ?_ _)); refine blk_far ?_ NB222_221.out _; (with_reducible repeat (first | refine blk_drewN ?_ _ | refine blk_drew ?_ | refine blk_alloc ?_ _)); exact BK222.out)) (below_size (by repeat (first | (with_reducible first | exact HB.out | apply below_alloc | apply pw_below_drewN | apply below_drew1 | refine below_set ?_ GE221.out | refine below_set ?_ GE222.out) | exact HB.out)))); have n2_ := Aside0.mk (blk_below (g := gb221) (o := .cells #[.string a0_0, .slice Ao9 t223.length co9, .string a0_2, .slice A0_3 l0_3.length c0_3] 28 (0, 0)) (by (with_reducible repeat (first | refine blk_drewN ?_ _ | refine blk_drew ?_ | refine blk_alloc ?_ _)); refine blk_put (cs := #[.string a0_0, .slice A0_1 l0_1.length c0_1, .string a0_2, .slice A0_3 l0_3.length c0_3]) ?_ 1 _ rfl; (with_reducible repeat (first | refine blk_drewN ?_ _ | refine blk_drew ?_ | refine blk_alloc ?_ _)); exact BK221.out) hb); have n3_ := Aside0.mk (blk_below (g := gb222) (o := .cells #[.string (⟨#[]⟩ : ByteArray), .slice none 0 0, .string (⟨#[]⟩ : ByteArray), .slice none 0 0] 28 (0, 0)) (by (with_reducible repeat (first | refine blk_drewN ?_ _ | refine blk_drew ?_ | refine blk_alloc ?_ _)); refine blk_far ?_ NB222_221.out _; (with_reducible repeat (first | refine blk_drewN ?_ _ | refine blk_drew ?_ | refine blk_alloc ?_ _)); exact BK222.out) hb); have n4_ := Aside0.mk (below_step (by repeat (first | (with_reducible first | exact HB.out | apply below_alloc | apply pw_below_drewN | apply below_drew1 | refine below_set ?_ GE221.out | refine below_set ?_ GE222.out) | exact HB.out)) hb); clear HO225; clear BK221; clear BK222; clear HB; have HO225 := n0_; have HO228 := n1_; have BK221 := n2_; have BK222 := n3_; have HB := n4_; clear n0_ n1_ n2_ n3_ n4_; (try clear hb); (try clear hb2); (try clear hk); (try clear hi); (try clear ho0); obtain ⟨Ao12, co12, eo12⟩ := Kd.R_slice HO228.out; subst eo12; have hcz13_0 : w11.cell? ⟨gb221, 0, none⟩ = some (.string a0_0) := (blk_cell BK221.out 0).trans rfl; have hcz13_1 : w11.cell? ⟨gb221, 1, none⟩ = some (.slice Ao9 t223.length co9) := (blk_cell BK221.out 1).trans rfl; have hcz13_2 : w11.cell? ⟨gb221, 2, none⟩ = some (.string a0_2) := (blk_cell BK221.out 2).trans rfl; have hcz13_3 : w11.cell? ⟨gb221, 3, none⟩ = some (.slice A0_3 l0_3.length c0_3) := (blk_cell BK221.out 3).trans rfl; have hfz13_0 := blk_frozen BK221.out 0; have hfz13_1 := blk_frozen BK221.out 1; have hfz13_2 := blk_frozen BK221.out 2; have hfz13_3 := blk_frozen BK221.out 3; have hcz14_0 : w11.cell? ⟨gb222, 0, none⟩ = some (.string (⟨#[]⟩ : ByteArray)) := (blk_cell BK222.out 0).trans rfl; have hcz14_1 : w11.cell? ⟨gb222, 1, none⟩ = some (.slice none 0 0) := (blk_cell BK222.out 1).trans rfl; have hcz14_2 : w11.cell? ⟨gb222, 2, none⟩ = some (.string (⟨#[]⟩ : ByteArray)) := (blk_cell BK222.out 2).trans rfl; have hcz14_3 : w11.cell? ⟨gb222, 3, none⟩ = some (.slice none 0 0) := (blk_cell BK222.out 3).trans rfl; have hfz14_0 := blk_frozen BK222.out 0; have hfz14_1 := blk_frozen BK222.out 1; have hfz14_2 := blk_frozen BK222.out 2; have hfz14_3 := blk_frozen BK222.out 3))
  refine bodyPost_ret (results_cell_row rfl _ _ gb222 28 #[.string a0_0, .slice Ao9 t223.length co9, .string a0_2, .slice Ao12 t226.length co12] (0, 0) _ rfl (by (with_reducible repeat (first | refine blk_drewN ?_ _ | refine blk_drew ?_ | refine blk_alloc ?_ _)); refine blk_put (cs := #[.string a0_0, .slice Ao9 t223.length co9, .string a0_2, .slice none 0 0]) ?_ 3 _ rfl; (with_reducible repeat (first | refine blk_drewN ?_ _ | refine blk_drew ?_ | refine blk_alloc ?_ _)); refine blk_put (cs := #[.string a0_0, .slice Ao9 t223.length co9, .string (⟨#[]⟩ : ByteArray), .slice none 0 0]) ?_ 2 _ rfl; (with_reducible repeat (first | refine blk_drewN ?_ _ | refine blk_drew ?_ | refine blk_alloc ?_ _)); refine blk_put (cs := #[.string a0_0, .slice none 0 0, .string (⟨#[]⟩ : ByteArray), .slice none 0 0]) ?_ 1 _ rfl; (with_reducible repeat (first | refine blk_drewN ?_ _ | refine blk_drew ?_ | refine blk_alloc ?_ _)); refine blk_put (cs := #[.string (⟨#[]⟩ : ByteArray), .slice none 0 0, .string (⟨#[]⟩ : ByteArray), .slice none 0 0]) ?_ 0 _ rfl; (with_reducible repeat (first | refine blk_drewN ?_ _ | refine blk_drew ?_ | refine blk_alloc ?_ _)); refine blk_far ?_ NB222_221.out _; (with_reducible repeat (first | refine blk_drewN ?_ _ | refine blk_drew ?_ | refine blk_alloc ?_ _)); exact BK222.out) Try.underlying28 rfl (by kernel_rfl)) rfl ?_
  exact ⟨.slice Ao9 t223.length co9, .slice Ao12 t226.length co12, by first | rfl | (simp [errW_none, errW_some] <;> rfl) | (simp [*, errW_none, errW_some] <;> rfl), by (with_reducible repeat (first | apply Kd.R_alloc | apply Kd.R_drewN | apply Kd.R_drew)); exact Kd.R_mono (Kd.R_far (p := ⟨gb222, 3, none⟩) (Kd.R_far (p := ⟨gb222, 2, none⟩) (Kd.R_far (p := ⟨gb222, 1, none⟩) (Kd.R_far (p := ⟨gb222, 0, none⟩) (Kd.R_far (p := ⟨gb221, 3, none⟩) (Kd.R_types (Kd.R_types HO225.out BK221.out (by decide)) BK222.out (by decide)) (fun _ hk => hk.1.2) (.slice Ao12 t226.length co12)) (fun _ hk => hk.2) (.string a0_0)) (fun _ hk => hk.2) (.slice Ao9 t223.length co9)) (fun _ hk => hk.2) (.string a0_2)) (fun _ hk => hk.2) (.slice Ao12 t226.length co12)) (fun _ hk => trivial), by (with_reducible repeat (first | apply Kd.R_alloc | apply Kd.R_drewN | apply Kd.R_drew)); exact Kd.R_mono (Kd.R_far (p := ⟨gb222, 3, none⟩) (Kd.R_far (p := ⟨gb222, 2, none⟩) (Kd.R_far (p := ⟨gb222, 1, none⟩) (Kd.R_far (p := ⟨gb222, 0, none⟩) (Kd.R_far (p := ⟨gb221, 3, none⟩) (Kd.R_mono (Kd.R_mono HO228.out (fun k_ hk => (⟨hk, hk.1.2⟩ : _ ∧ k_ ≠ gb221))) (fun k_ hk => (⟨hk, hk.1.2⟩ : _ ∧ k_ ≠ gb222))) (fun _ hk => hk.1.2) (.slice Ao12 t226.length co12)) (fun _ hk => hk.2) (.string a0_0)) (fun _ hk => hk.2) (.slice Ao9 t223.length co9)) (fun _ hk => hk.2) (.string a0_2)) (fun _ hk => hk.2) (.slice Ao12 t226.length co12)) (fun _ hk => hk.1.1.1.1.2), by repeat (first | (with_reducible first | exact HB.out | apply below_alloc | apply pw_below_drewN | apply below_drew1 | refine below_set ?_ GE221.out | refine below_set ?_ GE222.out) | exact HB.out)⟩
theorem walk_copies.group : ∀ k, walk_copies.Holds k ∧ walk_Copy.Holds k := by
  intro k
  induction k using Nat.strongRecOn with
  | _ k ih =>
  exact ⟨walk_copies.calls_ k (fun j hj => (ih j hj).1) (fun j hj => (ih j hj).2), walk_Copy.calls_ k (fun j hj => (ih j hj).1) (fun j hj => (ih j hj).2)⟩
theorem walk_Copy.calls (k : Nat) : walk_Copy.Holds k := (walk_copies.group k).2
end Go.Proofs.Ytaibikajpacemaa.X
end
section
namespace Go.Proofs.Ytaibikajpacemaa.X
open Go.RowKit Go.Proofs.YtaibikajpacemaaW.PrintWords Go.Proofs.YtaibikajpacemaaW.PrintLast Go.Proofs.YtaibikajpacemaaW.PrintMore
attribute [local go_sem] max2_int min2_int max_two min_two max_three min_three max_four min_four   -- for this text's walks alone
set_option linter.unusedVariables false
set_option linter.unusedSimpArgs false
mutual
def walk_At.j0 : Nat → List (S28) → List Int → Bool → Option (ByteArray × (List (S68)) × ByteArray × (List (S28)) × Int)
 | 0, _, _, _ => none
 | k + 1, x0, x1, x23 => if x23 = true then (some ((⟨#[]⟩ : ByteArray), ([] : List (S68)), (⟨#[]⟩ : ByteArray), ([] : List (S28)), 7)) else (if 0 < (x1.length : Int) then (if 0 ≤ (rd x1 0) then (if (rd x1 0) < (x0.length : Int) then (if (x1.length : Int) = 1 then ((walk_Copy.f k ((rd_T28 x0 (rd x1 0)).f0) ((rd_T28 x0 (rd x1 0)).f1) ((rd_T28 x0 (rd x1 0)).f2) ((rd_T28 x0 (rd x1 0)).f3)).bind fun bt235 => (some (bt235.1, bt235.2.1, bt235.2.2.1, bt235.2.2.2, 0))) else (if ((rd_T28 x0 (rd x1 0)).f0).toList = ([] : List UInt8) then (some ((⟨#[]⟩ : ByteArray), ([] : List (S68)), (⟨#[]⟩ : ByteArray), ([] : List (S28)), 7)) else (if 1 ≤ (x1.length : Int) then ((walk_At.f k ((rd_T28 x0 (rd x1 0)).f3) (x1.drop 1)).bind fun bt244 => (some (bt244.1, bt244.2.1, bt244.2.2.1, bt244.2.2.2.1, bt244.2.2.2.2))) else (none)))) else (none)) else (none)) else (none))
def walk_At.f : Nat → List (S28) → List Int → Option (ByteArray × (List (S68)) × ByteArray × (List (S28)) × Int)
 | 0, _, _ => none
 | k + 1, l0, l1 => if (l1.length : Int) = 0 then (walk_At.j0 k l0 l1 true) else (if 0 < (l1.length : Int) then (if (rd l1 0) < 0 then (walk_At.j0 k l0 l1 true) else (walk_At.j0 k l0 l1 (decide ((rd l1 0) ≥ (l0.length : Int))))) else (none))
end
def walk_At.T8 : Bool × List (List Nat × List Nat) := (true, [([], []), ([0], [0]), ([], []), ([2], [2]), ([1, 3], [1, 3]), ([4], [4]), ([4], [4]), ([5, 4, 0, 1, 2, 3, 4, 5, 6], [5]), ([6, 7, 0, 1, 2, 3, 4, 5, 6, 7], [6])])
def walk_At.B8 : List Nat := [0, 1, 0, 4, 15, 31, 31, 127, 255]
theorem walk_At.tab8 : rtab .any (opsOf Try.f17 8) = walk_At.T8 := by kernel_rfl
theorem walk_At.bits8 : waitsOk walk_At.T8.2 walk_At.B8 = true := by kernel_rfl
set_option maxHeartbeats 8000000 in
set_option maxRecDepth 100000 in
theorem walk_At.calls (k : Nat) : ∀ (A0 : Option Addr) (c0 : Nat) (l0 : List (S28)) (A1 : Option Addr) (c1 : Nat) (l1 : List Int) (r1 : ByteArray) (r2 : List (S68)) (r3 : ByteArray) (r4 : List (S28)) (r5 : Int) (w : World) (hr0 : Kd.C k28 w A0 l0.length l0) (hc0 : l0.length ≤ c0) (hr1 : Kd.C (Kd.int .i64) w A1 l1.length l1) (hc1 : l1.length ≤ c1) (h : walk_At.f k l0 l1 = some (r1, r2, r3, r4, r5)),
  Calls Try.prog 17 #[.slice A0 l0.length c0, .slice A1 l1.length c1] w fun e w' => ∃ v1_ v3_ : Value, e = .returned (.tuple #[.agg #[.string r1, v1_, .string r3, v3_], .int .i64 r5]) ∧ Kd.R k68 68 w' w.heap.size (fun _ => True) v1_ r2 ∧ Kd.R k28 28 w' w.heap.size (fun k_ => some k_ ≠ (v1_ : Value).ownBlock) v3_ r4 ∧ Below w.heap.size w w' := by
 induction k using Nat.strongRecOn with
 | _ k ih =>
 intro A0 c0 l0 A1 c1 l1 r1 r2 r3 r4 r5 w hr0 hc0 hr1 hc1 h
 cases k with
 | zero => exact absurd h (by simp [walk_At.f])
 | succ k =>
 simp only [walk_At.f] at h
 have hu28 := Try.underlying28
 have HR0 := Aside0.mk hr0
 have HC0 := Aside0.mk hc0
 clear hr0 hc0
 have HR1 := Aside0.mk hr1
 have HC1 := Aside0.mk hc1
 clear hr1 hc1
 have HB := Aside0.mk (Below.refl w.heap.size w)
 have H : (if (l1.length : Int) = 0 then (walk_At.j0 k l0 l1 true) else (if 0 < (l1.length : Int) then (if (rd l1 0) < 0 then (walk_At.j0 k l0 l1 true) else (walk_At.j0 k l0 l1 (decide ((rd l1 0) ≥ (l0.length : Int))))) else (none))) = some (r1, r2, r3, r4, r5) := h
 clear h
 have HC3 := Aside0.mk H
 clear H
 go_enter Try.func17, Try.ntmps17
 go_upto_region 1 with (first | ((with_reducible refine gate_dst (N := 4) rfl ?_); (try (refine gate_guard (by rfl) ?_; dsimp only)); refine box_event ?hg (N := 4) ?hd (cs := #[.string (⟨#[]⟩ : ByteArray), .slice none 0 0, .string (⟨#[]⟩ : ByteArray), .slice none 0 0]) (t := 28) ?hr ?_; (case hd => rfl); (case hg => rfl); (case hr => first | (go_simp; done) | (go_simp; rfl)); intro gb229 hg w4 hbox hb; have n0_ := Aside0.mk (below_step (by repeat (first | (with_reducible first | exact HB.out | apply below_alloc | apply pw_below_drewN | apply below_drew1) | exact HB.out)) hb); have n1_ := Aside0.mk (hbox); have n2_ := Aside0.mk ((by rw [hg]; exact (below_size (by repeat (first | (with_reducible first | exact HB.out | apply below_alloc | apply pw_below_drewN | apply below_drew1) | exact HB.out))) : w.heap.size ≤ gb229)); have n3_ := Aside0.mk ((by rw [hg]; exact (below_size (by repeat (first | (with_reducible first | exact HB.out | apply below_alloc | apply pw_below_drewN | apply below_drew1) | exact HB.out))) : w.heap.size ≤ gb229)); clear HB; have HB := n0_; have BK229 := n1_; have GW229 := n2_; have GE229 := n3_; clear n0_ n1_ n2_ n3_; clear hb hbox hg))
 (try simp only [Act.put, List.setIfInBounds_toArray, List.set_cons_zero, List.set_cons_succ])
 go_cut [23] (fun v23 wc => ∃ (kq : Nat) (x23_2 : Bool), v23 = .bool x23_2 ∧ Aside0 (walk_At.j0 kq l0 l1 x23_2 = some (r1, r2, r3, r4, r5)) ∧ Aside0 (kq ≤ k) ∧ Aside0 (wc.heap[gb229]? = some (.cells #[.string (⟨#[]⟩ : ByteArray), (.slice none 0 0), .string (⟨#[]⟩ : ByteArray), (.slice none 0 0)] 28 (0, 0))) ∧ Aside0 (Below w.heap.size w wc))
 case first =>
  have H := HC3.out
  clear HC3
  by_cases c5 : (l1.length : Int) = 0
  ·
   rw [if_pos c5] at H
   have c5b0 : ((l1.length : Int) == 0) = true := beq_iff_eq.mpr c5
   have c5b1 : ((l1.length : Int) != 0) = false := bne_eq_false_iff_eq.mpr c5
   clear c5
   (first | rw [c5b0] | (simp only [i64_w, i32_w]; rw [c5b0]) | rw [c5b1] | skip)
   have H' := Aside0.mk H
   clear H
   go_wp2
   go_meet
   case rel => exact ⟨_, (true), (by first | rfl | (simp; done) | (simp [*]; done) | (simp [bne]; done)), H', ⟨by first | omega | exact Nat.le_refl _⟩, ⟨by (with_reducible repeat (first | refine blk_drewN ?_ _ | refine blk_drew ?_ | refine blk_alloc ?_ _)); exact BK229.out⟩, ⟨by repeat (first | (with_reducible first | exact HB.out | apply below_alloc | apply pw_below_drewN | apply below_drew1 | refine below_set ?_ GE229.out) | exact HB.out)⟩⟩
  ·
   rw [if_neg c5] at H
   have c5b0 : ((l1.length : Int) == 0) = false := beq_eq_false_iff_ne.mpr c5
   have c5b1 : ((l1.length : Int) != 0) = true := bne_iff_ne.mpr c5
   have c5b2 : ¬ (l1 = []) := fun h_ => c5 (by rw [h_]; rfl)
   (first | rw [c5b0] | (simp only [i64_w, i32_w]; rw [c5b0]) | rw [c5b1] | skip)
   by_cases c6 : 0 < (l1.length : Int)
   ·
    rw [if_pos c6] at H
    have c6b0 : decide (0 < (l1.length : Int)) = true := decide_eq_true c6
    have c6b1 : decide (0 < l1.length) = true := decide_eq_true (by omega)
    clear c6
    by_cases c7 : (rd l1 0) < 0
    ·
     rw [if_pos c7] at H
     have c7b0 : decide ((rd l1 0) < 0) = true := decide_eq_true c7
     clear c7
     have H' := Aside0.mk H
     clear H
     have p230 : 0 ≤ (0 : Int) := (by omega)
     have q230 : 0 < (l1.length : Int) := of_decide_eq_true (by first | (with_reducible assumption) | assumption)
     obtain ⟨ad230, e230, hx230_0⟩ := Kd.at_int HR1.out 0 p230 q230
     cases e230
     have qi230 : (0 < l1.length) = True := eq_true (by omega)
     (try rw [show ((0 : Int)).toNat = 0 from rfl] at hx230_0)
     (try rw [Addr.add_zero'] at hx230_0)
     replace hx230_0 := (HB.out.cell (World.block_lt_of_cell? w _ hx230_0)).trans hx230_0
     replace p230 := eq_true p230
     replace q230 := eq_true q230
     go_wp2
     go_meet
     case rel => exact ⟨_, (true), (by first | rfl | (simp; done) | (simp [*]; done) | (simp [bne]; done)), H', ⟨by first | omega | exact Nat.le_refl _⟩, ⟨by (with_reducible repeat (first | refine blk_drewN ?_ _ | refine blk_drew ?_ | refine blk_alloc ?_ _)); exact BK229.out⟩, ⟨by repeat (first | (with_reducible first | exact HB.out | apply below_alloc | apply pw_below_drewN | apply below_drew1 | refine below_set ?_ GE229.out) | exact HB.out)⟩⟩
    ·
     rw [if_neg c7] at H
     have c7b0 : decide ((rd l1 0) < 0) = false := decide_eq_false c7
     clear c7
     have H' := Aside0.mk H
     clear H
     have p230 : 0 ≤ (0 : Int) := (by omega)
     have q230 : 0 < (l1.length : Int) := of_decide_eq_true (by first | (with_reducible assumption) | assumption)
     obtain ⟨ad230, e230, hx230_0⟩ := Kd.at_int HR1.out 0 p230 q230
     cases e230
     have qi230 : (0 < l1.length) = True := eq_true (by omega)
     (try rw [show ((0 : Int)).toNat = 0 from rfl] at hx230_0)
     (try rw [Addr.add_zero'] at hx230_0)
     replace hx230_0 := (HB.out.cell (World.block_lt_of_cell? w _ hx230_0)).trans hx230_0
     replace p230 := eq_true p230
     replace q230 := eq_true q230
     have p231 : 0 ≤ (0 : Int) := (by omega)
     have q231 : 0 < (l1.length : Int) := of_decide_eq_true (by first | (with_reducible assumption) | assumption)
     obtain ⟨ad231, e231, hx231_0⟩ := Kd.at_int HR1.out 0 p231 q231
     obtain rfl : ad230 = ad231 := (by injection e231)
     have qi231 : (0 < l1.length) = True := eq_true (by omega)
     (try rw [show ((0 : Int)).toNat = 0 from rfl] at hx231_0)
     (try rw [Addr.add_zero'] at hx231_0)
     replace hx231_0 := (HB.out.cell (World.block_lt_of_cell? w _ hx231_0)).trans hx231_0
     replace p231 := eq_true p231
     replace q231 := eq_true q231
     go_wp2
     go_meet
     case rel => exact ⟨_, (decide ((rd l1 0) ≥ (l0.length : Int))), (by first | rfl | (simp; done) | (simp [*]; done) | (simp [bne]; done)), H', ⟨by first | omega | exact Nat.le_refl _⟩, ⟨by (with_reducible repeat (first | refine blk_drewN ?_ _ | refine blk_drew ?_ | refine blk_alloc ?_ _)); exact BK229.out⟩, ⟨by repeat (first | (with_reducible first | exact HB.out | apply below_alloc | apply pw_below_drewN | apply below_drew1 | refine below_set ?_ GE229.out) | exact HB.out)⟩⟩
   ·
    rw [if_neg c6] at H
    exact absurd H (by simp)
 case rest =>
  clear HC3
  try clear c1
  try clear p2
  try clear q2
  try clear hx2
  try clear qi2
  try clear c5
  try clear c5b0
  try clear c5b1
  try clear c5b2
  try clear c6
  try clear c6b0
  try clear c6b1
  try clear c7
  try clear c7b0
  try clear hx230_0
  try clear hx231_0
  try clear p230
  try clear p231
  try clear q230
  try clear q231
  obtain ⟨kq, x23_2, rfl, HA, HJ2, BK229, HB⟩ := hcut
  cases kq with
  | zero => exact absurd HA.out (by simp [walk_At.j0])
  | succ kj2 =>
   have H := HA.out
   clear HA
   simp only [walk_At.j0] at H
   by_cases c8 : x23_2 = true
   ·
    subst c8
    have H1 : (some ((⟨#[]⟩ : ByteArray), ([] : List (S68)), (⟨#[]⟩ : ByteArray), ([] : List (S28)), 7)) = some (r1, r2, r3, r4, r5) := by rw [if_pos rfl] at H; exact H
    clear H
    have H := H1
    clear H1
    simp only [Option.some.injEq, Prod.mk.injEq] at H
    obtain ⟨rfl, rfl, rfl, rfl, rfl⟩ := H
    have hcz9_0 : wc.cell? ⟨gb229, 0, none⟩ = some (.string (⟨#[]⟩ : ByteArray)) := (blk_cell BK229.out 0).trans rfl
    have hcz9_1 : wc.cell? ⟨gb229, 1, none⟩ = some (.slice none 0 0) := (blk_cell BK229.out 1).trans rfl
    have hcz9_2 : wc.cell? ⟨gb229, 2, none⟩ = some (.string (⟨#[]⟩ : ByteArray)) := (blk_cell BK229.out 2).trans rfl
    have hcz9_3 : wc.cell? ⟨gb229, 3, none⟩ = some (.slice none 0 0) := (blk_cell BK229.out 3).trans rfl
    have hfz9_0 := blk_frozen BK229.out 0
    have hfz9_1 := blk_frozen BK229.out 1
    have hfz9_2 := blk_frozen BK229.out 2
    have hfz9_3 := blk_frozen BK229.out 3
    go_wp2
    refine bodyPost_ret (results_ct rfl _ _ gb229 28 #[.string (⟨#[]⟩ : ByteArray), .slice none 0 0, .string (⟨#[]⟩ : ByteArray), .slice none 0 0] (0, 0) _ rfl (by (with_reducible repeat (first | refine blk_drewN ?_ _ | refine blk_drew ?_ | refine blk_alloc ?_ _)); refine blk_put (cs := #[.string (⟨#[]⟩ : ByteArray), .slice none 0 0, .string (⟨#[]⟩ : ByteArray), .slice none 0 0]) ?_ 3 _ rfl; (with_reducible repeat (first | refine blk_drewN ?_ _ | refine blk_drew ?_ | refine blk_alloc ?_ _)); refine blk_put (cs := #[.string (⟨#[]⟩ : ByteArray), .slice none 0 0, .string (⟨#[]⟩ : ByteArray), .slice none 0 0]) ?_ 2 _ rfl; (with_reducible repeat (first | refine blk_drewN ?_ _ | refine blk_drew ?_ | refine blk_alloc ?_ _)); refine blk_put (cs := #[.string (⟨#[]⟩ : ByteArray), .slice none 0 0, .string (⟨#[]⟩ : ByteArray), .slice none 0 0]) ?_ 1 _ rfl; (with_reducible repeat (first | refine blk_drewN ?_ _ | refine blk_drew ?_ | refine blk_alloc ?_ _)); refine blk_put (cs := #[.string (⟨#[]⟩ : ByteArray), .slice none 0 0, .string (⟨#[]⟩ : ByteArray), .slice none 0 0]) ?_ 0 _ rfl; (with_reducible repeat (first | refine blk_drewN ?_ _ | refine blk_drew ?_ | refine blk_alloc ?_ _)); exact BK229.out) Try.underlying28 rfl (by kernel_rfl)) rfl ?_
    exact ⟨.slice none 0 0, .slice none 0 0, by first | rfl | (simp [errW_none, errW_some] <;> rfl) | (simp [*, errW_none, errW_some] <;> rfl), by first | exact Kd.R_nil _ _ _ _ _ | exact Kd.N_nil _ _ _ _ _ | exact Kd.V_nil _ _ _ _ _ | exact Kd.Q_nil _ _ _ _ _ | exact Kd.S_nil _ _ _ _ _, by first | exact Kd.R_nil _ _ _ _ _ | exact Kd.N_nil _ _ _ _ _ | exact Kd.V_nil _ _ _ _ _ | exact Kd.Q_nil _ _ _ _ _ | exact Kd.S_nil _ _ _ _ _, by repeat (first | (with_reducible first | exact HB.out | apply below_alloc | apply pw_below_drewN | apply below_drew1 | refine below_set ?_ GE229.out) | exact HB.out)⟩
   ·
    replace c8 := Bool.eq_false_iff.mpr c8
    subst c8
    have H1 : (if 0 < (l1.length : Int) then (if 0 ≤ (rd l1 0) then (if (rd l1 0) < (l0.length : Int) then (if (l1.length : Int) = 1 then ((walk_Copy.f kj2 ((rd_T28 l0 (rd l1 0)).f0) ((rd_T28 l0 (rd l1 0)).f1) ((rd_T28 l0 (rd l1 0)).f2) ((rd_T28 l0 (rd l1 0)).f3)).bind fun bt235 => (some (bt235.1, bt235.2.1, bt235.2.2.1, bt235.2.2.2, 0))) else (if ((rd_T28 l0 (rd l1 0)).f0).toList = ([] : List UInt8) then (some ((⟨#[]⟩ : ByteArray), ([] : List (S68)), (⟨#[]⟩ : ByteArray), ([] : List (S28)), 7)) else (if 1 ≤ (l1.length : Int) then ((walk_At.f kj2 ((rd_T28 l0 (rd l1 0)).f3) (l1.drop 1)).bind fun bt244 => (some (bt244.1, bt244.2.1, bt244.2.2.1, bt244.2.2.2.1, bt244.2.2.2.2))) else (none)))) else (none)) else (none)) else (none)) = some (r1, r2, r3, r4, r5) := by rw [if_neg (show ¬ (false = true) by decide)] at H; exact H
    clear H
    have H := H1
    clear H1
    by_cases c10 : 0 < (l1.length : Int)
    ·
     rw [if_pos c10] at H
     have c10b0 : decide (0 < (l1.length : Int)) = true := decide_eq_true c10
     have c10b1 : decide (0 < l1.length) = true := decide_eq_true (by omega)
     clear c10
     by_cases c11 : 0 ≤ (rd l1 0)
     ·
      rw [if_pos c11] at H
      have c11b0 : decide (0 ≤ (rd l1 0)) = true := decide_eq_true c11
      clear c11
      by_cases c12 : (rd l1 0) < (l0.length : Int)
      ·
       rw [if_pos c12] at H
       have c12b0 : decide ((rd l1 0) < (l0.length : Int)) = true := decide_eq_true c12
       clear c12
       by_cases c13 : (l1.length : Int) = 1
       ·
        rw [if_pos c13] at H
        have c13b0 : ((l1.length : Int) == 1) = true := beq_iff_eq.mpr c13
        have c13b1 : ((l1.length : Int) != 1) = false := bne_eq_false_iff_eq.mpr c13
        clear c13
        replace H := Option.bind_eq_some_iff.mp H
        obtain ⟨⟨t235, t236, t239, t240⟩, A140, H⟩ := H
        replace H : (some (t235, t236, t239, t240, 0)) = some (r1, r2, r3, r4, r5) := H
        have A14 := Aside0.mk A140
        clear A140
        simp only [Option.some.injEq, Prod.mk.injEq] at H
        obtain ⟨rfl, rfl, rfl, rfl, rfl⟩ := H
        have p232 : 0 ≤ (0 : Int) := (by omega)
        have q232 : 0 < (l1.length : Int) := of_decide_eq_true (by first | (with_reducible assumption) | assumption)
        obtain ⟨ad232, e232, hx232_0⟩ := Kd.at_int HR1.out 0 p232 q232
        cases e232
        have qi232 : (0 < l1.length) = True := eq_true (by omega)
        (try rw [show ((0 : Int)).toNat = 0 from rfl] at hx232_0)
        (try rw [Addr.add_zero'] at hx232_0)
        replace hx232_0 := (HB.out.cell (World.block_lt_of_cell? w _ hx232_0)).trans hx232_0
        replace p232 := eq_true p232
        replace q232 := eq_true q232
        have p233 : 0 ≤ ((rd l1 0) : Int) := of_decide_eq_true (by first | (with_reducible assumption) | assumption)
        have q233 : (rd l1 0) < (l0.length : Int) := of_decide_eq_true (by first | (with_reducible assumption) | assumption)
        obtain ⟨ad233, A233_1, c233_1, A233_3, c233_3, e233, hx233_0, hx233_1, hx233_2, hx233_3, hl233_1, hi233_1, hl233_3, hi233_3⟩ := at_T28 HR0.out (rd l1 0) p233 q233
        cases e233
        replace hx233_0 := (HB.out.cell (World.block_lt_of_cell? w _ hx233_0)).trans hx233_0
        replace hx233_1 := (HB.out.cell (World.block_lt_of_cell? w _ hx233_1)).trans hx233_1
        replace hx233_2 := (HB.out.cell (World.block_lt_of_cell? w _ hx233_2)).trans hx233_2
        replace hx233_3 := (HB.out.cell (World.block_lt_of_cell? w _ hx233_3)).trans hx233_3
        have HR233_1 := Aside0.mk hi233_1
        have HC233_1 := Aside0.mk hl233_1
        clear hi233_1 hl233_1
        have HR233_3 := Aside0.mk hi233_3
        have HC233_3 := Aside0.mk hl233_3
        clear hi233_3 hl233_3
        replace p233 := eq_true p233
        replace q233 := eq_true q233
        go_wp2_with (first | ((with_reducible refine gate_dst (N := 6) rfl ?_); (try (refine gate_guard (by rfl) ?_; dsimp only)); refine box_event ?hg (N := 6) ?hd (cs := #[.string (⟨#[]⟩ : ByteArray), .slice none 0 0, .string (⟨#[]⟩ : ByteArray), .slice none 0 0]) (t := 28) ?hr ?_; (case hd => rfl); (case hg => rfl); (case hr => first | (go_simp; done) | (go_simp; rfl)); intro gb234 hg w15 hbox hb; have n0_ := Aside0.mk (blk_below (g := gb229) (o := .cells #[.string (⟨#[]⟩ : ByteArray), .slice none 0 0, .string (⟨#[]⟩ : ByteArray), .slice none 0 0] 28 (0, 0)) (by (with_reducible repeat (first | refine blk_drewN ?_ _ | refine blk_drew ?_ | refine blk_alloc ?_ _)); exact BK229.out) hb); have n1_ := Aside0.mk (below_step (by repeat (first | (with_reducible first | exact HB.out | apply below_alloc | apply pw_below_drewN | apply below_drew1 | refine below_set ?_ GE229.out) | exact HB.out)) hb); have n2_ := Aside0.mk (hbox); have n3_ := Aside0.mk ((by rw [hg]; exact (below_size (by repeat (first | (with_reducible first | exact HB.out | apply below_alloc | apply pw_below_drewN | apply below_drew1 | refine below_set ?_ GE229.out) | exact HB.out))) : w.heap.size ≤ gb234)); have n4_ := Aside0.mk ((by rw [hg]; exact (below_size (by repeat (first | (with_reducible first | exact HB.out | apply below_alloc | apply pw_below_drewN | apply below_drew1 | refine below_set ?_ GE229.out) | exact HB.out))) : w.heap.size ≤ gb234)); have n5_ := Aside0.mk ((by rw [hg]; exact Nat.ne_of_lt (blk_lt (g := gb229) (o := .cells #[.string (⟨#[]⟩ : ByteArray), .slice none 0 0, .string (⟨#[]⟩ : ByteArray), .slice none 0 0] 28 (0, 0)) (by (with_reducible repeat (first | refine blk_drewN ?_ _ | refine blk_drew ?_ | refine blk_alloc ?_ _)); exact BK229.out)) : gb229 ≠ gb234)); have n6_ := Aside0.mk ((by rw [hg]; exact Nat.ne_of_gt (blk_lt (g := gb229) (o := .cells #[.string (⟨#[]⟩ : ByteArray), .slice none 0 0, .string (⟨#[]⟩ : ByteArray), .slice none 0 0] 28 (0, 0)) (by (with_reducible repeat (first | refine blk_drewN ?_ _ | refine blk_drew ?_ | refine blk_alloc ?_ _)); exact BK229.out)) : gb234 ≠ gb229)); clear BK229; clear HB; have BK229 := n0_; have HB := n1_; have BK234 := n2_; have GW234 := n3_; have GE234 := n4_; have NB229_234 := n5_; have NB234_229 := n6_; clear n0_ n1_ n2_ n3_ n4_ n5_ n6_; clear hb hbox hg; have hnb16 := NB234_229.out; have hnc16 := NB229_234.out; have hcz17_0 : w15.cell? ⟨gb234, 0, none⟩ = some (.string (⟨#[]⟩ : ByteArray)) := (blk_cell BK234.out 0).trans rfl; have hcz17_1 : w15.cell? ⟨gb234, 1, none⟩ = some (.slice none 0 0) := (blk_cell BK234.out 1).trans rfl; have hcz17_2 : w15.cell? ⟨gb234, 2, none⟩ = some (.string (⟨#[]⟩ : ByteArray)) := (blk_cell BK234.out 2).trans rfl; have hcz17_3 : w15.cell? ⟨gb234, 3, none⟩ = some (.slice none 0 0) := (blk_cell BK234.out 3).trans rfl; have hfz17_0 := blk_frozen BK234.out 0; have hfz17_1 := blk_frozen BK234.out 1; have hfz17_2 := blk_frozen BK234.out 2; have hfz17_3 := blk_frozen BK234.out 3) | ((with_reducible refine gate_callee (f := 30) rfl ?_); refine goesL_ (some 35) rfl rfl Try.func30 (by kernel_rfl) rfl #[.agg #[.string ((rd_T28 l0 (rd l1 0)).f0), .slice A233_1 ((rd_T28 l0 (rd l1 0)).f1).length c233_1, .string ((rd_T28 l0 (rd l1 0)).f2), .slice A233_3 ((rd_T28 l0 (rd l1 0)).f3).length c233_3]] rfl (by (try simp only [List.map_toArray, List.map_cons, List.map_nil]); first | done | rfl | (simp only [List.length_drop, List.length_take]; rfl)) ?_; (with_reducible refine (walk_Copy.calls kj2 ((rd_T28 l0 (rd l1 0)).f0) _ _ ((rd_T28 l0 (rd l1 0)).f1) ((rd_T28 l0 (rd l1 0)).f2) _ _ ((rd_T28 l0 (rd l1 0)).f3) t235 t236 t239 t240 _ ?side1 ?side2 ?side3 ?side4 A14.out).mono ?_); (case side1 => exact Kd.C_below HR233_1.out (by repeat (first | (with_reducible first | exact HB.out | apply below_alloc | apply pw_below_drewN | apply below_drew1 | refine below_set ?_ GE229.out | refine below_set ?_ GE234.out) | exact HB.out))); (case side2 => exact HC233_1.out); (case side3 => exact Kd.C_below HR233_3.out (by repeat (first | (with_reducible first | exact HB.out | apply below_alloc | apply pw_below_drewN | apply below_drew1 | refine below_set ?_ GE229.out | refine below_set ?_ GE234.out) | exact HB.out))); (case side4 => exact HC233_3.out); rintro e w18 ⟨v237, v241, rfl, ho0, ho1, hb⟩; refine ⟨_, rfl, ?_⟩; have n0_ := Aside0.mk (Kd.R_lower ho0 (below_size (by repeat (first | (with_reducible first | exact HB.out | apply below_alloc | apply pw_below_drewN | apply below_drew1 | refine below_set ?_ GE229.out | refine below_set ?_ GE234.out) | exact HB.out)))); have n1_ := Aside0.mk (Kd.R_lower (Kd.R_newB (Kd.R_newB ho1 (g := gb229) (o := .cells #[.string (⟨#[]⟩ : ByteArray), .slice none 0 0, .string (⟨#[]⟩ : ByteArray), .slice none 0 0] 28 (0, 0)) (by (with_reducible repeat (first | refine blk_drewN ?_ _ | refine blk_drew ?_ | refine blk_alloc ?_ _)); refine blk_far ?_ NB229_234.out _; (with_reducible repeat (first | refine blk_drewN ?_ _ | refine blk_drew ?_ | refine blk_alloc ?_ _)); refine blk_far ?_ NB229_234.out _; (with_reducible repeat (first | refine blk_drewN ?_ _ | refine blk_drew ?_ | refine blk_alloc ?_ _)); refine blk_far ?_ NB229_234.out _; (with_reducible repeat (first | refine blk_drewN ?_ _ | refine blk_drew ?_ | refine blk_alloc ?_ _)); refine blk_far ?_ NB229_234.out _; (with_reducible repeat (first | refine blk_drewN ?_ _ | refine blk_drew ?_ | refine blk_alloc ?_ _)); exact BK229.out)) (g := gb234) (o := .cells #[.string ((rd_T28 l0 (rd l1 0)).f0), .slice A233_1 ((rd_T28 l0 (rd l1 0)).f1).length c233_1, .string ((rd_T28 l0 (rd l1 0)).f2), .slice A233_3 ((rd_T28 l0 (rd l1 0)).f3).length c233_3] 28 (0, 0)) (by (with_reducible repeat (first | refine blk_drewN ?_ _ | refine blk_drew ?_ | refine blk_alloc ?_ _)); refine blk_put (cs := #[.string ((rd_T28 l0 (rd l1 0)).f0), .slice A233_1 ((rd_T28 l0 (rd l1 0)).f1).length c233_1, .string ((rd_T28 l0 (rd l1 0)).f2), .slice none 0 0]) ?_ 3 _ rfl; (with_reducible repeat (first | refine blk_drewN ?_ _ | refine blk_drew ?_ | refine blk_alloc ?_ _)); refine blk_put (cs := #[.string ((rd_T28 l0 (rd l1 0)).f0), .slice A233_1 ((rd_T28 l0 (rd l1 0)).f1).length c233_1, .string (⟨#[]⟩ : ByteArray), .slice none 0 0]) ?_ 2 _ rfl; (with_reducible repeat (first | refine blk_drewN ?_ _ | refine blk_drew ?_ | refine blk_alloc ?_ _)); refine blk_put (cs := #[.string ((rd_T28 l0 (rd l1 0)).f0), .slice none 0 0, .string (⟨#[]⟩ : ByteArray), .slice none 0 0]) ?_ 1 _ rfl; (with_reducible repeat (first | refine blk_drewN ?_ _ | refine blk_drew ?_ | refine blk_alloc ?_ _)); refine blk_put (cs := #[.string (⟨#[]⟩ : ByteArray), .slice none 0 0, .string (⟨#[]⟩ : ByteArray), .slice none 0 0]) ?_ 0 _ rfl; (with_reducible repeat (first | refine blk_drewN ?_ _ | refine blk_drew ?_ | refine blk_alloc ?_ _)); exact BK234.out)) (below_size (by repeat (first | (with_reducible first | exact HB.out | apply below_alloc | apply pw_below_drewN | apply below_drew1 | refine below_set ?_ GE229.out | refine below_set ?_ GE234.out) | exact HB.out)))); have n2_ := Aside0.mk (blk_below (g := gb229) (o := .cells #[.string (⟨#[]⟩ : ByteArray), .slice none 0 0, .string (⟨#[]⟩ : ByteArray), .slice none 0 0] 28 (0, 0)) (by (with_reducible repeat (first | refine blk_drewN ?_ _ | refine blk_drew ?_ | refine blk_alloc ?_ _)); refine blk_far ?_ NB229_234.out _; (with_reducible repeat (first | refine blk_drewN ?_ _ | refine blk_drew ?_ | refine blk_alloc ?_ _)); refine blk_far ?_ NB229_234.out _; (with_reducible repeat (first | refine blk_drewN ?_ _ | refine blk_drew ?_ | refine blk_alloc ?_ _)); refine blk_far ?_ NB229_234.out _; (with_reducible repeat (first | refine blk_drewN ?_ _ | refine blk_drew ?_ | refine blk_alloc ?_ _)); refine blk_far ?_ NB229_234.out _; (with_reducible repeat (first | refine blk_drewN ?_ _ | refine blk_drew ?_ | refine blk_alloc ?_ _)); exact BK229.out) hb); have n3_ := Aside0.mk (blk_below (g := gb234) (o := .cells #[.string ((rd_T28 l0 (rd l1 0)).f0), .slice A233_1 ((rd_T28 l0 (rd l1 0)).f1).length c233_1, .string ((rd_T28 l0 (rd l1 0)).f2), .slice A233_3 ((rd_T28 l0 (rd l1 0)).f3).length c233_3] 28 (0, 0)) (by (with_reducible repeat (first | refine blk_drewN ?_ _ | refine blk_drew ?_ | refine blk_alloc ?_ _)); refine blk_put (cs := #[.string ((rd_T28 l0 (rd l1 0)).f0), .slice A233_1 ((rd_T28 l0 (rd l1 0)).f1).length c233_1, .string ((rd_T28 l0 (rd l1 0)).f2), .slice none 0 0]) ?_ 3 _ rfl; (with_reducible repeat (first | refine blk_drewN ?_ _ | refine blk_drew ?_ | refine blk_alloc ?_ _)); refine blk_put (cs := #[.string ((rd_T28 l0 (rd l1 0)).f0), .slice A233_1 ((rd_T28 l0 (rd l1 0)).f1).length c233_1, .string (⟨#[]⟩ : ByteArray), .slice none 0 0]) ?_ 2 _ rfl; (with_reducible repeat (first | refine blk_drewN ?_ _ | refine blk_drew ?_ | refine blk_alloc ?_ _)); refine blk_put (cs := #[.string ((rd_T28 l0 (rd l1 0)).f0), .slice none 0 0, .string (⟨#[]⟩ : ByteArray), .slice none 0 0]) ?_ 1 _ rfl; (with_reducible repeat (first | refine blk_drewN ?_ _ | refine blk_drew ?_ | refine blk_alloc ?_ _)); refine blk_put (cs := #[.string (⟨#[]⟩ : ByteArray), .slice none 0 0, .string (⟨#[]⟩ : ByteArray), .slice none 0 0]) ?_ 0 _ rfl; (with_reducible repeat (first | refine blk_drewN ?_ _ | refine blk_drew ?_ | refine blk_alloc ?_ _)); exact BK234.out) hb); have n4_ := Aside0.mk (below_step (by repeat (first | (with_reducible first | exact HB.out | apply below_alloc | apply pw_below_drewN | apply below_drew1 | refine below_set ?_ GE229.out | refine below_set ?_ GE234.out) | exact HB.out)) hb); clear BK229; clear BK234; clear HB; have HO238 := n0_; have HO242 := n1_; have BK229 := n2_; have BK234 := n3_; have HB := n4_; clear n0_ n1_ n2_ n3_ n4_; (try clear hb); (try clear hb2); (try clear hk); (try clear hi); (try clear ho0); (try clear ho1); have hcz19_0 : w18.cell? ⟨gb229, 0, none⟩ = some (.string (⟨#[]⟩ : ByteArray)) := (blk_cell BK229.out 0).trans rfl; have hcz19_1 : w18.cell? ⟨gb229, 1, none⟩ = some (.slice none 0 0) := (blk_cell BK229.out 1).trans rfl; have hcz19_2 : w18.cell? ⟨gb229, 2, none⟩ = some (.string (⟨#[]⟩ : ByteArray)) := (blk_cell BK229.out 2).trans rfl; have hcz19_3 : w18.cell? ⟨gb229, 3, none⟩ = some (.slice none 0 0) := (blk_cell BK229.out 3).trans rfl; have hfz19_0 := blk_frozen BK229.out 0; have hfz19_1 := blk_frozen BK229.out 1; have hfz19_2 := blk_frozen BK229.out 2; have hfz19_3 := blk_frozen BK229.out 3; obtain ⟨Ao20, co20, eo20⟩ := Kd.R_slice HO238.out; subst eo20; obtain ⟨Ao21, co21, eo21⟩ := Kd.R_slice HO242.out; subst eo21))
        refine bodyPost_ret (results_ct rfl _ _ gb229 28 #[.string t235, .slice Ao20 t236.length co20, .string t239, .slice Ao21 t240.length co21] (0, 0) _ rfl (by (with_reducible repeat (first | refine blk_drewN ?_ _ | refine blk_drew ?_ | refine blk_alloc ?_ _)); refine blk_put (cs := #[.string t235, .slice Ao20 t236.length co20, .string t239, .slice none 0 0]) ?_ 3 _ rfl; (with_reducible repeat (first | refine blk_drewN ?_ _ | refine blk_drew ?_ | refine blk_alloc ?_ _)); refine blk_put (cs := #[.string t235, .slice Ao20 t236.length co20, .string (⟨#[]⟩ : ByteArray), .slice none 0 0]) ?_ 2 _ rfl; (with_reducible repeat (first | refine blk_drewN ?_ _ | refine blk_drew ?_ | refine blk_alloc ?_ _)); refine blk_put (cs := #[.string t235, .slice none 0 0, .string (⟨#[]⟩ : ByteArray), .slice none 0 0]) ?_ 1 _ rfl; (with_reducible repeat (first | refine blk_drewN ?_ _ | refine blk_drew ?_ | refine blk_alloc ?_ _)); refine blk_put (cs := #[.string (⟨#[]⟩ : ByteArray), .slice none 0 0, .string (⟨#[]⟩ : ByteArray), .slice none 0 0]) ?_ 0 _ rfl; (with_reducible repeat (first | refine blk_drewN ?_ _ | refine blk_drew ?_ | refine blk_alloc ?_ _)); exact BK229.out) Try.underlying28 rfl (by kernel_rfl)) rfl ?_
        exact ⟨.slice Ao20 t236.length co20, .slice Ao21 t240.length co21, by first | rfl | (simp [errW_none, errW_some] <;> rfl) | (simp [*, errW_none, errW_some] <;> rfl), by (with_reducible repeat (first | apply Kd.R_alloc | apply Kd.R_drewN | apply Kd.R_drew)); exact Kd.R_mono (Kd.R_far (p := ⟨gb229, 3, none⟩) (Kd.R_far (p := ⟨gb229, 2, none⟩) (Kd.R_far (p := ⟨gb229, 1, none⟩) (Kd.R_far (p := ⟨gb229, 0, none⟩) (Kd.R_types HO238.out BK229.out (by decide)) (fun _ hk => hk.2) (.string t235)) (fun _ hk => hk.2) (.slice Ao20 t236.length co20)) (fun _ hk => hk.2) (.string t239)) (fun _ hk => hk.2) (.slice Ao21 t240.length co21)) (fun _ hk => trivial), by (with_reducible repeat (first | apply Kd.R_alloc | apply Kd.R_drewN | apply Kd.R_drew)); exact Kd.R_mono (Kd.R_far (p := ⟨gb229, 3, none⟩) (Kd.R_far (p := ⟨gb229, 2, none⟩) (Kd.R_far (p := ⟨gb229, 1, none⟩) (Kd.R_far (p := ⟨gb229, 0, none⟩) (Kd.R_mono HO242.out (fun k_ hk => (⟨hk, hk.1.2⟩ : _ ∧ k_ ≠ gb229))) (fun _ hk => hk.2) (.string t235)) (fun _ hk => hk.2) (.slice Ao20 t236.length co20)) (fun _ hk => hk.2) (.string t239)) (fun _ hk => hk.2) (.slice Ao21 t240.length co21)) (fun _ hk => hk.1.1.1), by repeat (first | (with_reducible first | exact HB.out | apply below_alloc | apply pw_below_drewN | apply below_drew1 | refine below_set ?_ GE229.out | refine below_set ?_ GE234.out) | exact HB.out)⟩
       ·
        rw [if_neg c13] at H
        have c13b0 : ((l1.length : Int) == 1) = false := beq_eq_false_iff_ne.mpr c13
        have c13b1 : ((l1.length : Int) != 1) = true := bne_iff_ne.mpr c13
        by_cases c22 : ((rd_T28 l0 (rd l1 0)).f0).toList = ([] : List UInt8)
        ·
         rw [if_pos c22] at H
         have c22b0 : (((rd_T28 l0 (rd l1 0)).f0).toList == ([] : List UInt8)) = true := beq_iff_eq.mpr c22
         have c22b1 : (((rd_T28 l0 (rd l1 0)).f0).toList != ([] : List UInt8)) = false := bne_eq_false_iff_eq.mpr c22
         clear c22
         simp only [Option.some.injEq, Prod.mk.injEq] at H
         obtain ⟨rfl, rfl, rfl, rfl, rfl⟩ := H
         have p232 : 0 ≤ (0 : Int) := (by omega)
         have q232 : 0 < (l1.length : Int) := of_decide_eq_true (by first | (with_reducible assumption) | assumption)
         obtain ⟨ad232, e232, hx232_0⟩ := Kd.at_int HR1.out 0 p232 q232
         cases e232
         have qi232 : (0 < l1.length) = True := eq_true (by omega)
         (try rw [show ((0 : Int)).toNat = 0 from rfl] at hx232_0)
         (try rw [Addr.add_zero'] at hx232_0)
         replace hx232_0 := (HB.out.cell (World.block_lt_of_cell? w _ hx232_0)).trans hx232_0
         replace p232 := eq_true p232
         replace q232 := eq_true q232
         have p233 : 0 ≤ ((rd l1 0) : Int) := of_decide_eq_true (by first | (with_reducible assumption) | assumption)
         have q233 : (rd l1 0) < (l0.length : Int) := of_decide_eq_true (by first | (with_reducible assumption) | assumption)
         obtain ⟨ad233, A233_1, c233_1, A233_3, c233_3, e233, hx233_0, hx233_1, hx233_2, hx233_3, hl233_1, hi233_1, hl233_3, hi233_3⟩ := at_T28 HR0.out (rd l1 0) p233 q233
         cases e233
         replace hx233_0 := (HB.out.cell (World.block_lt_of_cell? w _ hx233_0)).trans hx233_0
         replace hx233_1 := (HB.out.cell (World.block_lt_of_cell? w _ hx233_1)).trans hx233_1
         replace hx233_2 := (HB.out.cell (World.block_lt_of_cell? w _ hx233_2)).trans hx233_2
         replace hx233_3 := (HB.out.cell (World.block_lt_of_cell? w _ hx233_3)).trans hx233_3
         have HR233_1 := Aside0.mk hi233_1
         have HC233_1 := Aside0.mk hl233_1
         clear hi233_1 hl233_1
         have HR233_3 := Aside0.mk hi233_3
         have HC233_3 := Aside0.mk hl233_3
         clear hi233_3 hl233_3
         replace p233 := eq_true p233
         replace q233 := eq_true q233
         go_wp2_with (first | ((with_reducible refine gate_dst (N := 6) rfl ?_); (try (refine gate_guard (by rfl) ?_; dsimp only)); refine box_event ?hg (N := 6) ?hd (cs := #[.string (⟨#[]⟩ : ByteArray), .slice none 0 0, .string (⟨#[]⟩ : ByteArray), .slice none 0 0]) (t := 28) ?hr ?_; (case hd => rfl); (case hg => rfl); (case hr => first | (go_simp; done) | (go_simp; rfl)); intro gb234 hg w23 hbox hb; have n0_ := Aside0.mk (blk_below (g := gb229) (o := .cells #[.string (⟨#[]⟩ : ByteArray), .slice none 0 0, .string (⟨#[]⟩ : ByteArray), .slice none 0 0] 28 (0, 0)) (by (with_reducible repeat (first | refine blk_drewN ?_ _ | refine blk_drew ?_ | refine blk_alloc ?_ _)); exact BK229.out) hb); have n1_ := Aside0.mk (below_step (by repeat (first | (with_reducible first | exact HB.out | apply below_alloc | apply pw_below_drewN | apply below_drew1 | refine below_set ?_ GE229.out) | exact HB.out)) hb); have n2_ := Aside0.mk (hbox); have n3_ := Aside0.mk ((by rw [hg]; exact (below_size (by repeat (first | (with_reducible first | exact HB.out | apply below_alloc | apply pw_below_drewN | apply below_drew1 | refine below_set ?_ GE229.out) | exact HB.out))) : w.heap.size ≤ gb234)); have n4_ := Aside0.mk ((by rw [hg]; exact (below_size (by repeat (first | (with_reducible first | exact HB.out | apply below_alloc | apply pw_below_drewN | apply below_drew1 | refine below_set ?_ GE229.out) | exact HB.out))) : w.heap.size ≤ gb234)); have n5_ := Aside0.mk ((by rw [hg]; exact Nat.ne_of_lt (blk_lt (g := gb229) (o := .cells #[.string (⟨#[]⟩ : ByteArray), .slice none 0 0, .string (⟨#[]⟩ : ByteArray), .slice none 0 0] 28 (0, 0)) (by (with_reducible repeat (first | refine blk_drewN ?_ _ | refine blk_drew ?_ | refine blk_alloc ?_ _)); exact BK229.out)) : gb229 ≠ gb234)); have n6_ := Aside0.mk ((by rw [hg]; exact Nat.ne_of_gt (blk_lt (g := gb229) (o := .cells #[.string (⟨#[]⟩ : ByteArray), .slice none 0 0, .string (⟨#[]⟩ : ByteArray), .slice none 0 0] 28 (0, 0)) (by (with_reducible repeat (first | refine blk_drewN ?_ _ | refine blk_drew ?_ | refine blk_alloc ?_ _)); exact BK229.out)) : gb234 ≠ gb229)); clear BK229; clear HB; have BK229 := n0_; have HB := n1_; have BK234 := n2_; have GW234 := n3_; have GE234 := n4_; have NB229_234 := n5_; have NB234_229 := n6_; clear n0_ n1_ n2_ n3_ n4_ n5_ n6_; clear hb hbox hg; have hnb24 := NB234_229.out; have hnc24 := NB229_234.out; have hcz25_0 : w23.cell? ⟨gb234, 0, none⟩ = some (.string (⟨#[]⟩ : ByteArray)) := (blk_cell BK234.out 0).trans rfl; have hcz25_1 : w23.cell? ⟨gb234, 1, none⟩ = some (.slice none 0 0) := (blk_cell BK234.out 1).trans rfl; have hcz25_2 : w23.cell? ⟨gb234, 2, none⟩ = some (.string (⟨#[]⟩ : ByteArray)) := (blk_cell BK234.out 2).trans rfl; have hcz25_3 : w23.cell? ⟨gb234, 3, none⟩ = some (.slice none 0 0) := (blk_cell BK234.out 3).trans rfl; have hfz25_0 := blk_frozen BK234.out 0; have hfz25_1 := blk_frozen BK234.out 1; have hfz25_2 := blk_frozen BK234.out 2; have hfz25_3 := blk_frozen BK234.out 3; have hcz26_0 : w23.cell? ⟨gb229, 0, none⟩ = some (.string (⟨#[]⟩ : ByteArray)) := (blk_cell BK229.out 0).trans rfl; have hcz26_1 : w23.cell? ⟨gb229, 1, none⟩ = some (.slice none 0 0) := (blk_cell BK229.out 1).trans rfl; have hcz26_2 : w23.cell? ⟨gb229, 2, none⟩ = some (.string (⟨#[]⟩ : ByteArray)) := (blk_cell BK229.out 2).trans rfl; have hcz26_3 : w23.cell? ⟨gb229, 3, none⟩ = some (.slice none 0 0) := (blk_cell BK229.out 3).trans rfl; have hfz26_0 := blk_frozen BK229.out 0; have hfz26_1 := blk_frozen BK229.out 1; have hfz26_2 := blk_frozen BK229.out 2; have hfz26_3 := blk_frozen BK229.out 3))
         refine bodyPost_ret (results_ct rfl _ _ gb229 28 #[.string (⟨#[]⟩ : ByteArray), .slice none 0 0, .string (⟨#[]⟩ : ByteArray), .slice none 0 0] (0, 0) _ rfl (by (with_reducible repeat (first | refine blk_drewN ?_ _ | refine blk_drew ?_ | refine blk_alloc ?_ _)); refine blk_put (cs := #[.string (⟨#[]⟩ : ByteArray), .slice none 0 0, .string (⟨#[]⟩ : ByteArray), .slice none 0 0]) ?_ 3 _ rfl; (with_reducible repeat (first | refine blk_drewN ?_ _ | refine blk_drew ?_ | refine blk_alloc ?_ _)); refine blk_put (cs := #[.string (⟨#[]⟩ : ByteArray), .slice none 0 0, .string (⟨#[]⟩ : ByteArray), .slice none 0 0]) ?_ 2 _ rfl; (with_reducible repeat (first | refine blk_drewN ?_ _ | refine blk_drew ?_ | refine blk_alloc ?_ _)); refine blk_put (cs := #[.string (⟨#[]⟩ : ByteArray), .slice none 0 0, .string (⟨#[]⟩ : ByteArray), .slice none 0 0]) ?_ 1 _ rfl; (with_reducible repeat (first | refine blk_drewN ?_ _ | refine blk_drew ?_ | refine blk_alloc ?_ _)); refine blk_put (cs := #[.string (⟨#[]⟩ : ByteArray), .slice none 0 0, .string (⟨#[]⟩ : ByteArray), .slice none 0 0]) ?_ 0 _ rfl; (with_reducible repeat (first | refine blk_drewN ?_ _ | refine blk_drew ?_ | refine blk_alloc ?_ _)); refine blk_far ?_ NB229_234.out _; (with_reducible repeat (first | refine blk_drewN ?_ _ | refine blk_drew ?_ | refine blk_alloc ?_ _)); refine blk_far ?_ NB229_234.out _; (with_reducible repeat (first | refine blk_drewN ?_ _ | refine blk_drew ?_ | refine blk_alloc ?_ _)); refine blk_far ?_ NB229_234.out _; (with_reducible repeat (first | refine blk_drewN ?_ _ | refine blk_drew ?_ | refine blk_alloc ?_ _)); refine blk_far ?_ NB229_234.out _; (with_reducible repeat (first | refine blk_drewN ?_ _ | refine blk_drew ?_ | refine blk_alloc ?_ _)); exact BK229.out) Try.underlying28 rfl (by kernel_rfl)) rfl ?_
         exact ⟨.slice none 0 0, .slice none 0 0, by first | rfl | (simp [errW_none, errW_some] <;> rfl) | (simp [*, errW_none, errW_some] <;> rfl), by first | exact Kd.R_nil _ _ _ _ _ | exact Kd.N_nil _ _ _ _ _ | exact Kd.V_nil _ _ _ _ _ | exact Kd.Q_nil _ _ _ _ _ | exact Kd.S_nil _ _ _ _ _, by first | exact Kd.R_nil _ _ _ _ _ | exact Kd.N_nil _ _ _ _ _ | exact Kd.V_nil _ _ _ _ _ | exact Kd.Q_nil _ _ _ _ _ | exact Kd.S_nil _ _ _ _ _, by repeat (first | (with_reducible first | exact HB.out | apply below_alloc | apply pw_below_drewN | apply below_drew1 | refine below_set ?_ GE229.out | refine below_set ?_ GE234.out) | exact HB.out)⟩
        ·
         rw [if_neg c22] at H
         have c22b0 : (((rd_T28 l0 (rd l1 0)).f0).toList == ([] : List UInt8)) = false := beq_eq_false_iff_ne.mpr c22
         have c22b1 : (((rd_T28 l0 (rd l1 0)).f0).toList != ([] : List UInt8)) = true := bne_iff_ne.mpr c22
         by_cases c27 : 1 ≤ (l1.length : Int)
         ·
          rw [if_pos c27] at H
          have c27b0 := eq_true c27
          have c27b1 : decide (1 ≤ (l1.length : Int)) = true := decide_eq_true c27
          clear c27
          replace H := Option.bind_eq_some_iff.mp H
          obtain ⟨⟨t244, t245, t248, t249, t252⟩, A280, H⟩ := H
          replace H : (some (t244, t245, t248, t249, t252)) = some (r1, r2, r3, r4, r5) := H
          have A28 := Aside0.mk A280
          clear A280
          simp only [Option.some.injEq, Prod.mk.injEq] at H
          obtain ⟨rfl, rfl, rfl, rfl, rfl⟩ := H
          have p232 : 0 ≤ (0 : Int) := (by omega)
          have q232 : 0 < (l1.length : Int) := of_decide_eq_true (by first | (with_reducible assumption) | assumption)
          obtain ⟨ad232, e232, hx232_0⟩ := Kd.at_int HR1.out 0 p232 q232
          cases e232
          have qi232 : (0 < l1.length) = True := eq_true (by omega)
          (try rw [show ((0 : Int)).toNat = 0 from rfl] at hx232_0)
          (try rw [Addr.add_zero'] at hx232_0)
          replace hx232_0 := (HB.out.cell (World.block_lt_of_cell? w _ hx232_0)).trans hx232_0
          replace p232 := eq_true p232
          replace q232 := eq_true q232
          have p233 : 0 ≤ ((rd l1 0) : Int) := of_decide_eq_true (by first | (with_reducible assumption) | assumption)
          have q233 : (rd l1 0) < (l0.length : Int) := of_decide_eq_true (by first | (with_reducible assumption) | assumption)
          obtain ⟨ad233, A233_1, c233_1, A233_3, c233_3, e233, hx233_0, hx233_1, hx233_2, hx233_3, hl233_1, hi233_1, hl233_3, hi233_3⟩ := at_T28 HR0.out (rd l1 0) p233 q233
          cases e233
          replace hx233_0 := (HB.out.cell (World.block_lt_of_cell? w _ hx233_0)).trans hx233_0
          replace hx233_1 := (HB.out.cell (World.block_lt_of_cell? w _ hx233_1)).trans hx233_1
          replace hx233_2 := (HB.out.cell (World.block_lt_of_cell? w _ hx233_2)).trans hx233_2
          replace hx233_3 := (HB.out.cell (World.block_lt_of_cell? w _ hx233_3)).trans hx233_3
          have HR233_1 := Aside0.mk hi233_1
          have HC233_1 := Aside0.mk hl233_1
          clear hi233_1 hl233_1
          have HR233_3 := Aside0.mk hi233_3
          have HC233_3 := Aside0.mk hl233_3
          clear hi233_3 hl233_3
          replace p233 := eq_true p233
          replace q233 := eq_true q233
          try go_wp2_with (first | ((with_reducible refine gate_dst (N := 6) rfl ?_); (try (refine gate_guard (by rfl) ?_; dsimp only)); refine box_event ?hg (N := 6) ?hd (cs := #[.string (⟨#[]⟩ : ByteArray), .slice none 0 0, .string (⟨#[]⟩ : ByteArray), .slice none 0 0]) (t := 28) ?hr ?_; (case hd => rfl); (case hg => rfl); (case hr => first | (go_simp; done) | (go_simp; rfl)); intro gb234 hg w29 hbox hb; have n0_ := Aside0.mk (blk_below (g := gb229) (o := .cells #[.string (⟨#[]⟩ : ByteArray), .slice none 0 0, .string (⟨#[]⟩ : ByteArray), .slice none 0 0] 28 (0, 0)) (by (with_reducible repeat (first | refine blk_drewN ?_ _ | refine blk_drew ?_ | refine blk_alloc ?_ _)); exact BK229.out) hb); have n1_ := Aside0.mk (below_step (by repeat (first | (with_reducible first | exact HB.out | apply below_alloc | apply pw_below_drewN | apply below_drew1 | refine below_set ?_ GE229.out) | exact HB.out)) hb); have n2_ := Aside0.mk (hbox); have n3_ := Aside0.mk ((by rw [hg]; exact (below_size (by repeat (first | (with_reducible first | exact HB.out | apply below_alloc | apply pw_below_drewN | apply below_drew1 | refine below_set ?_ GE229.out) | exact HB.out))) : w.heap.size ≤ gb234)); have n4_ := Aside0.mk ((by rw [hg]; exact (below_size (by repeat (first | (with_reducible first | exact HB.out | apply below_alloc | apply pw_below_drewN | apply below_drew1 | refine below_set ?_ GE229.out) | exact HB.out))) : w.heap.size ≤ gb234)); have n5_ := Aside0.mk ((by rw [hg]; exact Nat.ne_of_lt (blk_lt (g := gb229) (o := .cells #[.string (⟨#[]⟩ : ByteArray), .slice none 0 0, .string (⟨#[]⟩ : ByteArray), .slice none 0 0] 28 (0, 0)) (by (with_reducible repeat (first | refine blk_drewN ?_ _ | refine blk_drew ?_ | refine blk_alloc ?_ _)); exact BK229.out)) : gb229 ≠ gb234)); have n6_ := Aside0.mk ((by rw [hg]; exact Nat.ne_of_gt (blk_lt (g := gb229) (o := .cells #[.string (⟨#[]⟩ : ByteArray), .slice none 0 0, .string (⟨#[]⟩ : ByteArray), .slice none 0 0] 28 (0, 0)) (by (with_reducible repeat (first | refine blk_drewN ?_ _ | refine blk_drew ?_ | refine blk_alloc ?_ _)); exact BK229.out)) : gb234 ≠ gb229)); clear BK229; clear HB; have BK229 := n0_; have HB := n1_; have BK234 := n2_; have GW234 := n3_; have GE234 := n4_; have NB229_234 := n5_; have NB234_229 := n6_; clear n0_ n1_ n2_ n3_ n4_ n5_ n6_; clear hb hbox hg; have hnb30 := NB234_229.out; have hnc30 := NB229_234.out; have hcz31_0 : w29.cell? ⟨gb234, 0, none⟩ = some (.string (⟨#[]⟩ : ByteArray)) := (blk_cell BK234.out 0).trans rfl; have hcz31_1 : w29.cell? ⟨gb234, 1, none⟩ = some (.slice none 0 0) := (blk_cell BK234.out 1).trans rfl; have hcz31_2 : w29.cell? ⟨gb234, 2, none⟩ = some (.string (⟨#[]⟩ : ByteArray)) := (blk_cell BK234.out 2).trans rfl; have hcz31_3 : w29.cell? ⟨gb234, 3, none⟩ = some (.slice none 0 0) := (blk_cell BK234.out 3).trans rfl; have hfz31_0 := blk_frozen BK234.out 0; have hfz31_1 := blk_frozen BK234.out 1; have hfz31_2 := blk_frozen BK234.out 2; have hfz31_3 := blk_frozen BK234.out 3))
          have n0_ : Aside0 (((((w29.setCell ⟨gb234, 0, none⟩ (.string ((rd_T28 l0 (rd l1 0)).f0))).setCell ⟨gb234, 1, none⟩ (.slice A233_1 ((rd_T28 l0 (rd l1 0)).f1).length c233_1)).setCell ⟨gb234, 2, none⟩ (.string ((rd_T28 l0 (rd l1 0)).f2))).setCell ⟨gb234, 3, none⟩ (.slice A233_3 ((rd_T28 l0 (rd l1 0)).f3).length c233_3)).heap[gb229]? = some (.cells #[.string (⟨#[]⟩ : ByteArray), .slice none 0 0, .string (⟨#[]⟩ : ByteArray), .slice none 0 0] 28 (0, 0))) := ⟨by (with_reducible repeat (first | refine blk_drewN ?_ _ | refine blk_drew ?_ | refine blk_alloc ?_ _)); refine blk_far ?_ NB229_234.out _; (with_reducible repeat (first | refine blk_drewN ?_ _ | refine blk_drew ?_ | refine blk_alloc ?_ _)); refine blk_far ?_ NB229_234.out _; (with_reducible repeat (first | refine blk_drewN ?_ _ | refine blk_drew ?_ | refine blk_alloc ?_ _)); refine blk_far ?_ NB229_234.out _; (with_reducible repeat (first | refine blk_drewN ?_ _ | refine blk_drew ?_ | refine blk_alloc ?_ _)); refine blk_far ?_ NB229_234.out _; (with_reducible repeat (first | refine blk_drewN ?_ _ | refine blk_drew ?_ | refine blk_alloc ?_ _)); exact BK229.out⟩
          have n1_ : Aside0 (((((w29.setCell ⟨gb234, 0, none⟩ (.string ((rd_T28 l0 (rd l1 0)).f0))).setCell ⟨gb234, 1, none⟩ (.slice A233_1 ((rd_T28 l0 (rd l1 0)).f1).length c233_1)).setCell ⟨gb234, 2, none⟩ (.string ((rd_T28 l0 (rd l1 0)).f2))).setCell ⟨gb234, 3, none⟩ (.slice A233_3 ((rd_T28 l0 (rd l1 0)).f3).length c233_3)).heap[gb234]? = some (.cells #[.string ((rd_T28 l0 (rd l1 0)).f0), .slice A233_1 ((rd_T28 l0 (rd l1 0)).f1).length c233_1, .string ((rd_T28 l0 (rd l1 0)).f2), .slice A233_3 ((rd_T28 l0 (rd l1 0)).f3).length c233_3] 28 (0, 0))) := ⟨by (with_reducible repeat (first | refine blk_drewN ?_ _ | refine blk_drew ?_ | refine blk_alloc ?_ _)); refine blk_put (cs := #[.string ((rd_T28 l0 (rd l1 0)).f0), .slice A233_1 ((rd_T28 l0 (rd l1 0)).f1).length c233_1, .string ((rd_T28 l0 (rd l1 0)).f2), .slice none 0 0]) ?_ 3 _ rfl; (with_reducible repeat (first | refine blk_drewN ?_ _ | refine blk_drew ?_ | refine blk_alloc ?_ _)); refine blk_put (cs := #[.string ((rd_T28 l0 (rd l1 0)).f0), .slice A233_1 ((rd_T28 l0 (rd l1 0)).f1).length c233_1, .string (⟨#[]⟩ : ByteArray), .slice none 0 0]) ?_ 2 _ rfl; (with_reducible repeat (first | refine blk_drewN ?_ _ | refine blk_drew ?_ | refine blk_alloc ?_ _)); refine blk_put (cs := #[.string ((rd_T28 l0 (rd l1 0)).f0), .slice none 0 0, .string (⟨#[]⟩ : ByteArray), .slice none 0 0]) ?_ 1 _ rfl; (with_reducible repeat (first | refine blk_drewN ?_ _ | refine blk_drew ?_ | refine blk_alloc ?_ _)); refine blk_put (cs := #[.string (⟨#[]⟩ : ByteArray), .slice none 0 0, .string (⟨#[]⟩ : ByteArray), .slice none 0 0]) ?_ 0 _ rfl; (with_reducible repeat (first | refine blk_drewN ?_ _ | refine blk_drew ?_ | refine blk_alloc ?_ _)); exact BK234.out⟩
          have n2_ : Aside0 (Below w.heap.size w ((((w29.setCell ⟨gb234, 0, none⟩ (.string ((rd_T28 l0 (rd l1 0)).f0))).setCell ⟨gb234, 1, none⟩ (.slice A233_1 ((rd_T28 l0 (rd l1 0)).f1).length c233_1)).setCell ⟨gb234, 2, none⟩ (.string ((rd_T28 l0 (rd l1 0)).f2))).setCell ⟨gb234, 3, none⟩ (.slice A233_3 ((rd_T28 l0 (rd l1 0)).f3).length c233_3))) := ⟨by repeat (first | (with_reducible first | exact HB.out | apply below_alloc | apply pw_below_drewN | apply below_drew1 | refine below_set ?_ GE229.out | refine below_set ?_ GE234.out) | exact HB.out)⟩
          (try clear BK229)
          (try clear BK234)
          (try clear HB)
          generalize ((((w29.setCell ⟨gb234, 0, none⟩ (.string ((rd_T28 l0 (rd l1 0)).f0))).setCell ⟨gb234, 1, none⟩ (.slice A233_1 ((rd_T28 l0 (rd l1 0)).f1).length c233_1)).setCell ⟨gb234, 2, none⟩ (.string ((rd_T28 l0 (rd l1 0)).f2))).setCell ⟨gb234, 3, none⟩ (.slice A233_3 ((rd_T28 l0 (rd l1 0)).f3).length c233_3)) = w32 at n0_ n1_ n2_ ⊢
          have BK229 := n0_
          have BK234 := n1_
          have HB := n2_
          clear n0_ n1_ n2_
          have n0_ := Aside0.mk (blk_drew BK229.out)
          have n1_ := Aside0.mk (blk_drew BK234.out)
          have n2_ := Aside0.mk (below_drew1 HB.out)
          clear BK229
          clear BK234
          clear HB
          have BK229 := n0_
          have BK234 := n1_
          have HB := n2_
          clear n0_ n1_ n2_
          obtain ⟨i034, hi034, _, hsz34, _⟩ := info_parts info3
          obtain ⟨A34, hcut34, hA34, hC34⟩ := print_drop_of (P := Try.prog) (Value.int .i64) 0 22 3 .i64 Try.underlying22 hi034 hsz34 (some ad232) c1 l1 1 (by omega) (of_decide_eq_true (by first | (with_reducible assumption) | assumption)) HC1.out
          have HR243 := Aside0.mk (Kd.C_of_reads (h1 := fun _ => rfl) (hA34 _ (Kd.reads_of_C HR1.out)))
          have HC243 := Aside0.mk hC34
          clear hA34 hC34 hi034 hsz34
          refine start_ (n := 9) (S := fun w' => w'.cell? ⟨gb234, 0, none⟩ = some (.string ((rd_T28 l0 (rd l1 0)).f0)) ∧ w'.cell? ⟨gb234, 1, none⟩ = some (.slice A233_1 ((rd_T28 l0 (rd l1 0)).f1).length c233_1) ∧ w'.cell? ⟨gb234, 2, none⟩ = some (.string ((rd_T28 l0 (rd l1 0)).f2)) ∧ w'.cell? ⟨gb234, 3, none⟩ = some (.slice A233_3 ((rd_T28 l0 (rd l1 0)).f3).length c233_3)) (ds := []) #[false, false, false, false, false, false, false, false, false] (by kernel_rfl) rfl rfl ⟨(blk_cell BK234.out 0).trans rfl, (blk_cell BK234.out 1).trans rfl, (blk_cell BK234.out 2).trans rfl, (blk_cell BK234.out 3).trans rfl⟩ (fun hHeld => ?_); refine with_tabW walk_At.tab8 walk_At.bits8 (fun HT_ HW_ => ?_)
          generalize w32.drew = w33 at BK229 BK234 HB HR243 hHeld ⊢
          refine pure_ (i := 0) (N := some 40) (v := ?_) (a' := ?_) #[true, false, false, false, false, false, false, false, false] rfl rfl (any_of HT_.out (by kernel_rfl)) (fun _ _ _ h => h) (Or.inl ⟨by rfl, ?_⟩) ?_ ?_
          rotate_left
          ·
           intro w'
           go_simp
           with_reducible rfl
          rotate_left
          ·
           simp only [Act.put, List.setIfInBounds_toArray, List.set_cons_zero, List.set_cons_succ, i64_w, i32_w]
           rfl
          refine pure_ (i := 2) (N := some 42) (v := ?_) (a' := ?_) #[true, false, true, false, false, false, false, false, false] rfl rfl (any_of HT_.out (by kernel_rfl)) (fun _ _ _ h => h) (Or.inl ⟨by rfl, ?_⟩) ?_ ?_
          rotate_left
          ·
           intro w'
           go_simp
           with_reducible rfl
          rotate_left
          ·
           simp only [Act.put, List.setIfInBounds_toArray, List.set_cons_zero, List.set_cons_succ, i64_w, i32_w]
           rfl
          refine pure_ (i := 3) (N := some 43) (v := ?_) (a' := ?_) #[true, false, true, true, false, false, false, false, false] rfl rfl (any_of HT_.out (by kernel_rfl)) (fun _ _ _ h => h) (Or.inl ⟨by rfl, ?_⟩) ?_ ?_
          rotate_left
          ·
           intro w'
           go_simp
           with_reducible rfl
          rotate_left
          ·
           simp only [Act.put, List.setIfInBounds_toArray, List.set_cons_zero, List.set_cons_succ, i64_w, i32_w]
           rfl
          refine take_ (i := 1) (N := some 41) (v := ?_) (a' := ?_) #[true, true, true, true, false, false, false, false, false] rfl rfl (take_ofW HT_.out HW_.out (by kernel_rfl)) (fun _ _ _ h => h) (Or.inl ⟨by rfl, ?_⟩) hHeld ?_ ?_
          rotate_left
          ·
           rintro w' ⟨s0, s1, s2, s3⟩
           go_simp
           with_reducible rfl
          rotate_left
          ·
           simp only [Act.put, List.setIfInBounds_toArray, List.set_cons_zero, List.set_cons_succ, i64_w, i32_w]
           rfl
          refine one_ (i := 4) (N := some 44) #[true, true, true, true, true, false, false, false, false] rfl rfl (one_of HT_.out (by kernel_rfl)) (by decide) (fun K hK => ?_)
          refine goes_ Try.func17 (by kernel_rfl) rfl #[.slice A233_3 ((rd_T28 l0 (rd l1 0)).f3).length c233_3, .slice A34 (l1.drop 1).length (c1 - 1)] (by rfl) rfl rfl (by (try simp only [List.map_toArray, List.map_cons, List.map_nil]); first | done | (rw [show (l1.drop 1).length = (l1.length - 1) from List.length_drop] <;> rfl) | rfl | (simp only [List.length_drop, List.length_take]; rfl)) ?_
          with_reducible refine (ih kj2 (by have := HJ2.out; omega) _ _ ((rd_T28 l0 (rd l1 0)).f3) _ _ (l1.drop 1) t244 t245 t248 t249 t252 _ ?side1 ?side2 ?side3 ?side4 A28.out).mono ?_
          (case side1 => repeat (first | exact (Kd.C_below HR233_3.out HB.out) | (with_reducible refine Kd.C_alloc ?_ _) | (with_reducible refine Kd.C_drewN ?_ _) | (with_reducible refine Kd.C_drew ?_)))
          (case side2 => exact HC233_3.out)
          (case side3 => repeat (first | exact (Kd.C_below HR243.out HB.out) | (with_reducible refine Kd.C_alloc ?_ _) | (with_reducible refine Kd.C_drewN ?_ _) | (with_reducible refine Kd.C_drew ?_)))
          (case side4 => exact HC243.out)
          rintro e w35 ⟨v246, v250, rfl, ho0, ho1, hb⟩
          refine ⟨_, rfl, ?_⟩
          have n0_ := Aside0.mk (Kd.R_lower ho0 (below_size (by repeat (first | (with_reducible first | exact HB.out | apply below_alloc | apply pw_below_drewN | apply below_drew1 | refine below_set ?_ GE229.out | refine below_set ?_ GE234.out) | exact HB.out))))
          have n1_ := Aside0.mk (Kd.R_lower (Kd.R_newB (Kd.R_newB ho1 (g := gb229) (o := .cells #[.string (⟨#[]⟩ : ByteArray), .slice none 0 0, .string (⟨#[]⟩ : ByteArray), .slice none 0 0] 28 (0, 0)) (by (with_reducible repeat (first | refine blk_drewN ?_ _ | refine blk_drew ?_ | refine blk_alloc ?_ _)); exact BK229.out)) (g := gb234) (o := .cells #[.string ((rd_T28 l0 (rd l1 0)).f0), .slice A233_1 ((rd_T28 l0 (rd l1 0)).f1).length c233_1, .string ((rd_T28 l0 (rd l1 0)).f2), .slice A233_3 ((rd_T28 l0 (rd l1 0)).f3).length c233_3] 28 (0, 0)) (by (with_reducible repeat (first | refine blk_drewN ?_ _ | refine blk_drew ?_ | refine blk_alloc ?_ _)); exact BK234.out)) (below_size (by repeat (first | (with_reducible first | exact HB.out | apply below_alloc | apply pw_below_drewN | apply below_drew1 | refine below_set ?_ GE229.out | refine below_set ?_ GE234.out) | exact HB.out))))
          have n2_ := Aside0.mk (blk_below (g := gb229) (o := .cells #[.string (⟨#[]⟩ : ByteArray), .slice none 0 0, .string (⟨#[]⟩ : ByteArray), .slice none 0 0] 28 (0, 0)) (by (with_reducible repeat (first | refine blk_drewN ?_ _ | refine blk_drew ?_ | refine blk_alloc ?_ _)); exact BK229.out) hb)
          have n3_ := Aside0.mk (blk_below (g := gb234) (o := .cells #[.string ((rd_T28 l0 (rd l1 0)).f0), .slice A233_1 ((rd_T28 l0 (rd l1 0)).f1).length c233_1, .string ((rd_T28 l0 (rd l1 0)).f2), .slice A233_3 ((rd_T28 l0 (rd l1 0)).f3).length c233_3] 28 (0, 0)) (by (with_reducible repeat (first | refine blk_drewN ?_ _ | refine blk_drew ?_ | refine blk_alloc ?_ _)); exact BK234.out) hb)
          have n4_ := Aside0.mk (below_step (by repeat (first | (with_reducible first | exact HB.out | apply below_alloc | apply pw_below_drewN | apply below_drew1 | refine below_set ?_ GE229.out | refine below_set ?_ GE234.out) | exact HB.out)) hb)
          clear BK229
          clear BK234
          clear HB
          have HO247 := n0_
          have HO251 := n1_
          have BK229 := n2_
          have BK234 := n3_
          have HB := n4_
          clear n0_ n1_ n2_ n3_ n4_
          (try clear hb)
          (try clear hb2)
          (try clear hk)
          (try clear hi)
          (try clear ho0)
          (try clear ho1)
          obtain ⟨Ao37, co37, eo37⟩ := Kd.R_slice HO247.out
          (first | subst eo37 | (injection eo37 with f1_ f2_ f3_; have f4_ := f1_.symm; have f5_ := f3_.symm; clear f1_ f2_ f3_; subst f4_; subst f5_))
          obtain ⟨Ao40, co40, eo40⟩ := Kd.R_slice HO251.out
          (first | subst eo40 | (injection eo40 with f1_ f2_ f3_; have f4_ := f1_.symm; have f5_ := f3_.symm; clear f1_ f2_ f3_; subst f4_; subst f5_))
          refine hK.out _ _ ⟨(blk_cell BK234.out 0).trans rfl, (blk_cell BK234.out 1).trans rfl, (blk_cell BK234.out 2).trans rfl, (blk_cell BK234.out 3).trans rfl⟩ (fun hHeld => ?_)
          clear hK K
          refine norm_ (a' := ?_) ?_ ?_
          rotate_left
          ·
           show Act.put _ (some 44) _ = _
           simp only [Act.put, List.setIfInBounds_toArray, List.set_cons_zero, List.set_cons_succ, i64_w, i32_w]
           rfl
          refine pure_ (i := 5) (N := some 45) (v := ?_) (a' := ?_) #[true, true, true, true, true, true, false, false, false] rfl rfl (any_of HT_.out (by kernel_rfl)) (fun _ _ _ h => h) (Or.inl ⟨by rfl, ?_⟩) ?_ ?_
          rotate_left
          ·
           intro w'
           go_simp
           with_reducible rfl
          rotate_left
          ·
           simp only [Act.put, List.setIfInBounds_toArray, List.set_cons_zero, List.set_cons_succ, i64_w, i32_w]
           rfl
          refine pure_ (i := 6) (N := some 46) (v := ?_) (a' := ?_) #[true, true, true, true, true, true, true, false, false] rfl rfl (any_of HT_.out (by kernel_rfl)) (fun _ _ _ h => h) (Or.inl ⟨by rfl, ?_⟩) ?_ ?_
          rotate_left
          ·
           intro w'
           go_simp
           with_reducible rfl
          rotate_left
          ·
           simp only [Act.put, List.setIfInBounds_toArray, List.set_cons_zero, List.set_cons_succ, i64_w, i32_w]
           rfl
          refine one_ (i := 7) (N := none) #[true, true, true, true, true, true, true, true, false] rfl rfl (one_of HT_.out (by kernel_rfl)) (by decide) (fun K hK => ?_)
          have hs36 : w35.cell? ⟨gb229, 0, none⟩ = some (.string (⟨#[]⟩ : ByteArray)) := (blk_cell BK229.out 0).trans rfl
          have hfs36 := blk_frozen BK229.out 0
          have hns36_1 := NB234_229.out
          have hms36_1 := NB229_234.out
          have hs38 : w35.cell? ⟨gb229, 1, none⟩ = some (.slice none 0 0) := (blk_cell BK229.out 1).trans rfl
          have hfs38 := blk_frozen BK229.out 1
          have hns38_1 := NB234_229.out
          have hms38_1 := NB229_234.out
          have hs39 : w35.cell? ⟨gb229, 2, none⟩ = some (.string (⟨#[]⟩ : ByteArray)) := (blk_cell BK229.out 2).trans rfl
          have hfs39 := blk_frozen BK229.out 2
          have hns39_1 := NB234_229.out
          have hms39_1 := NB229_234.out
          have hs41 : w35.cell? ⟨gb229, 3, none⟩ = some (.slice none 0 0) := (blk_cell BK229.out 3).trans rfl
          have hfs41 := blk_frozen BK229.out 3
          have hns41_1 := NB234_229.out
          have hms41_1 := NB229_234.out
          refine skip_ (w1 := ?_) (by rfl) rfl ?_ ?_
          rotate_left
          ·
           go_simp
           rfl
          refine hK.out _ _ ⟨((cell_far (p := ⟨gb229, _, none⟩) NB234_229.out _).trans (((cell_far (p := ⟨gb229, _, none⟩) NB234_229.out _).trans (((cell_far (p := ⟨gb229, _, none⟩) NB234_229.out _).trans (((cell_far (p := ⟨gb229, _, none⟩) NB234_229.out _).trans (hHeld.1)))))))), ((cell_far (p := ⟨gb229, _, none⟩) NB234_229.out _).trans (((cell_far (p := ⟨gb229, _, none⟩) NB234_229.out _).trans (((cell_far (p := ⟨gb229, _, none⟩) NB234_229.out _).trans (((cell_far (p := ⟨gb229, _, none⟩) NB234_229.out _).trans (hHeld.2.1)))))))), ((cell_far (p := ⟨gb229, _, none⟩) NB234_229.out _).trans (((cell_far (p := ⟨gb229, _, none⟩) NB234_229.out _).trans (((cell_far (p := ⟨gb229, _, none⟩) NB234_229.out _).trans (((cell_far (p := ⟨gb229, _, none⟩) NB234_229.out _).trans (hHeld.2.2.1)))))))), ((cell_far (p := ⟨gb229, _, none⟩) NB234_229.out _).trans (((cell_far (p := ⟨gb229, _, none⟩) NB234_229.out _).trans (((cell_far (p := ⟨gb229, _, none⟩) NB234_229.out _).trans (((cell_far (p := ⟨gb229, _, none⟩) NB234_229.out _).trans (hHeld.2.2.2))))))))⟩ (fun hHeld => ?_)
          clear hK K
          refine pure_ (i := 8) (N := some 5) (v := ?_) (a' := ?_) #[true, true, true, true, true, true, true, true, true] rfl rfl (any_of HT_.out (by kernel_rfl)) (fun _ _ _ h => h) (Or.inl ⟨by rfl, ?_⟩) ?_ ?_
          rotate_left
          ·
           intro w'
           go_simp
           with_reducible rfl
          rotate_left
          ·
           simp only [Act.put, List.setIfInBounds_toArray, List.set_cons_zero, List.set_cons_succ, i64_w, i32_w]
           rfl
          refine done_ (done_of HT_.out (by kernel_rfl)) ?_
          try go_wp2
          refine bodyPost_ret (results_ct rfl _ _ gb229 28 #[.string t244, .slice Ao37 t245.length co37, .string t248, .slice Ao40 t249.length co40] (0, 0) _ rfl (by (with_reducible repeat (first | refine blk_drewN ?_ _ | refine blk_drew ?_ | refine blk_alloc ?_ _)); refine blk_put (cs := #[.string t244, .slice Ao37 t245.length co37, .string t248, .slice none 0 0]) ?_ 3 _ rfl; (with_reducible repeat (first | refine blk_drewN ?_ _ | refine blk_drew ?_ | refine blk_alloc ?_ _)); refine blk_put (cs := #[.string t244, .slice Ao37 t245.length co37, .string (⟨#[]⟩ : ByteArray), .slice none 0 0]) ?_ 2 _ rfl; (with_reducible repeat (first | refine blk_drewN ?_ _ | refine blk_drew ?_ | refine blk_alloc ?_ _)); refine blk_put (cs := #[.string t244, .slice none 0 0, .string (⟨#[]⟩ : ByteArray), .slice none 0 0]) ?_ 1 _ rfl; (with_reducible repeat (first | refine blk_drewN ?_ _ | refine blk_drew ?_ | refine blk_alloc ?_ _)); refine blk_put (cs := #[.string (⟨#[]⟩ : ByteArray), .slice none 0 0, .string (⟨#[]⟩ : ByteArray), .slice none 0 0]) ?_ 0 _ rfl; (with_reducible repeat (first | refine blk_drewN ?_ _ | refine blk_drew ?_ | refine blk_alloc ?_ _)); exact BK229.out) Try.underlying28 rfl (by kernel_rfl)) rfl ?_
          exact ⟨.slice Ao37 t245.length co37, .slice Ao40 t249.length co40, by first | rfl | (simp [errW_none, errW_some] <;> rfl) | (simp [*, errW_none, errW_some] <;> rfl), by (with_reducible repeat (first | apply Kd.R_alloc | apply Kd.R_drewN | apply Kd.R_drew)); exact Kd.R_mono (Kd.R_far (p := ⟨gb229, 3, none⟩) (Kd.R_far (p := ⟨gb229, 2, none⟩) (Kd.R_far (p := ⟨gb229, 1, none⟩) (Kd.R_far (p := ⟨gb229, 0, none⟩) (Kd.R_types HO247.out BK229.out (by decide)) (fun _ hk => hk.2) (.string t244)) (fun _ hk => hk.2) (.slice Ao37 t245.length co37)) (fun _ hk => hk.2) (.string t248)) (fun _ hk => hk.2) (.slice Ao40 t249.length co40)) (fun _ hk => trivial), by (with_reducible repeat (first | apply Kd.R_alloc | apply Kd.R_drewN | apply Kd.R_drew)); exact Kd.R_mono (Kd.R_far (p := ⟨gb229, 3, none⟩) (Kd.R_far (p := ⟨gb229, 2, none⟩) (Kd.R_far (p := ⟨gb229, 1, none⟩) (Kd.R_far (p := ⟨gb229, 0, none⟩) (Kd.R_mono HO251.out (fun k_ hk => (⟨hk, hk.1.2⟩ : _ ∧ k_ ≠ gb229))) (fun _ hk => hk.2) (.string t244)) (fun _ hk => hk.2) (.slice Ao37 t245.length co37)) (fun _ hk => hk.2) (.string t248)) (fun _ hk => hk.2) (.slice Ao40 t249.length co40)) (fun _ hk => hk.1.1.1), by repeat (first | (with_reducible first | exact HB.out | apply below_alloc | apply pw_below_drewN | apply below_drew1 | refine below_set ?_ GE229.out | refine below_set ?_ GE234.out) | exact HB.out)⟩
         ·
          rw [if_neg c27] at H
          exact absurd H (by simp)
      ·
       rw [if_neg c12] at H
       exact absurd H (by simp)
     ·
      rw [if_neg c11] at H
      exact absurd H (by simp)
    ·
     rw [if_neg c10] at H
     exact absurd H (by simp)
end Go.Proofs.Ytaibikajpacemaa.X
end
section
namespace Go.Proofs.Ytaibikajpacemaa.X
open Go.RowKit Go.Proofs.YtaibikajpacemaaW.PrintWords Go.Proofs.YtaibikajpacemaaW.PrintLast Go.Proofs.YtaibikajpacemaaW.PrintMore
attribute [local go_sem] max2_int min2_int max_two min_two max_three min_three max_four min_four   -- for this text's walks alone
set_option linter.unusedVariables false
set_option linter.unusedSimpArgs false
def bobbinetkeep_sameNodes.eq : List S28 → List S28 → Bool
  | [], [] => true
  | n :: l, m :: l2 => decide (n.f0 = m.f0) && decide (n.f2 = m.f2) && decide (n.f1.map (fun a => (a.f0, a.f1)) = m.f1.map (fun a => (a.f0, a.f1))) && bobbinetkeep_sameNodes.eq n.f3 m.f3 && bobbinetkeep_sameNodes.eq l l2
  | _, _ => false
termination_by l => SizeOf.sizeOf l
decreasing_by all_goals (cases n; simp; omega)
theorem bobbinetkeep_sameNodes.ind {P : List S28 → Prop} (h0 : P []) (h1 : ∀ n l, P n.f3 → P l → P (n :: l)) : ∀ l, P l
  | [] => h0
  | n :: l => h1 n l (bobbinetkeep_sameNodes.ind h0 h1 n.f3) (bobbinetkeep_sameNodes.ind h0 h1 l)
termination_by l => SizeOf.sizeOf l
decreasing_by all_goals (cases n; simp; omega)
theorem bobbinetkeep_sameNodes.ind2 {P : List S28 → Prop} (h : ∀ l, (∀ n ∈ l, P n.f3) → P l) (l : List S28) : P l := by
  have : ∀ n ∈ l, P n.f3 := by
    induction l using bobbinetkeep_sameNodes.ind with
    | h0 => simp
    | h1 n l ih1 ih2 =>
      intro m hm
      rcases List.mem_cons.1 hm with rfl | hm
      · exact h _ ih1
      · exact ih2 m hm
  exact h l this
theorem bobbinetkeep_sameNodes.attrs : ∀ a b : List S68, a.map (fun a => (a.f0, a.f1)) = b.map (fun a => (a.f0, a.f1)) → a = b
  | [], [], _ => rfl
  | [], _ :: _, h => by simp at h
  | _ :: _, [], h => by simp at h
  | ⟨x0, x1⟩ :: a, ⟨y0, y1⟩ :: b, h => by
    simp only [List.map_cons, List.cons.injEq, Prod.mk.injEq] at h
    obtain ⟨⟨rfl, rfl⟩, h⟩ := h
    rw [bobbinetkeep_sameNodes.attrs a b h]
theorem bobbinetkeep_sameNodes.eq_iff (l : List S28) : ∀ l2, bobbinetkeep_sameNodes.eq l l2 = true ↔ l = l2 := by
  induction l using bobbinetkeep_sameNodes.ind with
  | h0 =>
    intro l2
    cases l2 with
    | nil => simp [bobbinetkeep_sameNodes.eq]
    | cons m l2 => simp [bobbinetkeep_sameNodes.eq]
  | h1 n l ih1 ih2 =>
    intro l2
    cases l2 with
    | nil => simp [bobbinetkeep_sameNodes.eq]
    | cons m l2 =>
      rw [bobbinetkeep_sameNodes.eq]
      simp only [Bool.and_eq_true, decide_eq_true_eq, ih1, ih2]
      obtain ⟨n0, n1, n2, n3⟩ := n
      obtain ⟨m0, m1, m2, m3⟩ := m
      constructor
      · rintro ⟨⟨⟨⟨h1, h2⟩, h3⟩, h4⟩, h5⟩
        simp only at h1 h2 h3 h4
        rw [h1, h2, bobbinetkeep_sameNodes.attrs _ _ h3, h4, h5]
      · intro h
        simp only [List.cons.injEq, S28.mk.injEq] at h
        obtain ⟨⟨rfl, rfl, rfl, rfl⟩, rfl⟩ := h
        exact ⟨⟨⟨⟨rfl, rfl⟩, rfl⟩, rfl⟩, rfl⟩
def bobbinetkeep_sameNodes.f (l0 l1 : List S28) : Option Bool := if bobbinetkeep_sameNodes.eq l0 l1 = true then some true else none
theorem bobbinetkeep_sameNodes.f_refl (l : List S28) : bobbinetkeep_sameNodes.f l l = some true := if_pos ((bobbinetkeep_sameNodes.eq_iff l l).2 rfl)
theorem bobbinetkeep_sameNodes.eqA (d : Nat) (w : World) (x0 x1 : ByteArray) :
    (Op.equalIn (d + 2) 68 (.agg #[.string x0, .string x1]) (.agg #[.string x0, .string x1])).run Try.prog w = .ok true w := by
  have h : (Op.equalIn (d + 2) 68 (.agg #[.string x0, .string x1]) (.agg #[.string x0, .string x1])).run Try.prog w = .ok (x0.toList == x0.toList && (x1.toList == x1.toList)) w := by
    refine eqA_of Try.underlying68 (by kernel_rfl) ?_
    refine eqf_cons (by rfl) (by go_simp; rfl) (by go_simp; rfl) (by go_simp) ?_
    exact eqf_last (by rfl) (by go_simp; rfl) (by go_simp; rfl) (by go_simp)
  simpa using h
attribute [local go_sem high] bobbinetkeep_sameNodes.eqA
def bobbinetkeep_sameNodes.W (l : List S28) : Prop := ∀ (A0 : Option Addr) (c0 : Nat) (A1 : Option Addr) (c1 : Nat) (w : World), Kd.C k28 w A0 l.length l → Kd.C k28 w A1 l.length l → Calls Try.prog 18 #[.slice A0 l.length c0, .slice A1 l.length c1] w fun e w' => e = .returned (.bool true) ∧ Drawn0 w w'
set_option maxHeartbeats 2000000 in
set_option maxRecDepth 100000 in
theorem bobbinetkeep_sameNodes.step (l : List S28) (ih : ∀ n ∈ l, bobbinetkeep_sameNodes.W n.f3) : bobbinetkeep_sameNodes.W l := by
  intro A0 c0 A1 c1 w h0 h1
  have HR0 := Aside0.mk h0
  have HR1 := Aside0.mk h1
  have HIH := Aside0.mk ih
  have hmax := Kd.C_max h0
  clear h0 h1 ih
  go_enter Try.func18, Try.ntmps18
  go_wp2
  go_loopw [5] (fun v5 wr => ∃ x5 : Int, v5 = .int .i64 x5 ∧ Aside0 (0 ≤ x5 ∧ x5 ≤ l.length) ∧ Drawn0 w wr) (fun v5 wr => l.length - (intOf v5).toNat)
  case atStart => exact ⟨0, rfl, ⟨by omega⟩, ⟨0, rfl⟩⟩
  case round =>
    obtain ⟨x5, rfl, HX, HD⟩ := hrel
    obtain ⟨nd, rfl⟩ := HD.out
    have p0 := HX.out.1
    by_cases q0 : x5 < (l.length : Int)
    · obtain ⟨ad, C1, e1, C3, e3, eA, hx0, hx1, hx2, hx3, hl1, hc1, hl3, hc3⟩ := at_T28 HR0.out x5 p0 q0
      obtain ⟨bd, D1, g1, D3, g3, eB, hy0, hy1, hy2, hy3, hm1, hd1, hm3, hd3⟩ := at_T28 HR1.out x5 p0 q0
      have hmem : rd_T28 l x5 ∈ l := by
        have : x5.toNat < l.length := by omega
        simp [rd_T28, List.getD, this]
      have HQ := HIH.out _ hmem
      obtain ⟨⟨n0, n1, n2, n3⟩, hn⟩ : ∃ n, rd_T28 l x5 = n := ⟨_, rfl⟩
      simp only [hn] at hx0 hx1 hx2 hx3 hy0 hy1 hy2 hy3 hc1 hc3 hd1 hd3 HQ
      clear hn hmem hl1 hl3 hm1 hm3
      have HC : Aside0 (∀ m, Calls Try.prog 18 #[.slice C3 n3.length e3, .slice D3 n3.length g3] (w.drewN (nd + m)) fun e w' => e = .returned (.bool true) ∧ ∃ q, w' = w.drewN (nd + q)) := ⟨fun m => (HQ C3 e3 D3 g3 (w.drewN (nd + m)) (Kd.C_drewN hc3 _) (Kd.C_drewN hd3 _)).mono (fun e w' h => ⟨h.1, by
        obtain ⟨q, hq⟩ := h.2.out
        exact ⟨m + q, by rw [hq, World.drewN_drewN, Nat.add_assoc]⟩⟩)⟩
      have HC1 := Aside0.mk hc1
      have HD1 := Aside0.mk hd1
      have hm1 := Kd.C_max hc1
      clear HQ hc1 hc3 hd1 hd3
      subst eA eB
      have hb0 : decide (x5 < (l.length : Int)) = true := decide_eq_true q0
      have hw : wrap64 (x5 + 1) = x5 + 1 := by unfold wrap64; omega
      have HW := Aside0.mk hw
      have HQ0 := Aside0.mk q0
      clear hw
      replace p0 := eq_true p0
      replace q0 := eq_true q0
      go_wp2
      go_quiet ((go_at_call 18; exact HC.out _))
      go_wp2
      go_loopw [6] (fun v6 wr => ∃ x6 : Int, v6 = .int .i64 x6 ∧ Aside0 (0 ≤ x6 ∧ x6 ≤ n1.length) ∧ Drawn0 w wr) (fun v6 wr => n1.length - (intOf v6).toNat)
      case atStart => exact ⟨0, rfl, ⟨by omega⟩, ⟨_, by first | exact World.drewN_drewN _ _ _ | rfl⟩⟩
      case round =>
        obtain ⟨x6, rfl, HX6, HD6⟩ := hrel
        obtain ⟨nd6, rfl⟩ := HD6.out
        have p6 := HX6.out.1
        by_cases q6 : x6 < (n1.length : Int)
        · obtain ⟨ad6, eA6, ha0, ha1⟩ := at_T68 HC1.out x6 p6 q6
          obtain ⟨bd6, eB6, hd0, hd1⟩ := at_T68 HD1.out x6 p6 q6
          obtain ⟨⟨a0, a1⟩, ha⟩ : ∃ a, rd_T68 n1 x6 = a := ⟨_, rfl⟩
          simp only [ha] at ha0 ha1 hd0 hd1
          clear ha
          subst eA6 eB6
          have hb6 : decide (x6 < (n1.length : Int)) = true := decide_eq_true q6
          have hw6 : wrap64 (x6 + 1) = x6 + 1 := by unfold wrap64; omega
          have HW6 := Aside0.mk hw6
          have HQ6 := Aside0.mk q6
          clear hw6
          replace p6 := eq_true p6
          replace q6 := eq_true q6
          go_wp2
          go_quiet (fail)
          go_wp2
          go_roundw
          case rel => exact ⟨x6 + 1, by rw [HW6.out], ⟨by have := HX6.out; have := HQ6.out; omega⟩, ⟨_, by first | exact World.drewN_drewN _ _ _ | rfl⟩⟩
          case measure => have := HQ6.out; have := HX6.out; simp [intOf, HW6.out]; omega
        · have hb6 : decide (x6 < (n1.length : Int)) = false := decide_eq_false q6
          go_wp2
          go_roundw
          case rel => exact ⟨x5 + 1, by rw [HW.out], ⟨by have := HX.out; have := HQ0.out; omega⟩, ⟨_, rfl⟩⟩
          case measure => have := HQ0.out; have := HX.out; simp [intOf, HW.out]; omega
    · have hb0 : decide (x5 < (l.length : Int)) = false := decide_eq_false q0
      go_wp2
      go_ret
      exact ⟨rfl, ⟨nd, rfl⟩⟩
theorem bobbinetkeep_sameNodes.calls (A0 : Option Addr) (c0 : Nat) (l0 : List S28) (A1 : Option Addr) (c1 : Nat) (l1 : List S28) (r : Bool) (w : World) (hr0 : Kd.C k28 w A0 l0.length l0) (hc0 : l0.length ≤ c0) (hr1 : Kd.C k28 w A1 l1.length l1) (hc1 : l1.length ≤ c1) (h : bobbinetkeep_sameNodes.f l0 l1 = some r) :
    Calls Try.prog 18 #[.slice A0 l0.length c0, .slice A1 l1.length c1] w fun e w' => e = .returned (.bool r) ∧ Drawn0 w w' := by
  have h2 : bobbinetkeep_sameNodes.eq l0 l1 = true ∧ true = r := by
    unfold bobbinetkeep_sameNodes.f at h
    split at h
    · exact ⟨by assumption, Option.some.inj h⟩
    · cases h
  obtain ⟨h2, rfl⟩ := h2
  obtain rfl := (bobbinetkeep_sameNodes.eq_iff l0 l1).1 h2
  exact bobbinetkeep_sameNodes.ind2 bobbinetkeep_sameNodes.step l0 A0 c0 A1 c1 w hr0 hr1
end Go.Proofs.Ytaibikajpacemaa.X
end
section
namespace Go.Proofs.Ytaibikajpacemaa.X
open Go.RowKit Go.Proofs.YtaibikajpacemaaW.PrintWords Go.Proofs.YtaibikajpacemaaW.PrintLast Go.Proofs.YtaibikajpacemaaW.PrintMore
attribute [local go_sem] max2_int min2_int max_two min_two max_three min_three max_four min_four   -- for this text's walks alone
set_option linter.unusedVariables false
set_option linter.unusedSimpArgs false
mutual
def bobbinetkeep_beforePath.l0 : Nat → List Int → List Int → Int → Option (Bool)
  | 0, _, _, _ => none
  | k + 1, x0, x1, x5 => if x5 < (x0.length : Int) then (bobbinetkeep_beforePath.j1 k x0 x1 x5 (decide (x5 < (x1.length : Int)))) else (bobbinetkeep_beforePath.j1 k x0 x1 x5 false)
def bobbinetkeep_beforePath.j1 : Nat → List Int → List Int → Int → Bool → Option (Bool)
  | 0, _, _, _, _ => none
  | k + 1, x0, x1, x5, x15 => if x15 = true then (if 0 ≤ x5 then (if x5 < (x0.length : Int) then (if x5 < (x1.length : Int) then (if (rd x0 x5) = (rd x1 x5) then (bobbinetkeep_beforePath.l0 k x0 x1 (wrap64 (x5 + 1))) else (some (decide ((rd x0 x5) < (rd x1 x5))))) else (none)) else (none)) else (none)) else (some (decide ((x0.length : Int) < (x1.length : Int))))
end
def bobbinetkeep_beforePath.f (k : Nat) (l0 : List Int) (l1 : List Int) : Option (Bool) := bobbinetkeep_beforePath.l0 k l0 l1 0
set_option maxHeartbeats 8000000 in
set_option maxRecDepth 100000 in
theorem bobbinetkeep_beforePath.calls (k : Nat) (A0 : Option Addr) (c0 : Nat) (l0 : List Int) (A1 : Option Addr) (c1 : Nat) (l1 : List Int) (r : Bool) (w : World) (hr0 : Kd.C (Kd.int .i64) w A0 l0.length l0) (hc0 : l0.length ≤ c0) (hr1 : Kd.C (Kd.int .i64) w A1 l1.length l1) (hc1 : l1.length ≤ c1) (h : bobbinetkeep_beforePath.f k l0 l1 = some r) :
    Calls Try.prog 19 #[.slice A0 l0.length c0, .slice A1 l1.length c1] w fun e w' => e = .returned (.bool r) ∧ Drawn0 w w' := by
  have HR0 := Aside0.mk hr0
  have HC0 := Aside0.mk hc0
  clear hr0 hc0
  have HR1 := Aside0.mk hr1
  have HC1 := Aside0.mk hc1
  clear hr1 hc1
  have H : (bobbinetkeep_beforePath.l0 k l0 l1 0) = some r := h
  clear h
  have H' := Aside0.mk H
  clear H
  go_enter Try.func19, Try.ntmps19
  go_wp2
  repeat (go_quiet (fail); try go_wp2)
  go_loopg [5] k (fun kq v5 w' => ∃ (x5_1 : Int), v5 = .int .i64 x5_1 ∧ Aside0 (bobbinetkeep_beforePath.l0 kq l0 l1 x5_1 = some r) ∧ Aside0 (kq ≤ k) ∧ Drawn0 w w')
  case atStart => exact ⟨(0), (by first | rfl | (simp; done) | (simp [*]; done) | (simp [bne]; done)), H', ⟨Nat.le_refl _⟩, by repeat (first | exact Drawn0.refl _ | apply Drawn0.step)⟩
  case round =>
    clear H'
    try clear c1
    try clear p2
    obtain ⟨x5_1, rfl, HA, HK1, ⟨m1, rfl⟩⟩ := hrel
    cases gk with
    | zero => exact absurd HA.out (by simp [bobbinetkeep_beforePath.l0])
    | succ k1 =>
      have H := HA.out
      clear HA
      simp only [bobbinetkeep_beforePath.l0] at H
      have HC3 := Aside0.mk H
      clear H
      go_upto_region 2 with (fail)
      repeat (go_quiet (fail); go_upto_region 2 with (fail))
      go_cut [15] (fun v15 wc => ∃ (kq : Nat) (x15_2 : Bool), v15 = .bool x15_2 ∧ Aside0 (bobbinetkeep_beforePath.j1 kq l0 l1 x5_1 x15_2 = some r) ∧ Aside0 (kq ≤ k1) ∧ Drawn0 w wc)
      case first =>
        have H := HC3.out
        clear HC3
        by_cases c4 : x5_1 < (l0.length : Int)
        · rw [if_pos c4] at H
          have c4b0 : decide (x5_1 < (l0.length : Int)) = true := decide_eq_true c4
          clear c4
          (first | rw [c4b0] | (simp only [i64_w, i32_w]; rw [c4b0]) | rw [c4b1] | skip)
          have H' := Aside0.mk H
          clear H
          go_wp2
          repeat (go_quiet (fail); try go_wp2)
          go_meet
          case rel => exact ⟨_, (decide (x5_1 < (l1.length : Int))), (by first | rfl | (simp; done) | (simp [*]; done) | (simp [bne]; done)), H', ⟨by have := HK1.out; first | omega | exact Nat.le_refl _⟩, by repeat (first | exact Drawn0.refl _ | apply Drawn0.step)⟩
        · rw [if_neg c4] at H
          have c4b0 : decide (x5_1 < (l0.length : Int)) = false := decide_eq_false c4
          clear c4
          (first | rw [c4b0] | (simp only [i64_w, i32_w]; rw [c4b0]) | rw [c4b1] | skip)
          have H' := Aside0.mk H
          clear H
          go_wp2
          repeat (go_quiet (fail); try go_wp2)
          go_meet
          case rel => exact ⟨_, (false), (by first | rfl | (simp; done) | (simp [*]; done) | (simp [bne]; done)), H', ⟨by have := HK1.out; first | omega | exact Nat.le_refl _⟩, by repeat (first | exact Drawn0.refl _ | apply Drawn0.step)⟩
      case rest =>
        clear HC3
        try clear c1
        try clear p2
        try clear c4
        try clear c4b0
        try clear p2
        obtain ⟨kq, x15_2, rfl, HA, HJ2, ⟨mc2, rfl⟩⟩ := hcut
        cases kq with
        | zero => exact absurd HA.out (by simp [bobbinetkeep_beforePath.j1])
        | succ kj2 =>
          have H := HA.out
          clear HA
          simp only [bobbinetkeep_beforePath.j1] at H
          by_cases c5 : x15_2 = true
          · subst c5
            have H1 : (if 0 ≤ x5_1 then (if x5_1 < (l0.length : Int) then (if x5_1 < (l1.length : Int) then (if (rd l0 x5_1) = (rd l1 x5_1) then (bobbinetkeep_beforePath.l0 kj2 l0 l1 (wrap64 (x5_1 + 1))) else (some (decide ((rd l0 x5_1) < (rd l1 x5_1))))) else (none)) else (none)) else (none)) = some r := by rw [if_pos rfl] at H; exact H
            clear H
            have H := H1
            clear H1
            by_cases c6 : 0 ≤ x5_1
            · rw [if_pos c6] at H
              have c6b0 : decide (0 ≤ x5_1) = true := decide_eq_true c6
              clear c6
              by_cases c7 : x5_1 < (l0.length : Int)
              · rw [if_pos c7] at H
                have c7b0 : decide (x5_1 < (l0.length : Int)) = true := decide_eq_true c7
                clear c7
                by_cases c8 : x5_1 < (l1.length : Int)
                · rw [if_pos c8] at H
                  have c8b0 : decide (x5_1 < (l1.length : Int)) = true := decide_eq_true c8
                  clear c8
                  by_cases c9 : (rd l0 x5_1) = (rd l1 x5_1)
                  · rw [if_pos c9] at H
                    have c9b0 : ((rd l0 x5_1) == (rd l1 x5_1)) = true := beq_iff_eq.mpr c9
                    have c9b1 : ((rd l0 x5_1) != (rd l1 x5_1)) = false := bne_eq_false_iff_eq.mpr c9
                    clear c9
                    have H' := Aside0.mk H
                    clear H
                    have p253 : 0 ≤ (x5_1 : Int) := of_decide_eq_true (by first | (with_reducible assumption) | assumption)
                    have q253 : x5_1 < (l0.length : Int) := of_decide_eq_true (by first | (with_reducible assumption) | assumption)
                    obtain ⟨ad253, e253, hx253_0⟩ := Kd.at_int HR0.out x5_1 p253 q253
                    cases e253
                    replace p253 := eq_true p253
                    replace q253 := eq_true q253
                    have p254 : 0 ≤ (x5_1 : Int) := of_decide_eq_true (by first | (with_reducible assumption) | assumption)
                    have q254 : x5_1 < (l1.length : Int) := of_decide_eq_true (by first | (with_reducible assumption) | assumption)
                    obtain ⟨ad254, e254, hx254_0⟩ := Kd.at_int HR1.out x5_1 p254 q254
                    cases e254
                    replace p254 := eq_true p254
                    replace q254 := eq_true q254
                    go_wp2
                    repeat (go_quiet (fail); try go_wp2)
                    go_roundg kj2
                    case measure => have := HK1.out; have := HJ2.out; omega
                    case rel => exact ⟨(wrap64 (x5_1 + 1)), (by first | rfl | (simp; done) | (simp [*]; done) | (simp [bne]; done)), H', ⟨by have := HK1.out; have := HJ2.out; omega⟩, by repeat (first | exact Drawn0.refl _ | apply Drawn0.step)⟩
                  · rw [if_neg c9] at H
                    have c9b0 : ((rd l0 x5_1) == (rd l1 x5_1)) = false := beq_eq_false_iff_ne.mpr c9
                    have c9b1 : ((rd l0 x5_1) != (rd l1 x5_1)) = true := bne_iff_ne.mpr c9
                    obtain rfl := Option.some.inj H
                    have p253 : 0 ≤ (x5_1 : Int) := of_decide_eq_true (by first | (with_reducible assumption) | assumption)
                    have q253 : x5_1 < (l0.length : Int) := of_decide_eq_true (by first | (with_reducible assumption) | assumption)
                    obtain ⟨ad253, e253, hx253_0⟩ := Kd.at_int HR0.out x5_1 p253 q253
                    cases e253
                    replace p253 := eq_true p253
                    replace q253 := eq_true q253
                    have p254 : 0 ≤ (x5_1 : Int) := of_decide_eq_true (by first | (with_reducible assumption) | assumption)
                    have q254 : x5_1 < (l1.length : Int) := of_decide_eq_true (by first | (with_reducible assumption) | assumption)
                    obtain ⟨ad254, e254, hx254_0⟩ := Kd.at_int HR1.out x5_1 p254 q254
                    cases e254
                    replace p254 := eq_true p254
                    replace q254 := eq_true q254
                    have p255 : 0 ≤ (x5_1 : Int) := of_decide_eq_true (by first | (with_reducible assumption) | assumption)
                    have q255 : x5_1 < (l0.length : Int) := of_decide_eq_true (by first | (with_reducible assumption) | assumption)
                    obtain ⟨ad255, e255, hx255_0⟩ := Kd.at_int HR0.out x5_1 p255 q255
                    obtain rfl : ad253 = ad255 := (by injection e255)
                    replace p255 := eq_true p255
                    replace q255 := eq_true q255
                    have p256 : 0 ≤ (x5_1 : Int) := of_decide_eq_true (by first | (with_reducible assumption) | assumption)
                    have q256 : x5_1 < (l1.length : Int) := of_decide_eq_true (by first | (with_reducible assumption) | assumption)
                    obtain ⟨ad256, e256, hx256_0⟩ := Kd.at_int HR1.out x5_1 p256 q256
                    obtain rfl : ad254 = ad256 := (by injection e256)
                    replace p256 := eq_true p256
                    replace q256 := eq_true q256
                    go_wp2
                    repeat (go_quiet (fail); try go_wp2)
                    go_ret
                    exact ⟨by first | rfl | (simp; done) | (simp [*]; done), by repeat (first | exact Drawn0.refl _ | apply Drawn0.step)⟩
                · rw [if_neg c8] at H
                  exact absurd H (by simp)
              · rw [if_neg c7] at H
                exact absurd H (by simp)
            · rw [if_neg c6] at H
              exact absurd H (by simp)
          · replace c5 := Bool.eq_false_iff.mpr c5
            subst c5
            have H1 : (some (decide ((l0.length : Int) < (l1.length : Int)))) = some r := by rw [if_neg (show ¬ (false = true) by decide)] at H; exact H
            clear H
            have H := H1
            clear H1
            obtain rfl := Option.some.inj H
            go_wp2
            repeat (go_quiet (fail); try go_wp2)
            go_ret
            exact ⟨by first | rfl | (simp; done) | (simp [*]; done), by repeat (first | exact Drawn0.refl _ | apply Drawn0.step)⟩
end Go.Proofs.Ytaibikajpacemaa.X
end
section
namespace Go.Proofs.Ytaibikajpacemaa.X
open Go.RowKit Go.Proofs.YtaibikajpacemaaW.PrintWords Go.Proofs.YtaibikajpacemaaW.PrintLast Go.Proofs.YtaibikajpacemaaW.PrintMore
attribute [local go_sem] max2_int min2_int max_two min_two max_three min_three max_four min_four   -- for this text's walks alone
set_option linter.unusedVariables false
set_option linter.unusedSimpArgs false
/-- what a round of the law finds -/
def bobbinetkeep_WalkEach.Each (k : Nat) (l t2 : List S28) (ps : List (List Int)) (i : Nat) : Prop :=
  ∃ r1 r2 r3 r4 s1 s2 s3 s4, bobbinetkeep_nodeAt.f k l (ps.getD i []) = some (r1, r2, r3, r4, true) ∧ walk_At.f k t2 (ps.getD i []) = some (s1, s2, s3, s4, 0) ∧
    bobbinetkeep_sameNodes.f [(⟨r1, r2, r3, r4⟩ : S28)] [(⟨s1, s2, s3, s4⟩ : S28)] = some true ∧ (0 < i → bobbinetkeep_beforePath.f k (ps.getD (i - 1) []) (ps.getD i []) = some true)
theorem bobbinetkeep_WalkEach.row {w : World} {A : Option Addr} {xs : List (List Int)} (h : Kd.C (Kd.slice 3 (Kd.int .i64)) w A xs.length xs) (i : Nat) (h1 : i < xs.length) : ∃ ad A0 c0, A = some ad ∧ w.cell? (ad.add i) = some (.slice A0 (xs.getD i []).length c0) ∧ (xs.getD i []).length ≤ c0 ∧ (Kd.int .i64).C w A0 (xs.getD i []).length (xs.getD i []) := by
  obtain ⟨ad, c, e, _, hK, hc0⟩ := Kd.C_get h ([] : List Int) (i : Int) (by omega) (by omega)
  rw [Int.toNat_natCast] at hK hc0
  have hc : ∀ j u, c[j]? = some u → w.cell? (ad.add (i * 1 + j)) = some u := hc0
  obtain ⟨A0, c0, rfl, l0, g0⟩ := hK
  exact ⟨ad, A0, c0, e, by have hq := hc 0 _ rfl; rwa [Nat.mul_one, Nat.add_zero] at hq, l0, g0⟩
theorem bobbinetkeep_WalkEach.lit {w : World} {g : Nat} (r1 : ByteArray) (r2 : List S68) (r3 : ByteArray) (r4 : List S28) {A1 A3 : Option Addr} {c1 c3 : Nat} (hb : w.heap[g]? = some (.cells #[.string r1, .slice A1 r2.length c1, .string r3, .slice A3 r4.length c3] 28 (0, 0))) (l1 : r2.length ≤ c1) (g1 : k68.C w A1 r2.length r2) (l3 : r4.length ≤ c3) (g3 : k28.C w A3 r4.length r4) : Kd.C k28 w (some ⟨g, 0, none⟩) ([(⟨r1, r2, r3, r4⟩ : S28)] : List S28).length [(⟨r1, r2, r3, r4⟩ : S28)] := by
  refine ⟨rfl, by simp, fun _ => ⟨⟨g, 0, none⟩, rfl, fun j p hj => ?_⟩⟩
  obtain ⟨rfl, rfl⟩ : j = 0 ∧ (⟨r1, r2, r3, r4⟩ : S28) = p := by
    cases j with
    | zero => exact ⟨rfl, by simpa using hj⟩
    | succ j => simp at hj
  refine ⟨_, rfl, k28_mk w (⟨r1, r2, r3, r4⟩ : S28) l1 g1 l3 g3, fun i u hi => ?_⟩
  have h2 := blk_cell hb i
  have e : (⟨g, 0, none⟩ : Addr).add (0 * k28.sz + i) = ⟨g, i, none⟩ := by simp [Addr.add]; omega
  rw [e, h2]
  simpa using hi
theorem bobbinetkeep_WalkEach.blk1 (w : World) (o1 o2 : Obj) : ((w.alloc o1).alloc o2).heap[w.heap.size + 1]? = some o2 := by
  have := blk_new (w.alloc o1) o2
  simpa using this
theorem bobbinetkeep_WalkEach.pack {P : Program} {c : Code} {Q : Exit → Act → World → Prop} {a : Act} {W : World} (F : World → Prop) (h1 : F W) (h : ∀ W', F W' → Code.wp P c Q a W') : Code.wp P c Q a W := h W h1
theorem bobbinetkeep_WalkEach.far4 {α : Type} {d : Kd α} {e base n c g : Nat} {ok : Nat → Prop} {W : World} {A : Option Addr} {xs : List α} (h : d.R e W base ok (.slice A n c) xs) (hg : g < base) (u0 u1 u2 u3 : Value) : d.C ((((W.setCell ⟨g, 0, none⟩ u0).setCell ⟨g, 1, none⟩ u1).setCell ⟨g, 2, none⟩ u2).setCell ⟨g, 3, none⟩ u3) A n xs := by
  have h2 : d.R e W base (fun k => base ≤ k) (.slice A n c) xs := Kd.R_mono (Kd.R_bound h) (fun k hk => hk.2.1)
  have hn : ∀ j : Nat, ∀ k, base ≤ k → k ≠ (⟨g, j, none⟩ : Addr).block := fun j k hk => by show k ≠ g; omega
  have h3 := Kd.R_far (Kd.R_far (Kd.R_far (Kd.R_far h2 (hn 0) u0) (hn 1) u1) (hn 2) u2) (hn 3) u3
  have h4 := Kd.R_reads' h3
  rw [h4.1]
  exact h4.2.2
theorem bobbinetkeep_WalkEach.same1 (A0 : Option Addr) (c0 : Nat) (A1 : Option Addr) (c1 : Nat) (x y : S28) (w : World) (hr0 : Kd.C k28 w A0 ([x] : List S28).length [x]) (hc0 : 1 ≤ c0) (hr1 : Kd.C k28 w A1 ([y] : List S28).length [y]) (hc1 : 1 ≤ c1) (h : bobbinetkeep_sameNodes.f [x] [y] = some true) :
    Calls Try.prog 18 #[.slice A0 1 c0, .slice A1 1 c1] w fun e w' => e = .returned (.bool true) ∧ Drawn0 w w' :=
  bobbinetkeep_sameNodes.calls A0 c0 [x] A1 c1 [y] true w hr0 hc0 hr1 hc1 h
theorem bobbinetkeep_WalkEach.bcell {W w1 : World} (hb : Below W.heap.size W w1) : (∀ b o, b < W.heap.size → w1.cell? ⟨b, o, none⟩ = W.cell? ⟨b, o, none⟩) ∧ (∀ b o, b < W.heap.size → w1.frozen? ⟨b, o, none⟩ = W.frozen? ⟨b, o, none⟩) :=
  ⟨fun b o h => hb.cell (p := ⟨b, o, none⟩) h, fun b o h => hb.frozen (p := ⟨b, o, none⟩) h⟩
set_option maxHeartbeats 8000000 in
set_option maxRecDepth 100000 in
theorem bobbinetkeep_WalkEach.walk0 (k : Nat) (A0 : Option Addr) (c0 : Nat) (l0 : List Int) (w : World) (hr0 : Kd.C (Kd.int .i64) w A0 l0.length l0) (hc0 : l0.length ≤ c0) (t rest0 : _) (l t2 : List S28) (ps : List (List Int)) (deep : Int)
    (hN : bobbinetkeep_Nodes.f k l0 5 6 = some (t, rest0)) (hl : l = t ++ [(⟨(⟨#[98]⟩ : ByteArray), ([] : List S68), (⟨#[]⟩ : ByteArray), ([] : List S28)⟩ : S28)]) (hlt : t.length < 1759218604441) (hcp : bobbinetkeep_copiedNodes.f k l = some t2) (hP : walk_Paths.f k t2 = some ps) (hCt : tree_Count.f k l = some ((ps.length : Int), deep)) (hps : 0 < ps.length) (hE : ∀ i, i < ps.length → bobbinetkeep_WalkEach.Each k l t2 ps i) :
    Calls Try.prog 3 #[.slice A0 l0.length c0] w fun e w' => e = .returned (.bool true) ∧ Below w.heap.size w w' := by
  have HR0 := Aside0.mk hr0
  have HC0 := Aside0.mk hc0
  have HN := Aside0.mk hN
  have HL := Aside0.mk hl
  have HLT := Aside0.mk hlt
  have HCP := Aside0.mk hcp
  have HP := Aside0.mk hP
  have HCt := Aside0.mk hCt
  have HE := Aside0.mk hE
  have HPS := Aside0.mk hps
  have hm1 : decide ((ps.length : Int) < 1) = false := decide_eq_false (by omega)
  clear hr0 hc0 hN hl hlt hcp hP hCt hE hps
  have HB := Aside0.mk (Below.refl w.heap.size w)
  go_enter Try.func3, Try.ntmps3
  go_wp2_with (first
    | (go_at_call 12; (with_reducible refine (bobbinetkeep_Nodes.calls k (fun k_ => k_ < w.heap.size) _ _ l0 5 6 t rest0 _ ?side1 HN.out).mono ?_); (case side1 => exact Kd.V_mk HC0.out (Kd.C_F (Kd.heap_int .i64) HR0.out)); rintro e w8 ⟨v258, v261, rfl, ho0, ho1, hb⟩; have HO := Aside0.mk (Kd.N_lower (Kd.N_mono (ok' := fun k_ => True) (Kd.R_N ho0) (fun k_ hk_ => trivial)) (Nat.le_refl _)); replace HB := Aside0.mk hb; clear ho0 ho1 hb)
    | (at_builtin; refine Kd.N_append k28 (w0 := w) w.heap.size rfl (.tmp 18) (.tmp 20) 23 28 (.agg #[(.string ⟨#[]⟩), (.slice none 0 0), (.string ⟨#[]⟩), (.slice none 0 0)]) 80 rfl Try.underlying23 info28 rfl (by decide) (by omega) v258 t (⟨(⟨#[98]⟩ : ByteArray), ([] : List S68), (⟨#[]⟩ : ByteArray), ([] : List S28)⟩ : S28) [.string (⟨#[98]⟩ : ByteArray), .slice none 0 0, .string (⟨#[]⟩ : ByteArray), .slice none 0 0] (fun _ => True) (fun k_ => True ∧ some k_ ≠ (v258 : Value).ownBlock) rfl rfl ?aP (fun _ hk => hk) ?aF ?aO ?aB ?aS ?aL ?_; (case aP => exact (k28_mkF _ _ _ (Nat.le_refl _) (Kd.F_nil _ _ _) (Nat.le_refl _) (Kd.F_nil _ _ _))); (case aB => exact HB.out); (case aF => exact (fun _ _ => trivial)); (case aO => exact HO.out); (case aS => exact HB.out.size); (case aL => have := HLT.out; omega); intro v264 w9 ho hb hg hat; rw [← HL.out] at ho; replace HB := Aside0.mk hb; obtain ⟨Al, cl, rfl, hlc, hC⟩ := Kd.N_reads ho; have HLC := Aside0.mk hlc; have HC := Aside0.mk hC; clear ho hb hg hat hlc hC HO)
    | (go_at_call 14; (with_reducible refine (bobbinetkeep_copiedNodes.calls k _ _ l t2 _ HC.out HLC.out HCP.out).mono ?_); rintro e w11 ⟨v267, rfl, ho0, hb⟩; obtain ⟨Ac, cc, rfl, hcc, hC2⟩ := Kd.R_reads ho0; replace HC := Aside0.mk (Kd.C_below HC.out hb); replace HB := Aside0.mk (HB.out.trans (hb.mono HB.out.size)); have HCC := Aside0.mk hcc; have HC2 := Aside0.mk hC2; clear ho0 hb hcc hC2)
    | (go_at_call 13; (with_reducible refine (walk_Paths.calls k _ _ t2 ps _ HC2.out HCC.out HP.out).mono ?_); rintro e w13 ⟨v270, rfl, ho0, hb⟩; obtain ⟨Ap, cp, rfl, hpc, hCp⟩ := Kd.S_reads ho0; replace HC := Aside0.mk (Kd.C_below HC.out hb); replace HB := Aside0.mk (HB.out.trans (hb.mono HB.out.size)); have HPC := Aside0.mk hpc; have HCp := Aside0.mk hCp; clear ho0 hb hpc hCp HC2)
    | (go_at_call 15; (with_reducible refine (tree_Count.calls k _ _ l (ps.length : Int) deep _ HC.out HLC.out HCt.out).mono ?_); rintro e w14 ⟨rfl, hb⟩; replace HC := Aside0.mk (Kd.C_below HC.out hb); replace HCp := Aside0.mk (Kd.C_below HCp.out hb); replace HB := Aside0.mk (HB.out.trans (hb.mono HB.out.size)); clear hb))
  go_loopw [8] (fun v8 wr => ∃ i : Nat, v8 = .int .i64 (i : Int) ∧ Aside0 (i ≤ ps.length) ∧ Aside0 (Kd.C k28 wr Al l.length l) ∧ Aside0 (Kd.C (Kd.slice 3 (Kd.int .i64)) wr Ap ps.length ps) ∧ Aside0 (Below w.heap.size w wr)) (fun v8 _ => ps.length - (intOf v8).toNat)
  case atStart => exact ⟨0, rfl, ⟨by omega⟩, HC, HCp, HB⟩
  case round =>
    clear HC HCp HB HN HL HLT HP HCt hm1
    obtain ⟨i, rfl, HI, HC, HCp, HB⟩ := hrel
    by_cases hi : i < ps.length
    · obtain ⟨r1, r2, r3, r4, s1, s2, s3, s4, e1, e2, e3, e4⟩ := HE.out i hi
      obtain ⟨p, hp⟩ : ∃ p, ps.getD i [] = p := ⟨_, rfl⟩
      rw [hp] at e1 e2 e4
      have E1 := Aside0.mk e1
      have E2 := Aside0.mk e2
      have E3 := Aside0.mk e3
      have E4 := Aside0.mk e4
      clear e1 e2 e3 e4
      obtain ⟨ap, Ai, ci, eA, hx, hic, hiC⟩ := bobbinetkeep_WalkEach.row HCp.out i hi
      subst eA
      rw [hp] at hx hic hiC
      have HP := Aside0.mk hp
      clear hp
      have HIC := Aside0.mk hic
      have HiC := Aside0.mk hiC
      have HX := Aside0.mk hx
      clear hic hiC
      have HII := Aside0.mk hi
      have hlt : decide ((i : Int) < (ps.length : Int)) = true := decide_eq_true (by omega)
      have hi0 : (0 : Int) ≤ (i : Int) := by omega
      have hi1 : (i : Int) < (ps.length : Int) := by omega
      go_wp2_with (first
        | (go_at_call 16; (with_reducible refine (bobbinetkeep_nodeAt.calls k (fun k_ => k_ < wr.heap.size) _ _ l _ _ p r1 r2 r3 r4 true _ ?side1 HiC.out HIC.out E1.out).mono ?_); (case side1 => exact Kd.V_mk HLC.out (Kd.C_F k28_heap HC.out)); rintro e w1 ⟨v1, v3, rfl, ho1, ho3, hb⟩; obtain ⟨B1, b1, rfl, hl1, hf1⟩ := ho1; obtain ⟨B3, b3, rfl, hl3, hf3⟩ := ho3; have G1 := Aside0.mk (And.intro hl1 (Kd.F_now hf1)); have G3 := Aside0.mk (And.intro hl3 (Kd.F_now hf3)); replace HC := Aside0.mk (Kd.C_below HC.out hb); replace HCp := Aside0.mk (Kd.C_below HCp.out hb); replace HiC := Aside0.mk (Kd.C_below HiC.out hb); replace hx := (hb.cell (World.block_lt_of_cell? _ _ hx)).trans hx; replace HB := Aside0.mk (HB.out.trans (hb.mono HB.out.size)); clear hl1 hl3 hf1 hf3 hb E1 HX)
        | fail)
      refine bobbinetkeep_WalkEach.pack (fun W => W.heap[w1.heap.size]? = some (.cells #[.string r1, .slice B1 r2.length b1, .string r3, .slice B3 r4.length b3] 28 (0, 0)) ∧ Below w1.heap.size w1 W) ⟨blk_new _ _, below_alloc (Below.refl _ _) _⟩ ?_
      rintro w4 ⟨bk9, hb4⟩
      have BK9 := Aside0.mk bk9
      replace HC := Aside0.mk (Kd.C_below HC.out hb4)
      replace HCp := Aside0.mk (Kd.C_below HCp.out hb4)
      replace HiC := Aside0.mk (Kd.C_below HiC.out hb4)
      replace G1 := Aside0.mk (And.intro G1.out.1 (Kd.C_below G1.out.2 hb4))
      replace G3 := Aside0.mk (And.intro G3.out.1 (Kd.C_below G3.out.2 hb4))
      replace hx := (hb4.cell (World.block_lt_of_cell? _ _ hx)).trans hx
      replace HB := Aside0.mk (HB.out.trans (hb4.mono HB.out.size))
      clear bk9 hb4
      generalize w1.heap.size = g9 at BK9 ⊢
      go_cut [11, 12] (fun v11 v12 wc => ∃ (g11 : Nat) (A5 A7 : Option Addr) (c5 c7 : Nat), v11 = .pointer (some ⟨g11, 0, none⟩) ∧ v12 = .int .i64 0 ∧ Aside0 (Below w4.heap.size w4 wc) ∧ Aside0 (wc.heap[g11]? = some (.cells #[.string s1, .slice A5 s2.length c5, .string s3, .slice A7 s4.length c7] 28 (0, 0))) ∧ Aside0 (s2.length ≤ c5 ∧ k68.C wc A5 s2.length s2) ∧ Aside0 (s4.length ≤ c7 ∧ k28.C wc A7 s4.length s4))
      case first =>
        go_region_held3 (fun w' => w'.cell? (ap.add i) = some (.slice Ai p.length ci)) (first | go_keep | (exact (hb2.cell (World.block_lt_of_cell? _ _ (by assumption))).trans (by assumption)) | (exact (hb3.cell (World.block_lt_of_cell? _ _ (by assumption))).trans (by assumption)) | (exact (Below.cell (w := w4) (B := w4.heap.size) (by repeat (first | exact HB3.out | apply below_alloc | apply pw_below_drewN | apply below_drew1 | refine Below.setCell ?_ (by have q3 := HB3.out.size; have q2 := HB2.out.size; first | omega | (simp; done) | (simp; omega)) _)) (World.block_lt_of_cell? _ _ hx)).trans hx))
          (first
            | (go_at_call 14; (with_reducible refine (bobbinetkeep_copiedNodes.calls k _ _ l t2 _ ?side1 HLC.out HCP.out).mono ?_); (case side1 => exact Kd.C_below HC.out (by repeat (first | exact Below.refl _ _ | apply below_alloc | apply pw_below_drewN | apply below_drew1))); rintro e w2 ⟨v2, rfl, ho, hb2⟩; have HB2 : Aside0 (Below w4.heap.size w4 w2) := ⟨Below.trans (by repeat (first | exact Below.refl _ _ | apply below_alloc | apply pw_below_drewN | apply below_drew1)) (hb2.mono (below_size (by repeat (first | exact Below.refl _ _ | apply below_alloc | apply pw_below_drewN | apply below_drew1))))⟩; obtain ⟨D2, d2, rfl, hcc2, hC2⟩ := Kd.R_reads ho; have HD2 := Aside0.mk (And.intro hcc2 hC2); (try (have hz2 : w4.heap.size < w2.heap.size := by have := hb2.size; simp at this; omega)); obtain ⟨hce2, hfr2⟩ := bobbinetkeep_WalkEach.bcell hb2; clear ho hcc2 hC2)
            | (go_at_call 17; (with_reducible refine (walk_At.calls k _ _ t2 _ _ p s1 s2 s3 s4 0 _ ?side1 HD2.out.1 ?side3 HIC.out E2.out).mono ?_); (case side1 => exact Kd.C_below HD2.out.2 (by repeat (first | exact Below.refl _ _ | apply below_alloc | apply pw_below_drewN | apply below_drew1))); (case side3 => exact Kd.C_below HiC.out (by repeat (first | exact HB2.out | exact Below.refl _ _ | apply below_alloc | apply pw_below_drewN | apply below_drew1))); rintro e w3 ⟨v5, v7, rfl, ho5, ho7, hb3⟩; have HB3 : Aside0 (Below w4.heap.size w4 w3) := ⟨Below.trans (by repeat (first | exact HB2.out | exact Below.refl _ _ | apply below_alloc | apply pw_below_drewN | apply below_drew1)) (hb3.mono (below_size (by repeat (first | exact HB2.out | exact Below.refl _ _ | apply below_alloc | apply pw_below_drewN | apply below_drew1))))⟩; obtain ⟨A5, c5, rfl⟩ := Kd.R_slice ho5; obtain ⟨A7, c7, rfl⟩ := Kd.R_slice ho7; have HO5 := Aside0.mk ho5; have HO7 := Aside0.mk ho7; obtain ⟨hce3, hfr3⟩ := bobbinetkeep_WalkEach.bcell hb3; clear ho5 ho7))
        all_goals go_wp2
        all_goals go_meet
        all_goals (first
          | exact ⟨_, A5, A7, c5, c7, rfl, rfl, ⟨below_alloc HB3.out _⟩, ⟨blk_new w3 _⟩, ⟨(Kd.R_reads' HO5.out).2.1, Kd.C_alloc (Kd.R_reads' HO5.out).2.2 _⟩, ⟨(Kd.R_reads' HO7.out).2.1, Kd.C_alloc (Kd.R_reads' HO7.out).2.2 _⟩⟩
          | exact ⟨_, A5, A7, c5, c7, rfl, rfl, ⟨(by repeat (first | exact HB3.out | refine Below.setCell ?_ (by have q3 := HB3.out.size; have q2 := HB2.out.size; first | omega | (simp; done) | (simp; omega)) _))⟩, ⟨blk_put (blk_put (blk_put (blk_put (blk_below (blk_new w2 _) hb3) 0 _ rfl) 1 _ rfl) 2 _ rfl) 3 _ rfl⟩, ⟨(Kd.R_reads' HO5.out).2.1, bobbinetkeep_WalkEach.far4 HO5.out (by simp) _ _ _ _⟩, ⟨(Kd.R_reads' HO7.out).2.1, bobbinetkeep_WalkEach.far4 HO7.out (by simp) _ _ _ _⟩⟩
          | exact ⟨_, A5, A7, c5, c7, rfl, rfl, ⟨(by repeat (first | exact HB3.out | refine Below.setCell ?_ (by have q3 := HB3.out.size; have q2 := HB2.out.size; first | omega | (simp; done) | (simp; omega)) _))⟩, ⟨blk_put (blk_put (blk_put (blk_put (blk_below (show w2.heap[w4.heap.size]? = _ from blk_below (w := (w4.alloc _).drew) (blk_new w4 _) hb2) hb3) 0 _ rfl) 1 _ rfl) 2 _ rfl) 3 _ rfl⟩, ⟨(Kd.R_reads' HO5.out).2.1, bobbinetkeep_WalkEach.far4 HO5.out hz2 _ _ _ _⟩, ⟨(Kd.R_reads' HO7.out).2.1, bobbinetkeep_WalkEach.far4 HO7.out hz2 _ _ _ _⟩⟩)
      case rest =>
        obtain ⟨g11, A5, A7, c5, c7, rfl, rfl, HB6, BK11, Q5, Q7⟩ := hcut
        replace BK9 := Aside0.mk (blk_below BK9.out HB6.out)
        replace HC := Aside0.mk (Kd.C_below HC.out HB6.out)
        replace HCp := Aside0.mk (Kd.C_below HCp.out HB6.out)
        replace HiC := Aside0.mk (Kd.C_below HiC.out HB6.out)
        replace G1 := Aside0.mk (And.intro G1.out.1 (Kd.C_below G1.out.2 HB6.out))
        replace G3 := Aside0.mk (And.intro G3.out.1 (Kd.C_below G3.out.2 HB6.out))
        replace hx := (HB6.out.cell (World.block_lt_of_cell? _ _ hx)).trans hx
        replace HB := Aside0.mk (HB.out.trans (HB6.out.mono HB.out.size))
        have hmx := Kd.C_max HCp.out
        have k0 := blk_cell BK9.out 0
        have k1 := blk_cell BK9.out 1
        have k2 := blk_cell BK9.out 2
        have k3 := blk_cell BK9.out 3
        have k4 := blk_cell BK11.out 0
        have k5 := blk_cell BK11.out 1
        have k6 := blk_cell BK11.out 2
        have k7 := blk_cell BK11.out 3
        simp only [List.getElem?_toArray, List.getElem?_cons_zero, List.getElem?_cons_succ] at k0 k1 k2 k3 k4 k5 k6 k7
        clear HB6 E2
        rcases Nat.eq_zero_or_pos i with hz | hz
        · have z1 : decide ((0 : Int) < (i : Int)) = false := decide_eq_false (by omega)
          have z2 : decide (0 < i) = false := decide_eq_false (by omega)
          clear hz hx
          go_wp2
          refine wp_region_held_drew (S := fun w' => w'.cell? ⟨g9, 0, none⟩ = some (.string r1) ∧ w'.cell? ⟨g9, 1, none⟩ = some (.slice B1 r2.length b1) ∧ w'.cell? ⟨g9, 2, none⟩ = some (.string r3) ∧ w'.cell? ⟨g9, 3, none⟩ = some (.slice B3 r4.length b3) ∧ w'.cell? ⟨g11, 0, none⟩ = some (.string s1) ∧ w'.cell? ⟨g11, 1, none⟩ = some (.slice A5 s2.length c5) ∧ w'.cell? ⟨g11, 2, none⟩ = some (.string s3) ∧ w'.cell? ⟨g11, 3, none⟩ = some (.slice A7 s4.length c7)) (by kernel_rfl) (by go_keep) (fun hHeld => ?_)
          refine wpAnyH_take (i := 0) (oi := ({ dst := some 63, op := Go.Op.move (Go.Operand.tmp 10), type := 4, pos := "keep20.go:72", after := #[], guard := none } : Go.Oper)) (v := ?_) rfl (by kernel_rfl) (by kernel_rfl) (by kernel_rfl) (fun _ _ _ h => h) (Or.inl ⟨by kernel_rfl, ?_⟩) hHeld ?_
          rotate_left
          · (intro w hSw; (try dsimp only at hSw); go_simp; first | done | with_reducible rfl)
          (try simp only [Act.put, List.setIfInBounds_toArray, List.set_cons_zero, List.set_cons_succ])
          refine wpAnyH_take (i := 1) (oi := ({ dst := some 64, op := Go.Op.unOp Go.UnOp.not 4 (Go.Operand.tmp 63), type := 4, pos := "keep20.go:72", after := #[{ on := 0, ground := Go.Ground.data }], guard := none } : Go.Oper)) (v := ?_) rfl (by kernel_rfl) (by kernel_rfl) (by kernel_rfl) (fun _ _ _ h => h) (Or.inl ⟨by kernel_rfl, ?_⟩) hHeld ?_
          rotate_left
          · (intro w hSw; (try dsimp only at hSw); go_simp; first | done | with_reducible rfl)
          (try simp only [Act.put, List.setIfInBounds_toArray, List.set_cons_zero, List.set_cons_succ])
          refine wpAnyH_take (i := 2) (oi := ({ dst := some 65, op := Go.Op.move (Go.Operand.tmp 64), type := 4, pos := "keep20.go:72", after := #[{ on := 1, ground := Go.Ground.data }], guard := none } : Go.Oper)) (v := ?_) rfl (by kernel_rfl) (by kernel_rfl) (by kernel_rfl) (fun _ _ _ h => h) (Or.inl ⟨by kernel_rfl, ?_⟩) hHeld ?_
          rotate_left
          · (intro w hSw; (try dsimp only at hSw); go_simp; first | done | with_reducible rfl)
          (try simp only [Act.put, List.setIfInBounds_toArray, List.set_cons_zero, List.set_cons_succ])
          refine wpAnyH_take (i := 3) (oi := ({ dst := some 66, op := Go.Op.move (Go.Operand.tmp 12), type := 36, pos := "keep20.go:72", after := #[{ on := 2, ground := Go.Ground.guard }], guard := some (2, false) } : Go.Oper)) (v := ?_) rfl (by kernel_rfl) (by kernel_rfl) (by kernel_rfl) (fun _ _ _ h => h) (Or.inl ⟨by kernel_rfl, ?_⟩) hHeld ?_
          rotate_left
          · (intro w hSw; (try dsimp only at hSw); go_simp; first | done | with_reducible rfl)
          (try simp only [Act.put, List.setIfInBounds_toArray, List.set_cons_zero, List.set_cons_succ])
          refine wpAnyH_take (i := 4) (oi := ({ dst := some 67, op := Go.Op.binOp Go.BinOp.neq 36 (Go.Operand.tmp 66) (Go.Operand.const (Go.Value.int Go.IntKind.i64 0)) 36, type := 4, pos := "keep20.go:72", after := #[{ on := 3, ground := Go.Ground.data }, { on := 2, ground := Go.Ground.guard }], guard := some (2, false) } : Go.Oper)) (v := ?_) rfl (by kernel_rfl) (by kernel_rfl) (by kernel_rfl) (fun _ _ _ h => h) (Or.inl ⟨by kernel_rfl, ?_⟩) hHeld ?_
          rotate_left
          · (intro w hSw; (try dsimp only at hSw); go_simp; first | done | with_reducible rfl)
          (try simp only [Act.put, List.setIfInBounds_toArray, List.set_cons_zero, List.set_cons_succ])
          refine wpAnyH_take (i := 5) (oi := ({ dst := some 68, op := Go.Op.pick (Go.Operand.tmp 65) (Go.Operand.const (Go.Value.bool true)) (Go.Operand.tmp 67), type := 4, pos := "keep20.go:72", after := #[{ on := 2, ground := Go.Ground.data }, { on := 4, ground := Go.Ground.data }], guard := none } : Go.Oper)) (v := ?_) rfl (by kernel_rfl) (by kernel_rfl) (by kernel_rfl) (fun _ _ _ h => h) (Or.inl ⟨by kernel_rfl, ?_⟩) hHeld ?_
          rotate_left
          · (intro w hSw; (try dsimp only at hSw); go_simp; first | done | with_reducible rfl)
          (try simp only [Act.put, List.setIfInBounds_toArray, List.set_cons_zero, List.set_cons_succ])
          refine wpAnyH_take (i := 6) (oi := ({ dst := some 69, op := Go.Op.move (Go.Operand.tmp 68), type := 4, pos := "keep20.go:72", after := #[{ on := 5, ground := Go.Ground.data }, { on := 2, ground := Go.Ground.chain }], guard := none } : Go.Oper)) (v := ?_) rfl (by kernel_rfl) (by kernel_rfl) (by kernel_rfl) (fun _ _ _ h => h) (Or.inl ⟨by kernel_rfl, ?_⟩) hHeld ?_
          rotate_left
          · (intro w hSw; (try dsimp only at hSw); go_simp; first | done | with_reducible rfl)
          (try simp only [Act.put, List.setIfInBounds_toArray, List.set_cons_zero, List.set_cons_succ])
          refine wpAnyH_take (i := 7) (oi := ({ dst := some 70, op := Go.Op.load 28 (Go.Operand.tmp 9), type := 28, pos := "keep20.go:72", after := #[{ on := 6, ground := Go.Ground.guard }], guard := some (6, false) } : Go.Oper)) (v := ?_) rfl (by kernel_rfl) (by kernel_rfl) (by kernel_rfl) (fun _ _ _ h => h) (Or.inl ⟨by kernel_rfl, ?_⟩) hHeld ?_
          rotate_left
          · (intro w hSw; (try dsimp only at hSw); go_simp; first | done | with_reducible rfl)
          (try simp only [Act.put, List.setIfInBounds_toArray, List.set_cons_zero, List.set_cons_succ])
          refine wpAnyH_take (i := 9) (oi := ({ dst := some 72, op := Go.Op.load 28 (Go.Operand.tmp 11), type := 28, pos := "keep20.go:72", after := #[{ on := 6, ground := Go.Ground.guard }], guard := some (6, false) } : Go.Oper)) (v := ?_) rfl (by kernel_rfl) (by kernel_rfl) (by kernel_rfl) (fun _ _ _ h => h) (Or.inl ⟨by kernel_rfl, ?_⟩) hHeld ?_
          rotate_left
          · (intro w hSw; (try dsimp only at hSw); go_simp; first | done | with_reducible rfl)
          (try simp only [Act.put, List.setIfInBounds_toArray, List.set_cons_zero, List.set_cons_succ])
          refine wpAnyH_ready (rs := [8, 10]) (by kernel_rfl) (by simp) ?_
          refine AllReadyH.cons (o := ({ dst := some 71, op := Go.Op.buildSlice 23 1 #[(0, Go.Operand.tmp 70)], type := 23, pos := "keep20.go:72", after := #[{ on := 7, ground := Go.Ground.data }, { on := 6, ground := Go.Ground.guard }], guard := some (6, false) } : Go.Oper)) rfl (fun K hK => ?_) ?_
          rotate_left
          refine AllReadyH.cons (o := ({ dst := some 73, op := Go.Op.buildSlice 23 1 #[(0, Go.Operand.tmp 72)], type := 23, pos := "keep20.go:72", after := #[{ on := 9, ground := Go.Ground.data }, { on := 6, ground := Go.Ground.guard }], guard := some (6, false) } : Go.Oper)) rfl (fun K hK => ?_) AllReadyH.nil
          rotate_left
          · go_simp
            refine hK.out _ _ (by go_keep) (fun hHeld => ?_)
            clear hK K
            (try simp only [Act.put, List.setIfInBounds_toArray, List.set_cons_zero, List.set_cons_succ])
            refine wpAnyH_ready (rs := [10]) (by kernel_rfl) (by simp) ?_
            refine AllReadyH.cons (o := ({ dst := some 73, op := Go.Op.buildSlice 23 1 #[(0, Go.Operand.tmp 72)], type := 23, pos := "keep20.go:72", after := #[{ on := 9, ground := Go.Ground.data }, { on := 6, ground := Go.Ground.guard }], guard := some (6, false) } : Go.Oper)) rfl (fun K hK => ?_) AllReadyH.nil
            go_simp
            refine hK.out _ _ (by go_keep) (fun hHeld => ?_)
            clear hK K
            (try simp only [Act.put, List.setIfInBounds_toArray, List.set_cons_zero, List.set_cons_succ])
            refine wpAnyH_ready (rs := [11]) (by kernel_rfl) (by simp) ?_
            refine AllReadyH.cons (o := ({ dst := some 74, op := Go.Op.call { callee := Go.Callee.value (Go.Operand.func 18), args := #[Go.Operand.tmp 71, Go.Operand.tmp 73], argTypes := #[23, 23] }, type := 4, pos := "keep20.go:72", after := #[{ on := 8, ground := Go.Ground.data }, { on := 10, ground := Go.Ground.data }, { on := 6, ground := Go.Ground.chain }, { on := 6, ground := Go.Ground.guard }], guard := some (6, false) } : Go.Oper)) rfl (fun K hK => ?_) AllReadyH.nil
            go_simp
            (go_at_call 18; (with_reducible refine (bobbinetkeep_WalkEach.same1 _ _ _ _ (⟨r1, r2, r3, r4⟩ : S28) (⟨s1, s2, s3, s4⟩ : S28) _ ?side1 (Nat.le_refl _) ?side3 (Nat.le_refl _) E3.out).mono ?_); (case side1 => exact bobbinetkeep_WalkEach.lit r1 r2 r3 r4 (by with_reducible (repeat (first | exact blk_new _ _ | exact bobbinetkeep_WalkEach.blk1 _ _ _ | refine blk_alloc ?_ _ | refine blk_drew ?_ | refine blk_drewN ?_ _))) G1.out.1 (Kd.C_below G1.out.2 (by repeat (first | exact Below.refl _ _ | apply below_alloc | apply pw_below_drewN | apply below_drew1))) G3.out.1 (Kd.C_below G3.out.2 (by repeat (first | exact Below.refl _ _ | apply below_alloc | apply pw_below_drewN | apply below_drew1)))); (case side3 => exact bobbinetkeep_WalkEach.lit s1 s2 s3 s4 (by with_reducible (repeat (first | exact blk_new _ _ | exact bobbinetkeep_WalkEach.blk1 _ _ _ | refine blk_alloc ?_ _ | refine blk_drew ?_ | refine blk_drewN ?_ _))) Q5.out.1 (Kd.C_below Q5.out.2 (by repeat (first | exact Below.refl _ _ | apply below_alloc | apply pw_below_drewN | apply below_drew1))) Q7.out.1 (Kd.C_below Q7.out.2 (by repeat (first | exact Below.refl _ _ | apply below_alloc | apply pw_below_drewN | apply below_drew1)))); rintro e w' ⟨rfl, ⟨⟨nd, rfl⟩⟩⟩)
            refine hK.out _ _ (by go_keep) (fun hHeld => ?_)
            clear hK K
            (try simp only [Act.put, List.setIfInBounds_toArray, List.set_cons_zero, List.set_cons_succ])
            refine wpAnyH_take (i := 12) (oi := ({ dst := some 75, op := Go.Op.unOp Go.UnOp.not 4 (Go.Operand.tmp 74), type := 4, pos := "keep20.go:72", after := #[{ on := 11, ground := Go.Ground.data }, { on := 6, ground := Go.Ground.guard }], guard := some (6, false) } : Go.Oper)) (v := ?_) rfl (by kernel_rfl) (by kernel_rfl) (by kernel_rfl) (fun _ _ _ h => h) (Or.inl ⟨by kernel_rfl, ?_⟩) hHeld ?_
            rotate_left
            · (intro w hSw; (try dsimp only at hSw); go_simp; first | done | with_reducible rfl)
            (try simp only [Act.put, List.setIfInBounds_toArray, List.set_cons_zero, List.set_cons_succ])
            refine wpAnyH_take (i := 13) (oi := ({ dst := some 76, op := Go.Op.pick (Go.Operand.tmp 69) (Go.Operand.const (Go.Value.bool true)) (Go.Operand.tmp 75), type := 4, pos := "keep20.go:72", after := #[{ on := 6, ground := Go.Ground.data }, { on := 12, ground := Go.Ground.data }], guard := none } : Go.Oper)) (v := ?_) rfl (by kernel_rfl) (by kernel_rfl) (by kernel_rfl) (fun _ _ _ h => h) (Or.inl ⟨by kernel_rfl, ?_⟩) hHeld ?_
            rotate_left
            · (intro w hSw; (try dsimp only at hSw); go_simp; first | done | with_reducible rfl)
            (try simp only [Act.put, List.setIfInBounds_toArray, List.set_cons_zero, List.set_cons_succ])
            refine wpAnyH_take (i := 14) (oi := ({ dst := some 77, op := Go.Op.move (Go.Operand.tmp 76), type := 4, pos := "keep20.go:72", after := #[{ on := 13, ground := Go.Ground.data }, { on := 11, ground := Go.Ground.chain }], guard := none } : Go.Oper)) (v := ?_) rfl (by kernel_rfl) (by kernel_rfl) (by kernel_rfl) (fun _ _ _ h => h) (Or.inl ⟨by kernel_rfl, ?_⟩) hHeld ?_
            rotate_left
            · (intro w hSw; (try dsimp only at hSw); go_simp; first | done | with_reducible rfl)
            (try simp only [Act.put, List.setIfInBounds_toArray, List.set_cons_zero, List.set_cons_succ])
            refine wpAnyH_take (i := 15) (oi := ({ dst := some 78, op := Go.Op.move (Go.Operand.tmp 8), type := 3, pos := "keep20.go:72", after := #[{ on := 14, ground := Go.Ground.guard }], guard := some (14, false) } : Go.Oper)) (v := ?_) rfl (by kernel_rfl) (by kernel_rfl) (by kernel_rfl) (fun _ _ _ h => h) (Or.inl ⟨by kernel_rfl, ?_⟩) hHeld ?_
            rotate_left
            · (intro w hSw; (try dsimp only at hSw); go_simp; first | done | with_reducible rfl)
            (try simp only [Act.put, List.setIfInBounds_toArray, List.set_cons_zero, List.set_cons_succ])
            refine wpAnyH_take (i := 16) (oi := ({ dst := some 79, op := Go.Op.binOp Go.BinOp.gtr 3 (Go.Operand.tmp 78) (Go.Operand.const (Go.Value.int Go.IntKind.i64 0)) 3, type := 4, pos := "keep20.go:72", after := #[{ on := 15, ground := Go.Ground.data }, { on := 14, ground := Go.Ground.guard }], guard := some (14, false) } : Go.Oper)) (v := ?_) rfl (by kernel_rfl) (by kernel_rfl) (by kernel_rfl) (fun _ _ _ h => h) (Or.inl ⟨by kernel_rfl, ?_⟩) hHeld ?_
            rotate_left
            · (intro w hSw; (try dsimp only at hSw); go_simp; first | done | with_reducible rfl)
            (try simp only [Act.put, List.setIfInBounds_toArray, List.set_cons_zero, List.set_cons_succ])
            refine wpAnyH_take (i := 17) (oi := ({ dst := some 80, op := Go.Op.move (Go.Operand.tmp 79), type := 4, pos := "keep20.go:72", after := #[{ on := 16, ground := Go.Ground.data }, { on := 14, ground := Go.Ground.chain }, { on := 14, ground := Go.Ground.guard }], guard := some (14, false) } : Go.Oper)) (v := ?_) rfl (by kernel_rfl) (by kernel_rfl) (by kernel_rfl) (fun _ _ _ h => h) (Or.inl ⟨by kernel_rfl, ?_⟩) hHeld ?_
            rotate_left
            · (intro w hSw; (try dsimp only at hSw); go_simp; first | done | with_reducible rfl)
            (try simp only [Act.put, List.setIfInBounds_toArray, List.set_cons_zero, List.set_cons_succ])
            refine wpAnyH_take (i := 18) (oi := ({ dst := some 81, op := Go.Op.move (Go.Operand.tmp 5), type := 29, pos := "keep20.go:72", after := #[{ on := 17, ground := Go.Ground.guard }], guard := some (17, true) } : Go.Oper)) (v := undef) rfl (by kernel_rfl) (by kernel_rfl) (by kernel_rfl) (fun _ _ _ h => h) (Or.inr ⟨by kernel_rfl, rfl⟩) hHeld ?_
            (try simp only [Act.put, List.setIfInBounds_toArray, List.set_cons_zero, List.set_cons_succ])
            refine wpAnyH_take (i := 19) (oi := ({ dst := some 82, op := Go.Op.move (Go.Operand.tmp 8), type := 3, pos := "keep20.go:72", after := #[{ on := 17, ground := Go.Ground.guard }], guard := some (17, true) } : Go.Oper)) (v := undef) rfl (by kernel_rfl) (by kernel_rfl) (by kernel_rfl) (fun _ _ _ h => h) (Or.inr ⟨by kernel_rfl, rfl⟩) hHeld ?_
            (try simp only [Act.put, List.setIfInBounds_toArray, List.set_cons_zero, List.set_cons_succ])
            refine wpAnyH_take (i := 20) (oi := ({ dst := some 83, op := Go.Op.binOp Go.BinOp.sub 3 (Go.Operand.tmp 82) (Go.Operand.const (Go.Value.int Go.IntKind.i64 1)) 3, type := 3, pos := "keep20.go:72", after := #[{ on := 19, ground := Go.Ground.data }, { on := 17, ground := Go.Ground.guard }], guard := some (17, true) } : Go.Oper)) (v := undef) rfl (by kernel_rfl) (by kernel_rfl) (by kernel_rfl) (fun _ _ _ h => h) (Or.inr ⟨by kernel_rfl, rfl⟩) hHeld ?_
            (try simp only [Act.put, List.setIfInBounds_toArray, List.set_cons_zero, List.set_cons_succ])
            refine wpAnyH_take (i := 21) (oi := ({ dst := some 84, op := Go.Op.indexAddr 29 (Go.Operand.tmp 81) (Go.Operand.tmp 83), type := 0, pos := "keep20.go:72", after := #[{ on := 18, ground := Go.Ground.data }, { on := 20, ground := Go.Ground.data }, { on := 17, ground := Go.Ground.guard }], guard := some (17, true) } : Go.Oper)) (v := undef) rfl (by kernel_rfl) (by kernel_rfl) (by kernel_rfl) (fun _ _ _ h => h) (Or.inr ⟨by kernel_rfl, rfl⟩) hHeld ?_
            (try simp only [Act.put, List.setIfInBounds_toArray, List.set_cons_zero, List.set_cons_succ])
            refine wpAnyH_take (i := 22) (oi := ({ dst := some 85, op := Go.Op.load 22 (Go.Operand.tmp 84), type := 22, pos := "keep20.go:72", after := #[{ on := 21, ground := Go.Ground.data }, { on := 17, ground := Go.Ground.guard }], guard := some (17, true) } : Go.Oper)) (v := undef) rfl (by kernel_rfl) (by kernel_rfl) (by kernel_rfl) (fun _ _ _ h => h) (Or.inr ⟨by kernel_rfl, rfl⟩) hHeld ?_
            (try simp only [Act.put, List.setIfInBounds_toArray, List.set_cons_zero, List.set_cons_succ])
            refine wpAnyH_take (i := 23) (oi := ({ dst := some 86, op := Go.Op.move (Go.Operand.tmp 5), type := 29, pos := "keep20.go:72", after := #[{ on := 17, ground := Go.Ground.guard }], guard := some (17, true) } : Go.Oper)) (v := undef) rfl (by kernel_rfl) (by kernel_rfl) (by kernel_rfl) (fun _ _ _ h => h) (Or.inr ⟨by kernel_rfl, rfl⟩) hHeld ?_
            (try simp only [Act.put, List.setIfInBounds_toArray, List.set_cons_zero, List.set_cons_succ])
            refine wpAnyH_take (i := 24) (oi := ({ dst := some 87, op := Go.Op.move (Go.Operand.tmp 8), type := 3, pos := "keep20.go:72", after := #[{ on := 17, ground := Go.Ground.guard }], guard := some (17, true) } : Go.Oper)) (v := undef) rfl (by kernel_rfl) (by kernel_rfl) (by kernel_rfl) (fun _ _ _ h => h) (Or.inr ⟨by kernel_rfl, rfl⟩) hHeld ?_
            (try simp only [Act.put, List.setIfInBounds_toArray, List.set_cons_zero, List.set_cons_succ])
            refine wpAnyH_take (i := 25) (oi := ({ dst := some 88, op := Go.Op.indexAddr 29 (Go.Operand.tmp 86) (Go.Operand.tmp 87), type := 0, pos := "keep20.go:72", after := #[{ on := 23, ground := Go.Ground.data }, { on := 24, ground := Go.Ground.data }, { on := 17, ground := Go.Ground.guard }], guard := some (17, true) } : Go.Oper)) (v := undef) rfl (by kernel_rfl) (by kernel_rfl) (by kernel_rfl) (fun _ _ _ h => h) (Or.inr ⟨by kernel_rfl, rfl⟩) hHeld ?_
            (try simp only [Act.put, List.setIfInBounds_toArray, List.set_cons_zero, List.set_cons_succ])
            refine wpAnyH_take (i := 26) (oi := ({ dst := some 89, op := Go.Op.load 22 (Go.Operand.tmp 88), type := 22, pos := "keep20.go:72", after := #[{ on := 25, ground := Go.Ground.data }, { on := 17, ground := Go.Ground.guard }], guard := some (17, true) } : Go.Oper)) (v := undef) rfl (by kernel_rfl) (by kernel_rfl) (by kernel_rfl) (fun _ _ _ h => h) (Or.inr ⟨by kernel_rfl, rfl⟩) hHeld ?_
            (try simp only [Act.put, List.setIfInBounds_toArray, List.set_cons_zero, List.set_cons_succ])
            refine wpAnyH_take (i := 27) (oi := ({ dst := some 90, op := Go.Op.call { callee := Go.Callee.value (Go.Operand.func 19), args := #[Go.Operand.tmp 85, Go.Operand.tmp 89], argTypes := #[22, 22] }, type := 4, pos := "keep20.go:72", after := #[{ on := 22, ground := Go.Ground.data }, { on := 26, ground := Go.Ground.data }, { on := 17, ground := Go.Ground.chain }, { on := 17, ground := Go.Ground.guard }], guard := some (17, true) } : Go.Oper)) (v := undef) rfl (by kernel_rfl) (by kernel_rfl) (by kernel_rfl) (fun _ _ _ h => h) (Or.inr ⟨by kernel_rfl, rfl⟩) hHeld ?_
            (try simp only [Act.put, List.setIfInBounds_toArray, List.set_cons_zero, List.set_cons_succ])
            refine wpAnyH_take (i := 28) (oi := ({ dst := some 91, op := Go.Op.unOp Go.UnOp.not 4 (Go.Operand.tmp 90), type := 4, pos := "keep20.go:72", after := #[{ on := 27, ground := Go.Ground.data }, { on := 17, ground := Go.Ground.guard }], guard := some (17, true) } : Go.Oper)) (v := undef) rfl (by kernel_rfl) (by kernel_rfl) (by kernel_rfl) (fun _ _ _ h => h) (Or.inr ⟨by kernel_rfl, rfl⟩) hHeld ?_
            (try simp only [Act.put, List.setIfInBounds_toArray, List.set_cons_zero, List.set_cons_succ])
            refine wpAnyH_take (i := 29) (oi := ({ dst := some 92, op := Go.Op.pick (Go.Operand.tmp 80) (Go.Operand.tmp 91) (Go.Operand.const (Go.Value.bool false)), type := 4, pos := "keep20.go:72", after := #[{ on := 17, ground := Go.Ground.data }, { on := 28, ground := Go.Ground.data }, { on := 14, ground := Go.Ground.guard }], guard := some (14, false) } : Go.Oper)) (v := ?_) rfl (by kernel_rfl) (by kernel_rfl) (by kernel_rfl) (fun _ _ _ h => h) (Or.inl ⟨by kernel_rfl, ?_⟩) hHeld ?_
            rotate_left
            · (intro w hSw; (try dsimp only at hSw); go_simp; first | done | with_reducible rfl)
            (try simp only [Act.put, List.setIfInBounds_toArray, List.set_cons_zero, List.set_cons_succ])
            refine wpAnyH_take (i := 30) (oi := ({ dst := some 93, op := Go.Op.pick (Go.Operand.tmp 77) (Go.Operand.const (Go.Value.bool true)) (Go.Operand.tmp 92), type := 4, pos := "keep20.go:72", after := #[{ on := 14, ground := Go.Ground.data }, { on := 29, ground := Go.Ground.data }], guard := none } : Go.Oper)) (v := ?_) rfl (by kernel_rfl) (by kernel_rfl) (by kernel_rfl) (fun _ _ _ h => h) (Or.inl ⟨by kernel_rfl, ?_⟩) hHeld ?_
            rotate_left
            · (intro w hSw; (try dsimp only at hSw); go_simp; first | done | with_reducible rfl)
            (try simp only [Act.put, List.setIfInBounds_toArray, List.set_cons_zero, List.set_cons_succ])
            refine wpAnyH_done (by kernel_rfl) ?_ _
            go_wp2
            go_roundw
            case rel => exact ⟨i + 1, by first | rfl | go_num | simp, ⟨by have := HII.out; omega⟩, ⟨Kd.C_below HC.out (by repeat (first | exact Below.refl _ _ | apply below_alloc | apply pw_below_drewN | apply below_drew1))⟩, ⟨Kd.C_below HCp.out (by repeat (first | exact Below.refl _ _ | apply below_alloc | apply pw_below_drewN | apply below_drew1))⟩, ⟨HB.out.trans (Below.mono (by repeat (first | exact Below.refl _ _ | apply below_alloc | apply pw_below_drewN | apply below_drew1)) HB.out.size)⟩⟩
            case measure => have := HII.out; simp [intOf]; omega
          · go_simp
            refine hK.out _ _ (by go_keep) (fun hHeld => ?_)
            clear hK K
            (try simp only [Act.put, List.setIfInBounds_toArray, List.set_cons_zero, List.set_cons_succ])
            refine wpAnyH_ready (rs := [8]) (by kernel_rfl) (by simp) ?_
            refine AllReadyH.cons (o := ({ dst := some 71, op := Go.Op.buildSlice 23 1 #[(0, Go.Operand.tmp 70)], type := 23, pos := "keep20.go:72", after := #[{ on := 7, ground := Go.Ground.data }, { on := 6, ground := Go.Ground.guard }], guard := some (6, false) } : Go.Oper)) rfl (fun K hK => ?_) AllReadyH.nil
            go_simp
            refine hK.out _ _ (by go_keep) (fun hHeld => ?_)
            clear hK K
            (try simp only [Act.put, List.setIfInBounds_toArray, List.set_cons_zero, List.set_cons_succ])
            refine wpAnyH_ready (rs := [11]) (by kernel_rfl) (by simp) ?_
            refine AllReadyH.cons (o := ({ dst := some 74, op := Go.Op.call { callee := Go.Callee.value (Go.Operand.func 18), args := #[Go.Operand.tmp 71, Go.Operand.tmp 73], argTypes := #[23, 23] }, type := 4, pos := "keep20.go:72", after := #[{ on := 8, ground := Go.Ground.data }, { on := 10, ground := Go.Ground.data }, { on := 6, ground := Go.Ground.chain }, { on := 6, ground := Go.Ground.guard }], guard := some (6, false) } : Go.Oper)) rfl (fun K hK => ?_) AllReadyH.nil
            go_simp
            (go_at_call 18; (with_reducible refine (bobbinetkeep_WalkEach.same1 _ _ _ _ (⟨r1, r2, r3, r4⟩ : S28) (⟨s1, s2, s3, s4⟩ : S28) _ ?side1 (Nat.le_refl _) ?side3 (Nat.le_refl _) E3.out).mono ?_); (case side1 => exact bobbinetkeep_WalkEach.lit r1 r2 r3 r4 (by with_reducible (repeat (first | exact blk_new _ _ | exact bobbinetkeep_WalkEach.blk1 _ _ _ | refine blk_alloc ?_ _ | refine blk_drew ?_ | refine blk_drewN ?_ _))) G1.out.1 (Kd.C_below G1.out.2 (by repeat (first | exact Below.refl _ _ | apply below_alloc | apply pw_below_drewN | apply below_drew1))) G3.out.1 (Kd.C_below G3.out.2 (by repeat (first | exact Below.refl _ _ | apply below_alloc | apply pw_below_drewN | apply below_drew1)))); (case side3 => exact bobbinetkeep_WalkEach.lit s1 s2 s3 s4 (by with_reducible (repeat (first | exact blk_new _ _ | exact bobbinetkeep_WalkEach.blk1 _ _ _ | refine blk_alloc ?_ _ | refine blk_drew ?_ | refine blk_drewN ?_ _))) Q5.out.1 (Kd.C_below Q5.out.2 (by repeat (first | exact Below.refl _ _ | apply below_alloc | apply pw_below_drewN | apply below_drew1))) Q7.out.1 (Kd.C_below Q7.out.2 (by repeat (first | exact Below.refl _ _ | apply below_alloc | apply pw_below_drewN | apply below_drew1)))); rintro e w' ⟨rfl, ⟨⟨nd, rfl⟩⟩⟩)
            refine hK.out _ _ (by go_keep) (fun hHeld => ?_)
            clear hK K
            (try simp only [Act.put, List.setIfInBounds_toArray, List.set_cons_zero, List.set_cons_succ])
            refine wpAnyH_take (i := 12) (oi := ({ dst := some 75, op := Go.Op.unOp Go.UnOp.not 4 (Go.Operand.tmp 74), type := 4, pos := "keep20.go:72", after := #[{ on := 11, ground := Go.Ground.data }, { on := 6, ground := Go.Ground.guard }], guard := some (6, false) } : Go.Oper)) (v := ?_) rfl (by kernel_rfl) (by kernel_rfl) (by kernel_rfl) (fun _ _ _ h => h) (Or.inl ⟨by kernel_rfl, ?_⟩) hHeld ?_
            rotate_left
            · (intro w hSw; (try dsimp only at hSw); go_simp; first | done | with_reducible rfl)
            (try simp only [Act.put, List.setIfInBounds_toArray, List.set_cons_zero, List.set_cons_succ])
            refine wpAnyH_take (i := 13) (oi := ({ dst := some 76, op := Go.Op.pick (Go.Operand.tmp 69) (Go.Operand.const (Go.Value.bool true)) (Go.Operand.tmp 75), type := 4, pos := "keep20.go:72", after := #[{ on := 6, ground := Go.Ground.data }, { on := 12, ground := Go.Ground.data }], guard := none } : Go.Oper)) (v := ?_) rfl (by kernel_rfl) (by kernel_rfl) (by kernel_rfl) (fun _ _ _ h => h) (Or.inl ⟨by kernel_rfl, ?_⟩) hHeld ?_
            rotate_left
            · (intro w hSw; (try dsimp only at hSw); go_simp; first | done | with_reducible rfl)
            (try simp only [Act.put, List.setIfInBounds_toArray, List.set_cons_zero, List.set_cons_succ])
            refine wpAnyH_take (i := 14) (oi := ({ dst := some 77, op := Go.Op.move (Go.Operand.tmp 76), type := 4, pos := "keep20.go:72", after := #[{ on := 13, ground := Go.Ground.data }, { on := 11, ground := Go.Ground.chain }], guard := none } : Go.Oper)) (v := ?_) rfl (by kernel_rfl) (by kernel_rfl) (by kernel_rfl) (fun _ _ _ h => h) (Or.inl ⟨by kernel_rfl, ?_⟩) hHeld ?_
            rotate_left
            · (intro w hSw; (try dsimp only at hSw); go_simp; first | done | with_reducible rfl)
            (try simp only [Act.put, List.setIfInBounds_toArray, List.set_cons_zero, List.set_cons_succ])
            refine wpAnyH_take (i := 15) (oi := ({ dst := some 78, op := Go.Op.move (Go.Operand.tmp 8), type := 3, pos := "keep20.go:72", after := #[{ on := 14, ground := Go.Ground.guard }], guard := some (14, false) } : Go.Oper)) (v := ?_) rfl (by kernel_rfl) (by kernel_rfl) (by kernel_rfl) (fun _ _ _ h => h) (Or.inl ⟨by kernel_rfl, ?_⟩) hHeld ?_
            rotate_left
            · (intro w hSw; (try dsimp only at hSw); go_simp; first | done | with_reducible rfl)
            (try simp only [Act.put, List.setIfInBounds_toArray, List.set_cons_zero, List.set_cons_succ])
            refine wpAnyH_take (i := 16) (oi := ({ dst := some 79, op := Go.Op.binOp Go.BinOp.gtr 3 (Go.Operand.tmp 78) (Go.Operand.const (Go.Value.int Go.IntKind.i64 0)) 3, type := 4, pos := "keep20.go:72", after := #[{ on := 15, ground := Go.Ground.data }, { on := 14, ground := Go.Ground.guard }], guard := some (14, false) } : Go.Oper)) (v := ?_) rfl (by kernel_rfl) (by kernel_rfl) (by kernel_rfl) (fun _ _ _ h => h) (Or.inl ⟨by kernel_rfl, ?_⟩) hHeld ?_
            rotate_left
            · (intro w hSw; (try dsimp only at hSw); go_simp; first | done | with_reducible rfl)
            (try simp only [Act.put, List.setIfInBounds_toArray, List.set_cons_zero, List.set_cons_succ])
            refine wpAnyH_take (i := 17) (oi := ({ dst := some 80, op := Go.Op.move (Go.Operand.tmp 79), type := 4, pos := "keep20.go:72", after := #[{ on := 16, ground := Go.Ground.data }, { on := 14, ground := Go.Ground.chain }, { on := 14, ground := Go.Ground.guard }], guard := some (14, false) } : Go.Oper)) (v := ?_) rfl (by kernel_rfl) (by kernel_rfl) (by kernel_rfl) (fun _ _ _ h => h) (Or.inl ⟨by kernel_rfl, ?_⟩) hHeld ?_
            rotate_left
            · (intro w hSw; (try dsimp only at hSw); go_simp; first | done | with_reducible rfl)
            (try simp only [Act.put, List.setIfInBounds_toArray, List.set_cons_zero, List.set_cons_succ])
            refine wpAnyH_take (i := 18) (oi := ({ dst := some 81, op := Go.Op.move (Go.Operand.tmp 5), type := 29, pos := "keep20.go:72", after := #[{ on := 17, ground := Go.Ground.guard }], guard := some (17, true) } : Go.Oper)) (v := undef) rfl (by kernel_rfl) (by kernel_rfl) (by kernel_rfl) (fun _ _ _ h => h) (Or.inr ⟨by kernel_rfl, rfl⟩) hHeld ?_
            (try simp only [Act.put, List.setIfInBounds_toArray, List.set_cons_zero, List.set_cons_succ])
            refine wpAnyH_take (i := 19) (oi := ({ dst := some 82, op := Go.Op.move (Go.Operand.tmp 8), type := 3, pos := "keep20.go:72", after := #[{ on := 17, ground := Go.Ground.guard }], guard := some (17, true) } : Go.Oper)) (v := undef) rfl (by kernel_rfl) (by kernel_rfl) (by kernel_rfl) (fun _ _ _ h => h) (Or.inr ⟨by kernel_rfl, rfl⟩) hHeld ?_
            (try simp only [Act.put, List.setIfInBounds_toArray, List.set_cons_zero, List.set_cons_succ])
            refine wpAnyH_take (i := 20) (oi := ({ dst := some 83, op := Go.Op.binOp Go.BinOp.sub 3 (Go.Operand.tmp 82) (Go.Operand.const (Go.Value.int Go.IntKind.i64 1)) 3, type := 3, pos := "keep20.go:72", after := #[{ on := 19, ground := Go.Ground.data }, { on := 17, ground := Go.Ground.guard }], guard := some (17, true) } : Go.Oper)) (v := undef) rfl (by kernel_rfl) (by kernel_rfl) (by kernel_rfl) (fun _ _ _ h => h) (Or.inr ⟨by kernel_rfl, rfl⟩) hHeld ?_
            (try simp only [Act.put, List.setIfInBounds_toArray, List.set_cons_zero, List.set_cons_succ])
            refine wpAnyH_take (i := 21) (oi := ({ dst := some 84, op := Go.Op.indexAddr 29 (Go.Operand.tmp 81) (Go.Operand.tmp 83), type := 0, pos := "keep20.go:72", after := #[{ on := 18, ground := Go.Ground.data }, { on := 20, ground := Go.Ground.data }, { on := 17, ground := Go.Ground.guard }], guard := some (17, true) } : Go.Oper)) (v := undef) rfl (by kernel_rfl) (by kernel_rfl) (by kernel_rfl) (fun _ _ _ h => h) (Or.inr ⟨by kernel_rfl, rfl⟩) hHeld ?_
            (try simp only [Act.put, List.setIfInBounds_toArray, List.set_cons_zero, List.set_cons_succ])
            refine wpAnyH_take (i := 22) (oi := ({ dst := some 85, op := Go.Op.load 22 (Go.Operand.tmp 84), type := 22, pos := "keep20.go:72", after := #[{ on := 21, ground := Go.Ground.data }, { on := 17, ground := Go.Ground.guard }], guard := some (17, true) } : Go.Oper)) (v := undef) rfl (by kernel_rfl) (by kernel_rfl) (by kernel_rfl) (fun _ _ _ h => h) (Or.inr ⟨by kernel_rfl, rfl⟩) hHeld ?_
            (try simp only [Act.put, List.setIfInBounds_toArray, List.set_cons_zero, List.set_cons_succ])
            refine wpAnyH_take (i := 23) (oi := ({ dst := some 86, op := Go.Op.move (Go.Operand.tmp 5), type := 29, pos := "keep20.go:72", after := #[{ on := 17, ground := Go.Ground.guard }], guard := some (17, true) } : Go.Oper)) (v := undef) rfl (by kernel_rfl) (by kernel_rfl) (by kernel_rfl) (fun _ _ _ h => h) (Or.inr ⟨by kernel_rfl, rfl⟩) hHeld ?_
            (try simp only [Act.put, List.setIfInBounds_toArray, List.set_cons_zero, List.set_cons_succ])
            refine wpAnyH_take (i := 24) (oi := ({ dst := some 87, op := Go.Op.move (Go.Operand.tmp 8), type := 3, pos := "keep20.go:72", after := #[{ on := 17, ground := Go.Ground.guard }], guard := some (17, true) } : Go.Oper)) (v := undef) rfl (by kernel_rfl) (by kernel_rfl) (by kernel_rfl) (fun _ _ _ h => h) (Or.inr ⟨by kernel_rfl, rfl⟩) hHeld ?_
            (try simp only [Act.put, List.setIfInBounds_toArray, List.set_cons_zero, List.set_cons_succ])
            refine wpAnyH_take (i := 25) (oi := ({ dst := some 88, op := Go.Op.indexAddr 29 (Go.Operand.tmp 86) (Go.Operand.tmp 87), type := 0, pos := "keep20.go:72", after := #[{ on := 23, ground := Go.Ground.data }, { on := 24, ground := Go.Ground.data }, { on := 17, ground := Go.Ground.guard }], guard := some (17, true) } : Go.Oper)) (v := undef) rfl (by kernel_rfl) (by kernel_rfl) (by kernel_rfl) (fun _ _ _ h => h) (Or.inr ⟨by kernel_rfl, rfl⟩) hHeld ?_
            (try simp only [Act.put, List.setIfInBounds_toArray, List.set_cons_zero, List.set_cons_succ])
            refine wpAnyH_take (i := 26) (oi := ({ dst := some 89, op := Go.Op.load 22 (Go.Operand.tmp 88), type := 22, pos := "keep20.go:72", after := #[{ on := 25, ground := Go.Ground.data }, { on := 17, ground := Go.Ground.guard }], guard := some (17, true) } : Go.Oper)) (v := undef) rfl (by kernel_rfl) (by kernel_rfl) (by kernel_rfl) (fun _ _ _ h => h) (Or.inr ⟨by kernel_rfl, rfl⟩) hHeld ?_
            (try simp only [Act.put, List.setIfInBounds_toArray, List.set_cons_zero, List.set_cons_succ])
            refine wpAnyH_take (i := 27) (oi := ({ dst := some 90, op := Go.Op.call { callee := Go.Callee.value (Go.Operand.func 19), args := #[Go.Operand.tmp 85, Go.Operand.tmp 89], argTypes := #[22, 22] }, type := 4, pos := "keep20.go:72", after := #[{ on := 22, ground := Go.Ground.data }, { on := 26, ground := Go.Ground.data }, { on := 17, ground := Go.Ground.chain }, { on := 17, ground := Go.Ground.guard }], guard := some (17, true) } : Go.Oper)) (v := undef) rfl (by kernel_rfl) (by kernel_rfl) (by kernel_rfl) (fun _ _ _ h => h) (Or.inr ⟨by kernel_rfl, rfl⟩) hHeld ?_
            (try simp only [Act.put, List.setIfInBounds_toArray, List.set_cons_zero, List.set_cons_succ])
            refine wpAnyH_take (i := 28) (oi := ({ dst := some 91, op := Go.Op.unOp Go.UnOp.not 4 (Go.Operand.tmp 90), type := 4, pos := "keep20.go:72", after := #[{ on := 27, ground := Go.Ground.data }, { on := 17, ground := Go.Ground.guard }], guard := some (17, true) } : Go.Oper)) (v := undef) rfl (by kernel_rfl) (by kernel_rfl) (by kernel_rfl) (fun _ _ _ h => h) (Or.inr ⟨by kernel_rfl, rfl⟩) hHeld ?_
            (try simp only [Act.put, List.setIfInBounds_toArray, List.set_cons_zero, List.set_cons_succ])
            refine wpAnyH_take (i := 29) (oi := ({ dst := some 92, op := Go.Op.pick (Go.Operand.tmp 80) (Go.Operand.tmp 91) (Go.Operand.const (Go.Value.bool false)), type := 4, pos := "keep20.go:72", after := #[{ on := 17, ground := Go.Ground.data }, { on := 28, ground := Go.Ground.data }, { on := 14, ground := Go.Ground.guard }], guard := some (14, false) } : Go.Oper)) (v := ?_) rfl (by kernel_rfl) (by kernel_rfl) (by kernel_rfl) (fun _ _ _ h => h) (Or.inl ⟨by kernel_rfl, ?_⟩) hHeld ?_
            rotate_left
            · (intro w hSw; (try dsimp only at hSw); go_simp; first | done | with_reducible rfl)
            (try simp only [Act.put, List.setIfInBounds_toArray, List.set_cons_zero, List.set_cons_succ])
            refine wpAnyH_take (i := 30) (oi := ({ dst := some 93, op := Go.Op.pick (Go.Operand.tmp 77) (Go.Operand.const (Go.Value.bool true)) (Go.Operand.tmp 92), type := 4, pos := "keep20.go:72", after := #[{ on := 14, ground := Go.Ground.data }, { on := 29, ground := Go.Ground.data }], guard := none } : Go.Oper)) (v := ?_) rfl (by kernel_rfl) (by kernel_rfl) (by kernel_rfl) (fun _ _ _ h => h) (Or.inl ⟨by kernel_rfl, ?_⟩) hHeld ?_
            rotate_left
            · (intro w hSw; (try dsimp only at hSw); go_simp; first | done | with_reducible rfl)
            (try simp only [Act.put, List.setIfInBounds_toArray, List.set_cons_zero, List.set_cons_succ])
            refine wpAnyH_done (by kernel_rfl) ?_ _
            go_wp2
            go_roundw
            case rel => exact ⟨i + 1, by first | rfl | go_num | simp, ⟨by have := HII.out; omega⟩, ⟨Kd.C_below HC.out (by repeat (first | exact Below.refl _ _ | apply below_alloc | apply pw_below_drewN | apply below_drew1))⟩, ⟨Kd.C_below HCp.out (by repeat (first | exact Below.refl _ _ | apply below_alloc | apply pw_below_drewN | apply below_drew1))⟩, ⟨HB.out.trans (Below.mono (by repeat (first | exact Below.refl _ _ | apply below_alloc | apply pw_below_drewN | apply below_drew1)) HB.out.size)⟩⟩
            case measure => have := HII.out; simp [intOf]; omega
        · have z1 : decide ((0 : Int) < (i : Int)) = true := decide_eq_true (by omega)
          have z2 : decide (0 < i) = true := decide_eq_true (by omega)
          obtain ⟨j, hj⟩ : ∃ j, i = j + 1 := ⟨i - 1, by omega⟩
          have hji : i - 1 = j := by omega
          have e5 := E4.out hz
          rw [hji] at e5
          obtain ⟨ap', Aj, cj, eA', hxj, hjc, hjC⟩ := bobbinetkeep_WalkEach.row HCp.out j (by have := HII.out; omega)
          obtain rfl : ap = ap' := Option.some.inj eA'
          obtain ⟨p0, hp0⟩ : ∃ p0, ps.getD j [] = p0 := ⟨_, rfl⟩
          rw [hp0] at e5 hxj hjc hjC
          have E5 := Aside0.mk e5
          have HJC := Aside0.mk hjc
          have HjC := Aside0.mk hjC
          have hw : IntKind.i64.wrap ((i : Int) - 1) = (j : Int) := by rw [IntKind.wrap_i64]; omega
          have hj0 : (0 : Int) ≤ (j : Int) := by omega
          have hj1 : (j : Int) < (ps.length : Int) := by have := HII.out; omega
          clear hz hj hji e5 eA' hp0 hjc hjC
          go_wp2
          go_region_held3 (fun w' => w'.cell? ⟨g9, 0, none⟩ = some (.string r1) ∧ w'.cell? ⟨g9, 1, none⟩ = some (.slice B1 r2.length b1) ∧ w'.cell? ⟨g9, 2, none⟩ = some (.string r3) ∧ w'.cell? ⟨g9, 3, none⟩ = some (.slice B3 r4.length b3) ∧ w'.cell? ⟨g11, 0, none⟩ = some (.string s1) ∧ w'.cell? ⟨g11, 1, none⟩ = some (.slice A5 s2.length c5) ∧ w'.cell? ⟨g11, 2, none⟩ = some (.string s3) ∧ w'.cell? ⟨g11, 3, none⟩ = some (.slice A7 s4.length c7) ∧ w'.cell? (ap.add j) = some (.slice Aj p0.length cj) ∧ w'.cell? (ap.add i) = some (.slice Ai p.length ci)) (go_keep)
            (first
              | (go_at_call 18; (with_reducible refine (bobbinetkeep_WalkEach.same1 _ _ _ _ (⟨r1, r2, r3, r4⟩ : S28) (⟨s1, s2, s3, s4⟩ : S28) _ ?side1 (Nat.le_refl _) ?side3 (Nat.le_refl _) E3.out).mono ?_); (case side1 => exact bobbinetkeep_WalkEach.lit r1 r2 r3 r4 (by with_reducible (repeat (first | exact blk_new _ _ | exact bobbinetkeep_WalkEach.blk1 _ _ _ | refine blk_alloc ?_ _ | refine blk_drew ?_ | refine blk_drewN ?_ _))) G1.out.1 (Kd.C_below G1.out.2 (by repeat (first | exact Below.refl _ _ | apply below_alloc | apply pw_below_drewN | apply below_drew1))) G3.out.1 (Kd.C_below G3.out.2 (by repeat (first | exact Below.refl _ _ | apply below_alloc | apply pw_below_drewN | apply below_drew1)))); (case side3 => exact bobbinetkeep_WalkEach.lit s1 s2 s3 s4 (by with_reducible (repeat (first | exact blk_new _ _ | exact bobbinetkeep_WalkEach.blk1 _ _ _ | refine blk_alloc ?_ _ | refine blk_drew ?_ | refine blk_drewN ?_ _))) Q5.out.1 (Kd.C_below Q5.out.2 (by repeat (first | exact Below.refl _ _ | apply below_alloc | apply pw_below_drewN | apply below_drew1))) Q7.out.1 (Kd.C_below Q7.out.2 (by repeat (first | exact Below.refl _ _ | apply below_alloc | apply pw_below_drewN | apply below_drew1)))); rintro e w' ⟨rfl, ⟨⟨nd, rfl⟩⟩⟩)
              | (go_at_call 19; (with_reducible refine (bobbinetkeep_beforePath.calls k _ _ p0 _ _ p true _ ?side1 HJC.out ?side3 HIC.out E5.out).mono ?_); (case side1 => exact Kd.C_below HjC.out (by repeat (first | exact Below.refl _ _ | apply below_alloc | apply pw_below_drewN | apply below_drew1))); (case side3 => exact Kd.C_below HiC.out (by repeat (first | exact Below.refl _ _ | apply below_alloc | apply pw_below_drewN | apply below_drew1))); rintro e w' ⟨rfl, ⟨⟨nb, rfl⟩⟩⟩))
          all_goals (
            go_wp2
            go_roundw
            case rel => exact ⟨i + 1, by first | rfl | go_num | simp, ⟨by have := HII.out; omega⟩, ⟨Kd.C_below HC.out (by repeat (first | exact Below.refl _ _ | apply below_alloc | apply pw_below_drewN | apply below_drew1))⟩, ⟨Kd.C_below HCp.out (by repeat (first | exact Below.refl _ _ | apply below_alloc | apply pw_below_drewN | apply below_drew1))⟩, ⟨HB.out.trans (Below.mono (by repeat (first | exact Below.refl _ _ | apply below_alloc | apply pw_below_drewN | apply below_drew1)) HB.out.size)⟩⟩
            case measure => have := HII.out; simp [intOf]; omega
            )
    · have hlt : decide ((i : Int) < (ps.length : Int)) = false := decide_eq_false (by omega)
      go_wp2
      go_ret
      exact ⟨rfl, HB.out⟩
def bobbinetkeep_WalkEach.Good (k : Nat) (l0 : List Int) : Prop := ∃ t rest0 l t2 ps deep, bobbinetkeep_Nodes.f k l0 5 6 = some (t, rest0) ∧ l = t ++ [(⟨(⟨#[98]⟩ : ByteArray), ([] : List S68), (⟨#[]⟩ : ByteArray), ([] : List S28)⟩ : S28)] ∧ t.length < 1759218604441 ∧ bobbinetkeep_copiedNodes.f k l = some t2 ∧ walk_Paths.f k t2 = some ps ∧ tree_Count.f k l = some ((ps.length : Int), deep) ∧ 0 < ps.length ∧ ∀ i, i < ps.length → bobbinetkeep_WalkEach.Each k l t2 ps i
/-- what is left to be shown: numbers and lists alone -/
def bobbinetkeep_WalkEach.Pure : Prop := ∀ (l0 : List Int), l0.length ≤ maxLen → l0.length * 8 ≤ 140737488351232 → (∀ x ∈ l0, (Lit.int .i64 x).wf = true) → ∃ k, bobbinetkeep_WalkEach.Good k l0
theorem bobbinetkeep_WalkEach.walk (P : bobbinetkeep_WalkEach.Pure) (a0 : Option Addr) (len0 cap0 : Nat) (z0 : List Int) (w : World) (w0 : (a0 = none ∧ len0 = 0 ∧ cap0 = 0 ∧ z0 = []) ∨ ∃ x, a0 = some x ∧ len0 ≤ cap0 ∧ cap0 ≤ maxLen ∧ z0.length = cap0 ∧ (∀ i, i < z0.length → w.cell? (x.add i) = some (.int .i64 (z0.getD i 0))) ∧ ∀ n ∈ z0, (Lit.int .i64 n).wf = true) (y0 : len0 * 8 ≤ 140737488351232) :
    Calls Try.prog 3 #[.slice a0 len0 cap0] w fun e w' => e = .returned (.bool true) ∧ Below w.heap.size w w' := by
  obtain ⟨l0, rfl, hr0, hm0, hw0, hc0⟩ := ReadsInt.ofRowC w0
  obtain ⟨k, t, rest0, l, t2, ps, deep, h1, h2, h3, h4, h5, h6, h7, h8⟩ := P l0 hm0 y0 hw0
  exact bobbinetkeep_WalkEach.walk0 k _ _ l0 w (Kd.C_of_reads (d := (0 : Int)) (h1 := fun _ => rfl) hr0) hc0 t rest0 l t2 ps deep h1 h2 h3 h4 h5 h6 h7 h8
end Go.Proofs.Ytaibikajpacemaa.X
end
section
namespace Go.Proofs.Ytaibikajpacemaa.Base
open Go.RowKit Go.Proofs.YtaibikajpacemaaW.PrintWords
theorem toList_loop (s : ByteArray) : ∀ (n i : Nat) (r : List UInt8), s.size - i = n → ByteArray.toList.loop s i r = r.reverse ++ s.data.toList.drop i
  | 0, i, r, h => by
    unfold ByteArray.toList.loop
    have h1 : s.data.toList.drop i = [] := List.drop_eq_nil_of_le (by rw [Array.length_toList]; show s.size ≤ i; omega)
    rw [if_neg (by omega), h1, List.append_nil]
  | n + 1, i, r, h => by
    unfold ByteArray.toList.loop
    have hi : i < s.size := by omega
    have hl : i < s.data.toList.length := by rw [Array.length_toList]; exact hi
    have hg : s.get! i = s.data.toList[i] := by
      obtain ⟨d⟩ := s
      show d[i]! = _
      rw [getElem!_pos d i hi]
      simp
    rw [if_pos hi, toList_loop s n (i + 1) _ (by omega), hg, List.drop_eq_getElem_cons hl, List.reverse_cons, List.append_assoc]
    rfl
theorem toList_eq (s : ByteArray) : s.toList = s.data.toList := by
  unfold ByteArray.toList
  rw [toList_loop s _ 0 [] rfl]
  rfl
theorem toList_inj {s t : ByteArray} : s.toList = t.toList ↔ s = t := by
  rw [toList_eq, toList_eq]
  constructor
  · intro h
    exact ByteArray.ext (Array.toList_inj.1 h)
  · rintro rfl; rfl
theorem toList_nil {s : ByteArray} : s.toList = ([] : List UInt8) ↔ s = (⟨#[]⟩ : ByteArray) := by
  rw [toList_eq]
  constructor
  · intro h
    apply ByteArray.ext
    exact Array.toList_inj.1 h
  · rintro rfl; rfl
theorem Ev.ite_pos {α : Type} {c : Prop} [Decidable c] {g f : Nat → Option α} {r : α} (h : c) (k : Ev g r) : Ev (fun n => if c then g n else f n) r := by
  simpa only [if_pos h] using k
theorem Ev.ite_neg {α : Type} {c : Prop} [Decidable c] {g f : Nat → Option α} {r : α} (h : ¬ c) (k : Ev f r) : Ev (fun n => if c then g n else f n) r := by
  simpa only [if_neg h] using k
theorem Ev.some {α : Type} (r : α) : Ev (fun _ => Option.some r) r := ⟨0, fun _ _ => rfl⟩
/-- one round: what is told of k + 1 rounds -/
theorem Ev.one {α : Type} {g f : Nat → Option α} {r : α} (h : ∀ k, g (k + 1) = f k) (k : Ev f r) : Ev g r := by
  obtain ⟨K, hK⟩ := k
  refine ⟨K + 1, fun k hk => ?_⟩
  obtain ⟨m, rfl⟩ : ∃ m, k = m + 1 := ⟨k - 1, by omega⟩
  rw [h m]
  exact hK m (by omega)
theorem Ev.bnd {α β : Type} {g : Nat → Option α} {f : Nat → α → Option β} {a : α} {r : β} (h : Ev g a) (k : Ev (fun n => f n a) r) : Ev (fun n => (g n).bind (f n)) r := by
  obtain ⟨K, hK⟩ := h
  obtain ⟨L, hL⟩ := k
  refine ⟨K + L, fun n hn => ?_⟩
  show (g n).bind (f n) = _
  rw [hK n (by omega)]
  exact hL n (by omega)
theorem Ev.bnd0 {α β : Type} {g : Option α} {f : Nat → α → Option β} {a : α} {r : β} (h : g = Option.some a) (k : Ev (fun n => f n a) r) : Ev (fun n => g.bind (f n)) r := by
  subst h
  exact k
theorem wrap_id {i : Int} (h0 : -9223372036854775808 ≤ i) (h1 : i ≤ 9223372036854775807) : wrap64 i = i := by unfold wrap64; omega
theorem wrap_succ {i : Nat} {n : Nat} (h : i < n) (hn : n ≤ 9223372036854775807) : wrap64 ((i : Int) + 1) = ((i + 1 : Nat) : Int) := by unfold wrap64; omega
/-- Go's remainder, brought above 0 -/
theorem picked_eq (a n : Int) (h : 0 < n) (hn : n ≤ 4294967296) : (if Int.tmod a n < 0 then wrap64 (Int.tmod a n + n) else Int.tmod a n) = a % n := by
  have he := Int.tmod_eq_emod (a := a) (b := n)
  have h1 := Int.emod_nonneg a (show n ≠ 0 by omega)
  have h2 := Int.emod_lt_of_pos a h
  rw [he]
  split
  · rename_i hc
    rw [if_neg (by simp; omega)]
    simp
  · rename_i hc
    have hn2 : (n.natAbs : Int) = n := by omega
    rw [hn2, if_pos (by omega), wrap_id (by omega) (by omega)]
    omega
end Go.Proofs.Ytaibikajpacemaa.Base
end
section
namespace Go.Proofs.Ytaibikajpacemaa.Tree
open Go.RowKit Go.Proofs.Ytaibikajpacemaa.X Go.Proofs.YtaibikajpacemaaW.PrintWords Go.Proofs.YtaibikajpacemaaW.PrintLast Go.Proofs.Ytaibikajpacemaa.Base
set_option linter.unusedVariables false
set_option linter.unusedSimpArgs false
abbrev S := S28
theorem ind {P : List S → Prop} (h0 : P []) (h1 : ∀ n l, P n.f3 → P l → P (n :: l)) : ∀ l, P l
  | [] => h0
  | n :: l => h1 n l (ind h0 h1 n.f3) (ind h0 h1 l)
termination_by l => SizeOf.sizeOf l
decreasing_by all_goals (cases n; simp; omega)
/-- nodes, attributes and bytes of texts, all together -/
def tot : List S → Nat
  | [] => 0
  | n :: l => 1 + n.f1.length + n.f2.size + tot n.f3 + tot l
termination_by l => SizeOf.sizeOf l
decreasing_by all_goals (cases n; simp; omega)
theorem tot_nil : tot [] = 0 := by rw [tot]
theorem tot_cons (n : S) (l : List S) : tot (n :: l) = 1 + n.f1.length + n.f2.size + tot n.f3 + tot l := by rw [tot]
theorem tot_app (a b : List S) : tot (a ++ b) = tot a + tot b := by
  induction a with
  | nil => simp [tot_nil]
  | cons n a ih => rw [List.cons_append, tot_cons, tot_cons, ih]; omega
theorem tot_len : ∀ l : List S, l.length ≤ tot l
  | [] => by simp
  | n :: l => by have := tot_len l; rw [tot_cons]; simp; omega
theorem Ev.succ {α : Type} {g : Nat → Option α} {r : α} (h : Ev (fun k => g (k + 1)) r) : Ev g r := Ev.one (f := fun k => g (k + 1)) (fun _ => rfl) h
theorem rd_mid (pre : List S) (d : S) (suf : List S) : rd_T28 (pre ++ d :: suf) (pre.length : Int) = d := by
  simp [rd_T28, List.getD]
theorem rdI_zero (d : Int) (suf : List Int) : rd (d :: suf) 0 = d := rfl
theorem rdOf_mem {α : Type} (d : α) (l : List α) (i : Int) (h0 : 0 ≤ i) (h1 : i < l.length) : rdOf d l i ∈ l := by
  have : i.toNat < l.length := by omega
  simp [rdOf, List.getD, this]
theorem ind2 {P : List S → Prop} (h : ∀ l, (∀ n ∈ l, P n.f3) → P l) (l : List S) : P l := by
  have : ∀ n ∈ l, P n.f3 := by
    induction l using ind with
    | h0 => simp
    | h1 n l ih1 ih2 =>
      intro m hm
      rcases List.mem_cons.1 hm with rfl | hm
      · exact h _ ih1
      · exact ih2 m hm
  exact h l this
theorem tot_mem {n : S} : ∀ {l : List S}, n ∈ l → 1 + n.f1.length + n.f2.size + tot n.f3 ≤ tot l
  | m :: l, h => by
    rw [tot_cons]
    rcases List.mem_cons.1 h with rfl | h
    · omega
    · have := tot_mem h; omega
theorem wrap_pre (pre : List S) (n : S) (suf : List S) (h : tot (pre ++ n :: suf) ≤ 4611686018427387904) : wrap64 ((pre.length : Int) + 1) = ((pre ++ [n]).length : Int) := by
  have h1 := tot_len (pre ++ n :: suf)
  simp at h1
  rw [wrap_id (by omega) (by omega)]
  simp
end Go.Proofs.Ytaibikajpacemaa.Tree
end
section
namespace Go.Proofs.Ytaibikajpacemaa.Tree
open Go.RowKit Go.Proofs.Ytaibikajpacemaa.X Go.Proofs.YtaibikajpacemaaW.PrintWords Go.Proofs.YtaibikajpacemaaW.PrintLast Go.Proofs.Ytaibikajpacemaa.Base
set_option linter.unusedVariables false
set_option linter.unusedSimpArgs false
def cnt : List S → Nat
  | [] => 0
  | n :: l => 1 + cnt n.f3 + cnt l
termination_by l => SizeOf.sizeOf l
decreasing_by all_goals (cases n; simp; omega)
theorem cnt_nil : cnt [] = 0 := by rw [cnt]
theorem cnt_cons (n : S) (l : List S) : cnt (n :: l) = 1 + cnt n.f3 + cnt l := by rw [cnt]
theorem cnt_app (a b : List S) : cnt (a ++ b) = cnt a + cnt b := by
  induction a with
  | nil => simp [cnt_nil]
  | cons n a ih => rw [List.cons_append, cnt_cons, cnt_cons, ih]; omega
theorem cnt_len : ∀ l : List S, l.length ≤ cnt l
  | [] => by simp
  | n :: l => by have := cnt_len l; rw [cnt_cons]; simp; omega
theorem wrap_add {a b : Nat} (h : a + b ≤ 9223372036854775807) : wrap64 ((a : Int) + (b : Int)) = ((a + b : Nat) : Int) := by rw [wrap_id (by omega) (by omega)]; omega
theorem mx_nat (a b m : Nat) (ha : a ≤ m) (hb : b ≤ m) : ∃ d : Nat, d ≤ m ∧ mx (a : Int) (b : Int) = (d : Int) := by
  by_cases c : (a : Int) < (b : Int)
  · exact ⟨b, hb, if_pos c⟩
  · exact ⟨a, ha, if_neg c⟩
theorem count_ev (l : List S) : cnt l ≤ 4611686018427387904 → ∃ dp : Nat, dp ≤ cnt l ∧ Ev (fun k => tree_Count.f k l) ((cnt l : Int), (dp : Int)) := by
  induction l using ind2 with
  | h l ih =>
    intro hl
    have main : ∀ (suf pre : List S) (dp : Nat), l = pre ++ suf → dp ≤ cnt l → ∃ dp' : Nat, dp' ≤ cnt l ∧ Ev (fun k => tree_Count.l0 k (cnt pre : Int) (dp : Int) l (l.length : Int) (pre.length : Int)) ((cnt l : Int), (dp' : Int)) := by
      intro suf
      induction suf with
      | nil =>
        intro pre dp e hd
        have e2 : l = pre := by simpa using e
        refine ⟨dp, hd, Ev.succ ?_⟩
        simp only [tree_Count.l0]
        refine Ev.ite_neg (by rw [e2]; omega) ?_
        rw [← e2]
        exact Ev.now _
      | cons n suf ihs =>
        intro pre dp e hd
        have hlen : l.length = pre.length + suf.length + 1 := by rw [e]; simp; omega
        have hc : cnt l = cnt pre + (1 + cnt n.f3 + cnt suf) := by rw [e, cnt_app, cnt_cons]
        have hll := cnt_len l
        have hrd : rd_T28 l (pre.length : Int) = n := by rw [e]; exact rd_mid pre n suf
        obtain ⟨d1, hd1, h1⟩ := ih n (by rw [e]; simp) (by omega)
        have o1 : (pre.length : Int) < (l.length : Int) := by omega
        have o2 : 0 ≤ (pre.length : Int) := by omega
        have b0 : d1 + 1 ≤ cnt l := by omega
        have b1 : cnt n.f3 < 9223372036854775807 := by omega
        have b2 : cnt pre + (cnt n.f3 + 1) ≤ 9223372036854775807 := by omega
        have b3 : d1 < 9223372036854775807 := by omega
        have b4 : pre.length < 9223372036854775807 := by omega
        have w1 := wrap_succ b1 (Nat.le_refl _)
        have w2 : wrap64 ((cnt pre : Int) + ((cnt n.f3 + 1 : Nat) : Int)) = (cnt (pre ++ [n]) : Int) := (wrap_add b2).trans (congrArg _ (by rw [cnt_app, cnt_cons, cnt_nil, Nat.add_zero, Nat.add_comm 1]))
        have w3 := wrap_succ b3 (Nat.le_refl _)
        have w4 : wrap64 ((pre.length : Int) + 1) = ((pre ++ [n]).length : Int) := (wrap_succ b4 (Nat.le_refl _)).trans (congrArg _ (by simp))
        obtain ⟨d2, hd2, e2⟩ := mx_nat dp (d1 + 1) (cnt l) hd b0
        obtain ⟨dp', h2, h3⟩ := ihs (pre ++ [n]) d2 (by rw [e]; simp) hd2
        refine ⟨dp', h2, Ev.succ ?_⟩
        simp only [tree_Count.l0, hrd]
        refine Ev.ite_pos o1 (Ev.ite_pos o2 (Ev.ite_pos o1 (Ev.bnd h1 ?_)))
        simp only [w1, w2, w3, w4, e2]
        exact h3
    obtain ⟨dp, h1, h2⟩ := main l [] 0 rfl (by omega)
    refine ⟨dp, h1, Ev.succ ?_⟩
    simp only [tree_Count.f]
    rw [cnt_nil] at h2
    exact h2
end Go.Proofs.Ytaibikajpacemaa.Tree
end
section
namespace Go.Proofs.Ytaibikajpacemaa.Tree
open Go.RowKit Go.Proofs.Ytaibikajpacemaa.X Go.Proofs.YtaibikajpacemaaW.PrintWords Go.Proofs.YtaibikajpacemaaW.PrintLast Go.Proofs.Ytaibikajpacemaa.Base
set_option linter.unusedVariables false
set_option linter.unusedSimpArgs false
/-- all paths of nodes, the first of which is node i -/
def pathsFrom : Nat → List S → List (List Int)
  | _, [] => []
  | i, n :: l => [(i : Int)] :: ((pathsFrom 0 n.f3).map (fun p => (i : Int) :: p) ++ pathsFrom (i + 1) l)
termination_by _ l => SizeOf.sizeOf l
decreasing_by all_goals (cases n; simp; omega)
theorem pathsFrom_nil (i : Nat) : pathsFrom i [] = [] := by rw [pathsFrom]
theorem pathsFrom_cons (i : Nat) (n : S) (l : List S) : pathsFrom i (n :: l) = [(i : Int)] :: ((pathsFrom 0 n.f3).map (fun p => (i : Int) :: p) ++ pathsFrom (i + 1) l) := by rw [pathsFrom]
theorem paths_len : ∀ (l : List S) (i : Nat), (pathsFrom i l).length = cnt l := by
  intro l
  induction l using ind with
  | h0 => intro i; rw [pathsFrom_nil, cnt_nil]; rfl
  | h1 n l ih1 ih2 =>
    intro i
    rw [pathsFrom_cons, cnt_cons]
    simp only [List.length_cons, List.length_append, List.length_map, ih1, ih2]
    omega
theorem path_long : ∀ (l : List S) (i : Nat), ∀ p ∈ pathsFrom i l, p.length ≤ cnt l := by
  intro l
  induction l using ind with
  | h0 => intro i p hp; rw [pathsFrom_nil] at hp; cases hp
  | h1 n l ih1 ih2 =>
    intro i p hp
    rw [pathsFrom_cons] at hp
    rw [cnt_cons]
    simp only [List.mem_cons, List.mem_append, List.mem_map] at hp
    rcases hp with rfl | ⟨q, hq, rfl⟩ | hp
    · simp; omega
    · have := ih1 0 q hq; simp; omega
    · have := ih2 (i + 1) p hp; omega
theorem path_ge : ∀ (l : List S) (i : Nat), ∀ p ∈ pathsFrom i l, ∃ j : Nat, i ≤ j ∧ ∃ q, p = (j : Int) :: q := by
  intro l
  induction l using ind with
  | h0 => intro i p hp; rw [pathsFrom_nil] at hp; cases hp
  | h1 n l ih1 ih2 =>
    intro i p hp
    rw [pathsFrom_cons] at hp
    simp only [List.mem_cons, List.mem_append, List.mem_map] at hp
    rcases hp with rfl | ⟨q, hq, rfl⟩ | hp
    · exact ⟨i, Nat.le_refl _, [], rfl⟩
    · exact ⟨i, Nat.le_refl _, q, rfl⟩
    · obtain ⟨j, hj, q, rfl⟩ := ih2 (i + 1) p hp
      exact ⟨j, by omega, q, rfl⟩
/-- one path is ahead of another one -/
inductive Bf : List Int → List Int → Prop
  | nil (b : Int) (bs : List Int) : Bf [] (b :: bs)
  | lt {a b : Int} (xs ys : List Int) : a < b → Bf (a :: xs) (b :: ys)
  | cons (a : Int) {xs ys : List Int} : Bf xs ys → Bf (a :: xs) (a :: ys)
theorem paths_order : ∀ (l : List S) (i : Nat), (pathsFrom i l).Pairwise Bf := by
  intro l
  induction l using ind with
  | h0 => intro i; rw [pathsFrom_nil]; exact .nil
  | h1 n l ih1 ih2 =>
    intro i
    rw [pathsFrom_cons, List.pairwise_cons, List.pairwise_append]
    refine ⟨fun p hp => ?_, ?_, ih2 (i + 1), fun p hp q hq => ?_⟩
    · rcases List.mem_append.1 hp with hp | hp
      · obtain ⟨q, hq, rfl⟩ := List.mem_map.1 hp
        obtain ⟨j, _, r, rfl⟩ := path_ge _ _ _ hq
        exact .cons _ (.nil _ _)
      · obtain ⟨j, hj, r, rfl⟩ := path_ge _ _ _ hp
        exact .lt _ _ (by omega)
    · rw [List.pairwise_map]
      exact (ih1 0).imp (fun h => .cons _ h)
    · obtain ⟨r, hr, rfl⟩ := List.mem_map.1 hp
      obtain ⟨j, hj, s, rfl⟩ := path_ge _ _ _ hq
      exact .lt _ _ (by omega)
/-- texts have no parts -/
def Named (l : List S) : Prop := ∀ n ∈ l, (n.f3 ≠ [] → n.f0 ≠ (⟨#[]⟩ : ByteArray)) ∧ Named n.f3
termination_by SizeOf.sizeOf l
decreasing_by
  rename_i h
  have := List.sizeOf_lt_of_mem h
  cases n
  simp at this ⊢
  omega
theorem Named_iff (l : List S) : Named l ↔ ∀ n ∈ l, (n.f3 ≠ [] → n.f0 ≠ (⟨#[]⟩ : ByteArray)) ∧ Named n.f3 := by rw [Named]
/-- a path that leads to a node -/
inductive IsPath : List S → List Int → S → Prop
  | here (pre : List S) (n : S) (suf : List S) : IsPath (pre ++ n :: suf) [(pre.length : Int)] n
  | deep (pre : List S) (n : S) (suf : List S) {p : List Int} {m : S} : n.f0 ≠ (⟨#[]⟩ : ByteArray) → IsPath n.f3 p m → IsPath (pre ++ n :: suf) ((pre.length : Int) :: p) m
theorem paths_is : ∀ (suf pre : List S), Named suf → ∀ p ∈ pathsFrom pre.length suf, ∃ m, IsPath (pre ++ suf) p m := by
  intro suf
  induction suf using ind with
  | h0 => intro pre _ p hp; rw [pathsFrom_nil] at hp; cases hp
  | h1 n l ih1 ih2 =>
    intro pre hn p hp
    rw [Named_iff] at hn
    obtain ⟨hn1, hn2⟩ := hn n List.mem_cons_self
    have hnl : Named l := by rw [Named_iff]; exact fun m hm => hn m (List.mem_cons_of_mem _ hm)
    rw [pathsFrom_cons] at hp
    simp only [List.mem_cons, List.mem_append, List.mem_map] at hp
    rcases hp with rfl | ⟨q, hq, rfl⟩ | hp
    · exact ⟨n, .here pre n l⟩
    · obtain ⟨m, hm⟩ := ih1 [] hn2 q hq
      refine ⟨m, .deep pre n l (hn1 fun h => ?_) hm⟩
      rw [h] at hq
      have hq : q ∈ pathsFrom 0 [] := hq
      rw [pathsFrom_nil] at hq
      cases hq
    · have := ih2 (pre ++ [n]) hnl p (by simpa using hp)
      simpa using this
theorem IsPath.tot {l : List S} {p : List Int} {m : S} (h : IsPath l p m) : p.length ≤ Tree.tot l ∧ p.length ≠ 0 := by
  induction h with
  | here pre n suf =>
    have := tot_app pre (n :: suf)
    rw [tot_cons] at this
    simp; omega
  | deep pre n suf h0 h1 ih =>
    have := tot_app pre (n :: suf)
    rw [tot_cons] at this
    simp; omega
theorem rd_at (q : List Int) (a : Int) (p : List Int) : rd (q ++ a :: p) (q.length : Int) = a := by simp [rd, List.getD]
theorem node_loop (ps : List Int) (hps : ps.length ≤ 1099511627776) : ∀ {l : List S} {p : List Int} {m : S}, IsPath l p m → ∀ (q : List Int) (n : S), ps = q ++ p → l.length ≤ 1099511627776 → Tree.tot l ≤ 1099511627776 → Ev (fun k => bobbinetkeep_nodeAt.l0 k l ps (q.length : Int) n.f0 n.f1 n.f2 n.f3) (m.f0, m.f1, m.f2, m.f3, true) := by
  intro l p m h
  induction h with
  | here pre n suf =>
    intro q x hq hl ht
    have hlen : ps.length = q.length + 1 := by rw [hq]; simp
    have hrd : rd ps (q.length : Int) = (pre.length : Int) := by rw [hq]; exact rd_at _ _ _
    have hw : wrap64 ((q.length : Int) + 1) = ((q.length + 1 : Nat) : Int) := wrap_succ (n := q.length + 1) (by omega) (by omega)
    have hll : (pre ++ n :: suf).length = pre.length + suf.length + 1 := by simp; omega
    have e : decide ((ps.length : Int) > 0) = true := decide_eq_true (by omega)
    refine Ev.succ ?_
    simp only [bobbinetkeep_nodeAt.l0, hrd, rd_mid, hw]
    refine Ev.ite_pos (by omega) (Ev.ite_pos (by omega) (Ev.ite_neg (by omega) (Ev.ite_neg (by omega) (Ev.ite_pos (by omega) (Ev.ite_pos (by omega) (Ev.succ ?_))))))
    simp only [bobbinetkeep_nodeAt.l0, e]
    exact Ev.ite_neg (by omega) (Ev.now _)
  | @deep pre n suf p m h0 h1 ih =>
    intro q x hq hl ht
    have htt := tot_app pre (n :: suf)
    rw [tot_cons] at htt
    have hlen : ps.length = q.length + p.length + 1 := by rw [hq]; simp; omega
    have hrd : rd ps (q.length : Int) = (pre.length : Int) := by rw [hq]; exact rd_at _ _ _
    have hw : wrap64 ((q.length : Int) + 1) = ((q ++ [(pre.length : Int)]).length : Int) := by rw [wrap_succ (n := q.length + 1) (by omega) (by omega)]; simp
    have hll : (pre ++ n :: suf).length = pre.length + suf.length + 1 := by simp; omega
    have hnl := tot_len n.f3
    refine Ev.succ ?_
    simp only [bobbinetkeep_nodeAt.l0, hrd, rd_mid, hw]
    exact Ev.ite_pos (by omega) (Ev.ite_pos (by omega) (Ev.ite_neg (by omega) (Ev.ite_neg (by omega) (Ev.ite_pos (by omega) (Ev.ite_pos (by omega) (ih (q ++ [(pre.length : Int)]) n (by rw [hq]; simp) (by omega) (by omega)))))))
theorem nodeAt_f {l : List S} {p : List Int} {m : S} (h : IsPath l p m) (ht : Tree.tot l ≤ 1099511627776) : Ev (fun k => bobbinetkeep_nodeAt.f k l p) (m.f0, m.f1, m.f2, m.f3, true) := by
  have := h.tot
  have hl := tot_len l
  simp only [bobbinetkeep_nodeAt.f]
  exact node_loop p (by omega) h [] ⟨(⟨#[]⟩ : ByteArray), [], (⟨#[]⟩ : ByteArray), []⟩ rfl (by omega) ht
theorem attr_f (a : List S68) (h : a.length ≤ 1099511627776) : api_Attr.f a = some a := if_pos (by omega)
theorem copies_f (l : List S) : Tree.tot l ≤ 1099511627776 → Ev (fun k => walk_copies.f k l) l := by
  induction l using ind2 with
  | h l ih =>
    intro ht
    have main : ∀ (suf pre : List S), l = pre ++ suf → Ev (fun k => walk_copies.l0 k pre l (l.length : Int) (pre.length : Int)) l := by
      intro suf
      induction suf with
      | nil =>
        intro pre e
        have e2 : l = pre := by simpa using e
        refine Ev.succ ?_
        simp only [walk_copies.l0]
        refine Ev.ite_neg (by rw [e2]; omega) ?_
        rw [← e2]
        exact Ev.now _
      | cons n suf ihs =>
        intro pre e
        have hm := tot_mem (show n ∈ l by rw [e]; simp)
        have hl := tot_len l
        have h3 : l.length = pre.length + suf.length + 1 := by rw [e]; simp; omega
        have hrd : rd_T28 l (pre.length : Int) = n := by rw [e]; exact rd_mid _ _ _
        have hw : wrap64 ((pre.length : Int) + 1) = ((pre ++ [n]).length : Int) := by rw [wrap_succ (n := pre.length + 1) (by omega) (by omega)]; simp
        have hc : Ev (fun k => walk_Copy.f k n.f0 n.f1 n.f2 n.f3) (n.f0, n.f1, n.f2, n.f3) := by
          refine Ev.succ ?_
          simp only [walk_Copy.f]
          exact Ev.bnd0 (attr_f _ (by omega)) (Ev.bnd (ih n (by rw [e]; simp) (by omega)) (Ev.now _))
        refine Ev.succ ?_
        simp only [walk_copies.l0, hrd, hw]
        refine Ev.ite_pos (by omega) (Ev.ite_pos (by omega) (Ev.ite_pos (by omega) (Ev.bnd hc (Ev.ite_pos (by omega) ?_))))
        have h4 := ihs (pre ++ [n]) (by rw [e]; simp)
        cases n
        exact h4
    refine Ev.succ ?_
    simp only [walk_copies.f]
    exact main l [] rfl
theorem copy_f (n : S) (h1 : n.f1.length ≤ 1099511627776) (h3 : Tree.tot n.f3 ≤ 1099511627776) : Ev (fun k => walk_Copy.f k n.f0 n.f1 n.f2 n.f3) (n.f0, n.f1, n.f2, n.f3) := by
  refine Ev.succ ?_
  simp only [walk_Copy.f]
  exact Ev.bnd0 (attr_f _ h1) (Ev.bnd (copies_f _ h3) (Ev.now _))
theorem at_one (l : List S) (x : List Int) (i : Nat) (n : S) (hx : x.length = 1) (hx0 : rd x 0 = (i : Int)) (hi : i < l.length) (hrd : rd_T28 l (i : Int) = n) (h1 : n.f1.length ≤ 1099511627776) (h3 : Tree.tot n.f3 ≤ 1099511627776) : Ev (fun k => walk_At.f k l x) (n.f0, n.f1, n.f2, n.f3, 0) := by
  have e : decide ((i : Int) ≥ (l.length : Int)) = false := decide_eq_false (by omega)
  refine Ev.succ ?_
  simp only [walk_At.f, hx0, e]
  refine Ev.ite_neg (by omega) (Ev.ite_pos (by omega) (Ev.ite_neg (by omega) (Ev.succ ?_)))
  simp only [walk_At.j0, hx0, hrd]
  exact Ev.ite_neg (by simp) (Ev.ite_pos (by omega) (Ev.ite_pos (by omega) (Ev.ite_pos (by omega) (Ev.ite_pos (by omega) (Ev.bnd (copy_f n h1 h3) (Ev.now _))))))
theorem at_more (l : List S) (x : List Int) (i : Nat) (n m : S) (hx : 1 < x.length) (hx0 : rd x 0 = (i : Int)) (hi : i < l.length) (hrd : rd_T28 l (i : Int) = n) (h0 : n.f0 ≠ (⟨#[]⟩ : ByteArray)) (h : Ev (fun k => walk_At.f k n.f3 (x.drop 1)) (m.f0, m.f1, m.f2, m.f3, 0)) : Ev (fun k => walk_At.f k l x) (m.f0, m.f1, m.f2, m.f3, 0) := by
  have e : decide ((i : Int) ≥ (l.length : Int)) = false := decide_eq_false (by omega)
  refine Ev.succ ?_
  simp only [walk_At.f, hx0, e]
  refine Ev.ite_neg (by omega) (Ev.ite_pos (by omega) (Ev.ite_neg (by omega) (Ev.succ ?_)))
  simp only [walk_At.j0, hx0, hrd]
  exact Ev.ite_neg (by simp) (Ev.ite_pos (by omega) (Ev.ite_pos (by omega) (Ev.ite_pos (by omega) (Ev.ite_neg (by omega) (Ev.ite_neg (fun h => h0 (toList_nil.1 h)) (Ev.ite_pos (by omega) (Ev.bnd h (Ev.now _))))))))
theorem at_f {l : List S} {p : List Int} {m : S} (h : IsPath l p m) : Tree.tot l ≤ 1099511627776 → Ev (fun k => walk_At.f k l p) (m.f0, m.f1, m.f2, m.f3, 0) := by
  induction h with
  | here pre n suf =>
    intro ht
    have htt := tot_app pre (n :: suf)
    rw [tot_cons] at htt
    exact at_one _ _ pre.length n rfl rfl (by simp) (rd_mid _ _ _) (by omega) (by omega)
  | @deep pre n suf p m h0 h1 ih =>
    intro ht
    have htt := tot_app pre (n :: suf)
    rw [tot_cons] at htt
    have hp := h1.tot
    exact at_more _ _ pre.length n m (by simp; omega) rfl (by simp) (rd_mid _ _ _) h0 (ih (by omega))
theorem before_loop (x y : List Int) (hx : x.length ≤ 1099511627776) : ∀ {a b : List Int}, Bf a b → ∀ q : List Int, x = q ++ a → y = q ++ b → Ev (fun k => bobbinetkeep_beforePath.l0 k x y (q.length : Int)) true := by
  intro a b h
  induction h with
  | nil c bs =>
    intro q hx' hy
    have h1 : x.length = q.length := by rw [hx']; simp
    have h2 : y.length = q.length + bs.length + 1 := by rw [hy]; simp; omega
    refine Ev.succ ?_
    simp only [bobbinetkeep_beforePath.l0]
    refine Ev.ite_neg (by omega) (Ev.succ ?_)
    simp only [bobbinetkeep_beforePath.j1]
    have e : decide ((x.length : Int) < (y.length : Int)) = true := decide_eq_true (by omega)
    rw [e]
    exact Ev.ite_neg (by simp) (Ev.now _)
  | @lt c d xs bs hcd =>
    intro q hx' hy
    have h1 : x.length = q.length + xs.length + 1 := by rw [hx']; simp; omega
    have h2 : y.length = q.length + bs.length + 1 := by rw [hy]; simp; omega
    have hr1 : rd x (q.length : Int) = c := by rw [hx']; exact rd_at _ _ _
    have hr2 : rd y (q.length : Int) = d := by rw [hy]; exact rd_at _ _ _
    have e : decide ((q.length : Int) < (y.length : Int)) = true := decide_eq_true (by omega)
    have e2 : decide (c < d) = true := decide_eq_true hcd
    refine Ev.succ ?_
    simp only [bobbinetkeep_beforePath.l0, e]
    refine Ev.ite_pos (by omega) (Ev.succ ?_)
    simp only [bobbinetkeep_beforePath.j1, hr1, hr2, e2]
    exact Ev.ite_pos (by simp) (Ev.ite_pos (by omega) (Ev.ite_pos (by omega) (Ev.ite_pos (by omega) (Ev.ite_neg (by omega) (Ev.now _)))))
  | @cons c xs bs h ih =>
    intro q hx' hy
    have h1 : x.length = q.length + xs.length + 1 := by rw [hx']; simp; omega
    have h2 : y.length = q.length + bs.length + 1 := by rw [hy]; simp; omega
    have hr1 : rd x (q.length : Int) = c := by rw [hx']; exact rd_at _ _ _
    have hr2 : rd y (q.length : Int) = c := by rw [hy]; exact rd_at _ _ _
    have e : decide ((q.length : Int) < (y.length : Int)) = true := decide_eq_true (by omega)
    have hw : wrap64 ((q.length : Int) + 1) = ((q ++ [c]).length : Int) := by rw [wrap_succ (n := q.length + 1) (by omega) (by omega)]; simp
    refine Ev.succ ?_
    simp only [bobbinetkeep_beforePath.l0, e]
    refine Ev.ite_pos (by omega) (Ev.succ ?_)
    simp only [bobbinetkeep_beforePath.j1, hr1, hr2, hw]
    exact Ev.ite_pos (by simp) (Ev.ite_pos (by omega) (Ev.ite_pos (by omega) (Ev.ite_pos (by omega) (Ev.ite_pos (by first | trivial | rfl) (ih (q ++ [c]) (by rw [hx']; simp) (by rw [hy]; simp))))))
theorem before_f {a b : List Int} (h : Bf a b) (ha : a.length ≤ 1099511627776) : Ev (fun k => bobbinetkeep_beforePath.f k a b) true := by
  simp only [bobbinetkeep_beforePath.f]
  exact before_loop a b ha h [] rfl rfl
theorem rdL_at (pre : List (List Int)) (p : List Int) (suf : List (List Int)) : (pre ++ p :: suf).getD ((pre.length : Int)).toNat [] = p := by simp [List.getD]
end Go.Proofs.Ytaibikajpacemaa.Tree
end
section
namespace Go.Proofs.Ytaibikajpacemaa.Tree
open Go.RowKit Go.Proofs.Ytaibikajpacemaa.X Go.Proofs.YtaibikajpacemaaW.PrintWords Go.Proofs.YtaibikajpacemaaW.PrintLast Go.Proofs.Ytaibikajpacemaa.Base
set_option linter.unusedVariables false
set_option linter.unusedSimpArgs false
theorem picked_f (a n : Int) (h : 0 < n) (hn : n ≤ 4294967296) : bobbinetkeep_Picked.f a n = some (a % n) := by
  have := picked_eq a n h hn
  unfold bobbinetkeep_Picked.f
  rw [if_neg (by omega), ← this]
  split <;> rfl
def texts : List ByteArray := [(⟨#[120]⟩ : ByteArray), (⟨#[97, 60, 98]⟩ : ByteArray), (⟨#[38, 97, 109, 112, 59]⟩ : ByteArray), (⟨#[121, 32, 122]⟩ : ByteArray), (⟨#[32]⟩ : ByteArray), (⟨#[60, 112, 62]⟩ : ByteArray)]
def voids : List ByteArray := [(⟨#[98, 114]⟩ : ByteArray), (⟨#[105, 109, 103]⟩ : ByteArray)]
def elems : List ByteArray := [(⟨#[100, 105, 118]⟩ : ByteArray), (⟨#[98]⟩ : ByteArray), (⟨#[101, 109]⟩ : ByteArray), (⟨#[112]⟩ : ByteArray), (⟨#[97]⟩ : ByteArray), (⟨#[117, 108]⟩ : ByteArray)]
def vals : List ByteArray := [(⟨#[]⟩ : ByteArray), (⟨#[120]⟩ : ByteArray), (⟨#[97, 34, 98, 38]⟩ : ByteArray), (⟨#[60]⟩ : ByteArray), (⟨#[104, 116, 116, 112, 58, 47, 47, 121]⟩ : ByteArray)]
abbrev nil : ByteArray := (⟨#[]⟩ : ByteArray)
/-- nodes, not deeper than d, at most m -/
inductive Good : Nat → Nat → List S → Prop
  | none (d m : Nat) : Good d m []
  | text {d m : Nat} {l : List S} {t : ByteArray} : Good d m l → l.length < m → (∀ p : S, l.getLast? = some p → p.f0 ≠ nil) → t ∈ texts → Good d m (l ++ [(⟨nil, [], t, []⟩ : S)])
  | void {d m : Nat} {l : List S} {t : ByteArray} : Good d m l → l.length < m → t ∈ voids → Good d m (l ++ [(⟨t, [], nil, []⟩ : S)])
  | elem {d m : Nat} {l q : List S} {t : ByteArray} {a : List S68} : Good d m l → l.length < m → 1 < d → t ∈ elems → (a = [] ∨ ∃ v ∈ vals, a = [(⟨(⟨#[104, 114, 101, 102]⟩ : ByteArray), v⟩ : S68)]) → Good (d - 1) 4 q → Good d m (l ++ [(⟨t, a, nil, q⟩ : S)])
set_option maxHeartbeats 1000000 in
theorem nodes_ev : ∀ (N : Nat) (l : List Int), l.length ≤ N → l.length ≤ 17592186044416 → ∀ (d m : Nat) (acc : List S), d ≤ 10 → m ≤ 10 → Good d m acc → acc.length ≤ m → ∃ out rest, Ev (fun k => bobbinetkeep_Nodes.l0 k l (d : Int) (m : Int) acc) (out, rest) ∧ Good d m out ∧ out.length ≤ m ∧ rest.length ≤ l.length := by
  intro N
  induction N with
  | zero =>
    intro l hl hl2 d m acc hd hm hg ha
    obtain rfl : l = [] := List.length_eq_zero_iff.1 (by omega)
    refine ⟨acc, [], ?_, hg, ha, Nat.le_refl _⟩
    refine Ev.succ ?_
    simp only [bobbinetkeep_Nodes.l0]
    refine Ev.ite_neg (by simp) (Ev.succ ?_)
    simp only [bobbinetkeep_Nodes.j1, rdI_zero]
    exact Ev.ite_neg (by simp) (Ev.now _)
  | succ N ih =>
    intro l hl hl2 d m acc hd hm hg ha
    cases l with
    | nil =>
      refine ⟨acc, [], ?_, hg, ha, Nat.le_refl _⟩
      refine Ev.succ ?_
      simp only [bobbinetkeep_Nodes.l0]
      refine Ev.ite_neg (by simp) (Ev.succ ?_)
      simp only [bobbinetkeep_Nodes.j1, rdI_zero]
      exact Ev.ite_neg (by simp) (Ev.now _)
    | cons x l =>
      simp only [List.length_cons] at hl hl2
      by_cases hc : acc.length < m
      · have key : ∀ r : List S × List Int, Ev (fun k => bobbinetkeep_Nodes.j1 k (x :: l) (d : Int) (m : Int) acc true) r → Ev (fun k => bobbinetkeep_Nodes.l0 k (x :: l) (d : Int) (m : Int) acc) r := by
          intro r hr
          refine Ev.succ ?_
          simp only [bobbinetkeep_Nodes.l0]
          rw [decide_eq_true (show (acc.length : Int) < (m : Int) by omega)]
          exact Ev.ite_pos (by simp) hr
        have go : ∀ (acc' : List S) (l' : List Int), l'.length ≤ l.length → Good d m acc' → acc'.length ≤ m → ∃ out rest, Ev (fun k => bobbinetkeep_Nodes.l0 k l' (d : Int) (m : Int) acc') (out, rest) ∧ Good d m out ∧ out.length ≤ m ∧ rest.length ≤ (x :: l).length := by
          intro acc' l' h1 h2 h3
          obtain ⟨out, rest, h4, h5, h6, h7⟩ := ih l' (by omega) (by omega) d m acc' hd hm h2 h3
          exact ⟨out, rest, h4, h5, h6, by simp; omega⟩
        have q0 := Int.emod_nonneg x (show (6 : Int) ≠ 0 by omega)
        have q1 := Int.emod_lt_of_pos x (show (0 : Int) < 6 by omega)
        have len : ((x :: l).length : Int) = (l.length : Int) + 1 := by simp
        by_cases c0 : x % 6 = 0
        · refine ⟨acc, l, key _ ?_, hg, ha, by simp⟩
          refine Ev.succ ?_
          simp only [bobbinetkeep_Nodes.j1, rdI_zero]
          refine Ev.ite_pos trivial (Ev.ite_pos (by omega) (Ev.ite_pos (by omega) (Ev.bnd0 rfl (Ev.bnd0 (picked_f _ _ (by omega) (by omega)) ?_))))
          exact Ev.ite_pos c0 (Ev.now _)
        by_cases c1 : x % 6 = 1
        · have fin : ∀ i : Int, 0 ≤ i → i < 6 → (∀ p : S, acc.getLast? = some p → p.f0 ≠ nil) → ∃ out rest, Ev (fun k => bobbinetkeep_Nodes.l0 k l (d : Int) (m : Int) (acc ++ [(⟨(⟨#[]⟩ : ByteArray), ([] : List S68), rdOf ByteArray.empty texts i, ([] : List S)⟩ : S)])) (out, rest) ∧ Good d m out ∧ out.length ≤ m ∧ rest.length ≤ (x :: l).length := by
            intro i h0 h1 h2
            exact go _ l (Nat.le_refl _) (Good.text hg hc h2 (rdOf_mem _ _ _ h0 (by simpa [texts] using h1))) (by simp; omega)
          have p2 := Int.emod_nonneg (wrap64 (Int.tdiv x 6)) (show (6 : Int) ≠ 0 by omega)
          have p3 := Int.emod_lt_of_pos (wrap64 (Int.tdiv x 6)) (show (0 : Int) < 6 by omega)
          by_cases ca : 0 < acc.length
          · obtain ⟨init, p, hp⟩ : ∃ init p, acc = init ++ [p] := by
              rcases List.eq_nil_or_concat acc with h | ⟨i, p, h⟩
              · subst h; simp at ca
              · exact ⟨i, p, by simpa using h⟩
            have hw : wrap64 ((acc.length : Int) - 1) = (acc.length : Int) - 1 := wrap_id (by omega) (by omega)
            have hrd : rd_T28 acc ((acc.length : Int) - 1) = p := by
              subst hp
              have : (((init ++ [p]).length : Int) - 1) = (init.length : Int) := by simp
              rw [this]
              exact rd_mid _ _ _
            by_cases ct : p.f0 = nil
            · obtain ⟨out, rest, h1, h2, h3, h4⟩ := go acc l (Nat.le_refl _) hg ha
              refine ⟨out, rest, key _ ?_, h2, h3, h4⟩
              refine Ev.succ ?_
              simp only [bobbinetkeep_Nodes.j1, rdI_zero]
              refine Ev.ite_pos trivial (Ev.ite_pos (by omega) (Ev.ite_pos (by omega) (Ev.bnd0 rfl (Ev.bnd0 (picked_f _ _ (by omega) (by omega)) ?_))))
              refine Ev.ite_neg c0 (Ev.ite_pos c1 (Ev.ite_pos (by omega) ?_))
              rw [hw, hrd]
              exact Ev.ite_pos (by omega) (Ev.ite_pos (by omega) (Ev.ite_pos (toList_nil.2 ct) h1))
            · obtain ⟨out, rest, h1, h2, h3, h4⟩ := fin (wrap64 (Int.tdiv x 6) % 6) p2 p3 (by
                intro p' hp'
                subst hp
                simp at hp'
                rw [← hp']; exact ct)
              refine ⟨out, rest, key _ ?_, h2, h3, h4⟩
              refine Ev.succ ?_
              simp only [bobbinetkeep_Nodes.j1, rdI_zero]
              refine Ev.ite_pos trivial (Ev.ite_pos (by omega) (Ev.ite_pos (by omega) (Ev.bnd0 rfl (Ev.bnd0 (picked_f _ _ (by omega) (by omega)) ?_))))
              refine Ev.ite_neg c0 (Ev.ite_pos c1 (Ev.ite_pos (by omega) ?_))
              rw [hw, hrd]
              exact Ev.ite_pos (by omega) (Ev.ite_pos (by omega) (Ev.ite_neg (fun h => ct (toList_nil.1 h)) (Ev.bnd0 rfl (Ev.bnd0 (picked_f _ _ (by omega) (by omega)) (Ev.ite_pos p2 (Ev.ite_pos (by simpa using p3) (Ev.ite_pos (by omega) h1)))))))
          · obtain ⟨out, rest, h1, h2, h3, h4⟩ := fin (wrap64 (Int.tdiv x 6) % 6) p2 p3 (by
              intro p' hp'
              have : acc = [] := List.length_eq_zero_iff.1 (by omega)
              subst this
              simp at hp')
            refine ⟨out, rest, key _ ?_, h2, h3, h4⟩
            refine Ev.succ ?_
            simp only [bobbinetkeep_Nodes.j1, rdI_zero]
            refine Ev.ite_pos trivial (Ev.ite_pos (by omega) (Ev.ite_pos (by omega) (Ev.bnd0 rfl (Ev.bnd0 (picked_f _ _ (by omega) (by omega)) ?_))))
            exact Ev.ite_neg c0 (Ev.ite_pos c1 (Ev.ite_neg (by omega) (Ev.bnd0 rfl (Ev.bnd0 (picked_f _ _ (by omega) (by omega)) (Ev.ite_pos p2 (Ev.ite_pos (by simpa using p3) (Ev.ite_pos (by omega) h1)))))))
        by_cases c2 : x % 6 = 2
        · have p2 := Int.emod_nonneg (wrap64 (Int.tdiv x 6)) (show (2 : Int) ≠ 0 by omega)
          have p3 := Int.emod_lt_of_pos (wrap64 (Int.tdiv x 6)) (show (0 : Int) < 2 by omega)
          obtain ⟨out, rest, h1, h2, h3, h4⟩ := go (acc ++ [(⟨rdOf ByteArray.empty voids (wrap64 (Int.tdiv x 6) % 2), ([] : List S68), (⟨#[]⟩ : ByteArray), ([] : List S)⟩ : S)]) l (Nat.le_refl _) (Good.void hg hc (rdOf_mem _ _ _ p2 (by simpa [voids] using p3))) (by simp; omega)
          refine ⟨out, rest, key _ ?_, h2, h3, h4⟩
          refine Ev.succ ?_
          simp only [bobbinetkeep_Nodes.j1, rdI_zero]
          refine Ev.ite_pos trivial (Ev.ite_pos (by omega) (Ev.ite_pos (by omega) (Ev.bnd0 rfl (Ev.bnd0 (picked_f _ _ (by omega) (by omega)) ?_))))
          exact Ev.ite_neg c0 (Ev.ite_neg c1 (Ev.ite_pos c2 (Ev.bnd0 rfl (Ev.bnd0 (picked_f _ _ (by omega) (by omega)) (Ev.ite_pos p2 (Ev.ite_pos (by simpa using p3) (Ev.ite_pos (by omega) h1)))))))
        by_cases cd : 1 < d
        · have p2 := Int.emod_nonneg (wrap64 (Int.tdiv x 6)) (show (6 : Int) ≠ 0 by omega)
          have p3 := Int.emod_lt_of_pos (wrap64 (Int.tdiv x 6)) (show (0 : Int) < 6 by omega)
          obtain ⟨parts, l', g1, g2, g3, g4⟩ := ih l (by omega) (by omega) (d - 1) 4 [] (by omega) (by omega) (Good.none _ _) (by simp)
          have g1' : Ev (fun k => bobbinetkeep_Nodes.f k l (wrap64 ((d : Int) - 1)) 4) (parts, l') := by
            have : wrap64 ((d : Int) - 1) = ((d - 1 : Nat) : Int) := by rw [wrap_id (by omega) (by omega)]; omega
            rw [this]
            refine Ev.succ ?_
            simp only [bobbinetkeep_Nodes.f]
            exact g1
          by_cases c3 : wrap64 (Int.tdiv x 36) % 3 = 0
          · have p4 := Int.emod_nonneg (wrap64 (Int.tdiv x 100)) (show (5 : Int) ≠ 0 by omega)
            have p5 := Int.emod_lt_of_pos (wrap64 (Int.tdiv x 100)) (show (0 : Int) < 5 by omega)
            obtain ⟨out, rest, h1, h2, h3, h4⟩ := go (acc ++ [(⟨rdOf ByteArray.empty elems (wrap64 (Int.tdiv x 6) % 6), [(⟨(⟨#[104, 114, 101, 102]⟩ : ByteArray), rdOf ByteArray.empty vals (wrap64 (Int.tdiv x 100) % 5)⟩ : S68)], (⟨#[]⟩ : ByteArray), parts⟩ : S)]) l' g4 (Good.elem hg hc cd (rdOf_mem _ _ _ p2 (by simpa [elems] using p3)) (.inr ⟨_, rdOf_mem _ _ _ p4 (by simpa [vals] using p5), rfl⟩) g2) (by simp; omega)
            refine ⟨out, rest, key _ ?_, h2, h3, h4⟩
            refine Ev.succ ?_
            simp only [bobbinetkeep_Nodes.j1, rdI_zero]
            refine Ev.ite_pos trivial (Ev.ite_pos (by omega) (Ev.ite_pos (by omega) (Ev.bnd0 rfl (Ev.bnd0 (picked_f _ _ (by omega) (by omega)) ?_))))
            exact Ev.ite_neg c0 (Ev.ite_neg c1 (Ev.ite_neg c2 (Ev.ite_pos (by omega) (Ev.bnd0 rfl (Ev.bnd0 (picked_f _ _ (by omega) (by omega)) (Ev.ite_pos p2 (Ev.ite_pos (by simpa using p3) (Ev.bnd0 (picked_f _ _ (by omega) (by omega)) (Ev.ite_pos c3 (Ev.bnd0 rfl (Ev.bnd0 (picked_f _ _ (by omega) (by omega)) (Ev.ite_pos p4 (Ev.ite_pos (by simpa using p5) (Ev.bnd g1' (Ev.ite_pos (by omega) h1)))))))))))))))
          · obtain ⟨out, rest, h1, h2, h3, h4⟩ := go (acc ++ [(⟨rdOf ByteArray.empty elems (wrap64 (Int.tdiv x 6) % 6), ([] : List S68), (⟨#[]⟩ : ByteArray), parts⟩ : S)]) l' g4 (Good.elem hg hc cd (rdOf_mem _ _ _ p2 (by simpa [elems] using p3)) (.inl rfl) g2) (by simp; omega)
            refine ⟨out, rest, key _ ?_, h2, h3, h4⟩
            refine Ev.succ ?_
            simp only [bobbinetkeep_Nodes.j1, rdI_zero]
            refine Ev.ite_pos trivial (Ev.ite_pos (by omega) (Ev.ite_pos (by omega) (Ev.bnd0 rfl (Ev.bnd0 (picked_f _ _ (by omega) (by omega)) ?_))))
            exact Ev.ite_neg c0 (Ev.ite_neg c1 (Ev.ite_neg c2 (Ev.ite_pos (by omega) (Ev.bnd0 rfl (Ev.bnd0 (picked_f _ _ (by omega) (by omega)) (Ev.ite_pos p2 (Ev.ite_pos (by simpa using p3) (Ev.bnd0 (picked_f _ _ (by omega) (by omega)) (Ev.ite_neg c3 (Ev.bnd g1' (Ev.ite_pos (by omega) h1)))))))))))
        · obtain ⟨out, rest, h1, h2, h3, h4⟩ := go acc l (Nat.le_refl _) hg ha
          refine ⟨out, rest, key _ ?_, h2, h3, h4⟩
          refine Ev.succ ?_
          simp only [bobbinetkeep_Nodes.j1, rdI_zero]
          refine Ev.ite_pos trivial (Ev.ite_pos (by omega) (Ev.ite_pos (by omega) (Ev.bnd0 rfl (Ev.bnd0 (picked_f _ _ (by omega) (by omega)) ?_))))
          exact Ev.ite_neg c0 (Ev.ite_neg c1 (Ev.ite_neg c2 (Ev.ite_neg (by omega) h1)))
      · refine ⟨acc, x :: l, ?_, hg, ha, Nat.le_refl _⟩
        refine Ev.succ ?_
        simp only [bobbinetkeep_Nodes.l0]
        rw [decide_eq_false (show ¬ (acc.length : Int) < (m : Int) by omega)]
        refine Ev.ite_pos (by simp) (Ev.succ ?_)
        simp only [bobbinetkeep_Nodes.j1, rdI_zero]
        exact Ev.ite_neg (by simp) (Ev.now _)
theorem nodes_f (l : List Int) (hl : l.length ≤ 17592186044416) (d m : Nat) (hd : d ≤ 10) (hm : m ≤ 10) : ∃ out rest, Ev (fun k => bobbinetkeep_Nodes.f k l (d : Int) (m : Int)) (out, rest) ∧ Good d m out := by
  obtain ⟨out, rest, h1, h2, h3, h4⟩ := nodes_ev l.length l (Nat.le_refl _) hl d m [] hd hm (Good.none _ _) (by simp)
  refine ⟨out, rest, Ev.succ ?_, h2⟩
  simp only [bobbinetkeep_Nodes.f]
  exact h1
/-- what each of them is like -/
def NodeOk (d : Nat) (n : S) : Prop := (n.f0 = nil ∧ n.f1 = [] ∧ n.f2 ∈ texts ∧ n.f3 = []) ∨ (n.f0 ∈ voids ∧ n.f1 = [] ∧ n.f2 = nil ∧ n.f3 = []) ∨ (1 < d ∧ n.f0 ∈ elems ∧ (n.f1 = [] ∨ ∃ v ∈ vals, n.f1 = [(⟨(⟨#[104, 114, 101, 102]⟩ : ByteArray), v⟩ : S68)]) ∧ n.f2 = nil ∧ Good (d - 1) 4 n.f3)
theorem Good.at_ {d m : Nat} {l : List S} (h : Good d m l) : ∀ (pre suf : List S) (n : S), l = pre ++ n :: suf → NodeOk d n ∧ (n.f0 = nil → ∀ p : S, pre.getLast? = some p → p.f0 ≠ nil) := by
  have snoc : ∀ {a b : List S} {x y : S}, a ++ [x] = b ++ [y] → a = b ∧ x = y := by
    intro a b x y h
    have := List.append_inj' h rfl
    exact ⟨this.1, by simpa using this.2⟩
  induction h with
  | none => intro pre suf n h; simp at h
  | @text d m l t hg h1 h2 ht ih =>
    intro pre suf n h
    rcases List.eq_nil_or_concat suf with h4 | ⟨i, p, h4⟩
    · subst h4
      obtain ⟨rfl, rfl⟩ := snoc h
      exact ⟨.inl ⟨rfl, rfl, ht, rfl⟩, fun _ => h2⟩
    · have h4 : suf = i ++ [p] := by simpa using h4
      subst h4
      exact ih pre i n (snoc (show _ = (pre ++ n :: i) ++ [p] by simpa using h)).1
  | @void d m l t hg h1 ht ih =>
    intro pre suf n h
    rcases List.eq_nil_or_concat suf with h4 | ⟨i, p, h4⟩
    · subst h4
      obtain ⟨rfl, rfl⟩ := snoc h
      refine ⟨.inr (.inl ⟨ht, rfl, rfl, rfl⟩), fun h0 => ?_⟩
      exfalso
      replace h0 : t = nil := h0
      simp only [voids, List.mem_cons, List.not_mem_nil, or_false] at ht
      rcases ht with rfl | rfl <;> exact absurd h0 (by decide)
    · have h4 : suf = i ++ [p] := by simpa using h4
      subst h4
      exact ih pre i n (snoc (show _ = (pre ++ n :: i) ++ [p] by simpa using h)).1
  | @elem d m l q t a hg h1 hd ht ha hq ih _ =>
    intro pre suf n h
    rcases List.eq_nil_or_concat suf with h4 | ⟨i, p, h4⟩
    · subst h4
      obtain ⟨rfl, rfl⟩ := snoc h
      refine ⟨.inr (.inr ⟨hd, ht, ha, rfl, hq⟩), fun h0 => ?_⟩
      exfalso
      replace h0 : t = nil := h0
      simp only [elems, List.mem_cons, List.not_mem_nil, or_false] at ht
      rcases ht with rfl | rfl | rfl | rfl | rfl | rfl <;> exact absurd h0 (by decide)
    · have h4 : suf = i ++ [p] := by simpa using h4
      subst h4
      exact ih pre i n (snoc (show _ = (pre ++ n :: i) ++ [p] by simpa using h)).1
theorem Good.len {d m : Nat} {l : List S} (h : Good d m l) : l.length ≤ m := by
  cases h with
  | none => simp
  | _ => simp; omega
def cap : Nat → Nat
  | 0 => 7
  | d + 1 => 7 + 4 * cap d
theorem cap_mono (d : Nat) : 7 ≤ cap d := by cases d <;> simp [cap]
theorem Good.tot {d m : Nat} {l : List S} (h : Good d m l) : Tree.tot l ≤ l.length * cap d := by
  induction h with
  | none => simp [tot_nil]
  | @text d m l t _ _ _ ht ih =>
    have h1 : t.size ≤ 5 := by
      simp [texts] at ht
      rcases ht with rfl | rfl | rfl | rfl | rfl | rfl <;> decide
    have h2 := cap_mono d
    rw [tot_app, tot_cons, tot_nil]
    simp only [List.length_append, List.length_cons, List.length_nil, Nat.add_mul]
    omega
  | @void d m l t _ _ ht ih =>
    have h2 := cap_mono d
    have h3 : nil.size = 0 := rfl
    rw [tot_app, tot_cons, tot_nil]
    simp only [List.length_append, List.length_cons, List.length_nil, Nat.add_mul, h3]
    omega
  | @elem d m l q t a _ _ hd ht ha hq ih ihq =>
    have h3 : nil.size = 0 := rfl
    obtain ⟨e, rfl⟩ : ∃ e, d = e + 1 := ⟨d - 1, by omega⟩
    have h4 : a.length ≤ 1 := by
      rcases ha with rfl | ⟨v, _, rfl⟩ <;> simp
    have h5 := hq.len
    have h6 : q.length * cap (e + 1 - 1) ≤ 4 * cap e := Nat.mul_le_mul h5 (Nat.le_refl _)
    rw [tot_app, tot_cons, tot_nil]
    simp only [List.length_append, List.length_cons, List.length_nil, Nat.add_mul, h3]
    have h7 : cap (e + 1) = 7 + 4 * cap e := rfl
    rw [Nat.add_sub_cancel] at h6 ihq
    omega
end Go.Proofs.Ytaibikajpacemaa.Tree
end
section
namespace Go.Proofs.Ytaibikajpacemaa.Tree
open Go.RowKit Go.Proofs.Ytaibikajpacemaa.X Go.Proofs.YtaibikajpacemaaW.PrintWords Go.Proofs.YtaibikajpacemaaW.PrintLast Go.Proofs.Ytaibikajpacemaa.Base
set_option linter.unusedVariables false
set_option linter.unusedSimpArgs false
theorem copied_l0 : ∀ (suf pre acc : List S), tot (pre ++ suf) ≤ 1099511627776 → acc.length = pre.length → (∀ n ∈ suf, Ev (fun k => bobbinetkeep_copiedNodes.f k n.f3) n.f3) → Ev (fun k => bobbinetkeep_copiedNodes.l0 k (pre ++ suf) acc (pre.length : Int)) (acc ++ suf)
  | [], pre, acc, ht, ha, h => by
    refine Ev.succ ?_
    simp only [bobbinetkeep_copiedNodes.l0, List.append_nil]
    exact Ev.ite_neg (by omega) (Ev.now _)
  | n :: suf, pre, acc, ht, ha, h => by
    have h1 := tot_len (pre ++ n :: suf)
    have h2 := tot_mem (show n ∈ pre ++ n :: suf by simp)
    have h3 : (pre ++ n :: suf).length = pre.length + suf.length + 1 := by simp; omega
    have ih := copied_l0 suf (pre ++ [n]) (acc ++ [n]) (by simpa using ht) (by simp [ha]) (fun m hm => h m (List.mem_cons_of_mem _ hm))
    refine Ev.succ ?_
    simp only [bobbinetkeep_copiedNodes.l0]
    rw [rd_mid, wrap_pre pre n suf (by omega)]
    refine Ev.ite_pos (by omega) (Ev.ite_pos (by omega) (Ev.ite_pos (by simp; omega) (Ev.bnd (h n List.mem_cons_self) (Ev.ite_pos (by omega) ?_))))
    obtain ⟨n0, n1, n2, n3⟩ := n
    simpa using ih
theorem copied_f (l : List S) : tot l ≤ 1099511627776 → Ev (fun k => bobbinetkeep_copiedNodes.f k l) l := by
  induction l using ind2 with
  | h l ih =>
    intro ht
    refine Ev.succ ?_
    simp only [bobbinetkeep_copiedNodes.f]
    exact copied_l0 l [] [] ht rfl (fun n hn => ih n hn (by have := tot_mem hn; omega))
end Go.Proofs.Ytaibikajpacemaa.Tree
end
section
namespace Go.Proofs.Ytaibikajpacemaa.Tree
open Go.RowKit Go.Proofs.Ytaibikajpacemaa.X Go.Proofs.YtaibikajpacemaaW.PrintWords Go.Proofs.YtaibikajpacemaaW.PrintLast Go.Proofs.Ytaibikajpacemaa.Base
set_option linter.unusedVariables false
set_option linter.unusedSimpArgs false
theorem paths_l1 (l : List S) (i : Nat) (hi : i < 1099511627776) (t : List (List Int)) (ht : t.length ≤ 1099511627776) (htl : ∀ p ∈ t, p.length ≤ 1099511627776) (r : List (List Int)) : ∀ (suf pre acc : List (List Int)), t = pre ++ suf → acc.length + suf.length ≤ 2199023255552 →
    Ev (fun k => walk_Paths.l0 k (acc ++ suf.map (fun p => (i : Int) :: p)) l (l.length : Int) (wrap64 ((i : Int) + 1))) r → Ev (fun k => walk_Paths.l1 k acc (i : Int) l (l.length : Int) (i : Int) t (t.length : Int) (pre.length : Int)) r := by
  intro suf
  induction suf with
  | nil =>
    intro pre acc e ha h
    have e2 : t.length = pre.length := by rw [e]; simp
    refine Ev.succ ?_
    simp only [walk_Paths.l1]
    refine Ev.ite_neg (by omega) ?_
    simpa using h
  | cons p suf ih =>
    intro pre acc e ha h
    have e2 : t.length = pre.length + suf.length + 1 := by rw [e]; simp; omega
    have hp := htl p (by rw [e]; simp)
    have hrd : t.getD ((pre.length : Int)).toNat [] = p := by rw [e]; exact rdL_at _ _ _
    have hw : wrap64 ((pre.length : Int) + 1) = ((pre ++ [p]).length : Int) := by rw [wrap_succ (n := pre.length + 1) (by omega) (by omega)]; simp
    simp only [List.length_cons] at ha
    have h2 := ih (pre ++ [p]) (acc ++ [(i : Int) :: p]) (by rw [e]; simp) (by simp; omega) (by simpa using h)
    refine Ev.succ ?_
    simp only [walk_Paths.l1, rd_L5, hrd, hw]
    exact Ev.ite_pos (by omega) (Ev.ite_pos (by omega) (Ev.ite_pos (by omega) (Ev.bnd0 rfl (Ev.ite_pos (by simp; omega) (Ev.ite_pos (by omega) h2)))))
theorem paths_f (l : List S) : cnt l ≤ 1099511627776 → Ev (fun k => walk_Paths.f k l) (pathsFrom 0 l) := by
  induction l using ind2 with
  | h l ih =>
    intro ht
    have main : ∀ (suf pre : List S) (acc : List (List Int)), l = pre ++ suf → acc.length + cnt suf ≤ 1099511627776 → Ev (fun k => walk_Paths.l0 k acc l (l.length : Int) (pre.length : Int)) (acc ++ pathsFrom pre.length suf) := by
      intro suf
      induction suf with
      | nil =>
        intro pre acc e _
        have e2 : l.length = pre.length := by rw [e]; simp
        refine Ev.succ ?_
        simp only [walk_Paths.l0]
        refine Ev.ite_neg (by omega) ?_
        rw [pathsFrom_nil, List.append_nil]
        exact Ev.now _
      | cons n suf ihs =>
        intro pre acc e ha
        have hlen : l.length = pre.length + suf.length + 1 := by rw [e]; simp; omega
        have hc : cnt l = cnt pre + (1 + cnt n.f3 + cnt suf) := by rw [e, cnt_app, cnt_cons]
        have hll := cnt_len l
        have hrd : rd_T28 l (pre.length : Int) = n := by rw [e]; exact rd_mid pre n suf
        have h1 := ih n (by rw [e]; simp) (by omega)
        have hpl := paths_len n.f3 0
        have hpp := path_long n.f3 0
        rw [cnt_cons] at ha
        have hw : wrap64 ((pre.length : Int) + 1) = ((pre ++ [n]).length : Int) := by rw [wrap_succ (n := pre.length + 1) (by omega) (by omega)]; simp
        have h2 := ihs (pre ++ [n]) (acc ++ [[(pre.length : Int)]] ++ (pathsFrom 0 n.f3).map (fun p => (pre.length : Int) :: p)) (by rw [e]; simp) (by simp; omega)
        have e3 : acc ++ pathsFrom pre.length (n :: suf) = acc ++ [[(pre.length : Int)]] ++ (pathsFrom 0 n.f3).map (fun p => (pre.length : Int) :: p) ++ pathsFrom (pre ++ [n]).length suf := by rw [pathsFrom_cons]; simp
        rw [e3]
        refine Ev.succ ?_
        simp only [walk_Paths.l0, hrd]
        refine Ev.ite_pos (by omega) (Ev.ite_pos (by omega) (Ev.ite_pos (by omega) (Ev.ite_pos (by omega) (Ev.bnd h1 ?_))))
        refine paths_l1 l pre.length (by omega) (pathsFrom 0 n.f3) (by omega) (fun p hp => by have := hpp p hp; omega) _ (pathsFrom 0 n.f3) [] (acc ++ [[(pre.length : Int)]]) rfl (by simp; omega) ?_
        rw [hw]
        exact h2
    refine Ev.succ ?_
    simp only [walk_Paths.f]
    have := main l [] [] rfl (by simp; omega)
    simpa using this
theorem good_named {d m : Nat} {l : List S} (h : Good d m l) : Named l := by
  induction h with
  | none => rw [Named_iff]; simp
  | text h1 h2 h3 h4 ih =>
    rw [Named_iff] at ih ⊢
    intro n hn
    rcases List.mem_append.1 hn with hn | hn
    · exact ih n hn
    · obtain rfl := List.mem_singleton.1 hn
      exact ⟨fun h => absurd rfl h, by rw [Named_iff]; simp⟩
  | void h1 h2 h3 ih =>
    rw [Named_iff] at ih ⊢
    intro n hn
    rcases List.mem_append.1 hn with hn | hn
    · exact ih n hn
    · obtain rfl := List.mem_singleton.1 hn
      exact ⟨fun h => absurd rfl h, by rw [Named_iff]; simp⟩
  | @elem d m l q t a h1 h2 h3 h4 h5 h6 ih1 ih2 =>
    rw [Named_iff] at ih1 ⊢
    intro n hn
    rcases List.mem_append.1 hn with hn | hn
    · exact ih1 n hn
    · obtain rfl := List.mem_singleton.1 hn
      refine ⟨fun _ h => ?_, ih2⟩
      have : t ≠ (⟨#[]⟩ : ByteArray) := by
        simp only [elems, List.mem_cons, List.not_mem_nil, or_false] at h4
        rcases h4 with rfl | rfl | rfl | rfl | rfl | rfl <;> decide
      exact this h
end Go.Proofs.Ytaibikajpacemaa.Tree
namespace Go.Proofs.Ytaibikajpacemaa.Pure
open Go.RowKit Go.Proofs.Ytaibikajpacemaa.X Go.Proofs.YtaibikajpacemaaW.PrintWords Go.Proofs.YtaibikajpacemaaW.PrintLast Go.Proofs.Ytaibikajpacemaa.Base Go.Proofs.Ytaibikajpacemaa.Tree
theorem all_lt {P : Nat → Nat → Prop} : ∀ n : Nat, (∀ i, i < n → ∃ K, ∀ k, K ≤ k → P k i) → ∃ K, ∀ k, K ≤ k → ∀ i, i < n → P k i
  | 0, _ => ⟨0, fun _ _ i hi => absurd hi (by omega)⟩
  | n + 1, h => by
    obtain ⟨K, hK⟩ := all_lt n (fun i hi => h i (by omega))
    obtain ⟨L, hL⟩ := h n (by omega)
    refine ⟨K + L, fun k hk i hi => ?_⟩
    by_cases c : i < n
    · exact hK k (by omega) i c
    · obtain rfl : i = n := by omega
      exact hL k (by omega)
theorem WalkEach : bobbinetkeep_WalkEach.Pure := by
  intro l0 _ h1 _
  obtain ⟨t, rest0, e1, hg⟩ := nodes_f l0 (by omega) 5 6 (by omega) (by omega)
  obtain ⟨l, hl⟩ : ∃ l : List S, l = t ++ [(⟨(⟨#[98]⟩ : ByteArray), ([] : List S68), (⟨#[]⟩ : ByteArray), ([] : List S)⟩ : S)] := ⟨_, rfl⟩
  have hlen := hg.len
  have htot : tot t ≤ 1000000 := by
    have h2 := hg.tot
    have h4 : t.length * cap 5 ≤ 6 * 100000 := Nat.mul_le_mul hlen (by decide)
    omega
  have htl : tot l ≤ 1000010 := by
    rw [hl, tot_app, tot_cons, tot_nil]
    have e : (⟨#[]⟩ : ByteArray).size = 0 := rfl
    have e2 : tot ([] : List S) = 0 := tot_nil
    simp only [e, e2, List.length_nil]
    omega
  have hcnt : ∀ x : List S, cnt x ≤ tot x := by
    intro x
    induction x using ind with
    | h0 => rw [cnt_nil]; omega
    | h1 n l a b => rw [cnt_cons, tot_cons]; omega
  have hc := hcnt l
  have hnm : Named l := by
    have h3 := good_named hg
    rw [Named_iff] at h3 ⊢
    intro n hn
    rw [hl] at hn
    rcases List.mem_append.1 hn with hn | hn
    · exact h3 n hn
    · obtain rfl := List.mem_singleton.1 hn
      exact ⟨fun h => absurd rfl h, by rw [Named_iff]; simp⟩
  obtain ⟨ps, hps⟩ : ∃ ps, ps = pathsFrom 0 l := ⟨_, rfl⟩
  have e2 := copied_f l (by omega)
  have e3 := paths_f l (by omega)
  obtain ⟨deep, _, e4⟩ := count_ev l (by omega)
  have hpl : ps.length = cnt l := by rw [hps]; exact paths_len l 0
  have hpos : 0 < ps.length := by
    rw [hpl, hl, cnt_app, cnt_cons]
    omega
  have each : ∀ i, i < ps.length → ∃ K, ∀ k, K ≤ k → bobbinetkeep_WalkEach.Each k l l ps i := by
    intro i hi
    obtain ⟨p, hp⟩ : ∃ p, ps.getD i [] = p := ⟨_, rfl⟩
    have hget : ps[i] = p := by rw [← hp]; simp [List.getD, hi]
    have hmem : p ∈ pathsFrom 0 l := by rw [← hps, ← hget]; exact List.getElem_mem hi
    obtain ⟨m, hm⟩ := paths_is l [] hnm p hmem
    have hm : IsPath l p m := hm
    obtain ⟨K1, a1⟩ := nodeAt_f hm (by omega)
    obtain ⟨K2, a2⟩ := at_f hm (by omega)
    have hpt := hm.tot
    by_cases hz : 0 < i
    · have hi2 : i - 1 < ps.length := by omega
      have hord : Bf ps[i - 1] ps[i] := by
        have := paths_order l 0
        rw [← hps] at this
        exact List.pairwise_iff_getElem.1 this (i - 1) i hi2 hi (by omega)
      have hmem2 : ps[i - 1] ∈ pathsFrom 0 l := by rw [← hps]; exact List.getElem_mem hi2
      have hlong := path_long l 0 _ hmem2
      obtain ⟨K3, a3⟩ := before_f hord (by omega)
      refine ⟨K1 + K2 + K3, fun k hk => ⟨m.f0, m.f1, m.f2, m.f3, m.f0, m.f1, m.f2, m.f3, ?_, ?_, bobbinetkeep_sameNodes.f_refl _, fun _ => ?_⟩⟩
      · rw [hp]; exact a1 k (by omega)
      · rw [hp]; exact a2 k (by omega)
      · have g1 : ps.getD (i - 1) [] = ps[i - 1] := by simp [List.getD, hi2]
        rw [hp, g1, ← hget]
        exact a3 k (by omega)
    · refine ⟨K1 + K2, fun k hk => ⟨m.f0, m.f1, m.f2, m.f3, m.f0, m.f1, m.f2, m.f3, ?_, ?_, bobbinetkeep_sameNodes.f_refl _, fun h => absurd h hz⟩⟩
      · rw [hp]; exact a1 k (by omega)
      · rw [hp]; exact a2 k (by omega)
  obtain ⟨K5, a5⟩ := all_lt ps.length each
  obtain ⟨K1, a1⟩ := e1
  obtain ⟨K2, a2⟩ := e2
  obtain ⟨K3, a3⟩ := e3
  obtain ⟨K4, a4⟩ := e4
  refine ⟨K1 + K2 + K3 + K4 + K5, t, rest0, l, l, ps, (deep : Int), a1 _ (by omega), hl, by omega, a2 _ (by omega), ?_, ?_, hpos, a5 _ (by omega)⟩
  · rw [hps]; exact a3 _ (by omega)
  · rw [hpl]; exact a4 _ (by omega)
end Go.Proofs.Ytaibikajpacemaa.Pure
end
