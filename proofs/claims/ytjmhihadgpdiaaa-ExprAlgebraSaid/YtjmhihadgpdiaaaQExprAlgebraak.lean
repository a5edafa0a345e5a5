/- Parts of the proof of ExprAlgebra that are needed, put together by pack.py. -/
import Derived.Test.YtjmhihadgpdiaaaQExprAlgebraaf
import Derived.Test.YtjmhihadgpdiaaaQExprAlgebraah
import Derived.Test.YtjmhihadgpdiaaaQExprAlgebraaj
import Derived.Test.YtjmhihadgpdiaaaQExprAlgebraai
section
namespace Go.Proofs.Ytjmhihadgpdiaaa.X
open Go.RowKit Go.Proofs.YtjmhihadgpdiaaaW.PrintWords Go.Proofs.YtjmhihadgpdiaaaW.PrintLast Go.Proofs.YtjmhihadgpdiaaaW.PrintMore
attribute [local go_sem] max2_int min2_int max_two min_two max_three min_three max_four min_four   -- for this text's walks alone
set_option linter.unusedVariables false
set_option linter.unusedSimpArgs false
def expr_together.l0 : Nat → Int → List (S28) → Int → Int → Int → Int → List (S28) → Option (Int × Int × (List (S28)))
 | 0, _, _, _, _, _, _, _ => none
 | k + 1, x0, x16, x17, x18, x166000, x166001, x166002 => if x18 < x17 then (if 0 ≤ x18 then (if x18 < (x16.length : Int) then (if ((rd_T28 x16 x18).f0) = x0 then (if x166002.length + ((rd_T28 x16 x18).f2).length < 3518437208883 then (expr_together.l0 k x0 x16 x17 (wrap64 (x18 + 1)) x166000 x166001 (x166002 ++ ((rd_T28 x16 x18).f2))) else (none)) else (if x166002.length < 3518437208883 then (expr_together.l0 k x0 x16 x17 (wrap64 (x18 + 1)) x166000 x166001 (x166002 ++ [(⟨(rd_T28 x16 x18).f0, (rd_T28 x16 x18).f1, (rd_T28 x16 x18).f2⟩ : S28)])) else (none))) else (none)) else (none)) else (if (x166002.length : Int) = 1 then (if 0 < (x166002.length : Int) then (some ((rd_T28 x166002 0).f0, (rd_T28 x166002 0).f1, (rd_T28 x166002 0).f2)) else (none)) else (some (x166000, x166001, x166002)))
def expr_together.f (k : Nat) (a0 : Int) (l1 : List (S28)) : Option (Int × Int × (List (S28))) := if (l1.length : Int) = 1 then (if 0 < (l1.length : Int) then (some ((rd_T28 l1 0).f0, (rd_T28 l1 0).f1, (rd_T28 l1 0).f2)) else (none)) else (expr_together.l0 k a0 l1 (l1.length : Int) 0 a0 0 ([] : List (S28)))
set_option maxHeartbeats 8000000 in
set_option maxRecDepth 100000 in
theorem expr_together.calls (k : Nat) (a0 : Int) (P1_ : Nat → Prop) (A1 : Option Addr) (c1 : Nat) (l1 : List (S28)) (r1 : Int) (r2 : Int) (r3 : List (S28)) (w : World) (hs1 : Kd.V k28 28 w w.heap.size (fun k_ => P1_ k_) (.slice A1 l1.length c1) l1) (h : expr_together.f k a0 l1 = some (r1, r2, r3)) :
  Calls Try.prog 50 #[.int .i64 a0, .slice A1 l1.length c1] w fun e w' => ∃ v2_ : Value, e = .returned (.agg #[.int .i64 r1, .int .i64 r2, v2_]) ∧ Kd.V k28 28 w' w.heap.size (fun k_ => (P1_ k_ ∨ w.heap.size ≤ k_)) v2_ r3 ∧ Below w.heap.size w w' := by
 have hu28 := Try.underlying28
 have HO1 := Aside0.mk (show Kd.V k28 28 w w.heap.size (fun k_ => (P1_ k_ ∨ w.heap.size ≤ k_)) (.slice A1 l1.length c1) l1 from Kd.V_mono hs1 (fun k_ hk => .inl hk))
 have HB := Aside0.mk (Below.refl w.heap.size w)
 have H : (if (l1.length : Int) = 1 then (if 0 < (l1.length : Int) then (some ((rd_T28 l1 0).f0, (rd_T28 l1 0).f1, (rd_T28 l1 0).f2)) else (none)) else (expr_together.l0 k a0 l1 (l1.length : Int) 0 a0 0 ([] : List (S28)))) = some (r1, r2, r3) := h
 clear h
 by_cases c3 : (l1.length : Int) = 1
 ·
  rw [if_pos c3] at H
  have c3b0 : ((l1.length : Int) == 1) = true := beq_iff_eq.mpr c3
  have c3b1 : ((l1.length : Int) != 1) = false := bne_eq_false_iff_eq.mpr c3
  clear c3
  by_cases c4 : 0 < (l1.length : Int)
  ·
   rw [if_pos c4] at H
   have c4b0 : decide (0 < (l1.length : Int)) = true := decide_eq_true c4
   have c4b1 : decide (0 < l1.length) = true := decide_eq_true (by omega)
   clear c4
   simp only [Option.some.injEq, Prod.mk.injEq] at H
   obtain ⟨rfl, rfl, rfl⟩ := H
   go_enter Try.func50, Try.ntmps50
   go_wp2_with (first | ((with_reducible refine gate_dst (N := 4) rfl ?_); refine box_event ?hg (N := 4) ?hd (cs := #[.int .i64 0, .int .i64 0, .slice none 0 0]) (t := 28) ?hr ?_; (case hd => rfl); (case hg => rfl); (case hr => first | (go_simp; done) | (go_simp; rfl)); intro gb163 hg w5 hbox hb; have n0_ := Aside0.mk (Kd.V_below (Kd.V_elderB (by (with_reducible repeat (first | apply Kd.V_alloc | apply Kd.V_drewN | apply Kd.V_drew)); exact HO1.out) gb163 (Nat.le_of_eq hg.symm)) hb); have n1_ := Aside0.mk (below_step (by repeat (first | (with_reducible first | exact HB.out | apply below_alloc | apply pw_below_drewN | apply below_drew1) | exact HB.out)) hb); have n2_ := Aside0.mk (hbox); have n3_ := Aside0.mk ((by rw [hg]; exact (below_size (by repeat (first | (with_reducible first | exact HB.out | apply below_alloc | apply pw_below_drewN | apply below_drew1) | exact HB.out))) : w.heap.size ≤ gb163)); have n4_ := Aside0.mk ((by rw [hg]; exact (below_size (by repeat (first | (with_reducible first | exact HB.out | apply below_alloc | apply pw_below_drewN | apply below_drew1) | exact HB.out))) : w.heap.size ≤ gb163)); clear HO1; clear HB; have HO1 := n0_; have HB := n1_; have BK163 := n2_; have GW163 := n3_; have GE163 := n4_; clear n0_ n1_ n2_ n3_ n4_; clear hb hbox hg; have p164 : 0 ≤ (0 : Int) := (by omega); have q164 : 0 < (l1.length : Int) := of_decide_eq_true (by first | (with_reducible assumption) | assumption); obtain ⟨ad164, A164_2, c164_2, e164, hx164_0, hx164_1, hx164_2, hl164_2, hi164_2⟩ := at_T28 (Kd.V_reads' HO1.out).2.2 0 p164 q164; cases e164; obtain ⟨ce164, hce164, hMe164, hcc164⟩ := Kd.V_get HO1.out z28 0 p164 (by first | exact q164 | exact of_decide_eq_true (by first | (with_reducible assumption) | assumption) | (have e_ := (Kd.V_reads' HO1.out).1; omega)); obtain ⟨ua164_2, uc164_2, rfl, ul164_2, ge164_2⟩ := k28_openF hMe164; have hv164_2 := hcc164 2 _ rfl; rw [add_field _ _ 2 (by omega)] at hv164_2; replace hv164_2 := Option.some.inj (hv164_2.symm.trans hx164_2); injection hv164_2 with hva_ hvn_ hvc_; rw [hva_] at ge164_2; rw [hvc_] at ul164_2; have HL164_2 := Aside0.mk (show Kd.V k28 28 _ w.heap.size _ _ ((rd_T28 l1 0).f2) from Kd.V_mk ul164_2 ge164_2); clear hva_ hvn_ hvc_ ge164_2 ul164_2; clear hcc164 hce164; have qi164 : (0 < l1.length) = True := eq_true (by omega); (try rw [show ((0 : Int)).toNat = 0 from rfl] at hx164_0); (try rw [show 0 * 3 = 0 from rfl] at hx164_0); (try rw [Addr.add_zero'] at hx164_0); (try rw [show ((0 : Int)).toNat = 0 from rfl] at hx164_1); (try rw [show 0 * 3 = 0 from rfl] at hx164_1); (try rw [Addr.add_zero'] at hx164_1); (try rw [show ((0 : Int)).toNat = 0 from rfl] at hx164_2); (try rw [show 0 * 3 = 0 from rfl] at hx164_2); (try rw [Addr.add_zero'] at hx164_2); have HR164_2 := Aside0.mk hi164_2; have HC164_2 := Aside0.mk hl164_2; clear hi164_2 hl164_2; replace p164 := eq_true p164; replace q164 := eq_true q164; have hcz6_0 : w5.cell? ⟨gb163, 0, none⟩ = some (.int .i64 0) := (blk_cell BK163.out 0).trans rfl; have hcz6_1 : w5.cell? ⟨gb163, 1, none⟩ = some (.int .i64 0) := (blk_cell BK163.out 1).trans rfl; have hcz6_2 : w5.cell? ⟨gb163, 2, none⟩ = some (.slice none 0 0) := (blk_cell BK163.out 2).trans rfl; have hfz6_0 := blk_frozen BK163.out 0; have hfz6_1 := blk_frozen BK163.out 1; have hfz6_2 := blk_frozen BK163.out 2))
   refine bodyPost_ret (results_cell_row rfl _ _ gb163 28 #[.int .i64 ((rd_T28 l1 0).f0), .int .i64 ((rd_T28 l1 0).f1), .slice A164_2 ((rd_T28 l1 0).f2).length c164_2] (0, 0) _ rfl (by (with_reducible repeat (first | refine blk_drewN ?_ _ | refine blk_drew ?_ | refine blk_alloc ?_ _)); refine blk_put (cs := #[.int .i64 ((rd_T28 l1 0).f0), .int .i64 ((rd_T28 l1 0).f1), .slice none 0 0]) ?_ 2 _ rfl; (with_reducible repeat (first | refine blk_drewN ?_ _ | refine blk_drew ?_ | refine blk_alloc ?_ _)); refine blk_put (cs := #[.int .i64 ((rd_T28 l1 0).f0), .int .i64 0, .slice none 0 0]) ?_ 1 _ rfl; (with_reducible repeat (first | refine blk_drewN ?_ _ | refine blk_drew ?_ | refine blk_alloc ?_ _)); refine blk_put (cs := #[.int .i64 0, .int .i64 0, .slice none 0 0]) ?_ 0 _ rfl; (with_reducible repeat (first | refine blk_drewN ?_ _ | refine blk_drew ?_ | refine blk_alloc ?_ _)); exact BK163.out) Try.underlying28 rfl (by kernel_rfl)) rfl ?_
   exact ⟨_, by first | rfl | (simp [errW_none, errW_some] <;> rfl) | (simp [*, errW_none, errW_some] <;> rfl), by (with_reducible repeat (first | apply Kd.V_alloc | apply Kd.V_drewN | apply Kd.V_drew)); exact Kd.V_mono (Kd.V_far (p := ⟨gb163, 2, none⟩) (Kd.V_far (p := ⟨gb163, 1, none⟩) (Kd.V_far (p := ⟨gb163, 0, none⟩) (Kd.V_mono HL164_2.out (fun k_ hk => (⟨hk, (by first | exact hk.2 | grind)⟩ : _ ∧ k_ ≠ gb163))) (fun _ hk => hk.2) (.int .i64 ((rd_T28 l1 0).f0))) (fun _ hk => hk.2) (.int .i64 ((rd_T28 l1 0).f1))) (fun _ hk => hk.2) (.slice A164_2 ((rd_T28 l1 0).f2).length c164_2)) (fun _ hk => (by first | exact hk.1.1 | grind)), by repeat (first | (with_reducible first | exact HB.out | apply below_alloc | apply pw_below_drewN | apply below_drew1 | refine below_set ?_ GE163.out) | exact HB.out)⟩
  ·
   rw [if_neg c4] at H
   exact absurd H (by simp)
 ·
  rw [if_neg c3] at H
  have c3b0 : ((l1.length : Int) == 1) = false := beq_eq_false_iff_ne.mpr c3
  have c3b1 : ((l1.length : Int) != 1) = true := bne_iff_ne.mpr c3
  have H' := Aside0.mk H
  clear H
  go_enter Try.func50, Try.ntmps50
  go_wp2_with (first | ((with_reducible refine gate_dst (N := 4) rfl ?_); refine box_event ?hg (N := 4) ?hd (cs := #[.int .i64 0, .int .i64 0, .slice none 0 0]) (t := 28) ?hr ?_; (case hd => rfl); (case hg => rfl); (case hr => first | (go_simp; done) | (go_simp; rfl)); intro gb163 hg w7 hbox hb; have n0_ := Aside0.mk (Kd.V_below (Kd.V_elderB (by (with_reducible repeat (first | apply Kd.V_alloc | apply Kd.V_drewN | apply Kd.V_drew)); exact HO1.out) gb163 (Nat.le_of_eq hg.symm)) hb); have n1_ := Aside0.mk (below_step (by repeat (first | (with_reducible first | exact HB.out | apply below_alloc | apply pw_below_drewN | apply below_drew1) | exact HB.out)) hb); have n2_ := Aside0.mk (hbox); have n3_ := Aside0.mk ((by rw [hg]; exact (below_size (by repeat (first | (with_reducible first | exact HB.out | apply below_alloc | apply pw_below_drewN | apply below_drew1) | exact HB.out))) : w.heap.size ≤ gb163)); have n4_ := Aside0.mk ((by rw [hg]; exact (below_size (by repeat (first | (with_reducible first | exact HB.out | apply below_alloc | apply pw_below_drewN | apply below_drew1) | exact HB.out))) : w.heap.size ≤ gb163)); clear HO1; clear HB; have HO1 := n0_; have HB := n1_; have BK163 := n2_; have GW163 := n3_; have GE163 := n4_; clear n0_ n1_ n2_ n3_ n4_; clear hb hbox hg) | ((with_reducible refine gate_dst (N := 5) rfl ?_); refine box_event ?hg (N := 5) ?hd (cs := #[.int .i64 0, .int .i64 0, .slice none 0 0]) (t := 28) ?hr ?_; (case hd => rfl); (case hg => rfl); (case hr => first | (go_simp; done) | (go_simp; rfl)); intro gb165 hg w8 hbox hb; have n0_ := Aside0.mk (Kd.V_below (Kd.V_elderB (by (with_reducible repeat (first | apply Kd.V_alloc | apply Kd.V_drewN | apply Kd.V_drew)); exact HO1.out) gb165 (Nat.le_of_eq hg.symm)) hb); have n1_ := Aside0.mk (blk_below (g := gb163) (o := .cells #[.int .i64 0, .int .i64 0, .slice none 0 0] 28 (0, 0)) (by (with_reducible repeat (first | refine blk_drewN ?_ _ | refine blk_drew ?_ | refine blk_alloc ?_ _)); exact BK163.out) hb); have n2_ := Aside0.mk (below_step (by repeat (first | (with_reducible first | exact HB.out | apply below_alloc | apply pw_below_drewN | apply below_drew1 | refine below_set ?_ GE163.out) | exact HB.out)) hb); have n3_ := Aside0.mk (hbox); have n4_ := Aside0.mk ((by rw [hg]; exact (below_size (by repeat (first | (with_reducible first | exact HB.out | apply below_alloc | apply pw_below_drewN | apply below_drew1 | refine below_set ?_ GE163.out) | exact HB.out))) : w.heap.size ≤ gb165)); have n5_ := Aside0.mk ((by rw [hg]; exact (below_size (by repeat (first | (with_reducible first | exact HB.out | apply below_alloc | apply pw_below_drewN | apply below_drew1 | refine below_set ?_ GE163.out) | exact HB.out))) : w.heap.size ≤ gb165)); have n6_ := Aside0.mk ((by rw [hg]; exact Nat.ne_of_lt (blk_lt (g := gb163) (o := .cells #[.int .i64 0, .int .i64 0, .slice none 0 0] 28 (0, 0)) (by (with_reducible repeat (first | refine blk_drewN ?_ _ | refine blk_drew ?_ | refine blk_alloc ?_ _)); exact BK163.out)) : gb163 ≠ gb165)); have n7_ := Aside0.mk ((by rw [hg]; exact Nat.ne_of_gt (blk_lt (g := gb163) (o := .cells #[.int .i64 0, .int .i64 0, .slice none 0 0] 28 (0, 0)) (by (with_reducible repeat (first | refine blk_drewN ?_ _ | refine blk_drew ?_ | refine blk_alloc ?_ _)); exact BK163.out)) : gb165 ≠ gb163)); clear HO1; clear BK163; clear HB; have HO1 := n0_; have BK163 := n1_; have HB := n2_; have BK165 := n3_; have GW165 := n4_; have GE165 := n5_; have NB163_165 := n6_; have NB165_163 := n7_; clear n0_ n1_ n2_ n3_ n4_ n5_ n6_ n7_; clear hb hbox hg; have hnb9 := NB165_163.out; have hnc9 := NB163_165.out; have hcz10_0 : w8.cell? ⟨gb165, 0, none⟩ = some (.int .i64 0) := (blk_cell BK165.out 0).trans rfl; have hcz10_1 : w8.cell? ⟨gb165, 1, none⟩ = some (.int .i64 0) := (blk_cell BK165.out 1).trans rfl; have hcz10_2 : w8.cell? ⟨gb165, 2, none⟩ = some (.slice none 0 0) := (blk_cell BK165.out 2).trans rfl; have hfz10_0 := blk_frozen BK165.out 0; have hfz10_1 := blk_frozen BK165.out 1; have hfz10_2 := blk_frozen BK165.out 2))
  go_loopg [18] k (fun kq v18 w' => ∃ (x18_1 : Int) (x166002_1 : List (S28)) (u166002 : Value), v18 = .int .i64 x18_1 ∧ Aside0 (expr_together.l0 kq a0 l1 (l1.length : Int) x18_1 a0 0 x166002_1 = some (r1, r2, r3)) ∧ Aside0 (kq ≤ k) ∧ Aside0 (Kd.V k28 28 w' w.heap.size (fun k_ => (P1_ k_ ∨ w.heap.size ≤ k_) ∧ some k_ ≠ (u166002 : Value).ownBlock ∧ k_ ≠ gb163 ∧ k_ ≠ gb165) (.slice A1 l1.length c1) l1) ∧ Aside0 (Kd.N k28 28 w' w.heap.size (fun k_ => (P1_ k_ ∨ w.heap.size ≤ k_) ∧ k_ ≠ gb163 ∧ k_ ≠ gb165) u166002 x166002_1) ∧ Aside0 (w'.heap[gb163]? = some (.cells #[.int .i64 0, .int .i64 0, (.slice none 0 0)] 28 (0, 0))) ∧ Aside0 (w'.heap[gb165]? = some (.cells #[.int .i64 a0, .int .i64 0, u166002] 28 (0, 0))) ∧ Aside0 (Below w.heap.size w w'))
  case atStart => exact ⟨(0), (([] : List (S28))), (.slice none 0 0), (by first | rfl | (simp; done) | (simp [*]; done) | (simp [bne]; done)), H', ⟨Nat.le_refl _⟩, ⟨by (with_reducible repeat (first | apply Kd.V_alloc | apply Kd.V_drewN | apply Kd.V_drew)); exact Kd.V_mono (Kd.V_far (p := ⟨gb165, 2, none⟩) (Kd.V_far (p := ⟨gb165, 1, none⟩) (Kd.V_far (p := ⟨gb165, 0, none⟩) (Kd.V_mono HO1.out (fun k_ hk => (⟨hk, (by first | exact hk.2 | grind)⟩ : _ ∧ k_ ≠ gb165))) (fun _ hk => hk.2) (.int .i64 a0)) (fun _ hk => hk.2) (.int .i64 0)) (fun _ hk => hk.2) (.slice none 0 0)) (fun _ hk => (by first | exact ⟨hk.1.1.1, ⟨(by simp [Value.ownBlock]), ⟨hk.1.1.2, hk.1.2⟩⟩⟩ | grind))⟩, ⟨by first | exact Kd.R_nil _ _ _ _ _ | exact Kd.N_nil _ _ _ _ _ | exact Kd.V_nil _ _ _ _ _ | exact Kd.Q_nil _ _ _ _ _ | exact Kd.S_nil _ _ _ _ _⟩, ⟨by (with_reducible repeat (first | refine blk_drewN ?_ _ | refine blk_drew ?_ | refine blk_alloc ?_ _)); refine blk_far ?_ NB163_165.out _; (with_reducible repeat (first | refine blk_drewN ?_ _ | refine blk_drew ?_ | refine blk_alloc ?_ _)); refine blk_far ?_ NB163_165.out _; (with_reducible repeat (first | refine blk_drewN ?_ _ | refine blk_drew ?_ | refine blk_alloc ?_ _)); refine blk_far ?_ NB163_165.out _; (with_reducible repeat (first | refine blk_drewN ?_ _ | refine blk_drew ?_ | refine blk_alloc ?_ _)); exact BK163.out⟩, ⟨by (with_reducible repeat (first | refine blk_drewN ?_ _ | refine blk_drew ?_ | refine blk_alloc ?_ _)); refine blk_put (cs := #[.int .i64 a0, .int .i64 0, .slice none 0 0]) ?_ 2 _ rfl; (with_reducible repeat (first | refine blk_drewN ?_ _ | refine blk_drew ?_ | refine blk_alloc ?_ _)); refine blk_put (cs := #[.int .i64 a0, .int .i64 0, .slice none 0 0]) ?_ 1 _ rfl; (with_reducible repeat (first | refine blk_drewN ?_ _ | refine blk_drew ?_ | refine blk_alloc ?_ _)); refine blk_put (cs := #[.int .i64 0, .int .i64 0, .slice none 0 0]) ?_ 0 _ rfl; (with_reducible repeat (first | refine blk_drewN ?_ _ | refine blk_drew ?_ | refine blk_alloc ?_ _)); exact BK165.out⟩, ⟨by repeat (first | (with_reducible first | exact HB.out | apply below_alloc | apply pw_below_drewN | apply below_drew1 | refine below_set ?_ GE163.out | refine below_set ?_ GE165.out) | exact HB.out)⟩⟩
  case round =>
   clear H'
   try clear c1
   try clear p1
   try clear q1
   try clear hx1
   try clear qi1
   try clear p2
   try clear c3
   try clear c3b0
   try clear c3b1
   try clear c4
   try clear c4b0
   try clear c4b1
   try clear c5
   try clear c9
   try clear hcz10_0
   try clear hcz10_1
   try clear hcz10_2
   try clear hcz6_0
   try clear hcz6_1
   try clear hcz6_2
   try clear hfz10_0
   try clear hfz10_1
   try clear hfz10_2
   try clear hfz6_0
   try clear hfz6_1
   try clear hfz6_2
   try clear hx164_0
   try clear hx164_1
   try clear hx164_2
   try clear p164
   try clear q164
   obtain ⟨x18_1, x166002_1, u166002, rfl, HA, HK1, HO_16, HO_166002, BK163, BK165, HB⟩ := hrel
   cases gk with
   | zero => exact absurd HA.out (by simp [expr_together.l0])
   | succ k1 =>
    have H := HA.out
    clear HA
    simp only [expr_together.l0] at H
    by_cases c11 : x18_1 < (l1.length : Int)
    ·
     rw [if_pos c11] at H
     have c11b0 : decide (x18_1 < (l1.length : Int)) = true := decide_eq_true c11
     clear c11
     by_cases c12 : 0 ≤ x18_1
     ·
      rw [if_pos c12] at H
      have c12b0 : decide (0 ≤ x18_1) = true := decide_eq_true c12
      clear c12
      by_cases c13 : x18_1 < (l1.length : Int)
      ·
       rw [if_pos c13] at H
       have c13b0 : decide (x18_1 < (l1.length : Int)) = true := decide_eq_true c13
       clear c13
       by_cases c14 : ((rd_T28 l1 x18_1).f0) = a0
       ·
        rw [if_pos c14] at H
        have c14b0 : (((rd_T28 l1 x18_1).f0) == a0) = true := beq_iff_eq.mpr c14
        have c14b1 : (((rd_T28 l1 x18_1).f0) != a0) = false := bne_eq_false_iff_eq.mpr c14
        clear c14
        by_cases c15 : x166002_1.length + ((rd_T28 l1 x18_1).f2).length < 3518437208883
        ·
         rw [if_pos c15] at H
         have LMc15 := Aside0.mk c15
         clear c15
         obtain ⟨y168, hy168⟩ : ∃ y_ : List (S28), y_ = (x166002_1 ++ ((rd_T28 l1 x18_1).f2)) := ⟨_, rfl⟩
         replace H : (expr_together.l0 k1 a0 l1 (l1.length : Int) (wrap64 (x18_1 + 1)) a0 0 y168) = some (r1, r2, r3) := by first | (rw [hy168]; with_reducible exact H) | (have H2_ := (Option.bind_some _ _).symm.trans H; rw [hy168]; with_reducible exact H2_) | (have H2_ := (Option.bind_some _ _).symm.trans H; with_reducible exact H2_) | with_reducible exact H | (rw [hy168]; exact H) | exact H
         have Ny168 := Aside0.mk hy168
         clear hy168
         have H' := Aside0.mk H
         clear H
         have p166 : 0 ≤ (x18_1 : Int) := of_decide_eq_true (by first | (with_reducible assumption) | assumption)
         have q166 : x18_1 < (l1.length : Int) := of_decide_eq_true (by first | (with_reducible assumption) | assumption)
         obtain ⟨ad166, A166_2, c166_2, e166, hx166_0, hx166_1, hx166_2, hl166_2, hi166_2⟩ := at_T28 (Kd.V_reads' HO_16.out).2.2 x18_1 p166 q166
         cases e166
         obtain ⟨ce166, hce166, hMe166, hcc166⟩ := Kd.V_get HO_16.out z28 x18_1 p166 (by first | exact q166 | exact of_decide_eq_true (by first | (with_reducible assumption) | assumption) | (have e_ := (Kd.V_reads' HO_16.out).1; omega))
         obtain ⟨ua166_2, uc166_2, rfl, ul166_2, ge166_2⟩ := k28_openF hMe166
         have hv166_2 := hcc166 2 _ rfl
         rw [add_field _ _ 2 (by omega)] at hv166_2
         replace hv166_2 := Option.some.inj (hv166_2.symm.trans hx166_2)
         injection hv166_2 with hva_ hvn_ hvc_
         rw [hva_] at ge166_2
         rw [hvc_] at ul166_2
         have HL166_2 := Aside0.mk (show Kd.V k28 28 _ w.heap.size _ _ ((rd_T28 l1 x18_1).f2) from Kd.V_mk ul166_2 ge166_2)
         clear hva_ hvn_ hvc_ ge166_2 ul166_2
         clear hcc166 hce166
         have HR166_2 := Aside0.mk hi166_2
         have HC166_2 := Aside0.mk hl166_2
         clear hi166_2 hl166_2
         replace p166 := eq_true p166
         replace q166 := eq_true q166
         go_wp2_with (first | ((with_reducible refine gate_dst (N := 7) rfl ?_); refine box_event ?hg (N := 7) ?hd (cs := #[.int .i64 0, .int .i64 0, .slice none 0 0]) (t := 28) ?hr ?_; (case hd => rfl); (case hg => rfl); (case hr => first | (go_simp; done) | (go_simp; rfl)); intro gb167 hg w16 hbox hb; have n0_ := Aside0.mk (Kd.V_below (Kd.V_elderB (by (with_reducible repeat (first | apply Kd.V_alloc | apply Kd.V_drewN | apply Kd.V_drew)); exact HO_16.out) gb167 (Nat.le_of_eq hg.symm)) hb); have n1_ := Aside0.mk (Kd.N_below (Kd.N_elderB (by (with_reducible repeat (first | apply Kd.N_alloc | apply Kd.N_drewN | apply Kd.N_drew)); exact HO_166002.out) gb167 (Nat.le_of_eq hg.symm)) hb); have n2_ := Aside0.mk (Kd.V_below (Kd.V_elderB (by (with_reducible repeat (first | apply Kd.V_alloc | apply Kd.V_drewN | apply Kd.V_drew)); exact HL166_2.out) gb167 (Nat.le_of_eq hg.symm)) hb); have n3_ := Aside0.mk (blk_below (g := gb163) (o := .cells #[.int .i64 0, .int .i64 0, .slice none 0 0] 28 (0, 0)) (by (with_reducible repeat (first | refine blk_drewN ?_ _ | refine blk_drew ?_ | refine blk_alloc ?_ _)); exact BK163.out) hb); have n4_ := Aside0.mk (blk_below (g := gb165) (o := .cells #[.int .i64 a0, .int .i64 0, u166002] 28 (0, 0)) (by (with_reducible repeat (first | refine blk_drewN ?_ _ | refine blk_drew ?_ | refine blk_alloc ?_ _)); exact BK165.out) hb); (first | have n5_ := Aside0.mk (Kd.C_below (Kd.C_drewN HR166_2.out _) hb) | have n5_ := Aside0.mk (Kd.C_below HR166_2.out hb) | have n5_ := Aside0.mk (Kd.C_below (by repeat (first | (with_reducible exact HR166_2.out) | (with_reducible exact (Kd.R_reads' HL166_2.out).2.2) | (with_reducible refine Kd.C_alloc ?_ _) | (with_reducible refine Kd.C_drewN ?_ _) | (with_reducible refine Kd.C_drew ?_) | exact HR166_2.out)) hb)); have n6_ := Aside0.mk (below_step (by repeat (first | (with_reducible first | exact HB.out | apply below_alloc | apply pw_below_drewN | apply below_drew1 | refine below_set ?_ GE163.out | refine below_set ?_ GE165.out) | exact HB.out)) hb); have n7_ := Aside0.mk (hbox); have n8_ := Aside0.mk ((by rw [hg]; exact (below_size (by repeat (first | (with_reducible first | exact HB.out | apply below_alloc | apply pw_below_drewN | apply below_drew1 | refine below_set ?_ GE163.out | refine below_set ?_ GE165.out) | exact HB.out))) : w.heap.size ≤ gb167)); have n9_ := Aside0.mk ((by rw [hg]; exact (below_size (by repeat (first | (with_reducible first | exact HB.out | apply below_alloc | apply pw_below_drewN | apply below_drew1 | refine below_set ?_ GE163.out | refine below_set ?_ GE165.out) | exact HB.out))) : w.heap.size ≤ gb167)); have n10_ := Aside0.mk ((by rw [hg]; exact Nat.ne_of_lt (blk_lt (g := gb163) (o := .cells #[.int .i64 0, .int .i64 0, .slice none 0 0] 28 (0, 0)) (by (with_reducible repeat (first | refine blk_drewN ?_ _ | refine blk_drew ?_ | refine blk_alloc ?_ _)); exact BK163.out)) : gb163 ≠ gb167)); have n11_ := Aside0.mk ((by rw [hg]; exact Nat.ne_of_gt (blk_lt (g := gb163) (o := .cells #[.int .i64 0, .int .i64 0, .slice none 0 0] 28 (0, 0)) (by (with_reducible repeat (first | refine blk_drewN ?_ _ | refine blk_drew ?_ | refine blk_alloc ?_ _)); exact BK163.out)) : gb167 ≠ gb163)); have n12_ := Aside0.mk ((by rw [hg]; exact Nat.ne_of_lt (blk_lt (g := gb165) (o := .cells #[.int .i64 a0, .int .i64 0, u166002] 28 (0, 0)) (by (with_reducible repeat (first | refine blk_drewN ?_ _ | refine blk_drew ?_ | refine blk_alloc ?_ _)); exact BK165.out)) : gb165 ≠ gb167)); have n13_ := Aside0.mk ((by rw [hg]; exact Nat.ne_of_gt (blk_lt (g := gb165) (o := .cells #[.int .i64 a0, .int .i64 0, u166002] 28 (0, 0)) (by (with_reducible repeat (first | refine blk_drewN ?_ _ | refine blk_drew ?_ | refine blk_alloc ?_ _)); exact BK165.out)) : gb167 ≠ gb165)); clear HO_16; clear HO_166002; clear HL166_2; clear BK163; clear BK165; clear HR166_2; clear HB; have HO_16 := n0_; have HO_166002 := n1_; have HL166_2 := n2_; have BK163 := n3_; have BK165 := n4_; have HR166_2 := n5_; have HB := n6_; have BK167 := n7_; have GW167 := n8_; have GE167 := n9_; have NB163_167 := n10_; have NB167_163 := n11_; have NB165_167 := n12_; have NB167_165 := n13_; clear n0_ n1_ n2_ n3_ n4_ n5_ n6_ n7_ n8_ n9_ n10_ n11_ n12_ n13_; clear hb hbox hg; have hnb17 := NB167_163.out; have hnc17 := NB163_167.out; have hnb18 := NB167_165.out; have hnc18 := NB165_167.out; have hcz19_0 : w16.cell? ⟨gb167, 0, none⟩ = some (.int .i64 0) := (blk_cell BK167.out 0).trans rfl; have hcz19_1 : w16.cell? ⟨gb167, 1, none⟩ = some (.int .i64 0) := (blk_cell BK167.out 1).trans rfl; have hcz19_2 : w16.cell? ⟨gb167, 2, none⟩ = some (.slice none 0 0) := (blk_cell BK167.out 2).trans rfl; have hfz19_0 := blk_frozen BK167.out 0; have hfz19_1 := blk_frozen BK167.out 1; have hfz19_2 := blk_frozen BK167.out 2; have hnb20 := NB165_163.out; have hnc20 := NB163_165.out; have hcz21_0 : w16.cell? ⟨gb165, 0, none⟩ = some (.int .i64 a0) := (blk_cell BK165.out 0).trans rfl; have hcz21_1 : w16.cell? ⟨gb165, 1, none⟩ = some (.int .i64 0) := (blk_cell BK165.out 1).trans rfl; have hcz21_2 : w16.cell? ⟨gb165, 2, none⟩ = some (u166002) := (blk_cell BK165.out 2).trans rfl; have hfz21_0 := blk_frozen BK165.out 0; have hfz21_1 := blk_frozen BK165.out 1; have hfz21_2 := blk_frozen BK165.out 2) | ((with_reducible refine gate_builtin (b := .append) (xs := #[.tmp 27, .tmp 29]) rfl ?_); at_builtin; refine Kd.N_append_rows k28 (w0 := w) w.heap.size rfl (.tmp 27) (.tmp 29) 26 28 (.agg #[(.int .i64 0), (.int .i64 0), (.slice none 0 0)]) 40 rfl Try.underlying26 info28 rfl (by decide) (by omega) u166002 x166002_1 ((rd_T28 l1 x18_1).f2) _ _ _ (fun k_ => (P1_ k_ ∨ w.heap.size ≤ k_) ∧ k_ ≠ gb163 ∧ k_ ≠ gb165 ∧ k_ ≠ gb167) (fun k_ => ((fun k_ => (P1_ k_ ∨ w.heap.size ≤ k_) ∧ k_ ≠ gb163 ∧ k_ ≠ gb165 ∧ k_ ≠ gb167)) k_ ∧ some k_ ≠ (u166002 : Value).ownBlock) rfl rfl ?aO ?aR (fun _ hk => hk) ?aF ?aB ?aS ?aL ?_; (case aR => exact (by skip; exact Kd.V_F (Kd.V_mono (ok' := (fun k_ => ((fun k_ => (P1_ k_ ∨ w.heap.size ≤ k_) ∧ k_ ≠ gb163 ∧ k_ ≠ gb165 ∧ k_ ≠ gb167)) k_ ∧ some k_ ≠ (u166002 : Value).ownBlock)) ((Kd.V_far (p := ⟨gb167, 2, none⟩) (Kd.V_far (p := ⟨gb167, 1, none⟩) (Kd.V_far (p := ⟨gb167, 0, none⟩) (Kd.V_mono HL166_2.out (fun k_ hk => (⟨hk, (by first | exact hk.2 | grind)⟩ : _ ∧ k_ ≠ gb167))) (fun _ hk => hk.2) (.int .i64 ((rd_T28 l1 x18_1).f0))) (fun _ hk => hk.2) (.int .i64 ((rd_T28 l1 x18_1).f1))) (fun _ hk => hk.2) (.slice A166_2 ((rd_T28 l1 x18_1).f2).length c166_2))) (fun k_ hk => (by first | exact ⟨⟨hk.1.1.1, ⟨hk.1.1.2.2.1, ⟨hk.1.1.2.2.2, hk.1.2⟩⟩⟩, hk.1.1.2.1⟩ | grind))))); (case aB => exact (by repeat (first | (with_reducible first | exact HB.out | apply below_alloc | apply pw_below_drewN | apply below_drew1 | refine below_set ?_ GE163.out | refine below_set ?_ GE165.out | refine below_set ?_ GE167.out) | exact HB.out))); (case aF => exact (fun k_ hk => ⟨(.inr (Nat.le_trans (below_size (by repeat (first | (with_reducible first | exact HB.out | apply below_alloc | apply pw_below_drewN | apply below_drew1 | refine below_set ?_ GE163.out | refine below_set ?_ GE165.out | refine below_set ?_ GE167.out) | exact HB.out))) hk)), Kd.freshB (g := gb163) (o := .cells #[.int .i64 0, .int .i64 0, .slice none 0 0] 28 (0, 0)) (by (with_reducible repeat (first | refine blk_drewN ?_ _ | refine blk_drew ?_ | refine blk_alloc ?_ _)); refine blk_far ?_ NB163_167.out _; (with_reducible repeat (first | refine blk_drewN ?_ _ | refine blk_drew ?_ | refine blk_alloc ?_ _)); refine blk_far ?_ NB163_167.out _; (with_reducible repeat (first | refine blk_drewN ?_ _ | refine blk_drew ?_ | refine blk_alloc ?_ _)); refine blk_far ?_ NB163_167.out _; (with_reducible repeat (first | refine blk_drewN ?_ _ | refine blk_drew ?_ | refine blk_alloc ?_ _)); exact BK163.out) k_ hk, Kd.freshB (g := gb165) (o := .cells #[.int .i64 a0, .int .i64 0, u166002] 28 (0, 0)) (by (with_reducible repeat (first | refine blk_drewN ?_ _ | refine blk_drew ?_ | refine blk_alloc ?_ _)); refine blk_far ?_ NB165_167.out _; (with_reducible repeat (first | refine blk_drewN ?_ _ | refine blk_drew ?_ | refine blk_alloc ?_ _)); refine blk_far ?_ NB165_167.out _; (with_reducible repeat (first | refine blk_drewN ?_ _ | refine blk_drew ?_ | refine blk_alloc ?_ _)); refine blk_far ?_ NB165_167.out _; (with_reducible repeat (first | refine blk_drewN ?_ _ | refine blk_drew ?_ | refine blk_alloc ?_ _)); exact BK165.out) k_ hk, Kd.freshB (g := gb167) (o := .cells #[.int .i64 ((rd_T28 l1 x18_1).f0), .int .i64 ((rd_T28 l1 x18_1).f1), .slice A166_2 ((rd_T28 l1 x18_1).f2).length c166_2] 28 (0, 0)) (by (with_reducible repeat (first | refine blk_drewN ?_ _ | refine blk_drew ?_ | refine blk_alloc ?_ _)); refine blk_put (cs := #[.int .i64 ((rd_T28 l1 x18_1).f0), .int .i64 ((rd_T28 l1 x18_1).f1), .slice none 0 0]) ?_ 2 _ rfl; (with_reducible repeat (first | refine blk_drewN ?_ _ | refine blk_drew ?_ | refine blk_alloc ?_ _)); refine blk_put (cs := #[.int .i64 ((rd_T28 l1 x18_1).f0), .int .i64 0, .slice none 0 0]) ?_ 1 _ rfl; (with_reducible repeat (first | refine blk_drewN ?_ _ | refine blk_drew ?_ | refine blk_alloc ?_ _)); refine blk_put (cs := #[.int .i64 0, .int .i64 0, .slice none 0 0]) ?_ 0 _ rfl; (with_reducible repeat (first | refine blk_drewN ?_ _ | refine blk_drew ?_ | refine blk_alloc ?_ _)); exact BK167.out) k_ hk⟩)); (case aO => exact (by (with_reducible repeat (first | apply Kd.N_alloc | apply Kd.N_drewN | apply Kd.N_drew)); exact Kd.N_mono (Kd.N_far (p := ⟨gb167, 2, none⟩) (Kd.N_far (p := ⟨gb167, 1, none⟩) (Kd.N_far (p := ⟨gb167, 0, none⟩) (Kd.N_mono HO_166002.out (fun k_ hk => (⟨hk, (by first | exact hk.2 | grind)⟩ : _ ∧ k_ ≠ gb167))) (fun _ hk => hk.2) (.int .i64 ((rd_T28 l1 x18_1).f0))) (fun _ hk => hk.2) (.int .i64 ((rd_T28 l1 x18_1).f1))) (fun _ hk => hk.2) (.slice A166_2 ((rd_T28 l1 x18_1).f2).length c166_2)) (fun _ hk => (by first | exact ⟨hk.1.1.1, ⟨hk.1.1.2.1, ⟨hk.1.1.2.2, hk.1.2⟩⟩⟩ | grind)))); (case aS => exact (below_size (by repeat (first | (with_reducible first | exact HB.out | apply below_alloc | apply pw_below_drewN | apply below_drew1 | refine below_set ?_ GE163.out | refine below_set ?_ GE165.out | refine below_set ?_ GE167.out) | exact HB.out)))); (case aL => have := LMc15.out; omega); intro v169 w22 ho hb hg hat; rw [← Ny168.out] at ho; have n0_ := Aside0.mk (Kd.V_afterv (ok := (fun k_ => (P1_ k_ ∨ w.heap.size ≤ k_) ∧ k_ ≠ gb163 ∧ k_ ≠ gb165 ∧ k_ ≠ gb167)) (by (with_reducible repeat (first | apply Kd.V_alloc | apply Kd.V_drewN | apply Kd.V_drew)); exact Kd.V_mono (Kd.V_far (p := ⟨gb167, 2, none⟩) (Kd.V_far (p := ⟨gb167, 1, none⟩) (Kd.V_far (p := ⟨gb167, 0, none⟩) (Kd.V_mono HO_16.out (fun k_ hk => (⟨hk, (by first | exact hk.2 | grind)⟩ : _ ∧ k_ ≠ gb167))) (fun _ hk => hk.2) (.int .i64 ((rd_T28 l1 x18_1).f0))) (fun _ hk => hk.2) (.int .i64 ((rd_T28 l1 x18_1).f1))) (fun _ hk => hk.2) (.slice A166_2 ((rd_T28 l1 x18_1).f2).length c166_2)) (fun _ hk => (by first | exact ⟨⟨hk.1.1.1, ⟨hk.1.1.2.2.1, ⟨hk.1.1.2.2.2, hk.1.2⟩⟩⟩, hk.1.1.2.1⟩ | grind))) hg hat); have n1_ := Aside0.mk (blk_grown (g := gb163) (o := .cells #[.int .i64 0, .int .i64 0, .slice none 0 0] 28 (0, 0)) (by (with_reducible repeat (first | refine blk_drewN ?_ _ | refine blk_drew ?_ | refine blk_alloc ?_ _)); refine blk_far ?_ NB163_167.out _; (with_reducible repeat (first | refine blk_drewN ?_ _ | refine blk_drew ?_ | refine blk_alloc ?_ _)); refine blk_far ?_ NB163_167.out _; (with_reducible repeat (first | refine blk_drewN ?_ _ | refine blk_drew ?_ | refine blk_alloc ?_ _)); refine blk_far ?_ NB163_167.out _; (with_reducible repeat (first | refine blk_drewN ?_ _ | refine blk_drew ?_ | refine blk_alloc ?_ _)); exact BK163.out) hg (Kd.N_away HO_166002.out (fun _ hk => (by first | exact hk.1.2.1 | grind)))); have n2_ := Aside0.mk (blk_grown (g := gb165) (o := .cells #[.int .i64 a0, .int .i64 0, u166002] 28 (0, 0)) (by (with_reducible repeat (first | refine blk_drewN ?_ _ | refine blk_drew ?_ | refine blk_alloc ?_ _)); refine blk_far ?_ NB165_167.out _; (with_reducible repeat (first | refine blk_drewN ?_ _ | refine blk_drew ?_ | refine blk_alloc ?_ _)); refine blk_far ?_ NB165_167.out _; (with_reducible repeat (first | refine blk_drewN ?_ _ | refine blk_drew ?_ | refine blk_alloc ?_ _)); refine blk_far ?_ NB165_167.out _; (with_reducible repeat (first | refine blk_drewN ?_ _ | refine blk_drew ?_ | refine blk_alloc ?_ _)); exact BK165.out) hg (Kd.N_away HO_166002.out (fun _ hk => (by first | exact hk.1.2.2 | grind)))); have n3_ := Aside0.mk (Kd.V_afterv (ok := (fun k_ => (P1_ k_ ∨ w.heap.size ≤ k_) ∧ k_ ≠ gb163 ∧ k_ ≠ gb165 ∧ k_ ≠ gb167)) (by (with_reducible repeat (first | apply Kd.V_alloc | apply Kd.V_drewN | apply Kd.V_drew)); exact Kd.V_mono (Kd.V_far (p := ⟨gb167, 2, none⟩) (Kd.V_far (p := ⟨gb167, 1, none⟩) (Kd.V_far (p := ⟨gb167, 0, none⟩) (Kd.V_mono HL166_2.out (fun k_ hk => (⟨hk, (by first | exact hk.2 | grind)⟩ : _ ∧ k_ ≠ gb167))) (fun _ hk => hk.2) (.int .i64 ((rd_T28 l1 x18_1).f0))) (fun _ hk => hk.2) (.int .i64 ((rd_T28 l1 x18_1).f1))) (fun _ hk => hk.2) (.slice A166_2 ((rd_T28 l1 x18_1).f2).length c166_2)) (fun _ hk => (by first | exact ⟨⟨hk.1.1.1, ⟨hk.1.1.2.2.1, ⟨hk.1.1.2.2.2, hk.1.2⟩⟩⟩, hk.1.1.2.1⟩ | grind))) hg hat); have n4_ := Aside0.mk (blk_grown (g := gb167) (o := .cells #[.int .i64 ((rd_T28 l1 x18_1).f0), .int .i64 ((rd_T28 l1 x18_1).f1), .slice A166_2 ((rd_T28 l1 x18_1).f2).length c166_2] 28 (0, 0)) (by (with_reducible repeat (first | refine blk_drewN ?_ _ | refine blk_drew ?_ | refine blk_alloc ?_ _)); refine blk_put (cs := #[.int .i64 ((rd_T28 l1 x18_1).f0), .int .i64 ((rd_T28 l1 x18_1).f1), .slice none 0 0]) ?_ 2 _ rfl; (with_reducible repeat (first | refine blk_drewN ?_ _ | refine blk_drew ?_ | refine blk_alloc ?_ _)); refine blk_put (cs := #[.int .i64 ((rd_T28 l1 x18_1).f0), .int .i64 0, .slice none 0 0]) ?_ 1 _ rfl; (with_reducible repeat (first | refine blk_drewN ?_ _ | refine blk_drew ?_ | refine blk_alloc ?_ _)); refine blk_put (cs := #[.int .i64 0, .int .i64 0, .slice none 0 0]) ?_ 0 _ rfl; (with_reducible repeat (first | refine blk_drewN ?_ _ | refine blk_drew ?_ | refine blk_alloc ?_ _)); exact BK167.out) hg (Kd.N_away HO_166002.out (fun _ hk => (by first | exact hk.2 | grind)))); have n5_ := Aside0.mk (hb); have n6_ := Aside0.mk (ho); clear HO_16; clear BK163; clear BK165; clear HL166_2; clear BK167; clear HB; clear HO_166002; have HO_16 := n0_; have BK163 := n1_; have BK165 := n2_; have HL166_2 := n3_; have BK167 := n4_; have HB := n5_; have HO170 := n6_; clear n0_ n1_ n2_ n3_ n4_ n5_ n6_; clear ho hb hg hat; obtain ⟨Ao23, co23, eo23⟩ := Kd.N_slice HO170.out; subst eo23; have hcz24_0 : w22.cell? ⟨gb165, 0, none⟩ = some (.int .i64 a0) := (blk_cell BK165.out 0).trans rfl; have hcz24_1 : w22.cell? ⟨gb165, 1, none⟩ = some (.int .i64 0) := (blk_cell BK165.out 1).trans rfl; have hcz24_2 : w22.cell? ⟨gb165, 2, none⟩ = some (u166002) := (blk_cell BK165.out 2).trans rfl; have hfz24_0 := blk_frozen BK165.out 0; have hfz24_1 := blk_frozen BK165.out 1; have hfz24_2 := blk_frozen BK165.out 2))
         go_roundg k1
         case measure => have := HK1.out; omega
         case rel => exact ⟨(wrap64 (x18_1 + 1)), (y168), (.slice Ao23 y168.length co23), (by first | rfl | (simp; done) | (simp [*]; done) | (simp [bne]; done)), H', ⟨by have := HK1.out; omega⟩, ⟨by (with_reducible repeat (first | apply Kd.V_alloc | apply Kd.V_drewN | apply Kd.V_drew)); exact Kd.V_mono (Kd.V_far (p := ⟨gb165, 2, none⟩) (Kd.V_mono HO_16.out (fun k_ hk => (⟨hk, (by first | exact hk.1.2.2.1 | grind)⟩ : _ ∧ k_ ≠ gb165))) (fun _ hk => hk.2) (.slice Ao23 y168.length co23)) (fun _ hk => (by first | exact ⟨hk.1.1.1, ⟨hk.1.2, ⟨hk.1.1.2.1, hk.1.1.2.2.1⟩⟩⟩ | grind))⟩, ⟨by (with_reducible repeat (first | apply Kd.N_alloc | apply Kd.N_drewN | apply Kd.N_drew)); exact Kd.N_mono (Kd.N_far (p := ⟨gb165, 2, none⟩) (Kd.N_mono HO170.out (fun k_ hk => (⟨hk, (by first | exact hk.2.2.1 | grind)⟩ : _ ∧ k_ ≠ gb165))) (fun _ hk => hk.2) (.slice Ao23 y168.length co23)) (fun _ hk => (by first | exact ⟨hk.1.1, ⟨hk.1.2.1, hk.1.2.2.1⟩⟩ | grind))⟩, ⟨by (with_reducible repeat (first | refine blk_drewN ?_ _ | refine blk_drew ?_ | refine blk_alloc ?_ _)); refine blk_far ?_ NB163_165.out _; (with_reducible repeat (first | refine blk_drewN ?_ _ | refine blk_drew ?_ | refine blk_alloc ?_ _)); exact BK163.out⟩, ⟨by (with_reducible repeat (first | refine blk_drewN ?_ _ | refine blk_drew ?_ | refine blk_alloc ?_ _)); refine blk_put (cs := #[.int .i64 a0, .int .i64 0, u166002]) ?_ 2 _ rfl; (with_reducible repeat (first | refine blk_drewN ?_ _ | refine blk_drew ?_ | refine blk_alloc ?_ _)); exact BK165.out⟩, ⟨by repeat (first | (with_reducible first | exact HB.out | apply below_alloc | apply pw_below_drewN | apply below_drew1 | refine below_set ?_ GE163.out | refine below_set ?_ GE165.out | refine below_set ?_ GE167.out) | exact HB.out)⟩⟩
        ·
         rw [if_neg c15] at H
         exact absurd H (by simp)
       ·
        rw [if_neg c14] at H
        have c14b0 : (((rd_T28 l1 x18_1).f0) == a0) = false := beq_eq_false_iff_ne.mpr c14
        have c14b1 : (((rd_T28 l1 x18_1).f0) != a0) = true := bne_iff_ne.mpr c14
        by_cases c25 : x166002_1.length < 3518437208883
        ·
         rw [if_pos c25] at H
         have LMc25 := Aside0.mk c25
         clear c25
         obtain ⟨y171, hy171⟩ : ∃ y_ : List (S28), y_ = (x166002_1 ++ [(⟨(rd_T28 l1 x18_1).f0, (rd_T28 l1 x18_1).f1, (rd_T28 l1 x18_1).f2⟩ : S28)]) := ⟨_, rfl⟩
         replace H : (expr_together.l0 k1 a0 l1 (l1.length : Int) (wrap64 (x18_1 + 1)) a0 0 y171) = some (r1, r2, r3) := by first | (rw [hy171]; with_reducible exact H) | (have H2_ := (Option.bind_some _ _).symm.trans H; rw [hy171]; with_reducible exact H2_) | (have H2_ := (Option.bind_some _ _).symm.trans H; with_reducible exact H2_) | with_reducible exact H | (rw [hy171]; exact H) | exact H
         have Ny171 := Aside0.mk hy171
         clear hy171
         have H' := Aside0.mk H
         clear H
         have p166 : 0 ≤ (x18_1 : Int) := of_decide_eq_true (by first | (with_reducible assumption) | assumption)
         have q166 : x18_1 < (l1.length : Int) := of_decide_eq_true (by first | (with_reducible assumption) | assumption)
         obtain ⟨ad166, A166_2, c166_2, e166, hx166_0, hx166_1, hx166_2, hl166_2, hi166_2⟩ := at_T28 (Kd.V_reads' HO_16.out).2.2 x18_1 p166 q166
         cases e166
         obtain ⟨ce166, hce166, hMe166, hcc166⟩ := Kd.V_get HO_16.out z28 x18_1 p166 (by first | exact q166 | exact of_decide_eq_true (by first | (with_reducible assumption) | assumption) | (have e_ := (Kd.V_reads' HO_16.out).1; omega))
         obtain ⟨ua166_2, uc166_2, rfl, ul166_2, ge166_2⟩ := k28_openF hMe166
         have hv166_2 := hcc166 2 _ rfl
         rw [add_field _ _ 2 (by omega)] at hv166_2
         replace hv166_2 := Option.some.inj (hv166_2.symm.trans hx166_2)
         injection hv166_2 with hva_ hvn_ hvc_
         rw [hva_] at ge166_2
         rw [hvc_] at ul166_2
         have HL166_2 := Aside0.mk (show Kd.V k28 28 _ w.heap.size _ _ ((rd_T28 l1 x18_1).f2) from Kd.V_mk ul166_2 ge166_2)
         clear hva_ hvn_ hvc_ ge166_2 ul166_2
         clear hcc166 hce166
         have HR166_2 := Aside0.mk hi166_2
         have HC166_2 := Aside0.mk hl166_2
         clear hi166_2 hl166_2
         replace p166 := eq_true p166
         replace q166 := eq_true q166
         go_wp2_with (first | ((with_reducible refine gate_dst (N := 7) rfl ?_); refine box_event ?hg (N := 7) ?hd (cs := #[.int .i64 0, .int .i64 0, .slice none 0 0]) (t := 28) ?hr ?_; (case hd => rfl); (case hg => rfl); (case hr => first | (go_simp; done) | (go_simp; rfl)); intro gb167 hg w26 hbox hb; have n0_ := Aside0.mk (Kd.V_below (Kd.V_elderB (by (with_reducible repeat (first | apply Kd.V_alloc | apply Kd.V_drewN | apply Kd.V_drew)); exact HO_16.out) gb167 (Nat.le_of_eq hg.symm)) hb); have n1_ := Aside0.mk (Kd.N_below (Kd.N_elderB (by (with_reducible repeat (first | apply Kd.N_alloc | apply Kd.N_drewN | apply Kd.N_drew)); exact HO_166002.out) gb167 (Nat.le_of_eq hg.symm)) hb); have n2_ := Aside0.mk (Kd.V_below (Kd.V_elderB (by (with_reducible repeat (first | apply Kd.V_alloc | apply Kd.V_drewN | apply Kd.V_drew)); exact HL166_2.out) gb167 (Nat.le_of_eq hg.symm)) hb); have n3_ := Aside0.mk (blk_below (g := gb163) (o := .cells #[.int .i64 0, .int .i64 0, .slice none 0 0] 28 (0, 0)) (by (with_reducible repeat (first | refine blk_drewN ?_ _ | refine blk_drew ?_ | refine blk_alloc ?_ _)); exact BK163.out) hb); have n4_ := Aside0.mk (blk_below (g := gb165) (o := .cells #[.int .i64 a0, .int .i64 0, u166002] 28 (0, 0)) (by (with_reducible repeat (first | refine blk_drewN ?_ _ | refine blk_drew ?_ | refine blk_alloc ?_ _)); exact BK165.out) hb); (first | have n5_ := Aside0.mk (Kd.C_below (Kd.C_drewN HR166_2.out _) hb) | have n5_ := Aside0.mk (Kd.C_below HR166_2.out hb) | have n5_ := Aside0.mk (Kd.C_below (by repeat (first | (with_reducible exact HR166_2.out) | (with_reducible exact (Kd.R_reads' HL166_2.out).2.2) | (with_reducible refine Kd.C_alloc ?_ _) | (with_reducible refine Kd.C_drewN ?_ _) | (with_reducible refine Kd.C_drew ?_) | exact HR166_2.out)) hb)); have n6_ := Aside0.mk (below_step (by repeat (first | (with_reducible first | exact HB.out | apply below_alloc | apply pw_below_drewN | apply below_drew1 | refine below_set ?_ GE163.out | refine below_set ?_ GE165.out) | exact HB.out)) hb); have n7_ := Aside0.mk (hbox); have n8_ := Aside0.mk ((by rw [hg]; exact (below_size (by repeat (first | (with_reducible first | exact HB.out | apply below_alloc | apply pw_below_drewN | apply below_drew1 | refine below_set ?_ GE163.out | refine below_set ?_ GE165.out) | exact HB.out))) : w.heap.size ≤ gb167)); have n9_ := Aside0.mk ((by rw [hg]; exact (below_size (by repeat (first | (with_reducible first | exact HB.out | apply below_alloc | apply pw_below_drewN | apply below_drew1 | refine below_set ?_ GE163.out | refine below_set ?_ GE165.out) | exact HB.out))) : w.heap.size ≤ gb167)); have n10_ := Aside0.mk ((by rw [hg]; exact Nat.ne_of_lt (blk_lt (g := gb163) (o := .cells #[.int .i64 0, .int .i64 0, .slice none 0 0] 28 (0, 0)) (by (with_reducible repeat (first | refine blk_drewN ?_ _ | refine blk_drew ?_ | refine blk_alloc ?_ _)); exact BK163.out)) : gb163 ≠ gb167)); have n11_ := Aside0.mk ((by rw [hg]; exact Nat.ne_of_gt (blk_lt (g := gb163) (o := .cells #[.int .i64 0, .int .i64 0, .slice none 0 0] 28 (0, 0)) (by (with_reducible repeat (first | refine blk_drewN ?_ _ | refine blk_drew ?_ | refine blk_alloc ?_ _)); exact BK163.out)) : gb167 ≠ gb163)); have n12_ := Aside0.mk ((by rw [hg]; exact Nat.ne_of_lt (blk_lt (g := gb165) (o := .cells #[.int .i64 a0, .int .i64 0, u166002] 28 (0, 0)) (by (with_reducible repeat (first | refine blk_drewN ?_ _ | refine blk_drew ?_ | refine blk_alloc ?_ _)); exact BK165.out)) : gb165 ≠ gb167)); have n13_ := Aside0.mk ((by rw [hg]; exact Nat.ne_of_gt (blk_lt (g := gb165) (o := .cells #[.int .i64 a0, .int .i64 0, u166002] 28 (0, 0)) (by (with_reducible repeat (first | refine blk_drewN ?_ _ | refine blk_drew ?_ | refine blk_alloc ?_ _)); exact BK165.out)) : gb167 ≠ gb165)); clear HO_16; clear HO_166002; clear HL166_2; clear BK163; clear BK165; clear HR166_2; clear HB; have HO_16 := n0_; have HO_166002 := n1_; have HL166_2 := n2_; have BK163 := n3_; have BK165 := n4_; have HR166_2 := n5_; have HB := n6_; have BK167 := n7_; have GW167 := n8_; have GE167 := n9_; have NB163_167 := n10_; have NB167_163 := n11_; have NB165_167 := n12_; have NB167_165 := n13_; clear n0_ n1_ n2_ n3_ n4_ n5_ n6_ n7_ n8_ n9_ n10_ n11_ n12_ n13_; clear hb hbox hg; have hnb27 := NB167_163.out; have hnc27 := NB163_167.out; have hnb28 := NB167_165.out; have hnc28 := NB165_167.out; have hcz29_0 : w26.cell? ⟨gb167, 0, none⟩ = some (.int .i64 0) := (blk_cell BK167.out 0).trans rfl; have hcz29_1 : w26.cell? ⟨gb167, 1, none⟩ = some (.int .i64 0) := (blk_cell BK167.out 1).trans rfl; have hcz29_2 : w26.cell? ⟨gb167, 2, none⟩ = some (.slice none 0 0) := (blk_cell BK167.out 2).trans rfl; have hfz29_0 := blk_frozen BK167.out 0; have hfz29_1 := blk_frozen BK167.out 1; have hfz29_2 := blk_frozen BK167.out 2) | ((with_reducible refine gate_store (t := 28) (p := 7) rfl ?_); refine store_event (t := 28) (p := 7) (v := ?vo_w30) (w1 := (((w26.setCell ⟨gb167, 0, none⟩ (.int .i64 ((rd_T28 l1 x18_1).f0))).setCell ⟨gb167, 1, none⟩ (.int .i64 ((rd_T28 l1 x18_1).f1))).setCell ⟨gb167, 2, none⟩ (.slice A166_2 ((rd_T28 l1 x18_1).f2).length c166_2))) ?hg ?ho ?hn ?hr ?_; (case ho => rfl); (case hg => rfl); (case hn => rfl); (case hr => first | (go_simp; done) | (go_simp; rfl)); intro w30 hw; have n0_ : Aside0 (Kd.V k28 28 w30 w.heap.size (fun k_ => (P1_ k_ ∨ w.heap.size ≤ k_) ∧ some k_ ≠ (u166002 : Value).ownBlock ∧ k_ ≠ gb163 ∧ k_ ≠ gb165 ∧ k_ ≠ gb167) (.slice (some ad166) l1.length c1) l1) := ⟨(by rw [hw]; exact (by (with_reducible repeat (first | apply Kd.V_alloc | apply Kd.V_drewN | apply Kd.V_drew)); exact Kd.V_mono (Kd.V_far (p := ⟨gb167, 2, none⟩) (Kd.V_far (p := ⟨gb167, 1, none⟩) (Kd.V_far (p := ⟨gb167, 0, none⟩) (Kd.V_mono HO_16.out (fun k_ hk => (⟨hk, (by first | exact hk.2 | grind)⟩ : _ ∧ k_ ≠ gb167))) (fun _ hk => hk.2) (.int .i64 ((rd_T28 l1 x18_1).f0))) (fun _ hk => hk.2) (.int .i64 ((rd_T28 l1 x18_1).f1))) (fun _ hk => hk.2) (.slice A166_2 ((rd_T28 l1 x18_1).f2).length c166_2)) (fun _ hk => (by first | exact ⟨hk.1.1.1, ⟨hk.1.1.2.1, ⟨hk.1.1.2.2.1, ⟨hk.1.1.2.2.2, hk.1.2⟩⟩⟩⟩ | grind))))⟩; have n1_ : Aside0 (Kd.N k28 28 w30 w.heap.size (fun k_ => (P1_ k_ ∨ w.heap.size ≤ k_) ∧ k_ ≠ gb163 ∧ k_ ≠ gb165 ∧ k_ ≠ gb167) u166002 x166002_1) := ⟨(by rw [hw]; exact (by (with_reducible repeat (first | apply Kd.N_alloc | apply Kd.N_drewN | apply Kd.N_drew)); exact Kd.N_mono (Kd.N_far (p := ⟨gb167, 2, none⟩) (Kd.N_far (p := ⟨gb167, 1, none⟩) (Kd.N_far (p := ⟨gb167, 0, none⟩) (Kd.N_mono HO_166002.out (fun k_ hk => (⟨hk, (by first | exact hk.2 | grind)⟩ : _ ∧ k_ ≠ gb167))) (fun _ hk => hk.2) (.int .i64 ((rd_T28 l1 x18_1).f0))) (fun _ hk => hk.2) (.int .i64 ((rd_T28 l1 x18_1).f1))) (fun _ hk => hk.2) (.slice A166_2 ((rd_T28 l1 x18_1).f2).length c166_2)) (fun _ hk => (by first | exact ⟨hk.1.1.1, ⟨hk.1.1.2.1, ⟨hk.1.1.2.2, hk.1.2⟩⟩⟩ | grind))))⟩; have n2_ : Aside0 (Kd.V k28 28 w30 w.heap.size (fun k_ => (P1_ k_ ∨ w.heap.size ≤ k_) ∧ some k_ ≠ (u166002 : Value).ownBlock ∧ k_ ≠ gb163 ∧ k_ ≠ gb165 ∧ k_ ≠ gb167) (.slice A166_2 ((rd_T28 l1 x18_1).f2).length c166_2) ((rd_T28 l1 x18_1).f2)) := ⟨(by rw [hw]; exact (by (with_reducible repeat (first | apply Kd.V_alloc | apply Kd.V_drewN | apply Kd.V_drew)); exact Kd.V_mono (Kd.V_far (p := ⟨gb167, 2, none⟩) (Kd.V_far (p := ⟨gb167, 1, none⟩) (Kd.V_far (p := ⟨gb167, 0, none⟩) (Kd.V_mono HL166_2.out (fun k_ hk => (⟨hk, (by first | exact hk.2 | grind)⟩ : _ ∧ k_ ≠ gb167))) (fun _ hk => hk.2) (.int .i64 ((rd_T28 l1 x18_1).f0))) (fun _ hk => hk.2) (.int .i64 ((rd_T28 l1 x18_1).f1))) (fun _ hk => hk.2) (.slice A166_2 ((rd_T28 l1 x18_1).f2).length c166_2)) (fun _ hk => (by first | exact ⟨hk.1.1.1, ⟨hk.1.1.2.1, ⟨hk.1.1.2.2.1, ⟨hk.1.1.2.2.2, hk.1.2⟩⟩⟩⟩ | grind))))⟩; have n3_ : Aside0 (w30.heap[gb163]? = some (.cells #[.int .i64 0, .int .i64 0, .slice none 0 0] 28 (0, 0))) := ⟨(by rw [hw]; exact (by (with_reducible repeat (first | refine blk_drewN ?_ _ | refine blk_drew ?_ | refine blk_alloc ?_ _)); refine blk_far ?_ NB163_167.out _; (with_reducible repeat (first | refine blk_drewN ?_ _ | refine blk_drew ?_ | refine blk_alloc ?_ _)); refine blk_far ?_ NB163_167.out _; (with_reducible repeat (first | refine blk_drewN ?_ _ | refine blk_drew ?_ | refine blk_alloc ?_ _)); refine blk_far ?_ NB163_167.out _; (with_reducible repeat (first | refine blk_drewN ?_ _ | refine blk_drew ?_ | refine blk_alloc ?_ _)); exact BK163.out))⟩; have n4_ : Aside0 (w30.heap[gb165]? = some (.cells #[.int .i64 a0, .int .i64 0, u166002] 28 (0, 0))) := ⟨(by rw [hw]; exact (by (with_reducible repeat (first | refine blk_drewN ?_ _ | refine blk_drew ?_ | refine blk_alloc ?_ _)); refine blk_far ?_ NB165_167.out _; (with_reducible repeat (first | refine blk_drewN ?_ _ | refine blk_drew ?_ | refine blk_alloc ?_ _)); refine blk_far ?_ NB165_167.out _; (with_reducible repeat (first | refine blk_drewN ?_ _ | refine blk_drew ?_ | refine blk_alloc ?_ _)); refine blk_far ?_ NB165_167.out _; (with_reducible repeat (first | refine blk_drewN ?_ _ | refine blk_drew ?_ | refine blk_alloc ?_ _)); exact BK165.out))⟩; have n5_ : Aside0 (w30.heap[gb167]? = some (.cells #[.int .i64 ((rd_T28 l1 x18_1).f0), .int .i64 ((rd_T28 l1 x18_1).f1), .slice A166_2 ((rd_T28 l1 x18_1).f2).length c166_2] 28 (0, 0))) := ⟨(by rw [hw]; exact (by (with_reducible repeat (first | refine blk_drewN ?_ _ | refine blk_drew ?_ | refine blk_alloc ?_ _)); refine blk_put (cs := #[.int .i64 ((rd_T28 l1 x18_1).f0), .int .i64 ((rd_T28 l1 x18_1).f1), .slice none 0 0]) ?_ 2 _ rfl; (with_reducible repeat (first | refine blk_drewN ?_ _ | refine blk_drew ?_ | refine blk_alloc ?_ _)); refine blk_put (cs := #[.int .i64 ((rd_T28 l1 x18_1).f0), .int .i64 0, .slice none 0 0]) ?_ 1 _ rfl; (with_reducible repeat (first | refine blk_drewN ?_ _ | refine blk_drew ?_ | refine blk_alloc ?_ _)); refine blk_put (cs := #[.int .i64 0, .int .i64 0, .slice none 0 0]) ?_ 0 _ rfl; (with_reducible repeat (first | refine blk_drewN ?_ _ | refine blk_drew ?_ | refine blk_alloc ?_ _)); exact BK167.out))⟩; have n6_ : Aside0 (Below w.heap.size w w30) := ⟨(by rw [hw]; exact (by repeat (first | (with_reducible first | exact HB.out | apply below_alloc | apply pw_below_drewN | apply below_drew1 | refine below_set ?_ GE163.out | refine below_set ?_ GE165.out | refine below_set ?_ GE167.out) | exact HB.out)))⟩; clear hw; clear HO_16; clear HO_166002; clear HL166_2; clear BK163; clear BK165; clear BK167; clear HB; have HO_16 := n0_; have HO_166002 := n1_; have HL166_2 := n2_; have BK163 := n3_; have BK165 := n4_; have BK167 := n5_; have HB := n6_; clear n0_ n1_ n2_ n3_ n4_ n5_ n6_; have hcz31_0 : w30.cell? ⟨gb167, 0, none⟩ = some (.int .i64 ((rd_T28 l1 x18_1).f0)) := (blk_cell BK167.out 0).trans rfl; have hcz31_1 : w30.cell? ⟨gb167, 1, none⟩ = some (.int .i64 ((rd_T28 l1 x18_1).f1)) := (blk_cell BK167.out 1).trans rfl; have hcz31_2 : w30.cell? ⟨gb167, 2, none⟩ = some (.slice A166_2 ((rd_T28 l1 x18_1).f2).length c166_2) := (blk_cell BK167.out 2).trans rfl; have hfz31_0 := blk_frozen BK167.out 0; have hfz31_1 := blk_frozen BK167.out 1; have hfz31_2 := blk_frozen BK167.out 2; have hnb32 := NB165_163.out; have hnc32 := NB163_165.out; have hcz33_0 : w30.cell? ⟨gb165, 0, none⟩ = some (.int .i64 a0) := (blk_cell BK165.out 0).trans rfl; have hcz33_1 : w30.cell? ⟨gb165, 1, none⟩ = some (.int .i64 0) := (blk_cell BK165.out 1).trans rfl; have hcz33_2 : w30.cell? ⟨gb165, 2, none⟩ = some (u166002) := (blk_cell BK165.out 2).trans rfl; have hfz33_0 := blk_frozen BK165.out 0; have hfz33_1 := blk_frozen BK165.out 1; have hfz33_2 := blk_frozen BK165.out 2) | ((with_reducible refine gate_builtin (b := .append) (xs := #[.tmp 33, .tmp 35]) rfl ?_); at_builtin; refine Kd.N_append k28 (w0 := w) w.heap.size rfl (.tmp 33) (.tmp 35) 26 28 (.agg #[(.int .i64 0), (.int .i64 0), (.slice none 0 0)]) 40 rfl Try.underlying26 info28 rfl (by decide) (by omega) u166002 x166002_1 (⟨(rd_T28 l1 x18_1).f0, (rd_T28 l1 x18_1).f1, (rd_T28 l1 x18_1).f2⟩ : S28) [.int .i64 ((rd_T28 l1 x18_1).f0), .int .i64 ((rd_T28 l1 x18_1).f1), .slice A166_2 ((rd_T28 l1 x18_1).f2).length c166_2] (fun k_ => (P1_ k_ ∨ w.heap.size ≤ k_) ∧ k_ ≠ gb163 ∧ k_ ≠ gb165 ∧ k_ ≠ gb167) (fun k_ => ((fun k_ => (P1_ k_ ∨ w.heap.size ≤ k_) ∧ k_ ≠ gb163 ∧ k_ ≠ gb165 ∧ k_ ≠ gb167)) k_ ∧ some k_ ≠ (u166002 : Value).ownBlock) rfl rfl ?aP (fun _ hk => hk) ?aF ?aO ?aB ?aS ?aL ?_; (case aP => exact (k28_mkF _ _ (⟨(rd_T28 l1 x18_1).f0, (rd_T28 l1 x18_1).f1, (rd_T28 l1 x18_1).f2⟩ : S28) (Kd.V_reads' (Kd.V_mono (ok' := (fun k_ => ((fun k_ => (P1_ k_ ∨ w.heap.size ≤ k_) ∧ k_ ≠ gb163 ∧ k_ ≠ gb165 ∧ k_ ≠ gb167)) k_ ∧ some k_ ≠ (u166002 : Value).ownBlock)) (HL166_2.out) (fun k_ hk => (by first | exact ⟨⟨hk.1, ⟨hk.2.2.1, ⟨hk.2.2.2.1, hk.2.2.2.2⟩⟩⟩, hk.2.1⟩ | grind)))).2.1 (Kd.V_F (Kd.V_mono (ok' := (fun k_ => ((fun k_ => (P1_ k_ ∨ w.heap.size ≤ k_) ∧ k_ ≠ gb163 ∧ k_ ≠ gb165 ∧ k_ ≠ gb167)) k_ ∧ some k_ ≠ (u166002 : Value).ownBlock)) (HL166_2.out) (fun k_ hk => (by first | exact ⟨⟨hk.1, ⟨hk.2.2.1, ⟨hk.2.2.2.1, hk.2.2.2.2⟩⟩⟩, hk.2.1⟩ | grind)))))); (case aB => exact (by repeat (first | (with_reducible first | exact HB.out | apply below_alloc | apply pw_below_drewN | apply below_drew1 | refine below_set ?_ GE163.out | refine below_set ?_ GE165.out | refine below_set ?_ GE167.out) | exact HB.out))); (case aF => exact (fun k_ hk => ⟨(.inr (Nat.le_trans (below_size (by repeat (first | (with_reducible first | exact HB.out | apply below_alloc | apply pw_below_drewN | apply below_drew1 | refine below_set ?_ GE163.out | refine below_set ?_ GE165.out | refine below_set ?_ GE167.out) | exact HB.out))) hk)), Kd.freshB (g := gb163) (o := .cells #[.int .i64 0, .int .i64 0, .slice none 0 0] 28 (0, 0)) (by (with_reducible repeat (first | refine blk_drewN ?_ _ | refine blk_drew ?_ | refine blk_alloc ?_ _)); exact BK163.out) k_ hk, Kd.freshB (g := gb165) (o := .cells #[.int .i64 a0, .int .i64 0, u166002] 28 (0, 0)) (by (with_reducible repeat (first | refine blk_drewN ?_ _ | refine blk_drew ?_ | refine blk_alloc ?_ _)); exact BK165.out) k_ hk, Kd.freshB (g := gb167) (o := .cells #[.int .i64 ((rd_T28 l1 x18_1).f0), .int .i64 ((rd_T28 l1 x18_1).f1), .slice A166_2 ((rd_T28 l1 x18_1).f2).length c166_2] 28 (0, 0)) (by (with_reducible repeat (first | refine blk_drewN ?_ _ | refine blk_drew ?_ | refine blk_alloc ?_ _)); exact BK167.out) k_ hk⟩)); (case aO => exact (by (with_reducible repeat (first | apply Kd.N_alloc | apply Kd.N_drewN | apply Kd.N_drew)); exact HO_166002.out)); (case aS => exact (below_size (by repeat (first | (with_reducible first | exact HB.out | apply below_alloc | apply pw_below_drewN | apply below_drew1 | refine below_set ?_ GE163.out | refine below_set ?_ GE165.out | refine below_set ?_ GE167.out) | exact HB.out)))); (case aL => have := LMc25.out; omega); intro v172 w34 ho hb hg hat; rw [← Ny171.out] at ho; have n0_ := Aside0.mk (Kd.V_afterv (ok := (fun k_ => (P1_ k_ ∨ w.heap.size ≤ k_) ∧ k_ ≠ gb163 ∧ k_ ≠ gb165 ∧ k_ ≠ gb167)) (by (with_reducible repeat (first | apply Kd.V_alloc | apply Kd.V_drewN | apply Kd.V_drew)); exact Kd.V_mono HO_16.out (fun _ hk => (by first | exact ⟨⟨hk.1, ⟨hk.2.2.1, ⟨hk.2.2.2.1, hk.2.2.2.2⟩⟩⟩, hk.2.1⟩ | grind))) hg hat); have n1_ := Aside0.mk (blk_grown (g := gb163) (o := .cells #[.int .i64 0, .int .i64 0, .slice none 0 0] 28 (0, 0)) (by (with_reducible repeat (first | refine blk_drewN ?_ _ | refine blk_drew ?_ | refine blk_alloc ?_ _)); exact BK163.out) hg (Kd.N_away HO_166002.out (fun _ hk => (by first | exact hk.2.1 | grind)))); have n2_ := Aside0.mk (blk_grown (g := gb165) (o := .cells #[.int .i64 a0, .int .i64 0, u166002] 28 (0, 0)) (by (with_reducible repeat (first | refine blk_drewN ?_ _ | refine blk_drew ?_ | refine blk_alloc ?_ _)); exact BK165.out) hg (Kd.N_away HO_166002.out (fun _ hk => (by first | exact hk.2.2.1 | grind)))); have n3_ := Aside0.mk (Kd.V_afterv (ok := (fun k_ => (P1_ k_ ∨ w.heap.size ≤ k_) ∧ k_ ≠ gb163 ∧ k_ ≠ gb165 ∧ k_ ≠ gb167)) (by (with_reducible repeat (first | apply Kd.V_alloc | apply Kd.V_drewN | apply Kd.V_drew)); exact Kd.V_mono HL166_2.out (fun _ hk => (by first | exact ⟨⟨hk.1, ⟨hk.2.2.1, ⟨hk.2.2.2.1, hk.2.2.2.2⟩⟩⟩, hk.2.1⟩ | grind))) hg hat); have n4_ := Aside0.mk (blk_grown (g := gb167) (o := .cells #[.int .i64 ((rd_T28 l1 x18_1).f0), .int .i64 ((rd_T28 l1 x18_1).f1), .slice A166_2 ((rd_T28 l1 x18_1).f2).length c166_2] 28 (0, 0)) (by (with_reducible repeat (first | refine blk_drewN ?_ _ | refine blk_drew ?_ | refine blk_alloc ?_ _)); exact BK167.out) hg (Kd.N_away HO_166002.out (fun _ hk => (by first | exact hk.2.2.2 | grind)))); have n5_ := Aside0.mk (hb); have n6_ := Aside0.mk (ho); clear HO_16; clear BK163; clear BK165; clear HL166_2; clear BK167; clear HB; clear HO_166002; have HO_16 := n0_; have BK163 := n1_; have BK165 := n2_; have HL166_2 := n3_; have BK167 := n4_; have HB := n5_; have HO173 := n6_; clear n0_ n1_ n2_ n3_ n4_ n5_ n6_; clear ho hb hg hat; obtain ⟨Ao35, co35, eo35⟩ := Kd.N_slice HO173.out; subst eo35; have hcz36_0 : w34.cell? ⟨gb165, 0, none⟩ = some (.int .i64 a0) := (blk_cell BK165.out 0).trans rfl; have hcz36_1 : w34.cell? ⟨gb165, 1, none⟩ = some (.int .i64 0) := (blk_cell BK165.out 1).trans rfl; have hcz36_2 : w34.cell? ⟨gb165, 2, none⟩ = some (u166002) := (blk_cell BK165.out 2).trans rfl; have hfz36_0 := blk_frozen BK165.out 0; have hfz36_1 := blk_frozen BK165.out 1; have hfz36_2 := blk_frozen BK165.out 2))
         go_roundg k1
         case measure => have := HK1.out; omega
         case rel => exact ⟨(wrap64 (x18_1 + 1)), (y171), (.slice Ao35 y171.length co35), (by first | rfl | (simp; done) | (simp [*]; done) | (simp [bne]; done)), H', ⟨by have := HK1.out; omega⟩, ⟨by (with_reducible repeat (first | apply Kd.V_alloc | apply Kd.V_drewN | apply Kd.V_drew)); exact Kd.V_mono (Kd.V_far (p := ⟨gb165, 2, none⟩) (Kd.V_mono HO_16.out (fun k_ hk => (⟨hk, (by first | exact hk.1.2.2.1 | grind)⟩ : _ ∧ k_ ≠ gb165))) (fun _ hk => hk.2) (.slice Ao35 y171.length co35)) (fun _ hk => (by first | exact ⟨hk.1.1.1, ⟨hk.1.2, ⟨hk.1.1.2.1, hk.1.1.2.2.1⟩⟩⟩ | grind))⟩, ⟨by (with_reducible repeat (first | apply Kd.N_alloc | apply Kd.N_drewN | apply Kd.N_drew)); exact Kd.N_mono (Kd.N_far (p := ⟨gb165, 2, none⟩) (Kd.N_mono HO173.out (fun k_ hk => (⟨hk, (by first | exact hk.2.2.1 | grind)⟩ : _ ∧ k_ ≠ gb165))) (fun _ hk => hk.2) (.slice Ao35 y171.length co35)) (fun _ hk => (by first | exact ⟨hk.1.1, ⟨hk.1.2.1, hk.1.2.2.1⟩⟩ | grind))⟩, ⟨by (with_reducible repeat (first | refine blk_drewN ?_ _ | refine blk_drew ?_ | refine blk_alloc ?_ _)); refine blk_far ?_ NB163_165.out _; (with_reducible repeat (first | refine blk_drewN ?_ _ | refine blk_drew ?_ | refine blk_alloc ?_ _)); exact BK163.out⟩, ⟨by (with_reducible repeat (first | refine blk_drewN ?_ _ | refine blk_drew ?_ | refine blk_alloc ?_ _)); refine blk_put (cs := #[.int .i64 a0, .int .i64 0, u166002]) ?_ 2 _ rfl; (with_reducible repeat (first | refine blk_drewN ?_ _ | refine blk_drew ?_ | refine blk_alloc ?_ _)); exact BK165.out⟩, ⟨by repeat (first | (with_reducible first | exact HB.out | apply below_alloc | apply pw_below_drewN | apply below_drew1 | refine below_set ?_ GE163.out | refine below_set ?_ GE165.out | refine below_set ?_ GE167.out) | exact HB.out)⟩⟩
        ·
         rw [if_neg c25] at H
         exact absurd H (by simp)
      ·
       rw [if_neg c13] at H
       exact absurd H (by simp)
     ·
      rw [if_neg c12] at H
      exact absurd H (by simp)
    ·
     rw [if_neg c11] at H
     have c11b0 : decide (x18_1 < (l1.length : Int)) = false := decide_eq_false c11
     clear c11
     by_cases c37 : (x166002_1.length : Int) = 1
     ·
      rw [if_pos c37] at H
      have c37b0 : ((x166002_1.length : Int) == 1) = true := beq_iff_eq.mpr c37
      have c37b1 : ((x166002_1.length : Int) != 1) = false := bne_eq_false_iff_eq.mpr c37
      clear c37
      by_cases c38 : 0 < (x166002_1.length : Int)
      ·
       rw [if_pos c38] at H
       have c38b0 : decide (0 < (x166002_1.length : Int)) = true := decide_eq_true c38
       have c38b1 : decide (0 < x166002_1.length) = true := decide_eq_true (by omega)
       clear c38
       simp only [Option.some.injEq, Prod.mk.injEq] at H
       obtain ⟨rfl, rfl, rfl⟩ := H
       have hnb39 := NB165_163.out
       have hnc39 := NB163_165.out
       have hcz40_0 : wr.cell? ⟨gb165, 0, none⟩ = some (.int .i64 a0) := (blk_cell BK165.out 0).trans rfl
       have hcz40_1 : wr.cell? ⟨gb165, 1, none⟩ = some (.int .i64 0) := (blk_cell BK165.out 1).trans rfl
       have hcz40_2 : wr.cell? ⟨gb165, 2, none⟩ = some (u166002) := (blk_cell BK165.out 2).trans rfl
       have hfz40_0 := blk_frozen BK165.out 0
       have hfz40_1 := blk_frozen BK165.out 1
       have hfz40_2 := blk_frozen BK165.out 2
       obtain ⟨Ao41, co41, eo41⟩ := Kd.N_slice HO_166002.out
       subst eo41
       have p174 : 0 ≤ (0 : Int) := (by omega)
       have q174 : 0 < (x166002_1.length : Int) := of_decide_eq_true (by first | (with_reducible assumption) | assumption)
       obtain ⟨ad174, A174_2, c174_2, e174, hx174_0, hx174_1, hx174_2, hl174_2, hi174_2⟩ := at_T28 (Kd.N_reads' HO_166002.out).2.2 0 p174 q174
       cases e174
       obtain ⟨ce174, hce174, hMe174, hcc174⟩ := Kd.N_get HO_166002.out z28 0 p174 (by first | exact q174 | exact of_decide_eq_true (by first | (with_reducible assumption) | assumption) | (have e_ := (Kd.N_reads' HO_166002.out).1; omega))
       obtain ⟨ua174_2, uc174_2, rfl, ul174_2, ge174_2⟩ := k28_openF hMe174
       have hv174_2 := hcc174 2 _ rfl
       rw [add_field _ _ 2 (by omega)] at hv174_2
       replace hv174_2 := Option.some.inj (hv174_2.symm.trans hx174_2)
       injection hv174_2 with hva_ hvn_ hvc_
       rw [hva_] at ge174_2
       rw [hvc_] at ul174_2
       have HL174_2 := Aside0.mk (show Kd.V k28 28 _ w.heap.size _ _ ((rd_T28 x166002_1 0).f2) from Kd.V_mk ul174_2 ge174_2)
       clear hva_ hvn_ hvc_ ge174_2 ul174_2
       clear hcc174 hce174
       have qi174 : (0 < x166002_1.length) = True := eq_true (by omega)
       (try rw [show ((0 : Int)).toNat = 0 from rfl] at hx174_0)
       (try rw [show 0 * 3 = 0 from rfl] at hx174_0)
       (try rw [Addr.add_zero'] at hx174_0)
       (try rw [show ((0 : Int)).toNat = 0 from rfl] at hx174_1)
       (try rw [show 0 * 3 = 0 from rfl] at hx174_1)
       (try rw [Addr.add_zero'] at hx174_1)
       (try rw [show ((0 : Int)).toNat = 0 from rfl] at hx174_2)
       (try rw [show 0 * 3 = 0 from rfl] at hx174_2)
       (try rw [Addr.add_zero'] at hx174_2)
       have HR174_2 := Aside0.mk hi174_2
       have HC174_2 := Aside0.mk hl174_2
       clear hi174_2 hl174_2
       replace p174 := eq_true p174
       replace q174 := eq_true q174
       have hcz42_0 : wr.cell? ⟨gb163, 0, none⟩ = some (.int .i64 0) := (blk_cell BK163.out 0).trans rfl
       have hcz42_1 : wr.cell? ⟨gb163, 1, none⟩ = some (.int .i64 0) := (blk_cell BK163.out 1).trans rfl
       have hcz42_2 : wr.cell? ⟨gb163, 2, none⟩ = some (.slice none 0 0) := (blk_cell BK163.out 2).trans rfl
       have hfz42_0 := blk_frozen BK163.out 0
       have hfz42_1 := blk_frozen BK163.out 1
       have hfz42_2 := blk_frozen BK163.out 2
       go_wp2
       refine bodyPost_ret (results_cell_row rfl _ _ gb163 28 #[.int .i64 ((rd_T28 x166002_1 0).f0), .int .i64 ((rd_T28 x166002_1 0).f1), .slice A174_2 ((rd_T28 x166002_1 0).f2).length c174_2] (0, 0) _ rfl (by (with_reducible repeat (first | refine blk_drewN ?_ _ | refine blk_drew ?_ | refine blk_alloc ?_ _)); refine blk_put (cs := #[.int .i64 ((rd_T28 x166002_1 0).f0), .int .i64 ((rd_T28 x166002_1 0).f1), .slice none 0 0]) ?_ 2 _ rfl; (with_reducible repeat (first | refine blk_drewN ?_ _ | refine blk_drew ?_ | refine blk_alloc ?_ _)); refine blk_put (cs := #[.int .i64 ((rd_T28 x166002_1 0).f0), .int .i64 0, .slice none 0 0]) ?_ 1 _ rfl; (with_reducible repeat (first | refine blk_drewN ?_ _ | refine blk_drew ?_ | refine blk_alloc ?_ _)); refine blk_put (cs := #[.int .i64 0, .int .i64 0, .slice none 0 0]) ?_ 0 _ rfl; (with_reducible repeat (first | refine blk_drewN ?_ _ | refine blk_drew ?_ | refine blk_alloc ?_ _)); exact BK163.out) Try.underlying28 rfl (by kernel_rfl)) rfl ?_
       exact ⟨_, by first | rfl | (simp [errW_none, errW_some] <;> rfl) | (simp [*, errW_none, errW_some] <;> rfl), by (with_reducible repeat (first | apply Kd.V_alloc | apply Kd.V_drewN | apply Kd.V_drew)); exact Kd.V_mono (Kd.V_far (p := ⟨gb163, 2, none⟩) (Kd.V_far (p := ⟨gb163, 1, none⟩) (Kd.V_far (p := ⟨gb163, 0, none⟩) (Kd.V_mono HL174_2.out (fun k_ hk => (⟨hk, (by first | exact hk.1.2.1 | grind)⟩ : _ ∧ k_ ≠ gb163))) (fun _ hk => hk.2) (.int .i64 ((rd_T28 x166002_1 0).f0))) (fun _ hk => hk.2) (.int .i64 ((rd_T28 x166002_1 0).f1))) (fun _ hk => hk.2) (.slice A174_2 ((rd_T28 x166002_1 0).f2).length c174_2)) (fun _ hk => (by first | exact hk.1.1.1 | grind)), by repeat (first | (with_reducible first | exact HB.out | apply below_alloc | apply pw_below_drewN | apply below_drew1 | refine below_set ?_ GE163.out | refine below_set ?_ GE165.out) | exact HB.out)⟩
      ·
       rw [if_neg c38] at H
       exact absurd H (by simp)
     ·
      rw [if_neg c37] at H
      have c37b0 : ((x166002_1.length : Int) == 1) = false := beq_eq_false_iff_ne.mpr c37
      have c37b1 : ((x166002_1.length : Int) != 1) = true := bne_iff_ne.mpr c37
      simp only [Option.some.injEq, Prod.mk.injEq] at H
      obtain ⟨rfl, rfl, rfl⟩ := H
      have hnb43 := NB165_163.out
      have hnc43 := NB163_165.out
      have hcz44_0 : wr.cell? ⟨gb165, 0, none⟩ = some (.int .i64 a0) := (blk_cell BK165.out 0).trans rfl
      have hcz44_1 : wr.cell? ⟨gb165, 1, none⟩ = some (.int .i64 0) := (blk_cell BK165.out 1).trans rfl
      have hcz44_2 : wr.cell? ⟨gb165, 2, none⟩ = some (u166002) := (blk_cell BK165.out 2).trans rfl
      have hfz44_0 := blk_frozen BK165.out 0
      have hfz44_1 := blk_frozen BK165.out 1
      have hfz44_2 := blk_frozen BK165.out 2
      obtain ⟨Ao45, co45, eo45⟩ := Kd.N_slice HO_166002.out
      subst eo45
      have hcz46_0 : wr.cell? ⟨gb163, 0, none⟩ = some (.int .i64 0) := (blk_cell BK163.out 0).trans rfl
      have hcz46_1 : wr.cell? ⟨gb163, 1, none⟩ = some (.int .i64 0) := (blk_cell BK163.out 1).trans rfl
      have hcz46_2 : wr.cell? ⟨gb163, 2, none⟩ = some (.slice none 0 0) := (blk_cell BK163.out 2).trans rfl
      have hfz46_0 := blk_frozen BK163.out 0
      have hfz46_1 := blk_frozen BK163.out 1
      have hfz46_2 := blk_frozen BK163.out 2
      go_wp2
      refine bodyPost_ret (results_cell_row rfl _ _ gb163 28 #[.int .i64 a0, .int .i64 0, .slice Ao45 x166002_1.length co45] (0, 0) _ rfl (by (with_reducible repeat (first | refine blk_drewN ?_ _ | refine blk_drew ?_ | refine blk_alloc ?_ _)); refine blk_put (cs := #[.int .i64 a0, .int .i64 0, .slice none 0 0]) ?_ 2 _ rfl; (with_reducible repeat (first | refine blk_drewN ?_ _ | refine blk_drew ?_ | refine blk_alloc ?_ _)); refine blk_put (cs := #[.int .i64 a0, .int .i64 0, .slice none 0 0]) ?_ 1 _ rfl; (with_reducible repeat (first | refine blk_drewN ?_ _ | refine blk_drew ?_ | refine blk_alloc ?_ _)); refine blk_put (cs := #[.int .i64 0, .int .i64 0, .slice none 0 0]) ?_ 0 _ rfl; (with_reducible repeat (first | refine blk_drewN ?_ _ | refine blk_drew ?_ | refine blk_alloc ?_ _)); exact BK163.out) Try.underlying28 rfl (by kernel_rfl)) rfl ?_
      exact ⟨.slice Ao45 x166002_1.length co45, by first | rfl | (simp [errW_none, errW_some] <;> rfl) | (simp [*, errW_none, errW_some] <;> rfl), Kd.N_V (by (with_reducible repeat (first | apply Kd.N_alloc | apply Kd.N_drewN | apply Kd.N_drew)); exact Kd.N_mono (Kd.N_far (p := ⟨gb163, 2, none⟩) (Kd.N_far (p := ⟨gb163, 1, none⟩) (Kd.N_far (p := ⟨gb163, 0, none⟩) (Kd.N_mono HO_166002.out (fun k_ hk => (⟨hk, (by first | exact hk.2.1 | grind)⟩ : _ ∧ k_ ≠ gb163))) (fun _ hk => hk.2) (.int .i64 a0)) (fun _ hk => hk.2) (.int .i64 0)) (fun _ hk => hk.2) (.slice Ao45 x166002_1.length co45)) (fun _ hk => (by first | exact hk.1.1 | grind))), by repeat (first | (with_reducible first | exact HB.out | apply below_alloc | apply pw_below_drewN | apply below_drew1 | refine below_set ?_ GE163.out | refine below_set ?_ GE165.out) | exact HB.out)⟩
end Go.Proofs.Ytjmhihadgpdiaaa.X
end
section
namespace Go.Proofs.Ytjmhihadgpdiaaa.X
open Go.RowKit Go.Proofs.YtjmhihadgpdiaaaW.PrintWords Go.Proofs.YtjmhihadgpdiaaaW.PrintLast Go.Proofs.YtjmhihadgpdiaaaW.PrintMore
attribute [local go_sem] max2_int min2_int max_two min_two max_three min_three max_four min_four   -- for this text's walks alone
set_option linter.unusedVariables false
set_option linter.unusedSimpArgs false
/-- A state of type 83 at block g of W; what its slices lead to came in by w0. -/
def IsS83 (w0 W : World) (g : Nat) (f0 : ByteArray) (f1 : Bool) : Prop := W.heap[g]? = some (.cells #[.string f0, .bool f1] 83 (0, 0)) ∧ w0.heap.size ≤ g
theorem IsS83.grown {w0 W : World} {g : Nat} {f0 : ByteArray} {f1 : Bool} {W1 : World} {row : Option Nat} (h : IsS83 w0 W g f0 f1) (hw : W.grownBy W1 row) (hne : some g ≠ row) : IsS83 w0 W1 g f0 f1 := by
  obtain ⟨hb, hg⟩ := h
  exact ⟨blk_grown hb hw hne, hg⟩
theorem IsS83.kept {w0 W : World} {g : Nat} {f0 : ByteArray} {f1 : Bool} {W1 : World} {S : Nat → Prop} (h : IsS83 w0 W g f0 f1) (hk : Kept W W1 S) (hne : ¬ S g) : IsS83 w0 W1 g f0 f1 := by
  obtain ⟨hb, hg⟩ := h
  exact ⟨blk_kept hb hk hne, hg⟩
theorem IsS83.below {w0 W : World} {g : Nat} {f0 : ByteArray} {f1 : Bool} {W1 : World} (h : IsS83 w0 W g f0 f1) (hw : Below W.heap.size W W1) : IsS83 w0 W1 g f0 f1 := h.grown (grown_of_below hw none) (by simp)
theorem IsS83.alloc {w0 W : World} {g : Nat} {f0 : ByteArray} {f1 : Bool} (h : IsS83 w0 W g f0 f1) (o : Obj) : IsS83 w0 (W.alloc o) g f0 f1 := h.below (below_alloc (Below.refl _ _) o)
theorem IsS83.drewN {w0 W : World} {g : Nat} {f0 : ByteArray} {f1 : Bool} (h : IsS83 w0 W g f0 f1) (m : Nat) : IsS83 w0 (W.drewN m) g f0 f1 := h
theorem IsS83.drew {w0 W : World} {g : Nat} {f0 : ByteArray} {f1 : Bool} (h : IsS83 w0 W g f0 f1) : IsS83 w0 W.drew g f0 f1 := h
theorem IsS83.at_ {w0 W : World} {g : Nat} {f0 : ByteArray} {f1 : Bool} {w' : World} {m : Nat} (hq : W.drewN m = w') (h : IsS83 w0 W g f0 f1) : IsS83 w0 w' g f0 f1 := by subst hq; exact IsS83.drewN h m
theorem IsS83.apart {w0 W : World} {g : Nat} {f0 : ByteArray} {f1 : Bool} {α : Type} {d : Kd α} {e : Nat} {base : Nat} {ok : Nat → Prop} {v : Value} {xs : List α} (h : IsS83 w0 W g f0 f1) (ho : d.R e W base ok v xs) (ht : ∀ q, q ∈ e :: d.E → q ≠ 83) : d.R e W base (fun k => ok k ∧ k ≠ g) v xs := by
  obtain ⟨hb, hg⟩ := h
  exact Kd.R_types ho hb ht
theorem IsS83.own_ne {w0 W : World} {g : Nat} {f0 : ByteArray} {f1 : Bool} {α : Type} {d : Kd α} {e : Nat} {base : Nat} {ok : Nat → Prop} {v : Value} {xs : List α} (h : IsS83 w0 W g f0 f1) (ho : d.R e W base ok v xs) (ht : e ≠ 83) : some g ≠ v.ownBlock := by
  obtain ⟨hb, hg⟩ := h
  exact Kd.R_ne ho hb ht
theorem IsS83.ge {w0 W : World} {g : Nat} {f0 : ByteArray} {f1 : Bool} (h : IsS83 w0 W g f0 f1) : w0.heap.size ≤ g := by
  obtain ⟨hb, hg⟩ := h
  exact hg
theorem cellS83_0 {W : World} {g : Nat} {f0 : ByteArray} {f1 : Bool} (h : W.heap[g]? = some (.cells #[.string f0, .bool f1] 83 (0, 0))) : W.cell? ⟨g, 0, none⟩ = some (.string f0) := (blk_cell h 0).trans rfl
theorem IsS83.set_0 {w0 W : World} {g : Nat} {f0 : ByteArray} {f1 : Bool} (h : IsS83 w0 W g f0 f1) (x : ByteArray) : IsS83 w0 (W.setCell ⟨g, 0, none⟩ (.string x)) g x f1 := by
  obtain ⟨hb, hg⟩ := h
  exact ⟨by simpa using blk_set hb 0 (.string x), hg⟩
theorem cellS83_1 {W : World} {g : Nat} {f0 : ByteArray} {f1 : Bool} (h : W.heap[g]? = some (.cells #[.string f0, .bool f1] 83 (0, 0))) : W.cell? ⟨g, 1, none⟩ = some (.bool f1) := (blk_cell h 1).trans rfl
theorem IsS83.set_1 {w0 W : World} {g : Nat} {f0 : ByteArray} {f1 : Bool} (h : IsS83 w0 W g f0 f1) (x : Bool) : IsS83 w0 (W.setCell ⟨g, 1, none⟩ (.bool x)) g f0 x := by
  obtain ⟨hb, hg⟩ := h
  exact ⟨by simpa using blk_set hb 1 (.bool x), hg⟩
theorem IsS83.new (w0 W : World) (f0 : ByteArray) (f1 : Bool) (hB : Below w0.heap.size w0 W) : IsS83 w0 (W.alloc (.cells #[.string f0, .bool f1] 83)) W.heap.size f0 f1 := ⟨by simpa using heap_alloc_new W _, hB.size⟩
def expr_parser_takes.f (s0_0 : ByteArray) (s0_1 : Bool) (a1 : Int) : Option (Bool × ByteArray × Bool) := if s0_0.toList = ([] : List UInt8) then (some (false, s0_0, s0_1)) else (if 0 < (s0_0.size : Int) then (if (bt s0_0 0) = a1 then (if 1 ≤ (s0_0.size : Int) then (some (true, s0_0.extract 1 s0_0.size, s0_1)) else (none)) else (some (false, s0_0, s0_1))) else (none))
set_option maxHeartbeats 8000000 in
set_option maxRecDepth 100000 in
theorem expr_parser_takes.calls (g : Nat) (s0_0 : ByteArray) (s0_1 : Bool) (a1 : Int) (r1 : Bool) (r2 : ByteArray) (r3 : Bool) (w0 w : World) (hI : IsS83 w0 w g s0_0 s0_1) (hB : Below w0.heap.size w0 w) (h : expr_parser_takes.f s0_0 s0_1 a1 = some (r1, r2, r3)) :
    Calls Try.prog 49 #[.pointer (some ⟨g, 0, none⟩), .int .u8 a1] w fun e w' => e = .returned (.bool r1) ∧ IsS83 w0 w' g r2 r3 ∧ Below w0.heap.size w0 w' ∧ KeepBut w w' g none := by
  have HI0 := Aside0.mk hI
  have HK := Aside0.mk (KeepBut.refl w g none)
  have HL := Aside0.mk hB.size
  clear hI
  have HW0 := Aside0.mk hB.size
  have HB := Aside0.mk hB
  clear hB
  have H : (if s0_0.toList = ([] : List UInt8) then (some (false, s0_0, s0_1)) else (if 0 < (s0_0.size : Int) then (if (bt s0_0 0) = a1 then (if 1 ≤ (s0_0.size : Int) then (some (true, s0_0.extract 1 s0_0.size, s0_1)) else (none)) else (some (false, s0_0, s0_1))) else (none))) = some (r1, r2, r3) := h
  clear h
  by_cases c3 : s0_0.toList = ([] : List UInt8)
  · rw [if_pos c3] at H
    have c3b0 : (s0_0.toList == ([] : List UInt8)) = true := beq_iff_eq.mpr c3
    have c3b1 : (s0_0.toList != ([] : List UInt8)) = false := bne_eq_false_iff_eq.mpr c3
    clear c3
    simp only [Option.some.injEq, Prod.mk.injEq] at H
    obtain ⟨rfl, rfl, rfl⟩ := H
    obtain ⟨HGz4, hgz4⟩ := HI0.out
    have hcz4_0 := cellS83_0 HGz4
    have hcz4_1 := cellS83_1 HGz4
    have hfz4_0 := blk_frozen HGz4 0
    have hfz4_1 := blk_frozen HGz4 1
    clear HGz4 hgz4
    go_enter Try.func49, Try.ntmps49
    go_wp2
    go_ret
    exact ⟨by first | rfl | (simp [errW_none, errW_some] <;> rfl) | (simp [*, errW_none, errW_some] <;> rfl), by repeat (first | (with_reducible first | exact HI0.out | apply IsS83.alloc | apply IsS83.drewN | apply IsS83.drew | apply IsS83.set_0 | apply IsS83.set_1) | exact HI0.out), by repeat (first | (with_reducible first | exact HB.out | apply below_alloc | apply pw_below_drewN | apply below_drew1 | refine below_set ?_ (IsS83.ge HI0.out)) | exact HB.out), by repeat (first | (with_reducible first | exact HK.out | apply KeepBut.set_ | apply keep_drewN | apply keep_drew | apply keep_alloc) | exact HK.out)⟩
  · rw [if_neg c3] at H
    have c3b0 : (s0_0.toList == ([] : List UInt8)) = false := beq_eq_false_iff_ne.mpr c3
    have c3b1 : (s0_0.toList != ([] : List UInt8)) = true := bne_iff_ne.mpr c3
    by_cases c5 : 0 < (s0_0.size : Int)
    · rw [if_pos c5] at H
      have c5b0 : decide (0 < (s0_0.size : Int)) = true := decide_eq_true c5
      have c5b1 : decide (0 < s0_0.size) = true := decide_eq_true (by omega)
      clear c5
      by_cases c7 : (bt s0_0 0) = a1
      · rw [if_pos c7] at H
        have c7b0 : ((bt s0_0 0) == a1) = true := beq_iff_eq.mpr c7
        have c7b1 : ((bt s0_0 0) != a1) = false := bne_eq_false_iff_eq.mpr c7
        clear c7
        by_cases c8 : 1 ≤ (s0_0.size : Int)
        · rw [if_pos c8] at H
          have c8b0 := eq_true c8
          have c8b1 : decide (1 ≤ (s0_0.size : Int)) = true := decide_eq_true c8
          clear c8
          simp only [Option.some.injEq, Prod.mk.injEq] at H
          obtain ⟨rfl, rfl, rfl⟩ := H
          obtain ⟨HGz9, hgz9⟩ := HI0.out
          have hcz9_0 := cellS83_0 HGz9
          have hcz9_1 := cellS83_1 HGz9
          have hfz9_0 := blk_frozen HGz9 0
          have hfz9_1 := blk_frozen HGz9 1
          clear HGz9 hgz9
          have p6 : 0 ≤ (0 : Int) := (by omega)
          have q6 : 0 < s0_0.size := (by have : (0 : Int) < (s0_0.size : Int) := of_decide_eq_true (by first | (with_reducible assumption) | assumption); omega)
          have hx6 : ∀ h : 0 < s0_0.size, ((s0_0[0]'h).toNat : Int) = bt s0_0 0 := bt_at s0_0 0
          clear p6
          have qi6 : (0 < (s0_0.size : Int)) = True := eq_true (of_decide_eq_true (by first | (with_reducible assumption) | assumption))
          replace q6 := eq_true q6
          go_enter Try.func49, Try.ntmps49
          go_wp2
          go_ret
          exact ⟨by first | rfl | (simp [errW_none, errW_some] <;> rfl) | (simp [*, errW_none, errW_some] <;> rfl), by repeat (first | (with_reducible first | exact HI0.out | apply IsS83.alloc | apply IsS83.drewN | apply IsS83.drew | apply IsS83.set_0 | apply IsS83.set_1) | exact HI0.out), by repeat (first | (with_reducible first | exact HB.out | apply below_alloc | apply pw_below_drewN | apply below_drew1 | refine below_set ?_ (IsS83.ge HI0.out)) | exact HB.out), by repeat (first | (with_reducible first | exact HK.out | apply KeepBut.set_ | apply keep_drewN | apply keep_drew | apply keep_alloc) | exact HK.out)⟩
        · rw [if_neg c8] at H
          exact absurd H (by simp)
      · rw [if_neg c7] at H
        have c7b0 : ((bt s0_0 0) == a1) = false := beq_eq_false_iff_ne.mpr c7
        have c7b1 : ((bt s0_0 0) != a1) = true := bne_iff_ne.mpr c7
        simp only [Option.some.injEq, Prod.mk.injEq] at H
        obtain ⟨rfl, rfl, rfl⟩ := H
        obtain ⟨HGz10, hgz10⟩ := HI0.out
        have hcz10_0 := cellS83_0 HGz10
        have hcz10_1 := cellS83_1 HGz10
        have hfz10_0 := blk_frozen HGz10 0
        have hfz10_1 := blk_frozen HGz10 1
        clear HGz10 hgz10
        have p6 : 0 ≤ (0 : Int) := (by omega)
        have q6 : 0 < s0_0.size := (by have : (0 : Int) < (s0_0.size : Int) := of_decide_eq_true (by first | (with_reducible assumption) | assumption); omega)
        have hx6 : ∀ h : 0 < s0_0.size, ((s0_0[0]'h).toNat : Int) = bt s0_0 0 := bt_at s0_0 0
        clear p6
        have qi6 : (0 < (s0_0.size : Int)) = True := eq_true (of_decide_eq_true (by first | (with_reducible assumption) | assumption))
        replace q6 := eq_true q6
        go_enter Try.func49, Try.ntmps49
        go_wp2
        go_ret
        exact ⟨by first | rfl | (simp [errW_none, errW_some] <;> rfl) | (simp [*, errW_none, errW_some] <;> rfl), by repeat (first | (with_reducible first | exact HI0.out | apply IsS83.alloc | apply IsS83.drewN | apply IsS83.drew | apply IsS83.set_0 | apply IsS83.set_1) | exact HI0.out), by repeat (first | (with_reducible first | exact HB.out | apply below_alloc | apply pw_below_drewN | apply below_drew1 | refine below_set ?_ (IsS83.ge HI0.out)) | exact HB.out), by repeat (first | (with_reducible first | exact HK.out | apply KeepBut.set_ | apply keep_drewN | apply keep_drew | apply keep_alloc) | exact HK.out)⟩
    · rw [if_neg c5] at H
      exact absurd H (by simp)
end Go.Proofs.Ytjmhihadgpdiaaa.X
end
section
namespace Go.Proofs.Ytjmhihadgpdiaaa.X
open Go.RowKit Go.Proofs.YtjmhihadgpdiaaaW.PrintWords Go.Proofs.YtjmhihadgpdiaaaW.PrintLast Go.Proofs.YtjmhihadgpdiaaaW.PrintMore
attribute [local go_sem] max2_int min2_int max_two min_two max_three min_three max_four min_four   -- for this text's walks alone
set_option linter.unusedVariables false
set_option linter.unusedSimpArgs false
end Go.Proofs.Ytjmhihadgpdiaaa.X
end
section
namespace Go.Proofs.Ytjmhihadgpdiaaa.X
open Go.RowKit Go.Proofs.YtjmhihadgpdiaaaW.PrintWords Go.Proofs.YtjmhihadgpdiaaaW.PrintLast Go.Proofs.YtjmhihadgpdiaaaW.PrintMore
attribute [local go_sem] max2_int min2_int max_two min_two max_three min_three max_four min_four   -- for this text's walks alone
set_option linter.unusedVariables false
set_option linter.unusedSimpArgs false
def expr_Parse.B (l : List UInt8) : ByteArray := ⟨l.toArray⟩
theorem expr_Parse.B_nil : ((expr_Parse.B []).toList == ([] : List UInt8)) = true := by rw [Base.toList_eq]; rfl
theorem expr_Parse.B_cons (c : UInt8) (r : List UInt8) : ((expr_Parse.B (c :: r)).toList == ([] : List UInt8)) = false := by rw [Base.toList_eq]; rfl
theorem expr_Parse.B_size (c : UInt8) (r : List UInt8) : (expr_Parse.B (c :: r)).size = r.length + 1 := rfl
theorem expr_Parse.B_bt (c : UInt8) (r : List UInt8) : bt (expr_Parse.B (c :: r)) 0 = (c.toNat : Int) := rfl
theorem expr_Parse.B_ext (c : UInt8) (r : List UInt8) : (expr_Parse.B (c :: r)).extract 1 (expr_Parse.B (c :: r)).size = expr_Parse.B r := by
  apply ByteArray.ext
  rw [ByteArray.data_extract]
  simp [expr_Parse.B, ByteArray.size]
/-- the sign a byte is: * + ? -/
def expr_Parse.sign (c : UInt8) : Option Int := if c.toNat = 42 then some 0 else if c.toNat = 43 then some 1 else if c.toNat = 63 then some 2 else none
def expr_Parse.sfx : List UInt8 → S28 → S28 × List UInt8
  | [], x => (x, [])
  | c :: r, x => match expr_Parse.sign c with
    | some j => expr_Parse.sfx r ⟨4 + j, 0, [x]⟩
    | none => (x, c :: r)
mutual
def expr_Parse.item : Nat → List UInt8 → Option (S28 × List UInt8)
  | 0, _ => none
  | _ + 1, [] => none
  | k + 1, c :: r =>
    if 97 ≤ c.toNat ∧ c.toNat ≤ 104 then some (expr_Parse.sfx r ⟨1, (c.toNat : Int) - 97, []⟩)
    else if c.toNat = 40 then (expr_Parse.seqs k [] r).bind fun y => (expr_Parse.alts k [y.1] y.2).bind fun z =>
      match z.2 with
      | d :: r2 => if d.toNat = 41 then some (expr_Parse.sfx r2 z.1) else none
      | [] => none
    else none
def expr_Parse.seqs : Nat → List S28 → List UInt8 → Option (S28 × List UInt8)
  | 0, _, _ => none
  | k + 1, acc, [] => (expr_together.f k 2 acc).bind fun t => some (⟨t.1, t.2.1, t.2.2⟩, [])
  | k + 1, acc, c :: r =>
    if c.toNat = 124 ∨ c.toNat = 41 then (expr_together.f k 2 acc).bind fun t => some (⟨t.1, t.2.1, t.2.2⟩, c :: r)
    else (expr_Parse.item k (c :: r)).bind fun y => if acc.length < 1000000 then expr_Parse.seqs k (acc ++ [y.1]) y.2 else none
def expr_Parse.alts : Nat → List S28 → List UInt8 → Option (S28 × List UInt8)
  | 0, _, _ => none
  | k + 1, acc, [] => (expr_together.f k 3 acc).bind fun t => some (⟨t.1, t.2.1, t.2.2⟩, [])
  | k + 1, acc, c :: r =>
    if c.toNat = 124 then (expr_Parse.seqs k [] r).bind fun y => if acc.length < 1000000 then expr_Parse.alts k (acc ++ [y.1]) y.2 else none
    else (expr_together.f k 3 acc).bind fun t => some (⟨t.1, t.2.1, t.2.2⟩, c :: r)
end
def expr_Parse.alt (k : Nat) (l : List UInt8) : Option (S28 × List UInt8) := (expr_Parse.seqs k [] l).bind fun y => expr_Parse.alts k [y.1] y.2
def expr_Parse.f (k : Nat) (a0 : ByteArray) : Option (Int × Int × List S28 × Int) :=
  if a0.size ≤ 40 then (expr_Parse.alt k a0.data.toList).bind fun y =>
    match y.2 with
    | [] => (expr_Check.f k y.1.f0 y.1.f1 y.1.f2).bind fun e => if e = 0 then some (y.1.f0, y.1.f1, y.1.f2, 0) else none
    | _ :: _ => none
  else none
abbrev expr_Parse.Fr (w0 w : World) (g : Nat) (s : ByteArray) (W : World) : Prop := IsS83 w0 W g s false ∧ Below w0.heap.size w0 W ∧ KeepBut w W g none ∧ g < w.heap.size ∧ w0.heap.size ≤ w.heap.size
theorem expr_Parse.Fr.start {w0 w : World} {g : Nat} {s : ByteArray} (h : IsS83 w0 w g s false) (hb : Below w0.heap.size w0 w) : expr_Parse.Fr w0 w g s w := ⟨h, hb, KeepBut.refl _ _ _, blk_lt h.1, hb.size⟩
theorem expr_Parse.Fr.grow {w0 w W W1 : World} {g : Nat} {s : ByteArray} (h : expr_Parse.Fr w0 w g s W) (hb : Below w.heap.size W W1) : expr_Parse.Fr w0 w g s W1 :=
  ⟨⟨(hb.block g h.2.2.2.1).trans h.1.1, h.1.2⟩, h.2.1.trans (hb.mono h.2.2.2.2), ⟨Nat.le_trans h.2.2.1.1 hb.size, fun i hi hg hr => (hb.block i hi).trans (h.2.2.1.2 i hi hg hr)⟩, h.2.2.2⟩
theorem expr_Parse.Fr.call {w0 w W W1 : World} {g : Nat} {s s1 : ByteArray} (h : expr_Parse.Fr w0 w g s W) (h1 : IsS83 w0 W1 g s1 false) (h2 : Below w0.heap.size w0 W1) (h3 : KeepBut W W1 g none) : expr_Parse.Fr w0 w g s1 W1 :=
  ⟨h1, h2, ⟨Nat.le_trans h.2.2.1.1 h3.1, fun i hi hg hr => (h3.2 i (Nat.lt_of_lt_of_le hi h.2.2.1.1) hg hr).trans (h.2.2.1.2 i hi hg hr)⟩, h.2.2.2⟩
theorem expr_Parse.Fr.set {w0 w W : World} {g : Nat} {s : ByteArray} (h : expr_Parse.Fr w0 w g s W) (s1 : ByteArray) : expr_Parse.Fr w0 w g s1 (W.setCell ⟨g, 0, none⟩ (.string s1)) :=
  h.call (h.1.set_0 s1) (below_set h.2.1 h.1.2) ((KeepBut.refl _ _ _).set_ 0 _)
theorem expr_Parse.Fr.set1 {w0 w W : World} {g : Nat} {s : ByteArray} (h : expr_Parse.Fr w0 w g s W) : expr_Parse.Fr w0 w g s (W.setCell ⟨g, 1, none⟩ (.bool false)) :=
  h.call (h.1.set_1 false) (below_set h.2.1 h.1.2) ((KeepBut.refl _ _ _).set_ 1 _)
theorem expr_Parse.Fr.blk {w0 w W : World} {g : Nat} {s : ByteArray} (h : expr_Parse.Fr w0 w g s W) : W.heap[g]? = some (.cells #[.string s, .bool false] 83 (0, 0)) := h.1.1
theorem expr_Parse.Fr.size {w0 w W : World} {g : Nat} {s : ByteArray} (h : expr_Parse.Fr w0 w g s W) : w.heap.size ≤ W.heap.size := h.2.2.1.1
theorem expr_Parse.put3 {W : World} {gr : Nat} {u0 u1 u2 : Value} (h : W.heap[gr]? = some (.cells #[u0, u1, u2] 28 (0, 0))) (a b c : Value) : (((W.setCell ⟨gr, 0, none⟩ a).setCell ⟨gr, 1, none⟩ b).setCell ⟨gr, 2, none⟩ c).heap[gr]? = some (.cells #[a, b, c] 28 (0, 0)) := by
  refine blk_put (cs := #[a, b, u2]) ?_ 2 _ rfl
  refine blk_put (cs := #[a, u1, u2]) ?_ 1 _ rfl
  exact blk_put (cs := #[u0, u1, u2]) h 0 _ rfl
theorem expr_Parse.below3 {w W : World} {n gr : Nat} (h : Below n w W) (hg : n ≤ gr) (a b c : Value) : Below n w (((W.setCell ⟨gr, 0, none⟩ a).setCell ⟨gr, 1, none⟩ b).setCell ⟨gr, 2, none⟩ c) := ((h.setCell hg _).setCell hg _).setCell hg _
theorem expr_Parse.far3 {W : World} {gr : Nat} {ok : Nat → Prop} {v : Value} {xs : List S28} {b : Nat} (h : Kd.V k28 28 W b ok v xs) (hg : ∀ k, ok k → k ≠ gr) (u0 u1 u2 : Value) : Kd.V k28 28 (((W.setCell ⟨gr, 0, none⟩ u0).setCell ⟨gr, 1, none⟩ u1).setCell ⟨gr, 2, none⟩ u2) b ok v xs :=
  Kd.V_far (p := ⟨gr, 2, none⟩) (Kd.V_far (p := ⟨gr, 1, none⟩) (Kd.V_far (p := ⟨gr, 0, none⟩) h hg u0) hg u1) hg u2
/-- a row of one element, made new -/
theorem expr_Parse.F_one {W : World} {g : Nat} {A2 : Option Addr} {c2 : Nat} {ok : Nat → Prop} {x : S28} (hb : W.heap[g]? = some (.cells #[.int .i64 x.f0, .int .i64 x.f1, .slice A2 x.f2.length c2] 28 (0, 0))) (hc : x.f2.length ≤ c2) (hf : Kd.F k28 W ok A2 x.f2.length x.f2) : Kd.F k28 W (fun k => ok k ∨ k = g) (some ⟨g, 0, none⟩) ([x] : List S28).length [x] := by
  intro W' hW
  have hg : W'.heap[g]? = W.heap[g]? := hW g (.inr rfl) (blk_lt hb)
  have hK := k28_mk W' x hc (hf W' (fun k hk hlt => hW k (.inl hk) hlt))
  refine ⟨rfl, by simp, fun _ => ⟨_, rfl, fun j p hp => ?_⟩⟩
  cases j with
  | succ j => simp at hp
  | zero =>
    obtain rfl : x = p := by simpa using hp
    refine ⟨_, rfl, hK, fun i u hu => ?_⟩
    have hb' := hg.trans hb
    have h2 := blk_cell hb' i
    have e : (⟨g, 0, none⟩ : Addr).add (0 * k28.sz + i) = ⟨g, i, none⟩ := by
      unfold Addr.add
      by_cases hi : i = 0
      · subst hi; simp
      · simp [hi]
    rw [e, h2]
    simpa using hu
abbrev expr_Parse.Post (w0 w : World) (g : Nat) (x : S28) (l : List UInt8) (e : Ending) (W : World) : Prop := ∃ v2, e = .returned (.agg #[.int .i64 x.f0, .int .i64 x.f1, v2]) ∧ Kd.V k28 28 W w.heap.size (fun j => w.heap.size ≤ j) v2 x.f2 ∧ expr_Parse.Fr w0 w g (expr_Parse.B l) W
abbrev expr_Parse.HI (k : Nat) : Prop := ∀ l x l', expr_Parse.item k l = some (x, l') → ∀ g w0 w, IsS83 w0 w g (expr_Parse.B l) false → Below w0.heap.size w0 w → Calls Try.prog 66 #[.pointer (some ⟨g, 0, none⟩)] w (expr_Parse.Post w0 w g x l')
abbrev expr_Parse.HS (k : Nat) : Prop := ∀ l x l', expr_Parse.seqs k [] l = some (x, l') → ∀ g w0 w, IsS83 w0 w g (expr_Parse.B l) false → Below w0.heap.size w0 w → Calls Try.prog 48 #[.pointer (some ⟨g, 0, none⟩)] w (expr_Parse.Post w0 w g x l')
abbrev expr_Parse.HA (k : Nat) : Prop := ∀ l x l', expr_Parse.alt k l = some (x, l') → ∀ g w0 w, IsS83 w0 w g (expr_Parse.B l) false → Below w0.heap.size w0 w → Calls Try.prog 35 #[.pointer (some ⟨g, 0, none⟩)] w (expr_Parse.Post w0 w g x l')
set_option maxHeartbeats 4000000 in
set_option maxRecDepth 100000 in
theorem expr_Parse.seq_ (k : Nat) (IH : ∀ j, j < k → expr_Parse.HI j) : expr_Parse.HS k := by
  intro l x l' h g w0 w hI hB
  have hu28 := Try.underlying28
  have HF := Aside0.mk (expr_Parse.Fr.start hI hB)
  have H' := Aside0.mk h
  have IH := Aside0.mk IH
  clear hI hB h
  go_enter Try.func48, Try.ntmps48
  go_wp2_with ((with_reducible refine gate_dst (N := 2) rfl ?_); refine box_event ?hg (N := 2) ?hd (cs := #[.int .i64 0, .int .i64 0, .slice none 0 0]) (t := 28) ?hr ?_; (case hd => rfl); (case hg => rfl); (case hr => first | (go_simp; done) | (go_simp; rfl)); intro gr hg W1 hbox hb; have HF1 := Aside0.mk (HF.out.grow hb); have BR := Aside0.mk hbox; have GE := Aside0.mk (Nat.le_of_eq hg.symm); clear hb hbox hg)
  go_loopg [3] k (fun kq v3 W => ∃ (acc : List S28) (l1 : List UInt8), Aside0 (expr_Parse.seqs kq acc l1 = some (x, l')) ∧ Aside0 (kq ≤ k) ∧ Aside0 (Kd.N k28 28 W w.heap.size (fun j => w.heap.size ≤ j ∧ j ≠ gr) v3 acc) ∧ Aside0 (W.heap[gr]? = some (.cells #[.int .i64 0, .int .i64 0, .slice none 0 0] 28 (0, 0))) ∧ Aside0 (expr_Parse.Fr w0 w g (expr_Parse.B l1) W))
  case atStart => exact ⟨[], l, H', ⟨Nat.le_refl _⟩, ⟨Kd.N_nil _ _ _ _ _⟩, BR, HF1⟩
  case round =>
    clear H' HF1 BR HF
    obtain ⟨acc, l1, HA, HK, HN, HR, HW⟩ := hrel
    cases gk with
    | zero => exact absurd HA.out (by simp [expr_Parse.seqs])
    | succ k1 =>
      have hc0 := cellS83_0 HW.out.blk
      have hc1 := cellS83_1 HW.out.blk
      cases l1 with
      | nil =>
        have H := HA.out
        clear HA
        rw [expr_Parse.seqs] at H
        obtain ⟨t, ht, hx⟩ := Option.bind_eq_some_iff.1 H
        clear H
        obtain ⟨rfl, rfl⟩ := Prod.mk.inj (Option.some.inj hx)
        clear hx
        have hs0 := expr_Parse.B_nil
        have hs1 : ((expr_Parse.B []).toList != ([] : List UInt8)) = false := by rw [bne, hs0]; rfl
        obtain ⟨Al, cl, e3, hcl, hC⟩ := Kd.N_reads HN.out
        subst e3
        have HV := Aside0.mk (Kd.N_V (base' := wr.heap.size) HN.out)
        clear hC
        have HT := Aside0.mk ht
        clear ht
        go_wp2_with (go_at_call 50; (with_reducible refine (expr_together.calls _ 2 (fun j => w.heap.size ≤ j ∧ j ≠ gr) Al cl acc _ _ _ wr HV.out HT.out).mono ?_); rintro e W2 ⟨v2, rfl, hv, hb⟩; obtain ⟨Ao, co, rfl⟩ := Kd.V_slice hv; have HR2 := Aside0.mk (blk_below HR.out hb); have HB2 := Aside0.mk (hb.mono HW.out.size); have HV2 := Aside0.mk (Kd.V_mono (ok' := fun j => w.heap.size ≤ j ∧ j ≠ gr) hv (fun j hj => hj.elim id (fun h2 => ⟨Nat.le_trans HW.out.size h2, fun he => by have := blk_lt HR.out; omega⟩))); clear hv hb HV; have hz0 : W2.cell? ⟨gr, 0, none⟩ = some (.int .i64 0) := (blk_cell HR2.out 0).trans rfl; have hz1 : W2.cell? ⟨gr, 1, none⟩ = some (.int .i64 0) := (blk_cell HR2.out 1).trans rfl; have hz2 : W2.cell? ⟨gr, 2, none⟩ = some (.slice none 0 0) := (blk_cell HR2.out 2).trans rfl; have hf0 := blk_frozen HR2.out 0; have hf1 := blk_frozen HR2.out 1; have hf2 := blk_frozen HR2.out 2)
        refine bodyPost_ret (results_cell_row rfl _ _ gr 28 #[.int .i64 t.1, .int .i64 t.2.1, .slice Ao t.2.2.length co] (0, 0) _ rfl (expr_Parse.put3 HR2.out _ _ _) Try.underlying28 rfl (by kernel_rfl)) rfl ?_
        exact ⟨_, rfl, Kd.V_mono (expr_Parse.far3 HV2.out (fun j hj => hj.2) _ _ _) (fun j hj => hj.1), (HW.out.grow HB2.out).grow (expr_Parse.below3 (Below.refl _ _) GE.out _ _ _)⟩
      | cons c r =>
        have hs0 := expr_Parse.B_cons c r
        have hs1 : ((expr_Parse.B (c :: r)).toList != ([] : List UInt8)) = true := by rw [bne, hs0]; rfl
        have hsz : 0 < (expr_Parse.B (c :: r)).size := by rw [expr_Parse.B_size]; omega
        have hx6 : ∀ h : 0 < (expr_Parse.B (c :: r)).size, (((expr_Parse.B (c :: r))[0]'h).toNat : Int) = bt (expr_Parse.B (c :: r)) 0 := bt_at (expr_Parse.B (c :: r)) 0
        have qi6 : (0 < ((expr_Parse.B (c :: r)).size : Int)) = True := eq_true (by omega)
        have q6 := eq_true hsz
        clear hsz
        by_cases hs : c.toNat = 124 ∨ c.toNat = 41
        · have H := HA.out
          clear HA
          rw [expr_Parse.seqs, if_pos hs] at H
          obtain ⟨t, ht, hx⟩ := Option.bind_eq_some_iff.1 H
          clear H
          obtain ⟨rfl, rfl⟩ := Prod.mk.inj (Option.some.inj hx)
          clear hx
          by_cases h1 : c.toNat = 124
          · have hb1 : (bt (expr_Parse.B (c :: r)) 0 != 124) = false := by rw [expr_Parse.B_bt, h1]; rfl
            clear hs h1
            obtain ⟨Al, cl, e3, hcl, hC⟩ := Kd.N_reads HN.out
            subst e3
            have HV := Aside0.mk (Kd.N_V (base' := wr.heap.size) HN.out)
            clear hC
            have HT := Aside0.mk ht
            clear ht
            go_wp2_with (go_at_call 50; (with_reducible refine (expr_together.calls _ 2 (fun j => w.heap.size ≤ j ∧ j ≠ gr) Al cl acc _ _ _ wr HV.out HT.out).mono ?_); rintro e W2 ⟨v2, rfl, hv, hb⟩; obtain ⟨Ao, co, rfl⟩ := Kd.V_slice hv; have HR2 := Aside0.mk (blk_below HR.out hb); have HB2 := Aside0.mk (hb.mono HW.out.size); have HV2 := Aside0.mk (Kd.V_mono (ok' := fun j => w.heap.size ≤ j ∧ j ≠ gr) hv (fun j hj => hj.elim id (fun h2 => ⟨Nat.le_trans HW.out.size h2, fun he => by have := blk_lt HR.out; omega⟩))); clear hv hb HV; have hz0 : W2.cell? ⟨gr, 0, none⟩ = some (.int .i64 0) := (blk_cell HR2.out 0).trans rfl; have hz1 : W2.cell? ⟨gr, 1, none⟩ = some (.int .i64 0) := (blk_cell HR2.out 1).trans rfl; have hz2 : W2.cell? ⟨gr, 2, none⟩ = some (.slice none 0 0) := (blk_cell HR2.out 2).trans rfl; have hf0 := blk_frozen HR2.out 0; have hf1 := blk_frozen HR2.out 1; have hf2 := blk_frozen HR2.out 2)
            refine bodyPost_ret (results_cell_row rfl _ _ gr 28 #[.int .i64 t.1, .int .i64 t.2.1, .slice Ao t.2.2.length co] (0, 0) _ rfl (expr_Parse.put3 HR2.out _ _ _) Try.underlying28 rfl (by kernel_rfl)) rfl ?_
            exact ⟨_, rfl, Kd.V_mono (expr_Parse.far3 HV2.out (fun j hj => hj.2) _ _ _) (fun j hj => hj.1), (HW.out.grow HB2.out).grow (expr_Parse.below3 (Below.refl _ _) GE.out _ _ _)⟩
          · have h2 := hs.resolve_left h1
            have hb1 : (bt (expr_Parse.B (c :: r)) 0 != 124) = true := by rw [expr_Parse.B_bt, h2]; rfl
            have hb2 : (bt (expr_Parse.B (c :: r)) 0 != 41) = false := by rw [expr_Parse.B_bt, h2]; rfl
            clear hs h1 h2
            obtain ⟨Al, cl, e3, hcl, hC⟩ := Kd.N_reads HN.out
            subst e3
            have HV := Aside0.mk (Kd.N_V (base' := wr.heap.size) HN.out)
            clear hC
            have HT := Aside0.mk ht
            clear ht
            go_wp2_with (go_at_call 50; (with_reducible refine (expr_together.calls _ 2 (fun j => w.heap.size ≤ j ∧ j ≠ gr) Al cl acc _ _ _ wr HV.out HT.out).mono ?_); rintro e W2 ⟨v2, rfl, hv, hb⟩; obtain ⟨Ao, co, rfl⟩ := Kd.V_slice hv; have HR2 := Aside0.mk (blk_below HR.out hb); have HB2 := Aside0.mk (hb.mono HW.out.size); have HV2 := Aside0.mk (Kd.V_mono (ok' := fun j => w.heap.size ≤ j ∧ j ≠ gr) hv (fun j hj => hj.elim id (fun h2 => ⟨Nat.le_trans HW.out.size h2, fun he => by have := blk_lt HR.out; omega⟩))); clear hv hb HV; have hz0 : W2.cell? ⟨gr, 0, none⟩ = some (.int .i64 0) := (blk_cell HR2.out 0).trans rfl; have hz1 : W2.cell? ⟨gr, 1, none⟩ = some (.int .i64 0) := (blk_cell HR2.out 1).trans rfl; have hz2 : W2.cell? ⟨gr, 2, none⟩ = some (.slice none 0 0) := (blk_cell HR2.out 2).trans rfl; have hf0 := blk_frozen HR2.out 0; have hf1 := blk_frozen HR2.out 1; have hf2 := blk_frozen HR2.out 2)
            refine bodyPost_ret (results_cell_row rfl _ _ gr 28 #[.int .i64 t.1, .int .i64 t.2.1, .slice Ao t.2.2.length co] (0, 0) _ rfl (expr_Parse.put3 HR2.out _ _ _) Try.underlying28 rfl (by kernel_rfl)) rfl ?_
            exact ⟨_, rfl, Kd.V_mono (expr_Parse.far3 HV2.out (fun j hj => hj.2) _ _ _) (fun j hj => hj.1), (HW.out.grow HB2.out).grow (expr_Parse.below3 (Below.refl _ _) GE.out _ _ _)⟩
        · have H := HA.out
          clear HA
          rw [expr_Parse.seqs, if_neg hs] at H
          obtain ⟨y, hy, H2⟩ := Option.bind_eq_some_iff.1 H
          clear H
          by_cases hlen : acc.length < 1000000
          · rw [if_pos hlen] at H2
            have H2 := Aside0.mk H2
            have HLEN := Aside0.mk hlen
            have hb1 : (bt (expr_Parse.B (c :: r)) 0 != 124) = true := by rw [expr_Parse.B_bt, bne_iff_ne]; omega
            have hb2 : (bt (expr_Parse.B (c :: r)) 0 != 41) = true := by rw [expr_Parse.B_bt, bne_iff_ne]; omega
            have HC := Aside0.mk (IH.out k1 (by have := HK.out; omega) (c :: r) y.1 y.2 hy g w0 wr HW.out.1 HW.out.2.1)
            clear hs hlen hy
            obtain ⟨Al, cl, e3, hcl, hC⟩ := Kd.N_reads HN.out
            subst e3
            clear hC
            have HCL := Aside0.mk hcl
            clear hcl
            go_wp2_with (first
              | (go_at_call 66; (with_reducible refine HC.out.mono ?_); rintro e W2 ⟨v2, rfl, hv, hf⟩; obtain ⟨A2, c2, rfl⟩ := Kd.V_slice hv; have HV2 := Aside0.mk hv; have HW2 := Aside0.mk (HW.out.call hf.1 hf.2.1 hf.2.2.1); have HR2 := Aside0.mk ((hf.2.2.1.2 gr (blk_lt HR.out) (fun he => by have := HW.out.2.2.2.1; have := GE.out; omega) (by simp)).trans HR.out); have HN2 := Aside0.mk (Kd.N_keep HN.out hf.2.2.1 (fun j hj he => by have := HW.out.2.2.2.1; have := hj.1; omega)); clear hv hf)
              | ((with_reducible refine gate_builtin (b := .append) (xs := #[.tmp 32, .tmp 35]) rfl ?_); at_builtin; refine Kd.N_append k28 (w0 := W2) w.heap.size rfl (.tmp 32) (.tmp 35) 26 28 (.agg #[(.int .i64 0), (.int .i64 0), (.slice none 0 0)]) 40 rfl Try.underlying26 info28 rfl (by decide) (by omega) (.slice Al acc.length cl) acc y.1 [.int .i64 y.1.f0, .int .i64 y.1.f1, .slice A2 y.1.f2.length c2] (fun j => w.heap.size ≤ j ∧ j ≠ gr) (fun j => wr.heap.size ≤ j) rfl rfl ?aP ?aK ?aF ?aO ?aB ?aS ?aL ?_; (case aP => exact k28_mkF _ _ y.1 (Kd.V_at HV2.out).2.1 (Kd.V_F HV2.out)); (case aK => exact fun j hj => ⟨⟨Nat.le_trans HW.out.size hj, fun he => by have := blk_lt HR.out; omega⟩, fun he => by have := Kd.N_lt HN.out j he.symm; omega⟩); (case aF => exact fun j hj => ⟨Nat.le_trans HW2.out.size hj, fun he => by have := blk_lt HR2.out; omega⟩); (case aO => exact HN2.out); (case aB => exact Below.refl _ _); (case aS => exact HW2.out.size); (case aL => exact (by have := HLEN.out; omega)); intro v3 W3 hN hB hg hat; have HN3 := Aside0.mk hN; have HW3 := Aside0.mk (HW2.out.grow hB); have HR3 := Aside0.mk ((hg.block gr (blk_lt HR2.out) (fun he => (HN2.out.1 gr he.symm).2 rfl)).trans HR2.out); clear hN hB hg hat))
            go_roundg k1
            case measure => have := HK.out; omega
            case rel => exact ⟨acc ++ [y.1], y.2, H2, ⟨by have := HK.out; omega⟩, HN3, HR3, HW3⟩
          · rw [if_neg hlen] at H2
            cases H2
theorem expr_Parse.takes_nil (a1 : Int) : expr_parser_takes.f (expr_Parse.B []) false a1 = some (false, expr_Parse.B [], false) := by
  unfold expr_parser_takes.f
  rw [if_pos (beq_iff_eq.1 expr_Parse.B_nil)]
theorem expr_Parse.takes_hit (c : UInt8) (r : List UInt8) (a1 : Int) (h : (c.toNat : Int) = a1) : expr_parser_takes.f (expr_Parse.B (c :: r)) false a1 = some (true, expr_Parse.B r, false) := by
  unfold expr_parser_takes.f
  rw [if_neg (beq_eq_false_iff_ne.1 (expr_Parse.B_cons c r)), if_pos (by rw [expr_Parse.B_size]; omega), if_pos (by rw [expr_Parse.B_bt, h]), if_pos (by rw [expr_Parse.B_size]; omega), expr_Parse.B_ext]
theorem expr_Parse.takes_miss (c : UInt8) (r : List UInt8) (a1 : Int) (h : (c.toNat : Int) ≠ a1) : expr_parser_takes.f (expr_Parse.B (c :: r)) false a1 = some (false, expr_Parse.B (c :: r), false) := by
  unfold expr_parser_takes.f
  rw [if_neg (beq_eq_false_iff_ne.1 (expr_Parse.B_cons c r)), if_pos (by rw [expr_Parse.B_size]; omega), if_neg (by rw [expr_Parse.B_bt]; exact h)]
set_option maxHeartbeats 4000000 in
set_option maxRecDepth 100000 in
theorem expr_Parse.alt_ (k : Nat) (IH : ∀ j, j ≤ k → expr_Parse.HS j) : expr_Parse.HA k := by
  intro l x l' h g w0 w hI hB
  have hu28 := Try.underlying28
  obtain ⟨y0, hy0, h2⟩ := Option.bind_eq_some_iff.1 h
  have HF := Aside0.mk (expr_Parse.Fr.start hI hB)
  have HY : Aside0 (expr_Parse.seqs k [] l = some (y0.1, y0.2)) := ⟨hy0⟩
  have H' := Aside0.mk h2
  have IH := Aside0.mk IH
  clear hI hB h h2 hy0
  go_enter Try.func35, Try.ntmps35
  go_wp2_with (first
    | ((with_reducible refine gate_dst (N := 2) rfl ?_); refine box_event ?hg (N := 2) ?hd (cs := #[.int .i64 0, .int .i64 0, .slice none 0 0]) (t := 28) ?hr ?_; (case hd => rfl); (case hg => rfl); (case hr => first | (go_simp; done) | (go_simp; rfl)); intro gr hg W1 hbox hb; have HF1 := Aside0.mk (HF.out.grow hb); have BR1 := Aside0.mk hbox; have GE := Aside0.mk (Nat.le_of_eq hg.symm); clear hb hbox hg)
    | (go_at_call 48; (with_reducible refine (IH.out k (Nat.le_refl _) l y0.1 y0.2 HY.out g w0 W1 HF1.out.1 HF1.out.2.1).mono ?_); rintro e W2 ⟨v2, rfl, hv, hf⟩; obtain ⟨A2, c2, rfl⟩ := Kd.V_slice hv; have HV2 := Aside0.mk hv; have HF2 := Aside0.mk (HF1.out.call hf.1 hf.2.1 hf.2.2.1); have BR2 := Aside0.mk ((hf.2.2.1.2 gr (blk_lt BR1.out) (fun he => by have := HF1.out.2.2.2.1; have := GE.out; omega) (by simp)).trans BR1.out); clear hv hf)
    | ((with_reducible refine gate_dst (N := 6) rfl ?_); refine Kd.N_lit k28 (w0 := W2) w.heap.size 28 ?hg (N' := 6) ?hd (xs := [y0.1]) (inner := [.int .i64 y0.1.f0, .int .i64 y0.1.f1, .slice A2 y0.1.f2.length c2]) (ok := fun j => w.heap.size ≤ j ∧ j ≠ gr) (okp := fun j => W1.heap.size ≤ j) ?hr ?hp ?hk ?hf ?hB ?hs ?hm ?_; (case hd => rfl); (case hg => rfl); (case hr => first | (go_simp; done) | (go_simp; rfl)); (case hp => exact Reps.snoc (Reps.none _ _) (k28_mkF _ _ y0.1 (Kd.V_at HV2.out).2.1 (Kd.V_F HV2.out)) rfl); (case hk => exact fun j hj => ⟨Nat.le_trans HF1.out.size hj, fun he => by have := blk_lt BR1.out; omega⟩); (case hf => exact ⟨HF2.out.size, fun he => by have := blk_lt BR2.out; omega⟩); (case hB => exact Below.refl _ _); (case hs => exact HF2.out.size); (case hm => exact (by simp)); intro v3 W3 hN hB hg hat; have HF3 := Aside0.mk (HF2.out.grow hB); have BR3 := Aside0.mk ((hg.block gr (blk_lt BR2.out) (by simp)).trans BR2.out); have HN3 := Aside0.mk hN; clear hN hB hg hat))
  go_loopg [3] k (fun kq v3 W => ∃ (acc : List S28) (l1 : List UInt8), Aside0 (expr_Parse.alts kq acc l1 = some (x, l')) ∧ Aside0 (kq ≤ k) ∧ Aside0 (Kd.N k28 28 W w.heap.size (fun j => w.heap.size ≤ j ∧ j ≠ gr) v3 acc) ∧ Aside0 (W.heap[gr]? = some (.cells #[.int .i64 0, .int .i64 0, .slice none 0 0] 28 (0, 0))) ∧ Aside0 (expr_Parse.Fr w0 w g (expr_Parse.B l1) W))
  case atStart => exact ⟨[y0.1], y0.2, H', ⟨Nat.le_refl _⟩, HN3, BR3, HF3⟩
  case round =>
    clear H' HF1 BR1 HF HF2 BR2 HF3 BR3 HN3 HV2 HY
    obtain ⟨acc, l1, HA, HK, HN, HR, HW⟩ := hrel
    cases gk with
    | zero => exact absurd HA.out (by simp [expr_Parse.alts])
    | succ k1 =>
      obtain ⟨Al, cl, e3, hcl, hC⟩ := Kd.N_reads HN.out
      subst e3
      clear hC
      cases l1 with
      | nil =>
        have H := HA.out
        clear HA
        rw [expr_Parse.alts] at H
        obtain ⟨t, ht, hx⟩ := Option.bind_eq_some_iff.1 H
        clear H
        obtain ⟨rfl, rfl⟩ := Prod.mk.inj (Option.some.inj hx)
        clear hx
        have HT := Aside0.mk ht
        clear ht
        have HTK := expr_Parse.takes_nil 124
        go_wp2_with (first | (go_at_call 49; (with_reducible refine (expr_parser_takes.calls g _ false 124 _ _ _ w0 wr HW.out.1 HW.out.2.1 HTK).mono ?_); rintro e W2 ⟨rfl, hi, hb, hk⟩; have HW2 := Aside0.mk (HW.out.call hi hb hk); have HR2 := Aside0.mk ((hk.2 gr (blk_lt HR.out) (fun he => by have := HW.out.2.2.2.1; have := GE.out; omega) (by simp)).trans HR.out); have HN2 := Aside0.mk (Kd.N_keep HN.out hk (fun j hj he => by have := HW.out.2.2.2.1; have := hj.1; omega)); have HV := Aside0.mk (Kd.N_V (base' := W2.heap.size) HN2.out); clear hi hb hk) | (go_at_call 50; (with_reducible refine (expr_together.calls _ 3 (fun j => w.heap.size ≤ j ∧ j ≠ gr) Al cl acc _ _ _ W2 HV.out HT.out).mono ?_); rintro e W3 ⟨v2, rfl, hv, hb⟩; obtain ⟨Ao, co, rfl⟩ := Kd.V_slice hv; have HR3 := Aside0.mk (blk_below HR2.out hb); have HB3 := Aside0.mk (hb.mono HW2.out.size); have HV3 := Aside0.mk (Kd.V_mono (ok' := fun j => w.heap.size ≤ j ∧ j ≠ gr) hv (fun j hj => hj.elim id (fun h2 => ⟨Nat.le_trans HW2.out.size h2, fun he => by have := blk_lt HR2.out; omega⟩))); clear hv hb HV; have hz0 : W3.cell? ⟨gr, 0, none⟩ = some (.int .i64 0) := (blk_cell HR3.out 0).trans rfl; have hz1 : W3.cell? ⟨gr, 1, none⟩ = some (.int .i64 0) := (blk_cell HR3.out 1).trans rfl; have hz2 : W3.cell? ⟨gr, 2, none⟩ = some (.slice none 0 0) := (blk_cell HR3.out 2).trans rfl; have hf0 := blk_frozen HR3.out 0; have hf1 := blk_frozen HR3.out 1; have hf2 := blk_frozen HR3.out 2))
        refine bodyPost_ret (results_cell_row rfl _ _ gr 28 #[.int .i64 t.1, .int .i64 t.2.1, .slice Ao t.2.2.length co] (0, 0) _ rfl (expr_Parse.put3 HR3.out _ _ _) Try.underlying28 rfl (by kernel_rfl)) rfl ?_
        exact ⟨_, rfl, Kd.V_mono (expr_Parse.far3 HV3.out (fun j hj => hj.2) _ _ _) (fun j hj => hj.1), (HW2.out.grow HB3.out).grow (expr_Parse.below3 (Below.refl _ _) GE.out _ _ _)⟩
      | cons c r =>
        by_cases hs : c.toNat = 124
        · have H := HA.out
          clear HA
          rw [expr_Parse.alts, if_pos hs] at H
          obtain ⟨y, hy, H2⟩ := Option.bind_eq_some_iff.1 H
          clear H
          by_cases hlen : acc.length < 1000000
          · rw [if_pos hlen] at H2
            have H2 := Aside0.mk H2
            have HLEN := Aside0.mk hlen
            have HY : Aside0 (expr_Parse.seqs k1 [] r = some (y.1, y.2)) := ⟨hy⟩
            have HTK := expr_Parse.takes_hit c r 124 (by omega)
            clear hs hlen hy
            go_wp2_with (first
              | (go_at_call 49; (with_reducible refine (expr_parser_takes.calls g _ false 124 _ _ _ w0 wr HW.out.1 HW.out.2.1 HTK).mono ?_); rintro e W2 ⟨rfl, hi, hb, hk⟩; have HW2 := Aside0.mk (HW.out.call hi hb hk); have HR2 := Aside0.mk ((hk.2 gr (blk_lt HR.out) (fun he => by have := HW.out.2.2.2.1; have := GE.out; omega) (by simp)).trans HR.out); have HN2 := Aside0.mk (Kd.N_keep HN.out hk (fun j hj he => by have := HW.out.2.2.2.1; have := hj.1; omega)); have HV := Aside0.mk (Kd.N_V (base' := W2.heap.size) HN2.out); clear hi hb hk)
              | (go_at_call 48; (with_reducible refine (IH.out k1 (by have := HK.out; omega) r y.1 y.2 HY.out g w0 W2 HW2.out.1 HW2.out.2.1).mono ?_); rintro e W3 ⟨v2, rfl, hv, hf⟩; obtain ⟨A2, c2, rfl⟩ := Kd.V_slice hv; have HV3 := Aside0.mk hv; have HW3 := Aside0.mk (HW2.out.call hf.1 hf.2.1 hf.2.2.1); have HR3 := Aside0.mk ((hf.2.2.1.2 gr (blk_lt HR2.out) (fun he => by have := HW.out.2.2.2.1; have := GE.out; omega) (by simp)).trans HR2.out); have HN3 := Aside0.mk (Kd.N_keep HN2.out hf.2.2.1 (fun j hj he => by have := HW.out.2.2.2.1; have := hj.1; omega)); clear hv hf HV)
              | ((with_reducible refine gate_builtin (b := .append) (xs := #[.tmp 9, .tmp 12]) rfl ?_); at_builtin; refine Kd.N_append k28 (w0 := W3) w.heap.size rfl (.tmp 9) (.tmp 12) 26 28 (.agg #[(.int .i64 0), (.int .i64 0), (.slice none 0 0)]) 40 rfl Try.underlying26 info28 rfl (by decide) (by omega) (.slice Al acc.length cl) acc y.1 [.int .i64 y.1.f0, .int .i64 y.1.f1, .slice A2 y.1.f2.length c2] (fun j => w.heap.size ≤ j ∧ j ≠ gr) (fun j => W2.heap.size ≤ j) rfl rfl ?aP ?aK ?aF ?aO ?aB ?aS ?aL ?_; (case aP => exact k28_mkF _ _ y.1 (Kd.V_at HV3.out).2.1 (Kd.V_F HV3.out)); (case aK => exact fun j hj => ⟨⟨Nat.le_trans HW2.out.size hj, fun he => by have := blk_lt HR2.out; omega⟩, fun he => by have := Kd.N_lt HN2.out j he.symm; omega⟩); (case aF => exact fun j hj => ⟨Nat.le_trans HW3.out.size hj, fun he => by have := blk_lt HR3.out; omega⟩); (case aO => exact HN3.out); (case aB => exact Below.refl _ _); (case aS => exact HW3.out.size); (case aL => exact (by have := HLEN.out; omega)); intro v3 W4 hN hB hg hat; have HN4 := Aside0.mk hN; have HW4 := Aside0.mk (HW3.out.grow hB); have HR4 := Aside0.mk ((hg.block gr (blk_lt HR3.out) (fun he => (HN3.out.1 gr he.symm).2 rfl)).trans HR3.out); clear hN hB hg hat))
            go_roundg k1
            case measure => have := HK.out; omega
            case rel => exact ⟨acc ++ [y.1], y.2, H2, ⟨by have := HK.out; omega⟩, HN4, HR4, HW4⟩
          · rw [if_neg hlen] at H2
            cases H2
        · have H := HA.out
          clear HA
          rw [expr_Parse.alts, if_neg hs] at H
          obtain ⟨t, ht, hx⟩ := Option.bind_eq_some_iff.1 H
          clear H
          obtain ⟨rfl, rfl⟩ := Prod.mk.inj (Option.some.inj hx)
          clear hx
          have HT := Aside0.mk ht
          clear ht
          have HTK := expr_Parse.takes_miss c r 124 (by omega)
          go_wp2_with (first | (go_at_call 49; (with_reducible refine (expr_parser_takes.calls g _ false 124 _ _ _ w0 wr HW.out.1 HW.out.2.1 HTK).mono ?_); rintro e W2 ⟨rfl, hi, hb, hk⟩; have HW2 := Aside0.mk (HW.out.call hi hb hk); have HR2 := Aside0.mk ((hk.2 gr (blk_lt HR.out) (fun he => by have := HW.out.2.2.2.1; have := GE.out; omega) (by simp)).trans HR.out); have HN2 := Aside0.mk (Kd.N_keep HN.out hk (fun j hj he => by have := HW.out.2.2.2.1; have := hj.1; omega)); have HV := Aside0.mk (Kd.N_V (base' := W2.heap.size) HN2.out); clear hi hb hk) | (go_at_call 50; (with_reducible refine (expr_together.calls _ 3 (fun j => w.heap.size ≤ j ∧ j ≠ gr) Al cl acc _ _ _ W2 HV.out HT.out).mono ?_); rintro e W3 ⟨v2, rfl, hv, hb⟩; obtain ⟨Ao, co, rfl⟩ := Kd.V_slice hv; have HR3 := Aside0.mk (blk_below HR2.out hb); have HB3 := Aside0.mk (hb.mono HW2.out.size); have HV3 := Aside0.mk (Kd.V_mono (ok' := fun j => w.heap.size ≤ j ∧ j ≠ gr) hv (fun j hj => hj.elim id (fun h2 => ⟨Nat.le_trans HW2.out.size h2, fun he => by have := blk_lt HR2.out; omega⟩))); clear hv hb HV; have hz0 : W3.cell? ⟨gr, 0, none⟩ = some (.int .i64 0) := (blk_cell HR3.out 0).trans rfl; have hz1 : W3.cell? ⟨gr, 1, none⟩ = some (.int .i64 0) := (blk_cell HR3.out 1).trans rfl; have hz2 : W3.cell? ⟨gr, 2, none⟩ = some (.slice none 0 0) := (blk_cell HR3.out 2).trans rfl; have hf0 := blk_frozen HR3.out 0; have hf1 := blk_frozen HR3.out 1; have hf2 := blk_frozen HR3.out 2))
          refine bodyPost_ret (results_cell_row rfl _ _ gr 28 #[.int .i64 t.1, .int .i64 t.2.1, .slice Ao t.2.2.length co] (0, 0) _ rfl (expr_Parse.put3 HR3.out _ _ _) Try.underlying28 rfl (by kernel_rfl)) rfl ?_
          exact ⟨_, rfl, Kd.V_mono (expr_Parse.far3 HV3.out (fun j hj => hj.2) _ _ _) (fun j hj => hj.1), (HW2.out.grow HB3.out).grow (expr_Parse.below3 (Below.refl _ _) GE.out _ _ _)⟩
theorem expr_Parse.sign_index (c : UInt8) : Lib.indexByte [42, 43, 63] c = match expr_Parse.sign c with | some j => j | none => -1 := by
  unfold expr_Parse.sign
  by_cases h1 : c = 42
  · subst h1; rfl
  · have n1 : ¬ c.toNat = 42 := fun h => h1 (UInt8.toNat_inj.1 h)
    by_cases h2 : c = 43
    · subst h2; rfl
    · have n2 : ¬ c.toNat = 43 := fun h => h2 (UInt8.toNat_inj.1 h)
      by_cases h3 : c = 63
      · subst h3; rfl
      · have n3 : ¬ c.toNat = 63 := fun h => h3 (UInt8.toNat_inj.1 h)
        rw [if_neg n1, if_neg n2, if_neg n3]
        simp [Lib.indexByte, Ne.symm h1, Ne.symm h2, Ne.symm h3]
theorem expr_Parse.sign_small {c : UInt8} {j : Int} (h : expr_Parse.sign c = some j) : 0 ≤ j ∧ j ≤ 2 := by
  unfold expr_Parse.sign at h
  repeat' split at h
  all_goals cases h
  all_goals omega
theorem expr_Parse.pack {P : Program} {c : Code} {Q : Exit → Act → World → Prop} {xa : Act} {W : World} (F : World → Prop) (h1 : F W) (h : ∀ W', F W' → Code.wp P c Q xa W') : Code.wp P c Q xa W := h W h1
/-- what stands where the suffixes of an item begin -/
abbrev expr_Parse.Sf (w0 w : World) (g gr gx : Nat) (x : S28) (l' : List UInt8) (x1 : S28) (l1 : List UInt8) (W : World) : Prop := ∃ v2, expr_Parse.sfx l1 x1 = (x, l') ∧ W.heap[gx]? = some (.cells #[.int .i64 x1.f0, .int .i64 x1.f1, v2] 28 (0, 0)) ∧ Kd.V k28 28 W w.heap.size (fun j => w.heap.size ≤ j ∧ j ≠ gr ∧ j ≠ gx) v2 x1.f2 ∧ W.heap[gr]? = some (.cells #[.int .i64 0, .int .i64 0, .slice none 0 0] 28 (0, 0)) ∧ expr_Parse.Fr w0 w g (expr_Parse.B l1) W
def expr_Parse.sg (c : UInt8) : Int := match expr_Parse.sign c with | some j => j | none => -1
theorem expr_Parse.index_calls (d : UInt8) (r : List UInt8) (w : World) (j : Int) (h : expr_Parse.sg d = j) : Calls Try.prog 72 #[.string (⟨#[42, 43, 63]⟩ : ByteArray), .int .u8 (bt (expr_Parse.B (d :: r)) 0)] w fun e w' => e = .returned (.int .i64 j) ∧ w' = w := by
  have h2 := Try.strings_IndexByte (⟨#[42, 43, 63]⟩ : ByteArray) (bt (expr_Parse.B (d :: r)) 0) w
  have e : (bt (expr_Parse.B (d :: r)) 0).toNat.toUInt8 = d := by rw [expr_Parse.B_bt]; simp
  rw [e] at h2
  have e2 : Lib.indexByte ((⟨#[42, 43, 63]⟩ : ByteArray)).data.toList d = j := (expr_Parse.sign_index d).trans h
  rw [e2] at h2
  exact h2
theorem expr_Parse.far3b {W : World} {g gx : Nat} {t : TypeId} {cs : Array Value} (h : W.heap[g]? = some (.cells cs t (0, 0))) (hg : g ≠ gx) (u0 u1 u2 : Value) : (((W.setCell ⟨gx, 0, none⟩ u0).setCell ⟨gx, 1, none⟩ u1).setCell ⟨gx, 2, none⟩ u2).heap[g]? = some (.cells cs t (0, 0)) := blk_far (blk_far (blk_far h hg u0) hg u1) hg u2
theorem expr_Parse.Sf_step {w0 w Wa : World} {g gr gx : Nat} {x x1 : S28} {l' r : List UInt8} {A2 : Option Addr} {c2 : Nat} {b : Nat} {u j : Int} (n1 : expr_Parse.Fr w0 w g (expr_Parse.B r) Wa) (BXa : Wa.heap[gx]? = some (.cells #[.int .i64 x1.f0, .int .i64 x1.f1, .slice A2 x1.f2.length c2] 28 (0, 0))) (HVa : Kd.V k28 28 Wa b (fun j => w.heap.size ≤ j ∧ j ≠ gr ∧ j ≠ gx) (.slice A2 x1.f2.length c2) x1.f2) (BRa : Wa.heap[gr]? = some (.cells #[.int .i64 0, .int .i64 0, .slice none 0 0] 28 (0, 0))) (GX : w.heap.size ≤ gx) (GE : w.heap.size ≤ gr) (GN : gr ≠ gx) (hsf : expr_Parse.sfx r ⟨4 + j, 0, [x1]⟩ = (x, l')) (hu : u = 4 + j) :
    expr_Parse.Sf w0 w g gr gx x l' ⟨4 + j, 0, [x1]⟩ r ((((Wa.alloc (.cells #[.int .i64 x1.f0, .int .i64 x1.f1, .slice A2 x1.f2.length c2] 28)).setCell ⟨gx, 0, none⟩ (.int .i64 u)).setCell ⟨gx, 1, none⟩ (.int .i64 0)).setCell ⟨gx, 2, none⟩ (.slice (some ⟨Wa.heap.size, 0, none⟩) 1 1)) := by
  have sx := blk_lt BXa
  have sr := blk_lt BRa
  have n2 := n1.grow ((below_alloc (Below.refl Wa.heap.size Wa) (.cells #[.int .i64 x1.f0, .int .i64 x1.f1, .slice A2 x1.f2.length c2] 28)).mono n1.size)
  have BXb := blk_alloc BXa (.cells #[.int .i64 x1.f0, .int .i64 x1.f1, .slice A2 x1.f2.length c2] 28)
  have BRb := blk_alloc BRa (.cells #[.int .i64 x1.f0, .int .i64 x1.f1, .slice A2 x1.f2.length c2] 28)
  have HVb := Kd.V_alloc HVa (.cells #[.int .i64 x1.f0, .int .i64 x1.f1, .slice A2 x1.f2.length c2] 28)
  have h1 := expr_Parse.F_one (blk_new Wa _) (Kd.V_at HVb).2.1 (Kd.V_F HVb)
  have h2 := Kd.V_mk (e := 28) (base := w.heap.size) (c := 1) (by simp) h1
  have h3 := Kd.V_mono (ok' := fun j => w.heap.size ≤ j ∧ j ≠ gr ∧ j ≠ gx) h2 (fun k hk => hk.elim id (fun he => ⟨by rw [he]; exact n1.size, by omega, by omega⟩))
  refine ⟨_, hsf, ?_, expr_Parse.far3 h3 (fun k hk => hk.2.2) _ _ _, expr_Parse.far3b BRb GN _ _ _, n2.grow (expr_Parse.below3 (Below.refl _ _) GX _ _ _)⟩
  rw [hu]
  exact expr_Parse.put3 BXb _ _ _
set_option maxHeartbeats 4000000 in
set_option maxRecDepth 100000 in
theorem expr_Parse.item_ (k : Nat) (IH : ∀ j, j < k → expr_Parse.HA j) : expr_Parse.HI k := by
  intro l x l' h g w0 w hI hB
  have hu28 := Try.underlying28
  cases k with
  | zero => simp [expr_Parse.item] at h
  | succ k1 =>
    cases l with
    | nil => simp [expr_Parse.item] at h
    | cons c r =>
      rw [expr_Parse.item] at h
      have HF := Aside0.mk (expr_Parse.Fr.start hI hB)
      have H := Aside0.mk h
      have HC := IH k1 (Nat.lt_succ_self _)
      clear hI hB h IH
      have hsz : 0 < (expr_Parse.B (c :: r)).size := by rw [expr_Parse.B_size]; omega
      have hx6 : ∀ h : 0 < (expr_Parse.B (c :: r)).size, (((expr_Parse.B (c :: r))[0]'h).toNat : Int) = bt (expr_Parse.B (c :: r)) 0 := bt_at (expr_Parse.B (c :: r)) 0
      have qi6 : (0 < ((expr_Parse.B (c :: r)).size : Int)) = True := eq_true (by omega)
      have qi7 : (1 ≤ ((expr_Parse.B (c :: r)).size : Int)) = True := eq_true (by omega)
      have qi8 : decide (1 ≤ ((expr_Parse.B (c :: r)).size : Int)) = true := decide_eq_true (by omega)
      have q6 := eq_true hsz
      clear hsz
      go_enter Try.func66, Try.ntmps66
      go_upto_region 5 with (first
        | ((with_reducible refine gate_dst (N := 2) rfl ?_); refine box_event ?hg (N := 2) ?hd (cs := #[.int .i64 0, .int .i64 0, .slice none 0 0]) (t := 28) ?hr ?_; (case hd => rfl); (case hg => rfl); (case hr => first | (go_simp; done) | (go_simp; rfl)); intro gr hg W1 hbox hb; have HF1 := Aside0.mk (HF.out.grow hb); have BR1 := Aside0.mk hbox; have GE := Aside0.mk (Nat.le_of_eq hg.symm); have hc0 := cellS83_0 HF1.out.blk; have hf0 := blk_frozen HF1.out.blk 0; clear hb hbox hg)
        | ((with_reducible refine gate_dst (N := 4) rfl ?_); refine box_event ?hg (N := 4) ?hd (cs := #[.int .i64 0, .int .i64 0, .slice none 0 0]) (t := 28) ?hr ?_; (case hd => rfl); (case hg => rfl); (case hr => first | (go_simp; done) | (go_simp; rfl)); intro gx hg W2 hbox hb; have n1 := Aside0.mk (HF1.out.set ((expr_Parse.B (c :: r)).extract 1 (expr_Parse.B (c :: r)).size)); have HF2 := Aside0.mk (n1.out.grow (hb.mono n1.out.size)); have BX2 := Aside0.mk hbox; have n2 := Aside0.mk (blk_far (p := ⟨g, 0, none⟩) BR1.out (fun (he : gr = g) => by have := HF1.out.2.2.2.1; have := GE.out; omega) (.string ((expr_Parse.B (c :: r)).extract 1 (expr_Parse.B (c :: r)).size))); have BR2 := Aside0.mk (blk_below n2.out hb); have GX := Aside0.mk (show w.heap.size ≤ gx by rw [hg]; exact n1.out.size); have GN := Aside0.mk (show gr ≠ gx by rw [hg]; exact Nat.ne_of_lt (blk_lt n2.out)); clear hb hbox hg n1 n2))
      rw [expr_Parse.B_ext] at HF2
      have hz0 : W2.cell? ⟨gx, 0, none⟩ = some (.int .i64 0) := (blk_cell BX2.out 0).trans rfl
      have hz1 : W2.cell? ⟨gx, 1, none⟩ = some (.int .i64 0) := (blk_cell BX2.out 1).trans rfl
      have hz2 : W2.cell? ⟨gx, 2, none⟩ = some (.slice none 0 0) := (blk_cell BX2.out 2).trans rfl
      have hfz0 := blk_frozen BX2.out 0
      have hfz1 := blk_frozen BX2.out 1
      have hfz2 := blk_frozen BX2.out 2
      have e := expr_Parse.B_bt c r
      have HE := Aside0.mk e
      by_cases ha : 97 ≤ c.toNat ∧ c.toNat ≤ 104
      · have h := H.out
        rw [if_pos ha] at h
        have H2 := Aside0.mk (Option.some.inj h)
        clear h H
        have hb1 : decide (bt (expr_Parse.B (c :: r)) 0 ≥ 97) = true := decide_eq_true (by rw [e]; omega)
        have hb2 : decide (bt (expr_Parse.B (c :: r)) 0 ≤ 104) = true := decide_eq_true (by rw [e]; omega)
        have HAA := Aside0.mk ha
        clear ha e
        go_wp2
        repeat (go_quiet (fail); try go_wp2)
        have HU := Aside0.mk (show (bt (expr_Parse.B (c :: r)) 0 - 97) % 256 = (c.toNat : Int) - 97 by rw [HE.out]; have := HAA.out; omega)
        refine expr_Parse.pack (fun W => expr_Parse.Sf w0 w g gr gx x l' ⟨1, (c.toNat : Int) - 97, []⟩ r W) ?p1 ?p2
        case p1 => exact ⟨.slice none 0 0, H2.out, by rw [HU.out]; exact expr_Parse.put3 BX2.out _ _ _, Kd.V_nil _ _ _ _ _, expr_Parse.far3b BR2.out GN.out _ _ _, HF2.out.grow (expr_Parse.below3 (Below.refl _ _) GX.out _ _ _)⟩
        case p2 =>
          intro W3 hs
          have HS := Aside0.mk hs
          clear hs
          go_loopg [5] (r.length + 1) (fun kq v5 W => ∃ (x1 : S28) (l1 : List UInt8), Aside0 (l1.length < kq) ∧ Aside0 (expr_Parse.Sf w0 w g gr gx x l' x1 l1 W))
          case atStart => exact ⟨⟨1, (c.toNat : Int) - 97, []⟩, r, ⟨by omega⟩, HS⟩
          case round =>
            clear HS
            obtain ⟨x1, l1, HL, HS⟩ := hrel
            obtain ⟨v2, hsf, hbx, hv, hbr, hfr⟩ := HS.out
            obtain ⟨A2, c2, rfl⟩ := Kd.V_slice hv
            have HX := Aside0.mk hbx
            have HV := Aside0.mk hv
            have HR := Aside0.mk hbr
            have HW := Aside0.mk hfr
            clear hbx hv hbr hfr HS
            have hc0 := cellS83_0 HW.out.blk
            have hf0 := blk_frozen HW.out.blk 0
            have hne1 : gx ≠ g := fun he => by have := HW.out.2.2.2.1; have := GX.out; omega
            have hne2 : g ≠ gx := fun he => hne1 he.symm
            have hx0 : wr.cell? ⟨gx, 0, none⟩ = some (.int .i64 x1.f0) := (blk_cell HX.out 0).trans rfl
            have hx1 : wr.cell? ⟨gx, 1, none⟩ = some (.int .i64 x1.f1) := (blk_cell HX.out 1).trans rfl
            have hx2 : wr.cell? ⟨gx, 2, none⟩ = some (.slice A2 x1.f2.length c2) := (blk_cell HX.out 2).trans rfl
            have hxf0 := blk_frozen HX.out 0
            have hxf1 := blk_frozen HX.out 1
            have hxf2 := blk_frozen HX.out 2
            have hr0 : wr.cell? ⟨gr, 0, none⟩ = some (.int .i64 0) := (blk_cell HR.out 0).trans rfl
            have hr1 : wr.cell? ⟨gr, 1, none⟩ = some (.int .i64 0) := (blk_cell HR.out 1).trans rfl
            have hr2 : wr.cell? ⟨gr, 2, none⟩ = some (.slice none 0 0) := (blk_cell HR.out 2).trans rfl
            have hrf0 := blk_frozen HR.out 0
            have hrf1 := blk_frozen HR.out 1
            have hrf2 := blk_frozen HR.out 2
            cases gk with
            | zero => exact absurd HL.out (by omega)
            | succ k2 =>
              cases l1 with
              | nil =>
                rw [expr_Parse.sfx] at hsf
                obtain ⟨rfl, rfl⟩ := Prod.mk.inj hsf
                clear hsf
                have hs0 := expr_Parse.B_nil
                have hs1 : ((expr_Parse.B []).toList != ([] : List UInt8)) = false := by rw [bne, hs0]; rfl
                go_wp2_with (fail)
                repeat (go_quiet (fail); try go_wp2)
                refine bodyPost_ret (results_cell_row rfl _ _ gr 28 #[.int .i64 x1.f0, .int .i64 x1.f1, .slice A2 x1.f2.length c2] (0, 0) _ rfl (expr_Parse.put3 HR.out _ _ _) Try.underlying28 rfl (by kernel_rfl)) rfl ?_
                exact ⟨_, rfl, Kd.V_mono (expr_Parse.far3 HV.out (fun j hj => hj.2.1) _ _ _) (fun j hj => hj.1), HW.out.grow (expr_Parse.below3 (Below.refl _ _) GE.out _ _ _)⟩
              | cons d r =>
                have hs0 := expr_Parse.B_cons d r
                have hs1 : ((expr_Parse.B (d :: r)).toList != ([] : List UInt8)) = true := by rw [bne, hs0]; rfl
                have hsz : 0 < (expr_Parse.B (d :: r)).size := by rw [expr_Parse.B_size]; omega
                have hx6 : ∀ h : 0 < (expr_Parse.B (d :: r)).size, (((expr_Parse.B (d :: r))[0]'h).toNat : Int) = bt (expr_Parse.B (d :: r)) 0 := bt_at (expr_Parse.B (d :: r)) 0
                have qi6 : (0 < ((expr_Parse.B (d :: r)).size : Int)) = True := eq_true (by omega)
                have qi7 : (1 ≤ ((expr_Parse.B (d :: r)).size : Int)) = True := eq_true (by omega)
                have qi8 : decide (1 ≤ ((expr_Parse.B (d :: r)).size : Int)) = true := decide_eq_true (by omega)
                have q6 := eq_true hsz
                clear hsz
                cases hsg : expr_Parse.sign d with
                | none =>
                  have HIX := Aside0.mk (expr_Parse.index_calls d r wr (-1) (by unfold expr_Parse.sg; rw [hsg]))
                  rw [expr_Parse.sfx, hsg] at hsf
                  obtain ⟨rfl, rfl⟩ := Prod.mk.inj hsf
                  clear hsf hsg
                  go_wp2_with (go_at_call 72; (with_reducible refine HIX.out.mono ?_); rintro e w' ⟨rfl, rfl⟩)
                  repeat (go_quiet (fail); try go_wp2)
                  refine bodyPost_ret (results_cell_row rfl _ _ gr 28 #[.int .i64 x1.f0, .int .i64 x1.f1, .slice A2 x1.f2.length c2] (0, 0) _ rfl (expr_Parse.put3 HR.out _ _ _) Try.underlying28 rfl (by kernel_rfl)) rfl ?_
                  exact ⟨_, rfl, Kd.V_mono (expr_Parse.far3 HV.out (fun j hj => hj.2.1) _ _ _) (fun j hj => hj.1), HW.out.grow (expr_Parse.below3 (Below.refl _ _) GE.out _ _ _)⟩
                | some j =>
                  have HIX := Aside0.mk (expr_Parse.index_calls d r wr j (by unfold expr_Parse.sg; rw [hsg]))
                  have HSF : Aside0 (expr_Parse.sfx r ⟨4 + j, 0, [x1]⟩ = (x, l')) := ⟨by rw [expr_Parse.sfx, hsg] at hsf; exact hsf⟩
                  have HJ := Aside0.mk (expr_Parse.sign_small hsg)
                  have HWJ : Aside0 (wrap64 (4 + j) = 4 + j) := ⟨by have := HJ.out; unfold wrap64; omega⟩
                  have hj : decide (j < 0) = false := decide_eq_false (by have := HJ.out; omega)
                  clear hsf hsg
                  go_upto_region 14 with (go_at_call 72; (with_reducible refine HIX.out.mono ?_); rintro e w' ⟨rfl, rfl⟩)
                  refine expr_Parse.pack (fun W => W.heap[gx]? = some (.cells #[.int .i64 x1.f0, .int .i64 x1.f1, .slice A2 x1.f2.length c2] 28 (0, 0)) ∧ Kd.V k28 28 W w.heap.size (fun j => w.heap.size ≤ j ∧ j ≠ gr ∧ j ≠ gx) (.slice A2 x1.f2.length c2) x1.f2 ∧ W.heap[gr]? = some (.cells #[.int .i64 0, .int .i64 0, .slice none 0 0] 28 (0, 0)) ∧ expr_Parse.Fr w0 w g (expr_Parse.B r) W) ?q1 ?q2
                  case q1 => exact ⟨blk_far (p := ⟨g, 0, none⟩) HX.out hne1 _, Kd.V_far (p := ⟨g, 0, none⟩) HV.out (fun k hk (he : k = g) => by have := HW.out.2.2.2.1; have := hk.1; omega) _, blk_far (p := ⟨g, 0, none⟩) HR.out (fun (he : gr = g) => by have := HW.out.2.2.2.1; have := GE.out; omega) _, by have h5 := HW.out.set ((expr_Parse.B (d :: r)).extract 1 (expr_Parse.B (d :: r)).size); rw [expr_Parse.B_ext] at h5 ⊢; exact h5⟩
                  case q2 =>
                    intro Wa h5
                    obtain ⟨bx, hv, br, hf⟩ := h5
                    have BXa := Aside0.mk bx
                    have HVa := Aside0.mk hv
                    have BRa := Aside0.mk br
                    have HWa := Aside0.mk hf
                    clear bx hv br hf
                    have hy0 : Wa.cell? ⟨gx, 0, none⟩ = some (.int .i64 x1.f0) := (blk_cell BXa.out 0).trans rfl
                    have hy1 : Wa.cell? ⟨gx, 1, none⟩ = some (.int .i64 x1.f1) := (blk_cell BXa.out 1).trans rfl
                    have hy2 : Wa.cell? ⟨gx, 2, none⟩ = some (.slice A2 x1.f2.length c2) := (blk_cell BXa.out 2).trans rfl
                    have hb0 : ∀ o, (Wa.alloc o).cell? ⟨gx, 0, none⟩ = some (.int .i64 x1.f0) := fun o => (blk_cell (blk_alloc BXa.out o) 0).trans rfl
                    have hb1 : ∀ o, (Wa.alloc o).cell? ⟨gx, 1, none⟩ = some (.int .i64 x1.f1) := fun o => (blk_cell (blk_alloc BXa.out o) 1).trans rfl
                    have hb2 : ∀ o, (Wa.alloc o).cell? ⟨gx, 2, none⟩ = some (.slice A2 x1.f2.length c2) := fun o => (blk_cell (blk_alloc BXa.out o) 2).trans rfl
                    have hbf0 : ∀ o, (Wa.alloc o).frozen? ⟨gx, 0, none⟩ = false := fun o => blk_frozen (blk_alloc BXa.out o) 0
                    have hbf1 : ∀ o, (Wa.alloc o).frozen? ⟨gx, 1, none⟩ = false := fun o => blk_frozen (blk_alloc BXa.out o) 1
                    have hbf2 : ∀ o, (Wa.alloc o).frozen? ⟨gx, 2, none⟩ = false := fun o => blk_frozen (blk_alloc BXa.out o) 2
                    go_wp2
                    repeat (go_quiet (fail); try go_wp2)
                    go_roundg k2
                    case measure => omega
                    case rel => exact ⟨⟨4 + j, 0, [x1]⟩, r, ⟨by have := HL.out; simp at this; omega⟩, ⟨expr_Parse.Sf_step HWa.out BXa.out HVa.out BRa.out GX.out GE.out GN.out HSF.out HWJ.out⟩⟩
      · have h := H.out
        rw [if_neg ha] at h
        by_cases hp : c.toNat = 40
        · rw [if_pos hp] at h
          obtain ⟨y, hy, h2⟩ := Option.bind_eq_some_iff.1 h
          obtain ⟨⟨zx, zl⟩, hz, h3⟩ := Option.bind_eq_some_iff.1 h2
          have HCA : Aside0 (expr_Parse.alt k1 r = some (zx, zl)) := ⟨by unfold expr_Parse.alt; rw [hy]; exact hz⟩
          clear h h2 hy hz H
          cases zl with
          | nil => cases h3
          | cons d r2 =>
            by_cases hd : d.toNat = 41
            · have H2 : Aside0 (expr_Parse.sfx r2 zx = (x, l')) := ⟨by have h4 := h3; simp only [] at h4; rw [if_pos hd] at h4; exact Option.some.inj h4⟩
              have hb1 : decide (bt (expr_Parse.B (c :: r)) 0 ≥ 97) = false := decide_eq_false (by rw [e]; omega)
              have hb2 : (bt (expr_Parse.B (c :: r)) 0 == 40) = true := by rw [e, hp]; rfl
              have HTK := expr_Parse.takes_hit d r2 41 (by omega)
              have HCC := Aside0.mk (HC r zx (d :: r2) HCA.out g w0 W2 HF2.out.1 HF2.out.2.1)
              clear h3 hd ha hp e
              go_upto_region 9 with (go_at_call 35; (with_reducible refine HCC.out.mono ?_); rintro e W3 ⟨v2, rfl, hv, hf⟩; obtain ⟨A2, c2, rfl⟩ := Kd.V_slice hv; have HV3 := Aside0.mk hv; have HW3 := Aside0.mk (HF2.out.call hf.1 hf.2.1 hf.2.2.1); have BX3 := Aside0.mk ((hf.2.2.1.2 gx (blk_lt BX2.out) (fun he => by have := HF2.out.2.2.2.1; have := GX.out; omega) (by simp)).trans BX2.out); have BR3 := Aside0.mk ((hf.2.2.1.2 gr (blk_lt BR2.out) (fun he => by have := HF2.out.2.2.2.1; have := GE.out; omega) (by simp)).trans BR2.out); clear hv hf hz0 hz1 hz2 hfz0 hfz1 hfz2; have hz0 : W3.cell? ⟨gx, 0, none⟩ = some (.int .i64 0) := (blk_cell BX3.out 0).trans rfl; have hz1 : W3.cell? ⟨gx, 1, none⟩ = some (.int .i64 0) := (blk_cell BX3.out 1).trans rfl; have hz2 : W3.cell? ⟨gx, 2, none⟩ = some (.slice none 0 0) := (blk_cell BX3.out 2).trans rfl; have hfz0 := blk_frozen BX3.out 0; have hfz1 := blk_frozen BX3.out 1; have hfz2 := blk_frozen BX3.out 2)
              refine expr_Parse.pack (fun W => W.heap[gx]? = some (.cells #[.int .i64 zx.f0, .int .i64 zx.f1, .slice A2 zx.f2.length c2] 28 (0, 0)) ∧ Kd.V k28 28 W w.heap.size (fun j => w.heap.size ≤ j ∧ j ≠ gr ∧ j ≠ gx) (.slice A2 zx.f2.length c2) zx.f2 ∧ W.heap[gr]? = some (.cells #[.int .i64 0, .int .i64 0, .slice none 0 0] 28 (0, 0)) ∧ expr_Parse.Fr w0 w g (expr_Parse.B (d :: r2)) W) ?p1 ?p2
              case p1 => exact ⟨expr_Parse.put3 BX3.out _ _ _, expr_Parse.far3 (Kd.V_mono (ok' := fun j => w.heap.size ≤ j ∧ j ≠ gr ∧ j ≠ gx) HV3.out (fun j hj => ⟨Nat.le_trans HF2.out.size hj, fun he => by have := blk_lt BR2.out; omega, fun he => by have := blk_lt BX2.out; omega⟩)) (fun j hj => hj.2.2) _ _ _, expr_Parse.far3b BR3.out GN.out _ _ _, HW3.out.grow (expr_Parse.below3 (Below.refl _ _) GX.out _ _ _)⟩
              case p2 =>
                intro W4 h4
                obtain ⟨bx, hv, br, hf⟩ := h4
                have BX4 := Aside0.mk bx
                have HV4 := Aside0.mk hv
                have BR4 := Aside0.mk br
                have HW4 := Aside0.mk hf
                clear bx hv br hf
                have hg1 := cellS83_1 HW4.out.blk
                go_wp2_with (go_at_call 49; (with_reducible refine (expr_parser_takes.calls g _ false 41 _ _ _ w0 W4 HW4.out.1 HW4.out.2.1 HTK).mono ?_); rintro e W5 ⟨rfl, hi, hb, hk⟩; have HW5 := Aside0.mk (HW4.out.call hi hb hk); have BX5 := Aside0.mk ((hk.2 gx (blk_lt BX4.out) (fun he => by have := HW4.out.2.2.2.1; have := GX.out; omega) (by simp)).trans BX4.out); have BR5 := Aside0.mk ((hk.2 gr (blk_lt BR4.out) (fun he => by have := HW4.out.2.2.2.1; have := GE.out; omega) (by simp)).trans BR4.out); have HV5 := Aside0.mk (Kd.V_keep HV4.out hk (fun j hj he => by have := HW4.out.2.2.2.1; have := hj.1; omega)); clear hi hb hk; have hg5 := cellS83_1 HW5.out.blk; have hgf5 := blk_frozen HW5.out.blk 1)
                repeat (go_quiet (fail); try go_wp2)
                refine expr_Parse.pack (fun W => expr_Parse.Sf w0 w g gr gx x l' zx r2 W) ?p1 ?p2
                case p1 => exact ⟨_, H2.out, blk_far (p := ⟨g, 1, none⟩) BX5.out (fun (he : gx = g) => by have := HW4.out.2.2.2.1; have := GX.out; omega) _, Kd.V_far (p := ⟨g, 1, none⟩) HV5.out (fun j hj (he : j = g) => by have := HW4.out.2.2.2.1; have := hj.1; omega) _, blk_far (p := ⟨g, 1, none⟩) BR5.out (fun (he : gr = g) => by have := HW4.out.2.2.2.1; have := GE.out; omega) _, HW5.out.set1⟩
                case p2 =>
                  intro W6 hs
                  have HS := Aside0.mk hs
                  clear hs
                  go_loopg [5] (r2.length + 1) (fun kq v5 W => ∃ (x1 : S28) (l1 : List UInt8), Aside0 (l1.length < kq) ∧ Aside0 (expr_Parse.Sf w0 w g gr gx x l' x1 l1 W))
                  case atStart => exact ⟨zx, r2, ⟨by omega⟩, HS⟩
                  case round =>
                    clear HS
                    obtain ⟨x1, l1, HL, HS⟩ := hrel
                    obtain ⟨v2, hsf, hbx, hv, hbr, hfr⟩ := HS.out
                    obtain ⟨A2, c2, rfl⟩ := Kd.V_slice hv
                    have HX := Aside0.mk hbx
                    have HV := Aside0.mk hv
                    have HR := Aside0.mk hbr
                    have HW := Aside0.mk hfr
                    clear hbx hv hbr hfr HS
                    have hc0 := cellS83_0 HW.out.blk
                    have hf0 := blk_frozen HW.out.blk 0
                    have hne1 : gx ≠ g := fun he => by have := HW.out.2.2.2.1; have := GX.out; omega
                    have hne2 : g ≠ gx := fun he => hne1 he.symm
                    have hx0 : wr.cell? ⟨gx, 0, none⟩ = some (.int .i64 x1.f0) := (blk_cell HX.out 0).trans rfl
                    have hx1 : wr.cell? ⟨gx, 1, none⟩ = some (.int .i64 x1.f1) := (blk_cell HX.out 1).trans rfl
                    have hx2 : wr.cell? ⟨gx, 2, none⟩ = some (.slice A2 x1.f2.length c2) := (blk_cell HX.out 2).trans rfl
                    have hxf0 := blk_frozen HX.out 0
                    have hxf1 := blk_frozen HX.out 1
                    have hxf2 := blk_frozen HX.out 2
                    have hr0 : wr.cell? ⟨gr, 0, none⟩ = some (.int .i64 0) := (blk_cell HR.out 0).trans rfl
                    have hr1 : wr.cell? ⟨gr, 1, none⟩ = some (.int .i64 0) := (blk_cell HR.out 1).trans rfl
                    have hr2 : wr.cell? ⟨gr, 2, none⟩ = some (.slice none 0 0) := (blk_cell HR.out 2).trans rfl
                    have hrf0 := blk_frozen HR.out 0
                    have hrf1 := blk_frozen HR.out 1
                    have hrf2 := blk_frozen HR.out 2
                    cases gk with
                    | zero => exact absurd HL.out (by omega)
                    | succ k2 =>
                      cases l1 with
                      | nil =>
                        rw [expr_Parse.sfx] at hsf
                        obtain ⟨rfl, rfl⟩ := Prod.mk.inj hsf
                        clear hsf
                        have hs0 := expr_Parse.B_nil
                        have hs1 : ((expr_Parse.B []).toList != ([] : List UInt8)) = false := by rw [bne, hs0]; rfl
                        go_wp2_with (fail)
                        repeat (go_quiet (fail); try go_wp2)
                        refine bodyPost_ret (results_cell_row rfl _ _ gr 28 #[.int .i64 x1.f0, .int .i64 x1.f1, .slice A2 x1.f2.length c2] (0, 0) _ rfl (expr_Parse.put3 HR.out _ _ _) Try.underlying28 rfl (by kernel_rfl)) rfl ?_
                        exact ⟨_, rfl, Kd.V_mono (expr_Parse.far3 HV.out (fun j hj => hj.2.1) _ _ _) (fun j hj => hj.1), HW.out.grow (expr_Parse.below3 (Below.refl _ _) GE.out _ _ _)⟩
                      | cons d r =>
                        have hs0 := expr_Parse.B_cons d r
                        have hs1 : ((expr_Parse.B (d :: r)).toList != ([] : List UInt8)) = true := by rw [bne, hs0]; rfl
                        have hsz : 0 < (expr_Parse.B (d :: r)).size := by rw [expr_Parse.B_size]; omega
                        have hx6 : ∀ h : 0 < (expr_Parse.B (d :: r)).size, (((expr_Parse.B (d :: r))[0]'h).toNat : Int) = bt (expr_Parse.B (d :: r)) 0 := bt_at (expr_Parse.B (d :: r)) 0
                        have qi6 : (0 < ((expr_Parse.B (d :: r)).size : Int)) = True := eq_true (by omega)
                        have qi7 : (1 ≤ ((expr_Parse.B (d :: r)).size : Int)) = True := eq_true (by omega)
                        have qi8 : decide (1 ≤ ((expr_Parse.B (d :: r)).size : Int)) = true := decide_eq_true (by omega)
                        have q6 := eq_true hsz
                        clear hsz
                        cases hsg : expr_Parse.sign d with
                        | none =>
                          have HIX := Aside0.mk (expr_Parse.index_calls d r wr (-1) (by unfold expr_Parse.sg; rw [hsg]))
                          rw [expr_Parse.sfx, hsg] at hsf
                          obtain ⟨rfl, rfl⟩ := Prod.mk.inj hsf
                          clear hsf hsg
                          go_wp2_with (go_at_call 72; (with_reducible refine HIX.out.mono ?_); rintro e w' ⟨rfl, rfl⟩)
                          repeat (go_quiet (fail); try go_wp2)
                          refine bodyPost_ret (results_cell_row rfl _ _ gr 28 #[.int .i64 x1.f0, .int .i64 x1.f1, .slice A2 x1.f2.length c2] (0, 0) _ rfl (expr_Parse.put3 HR.out _ _ _) Try.underlying28 rfl (by kernel_rfl)) rfl ?_
                          exact ⟨_, rfl, Kd.V_mono (expr_Parse.far3 HV.out (fun j hj => hj.2.1) _ _ _) (fun j hj => hj.1), HW.out.grow (expr_Parse.below3 (Below.refl _ _) GE.out _ _ _)⟩
                        | some j =>
                          have HIX := Aside0.mk (expr_Parse.index_calls d r wr j (by unfold expr_Parse.sg; rw [hsg]))
                          have HSF : Aside0 (expr_Parse.sfx r ⟨4 + j, 0, [x1]⟩ = (x, l')) := ⟨by rw [expr_Parse.sfx, hsg] at hsf; exact hsf⟩
                          have HJ := Aside0.mk (expr_Parse.sign_small hsg)
                          have HWJ : Aside0 (wrap64 (4 + j) = 4 + j) := ⟨by have := HJ.out; unfold wrap64; omega⟩
                          have hj : decide (j < 0) = false := decide_eq_false (by have := HJ.out; omega)
                          clear hsf hsg
                          go_upto_region 14 with (go_at_call 72; (with_reducible refine HIX.out.mono ?_); rintro e w' ⟨rfl, rfl⟩)
                          refine expr_Parse.pack (fun W => W.heap[gx]? = some (.cells #[.int .i64 x1.f0, .int .i64 x1.f1, .slice A2 x1.f2.length c2] 28 (0, 0)) ∧ Kd.V k28 28 W w.heap.size (fun j => w.heap.size ≤ j ∧ j ≠ gr ∧ j ≠ gx) (.slice A2 x1.f2.length c2) x1.f2 ∧ W.heap[gr]? = some (.cells #[.int .i64 0, .int .i64 0, .slice none 0 0] 28 (0, 0)) ∧ expr_Parse.Fr w0 w g (expr_Parse.B r) W) ?q1 ?q2
                          case q1 => exact ⟨blk_far (p := ⟨g, 0, none⟩) HX.out hne1 _, Kd.V_far (p := ⟨g, 0, none⟩) HV.out (fun k hk (he : k = g) => by have := HW.out.2.2.2.1; have := hk.1; omega) _, blk_far (p := ⟨g, 0, none⟩) HR.out (fun (he : gr = g) => by have := HW.out.2.2.2.1; have := GE.out; omega) _, by have h5 := HW.out.set ((expr_Parse.B (d :: r)).extract 1 (expr_Parse.B (d :: r)).size); rw [expr_Parse.B_ext] at h5 ⊢; exact h5⟩
                          case q2 =>
                            intro Wa h5
                            obtain ⟨bx, hv, br, hf⟩ := h5
                            have BXa := Aside0.mk bx
                            have HVa := Aside0.mk hv
                            have BRa := Aside0.mk br
                            have HWa := Aside0.mk hf
                            clear bx hv br hf
                            have hy0 : Wa.cell? ⟨gx, 0, none⟩ = some (.int .i64 x1.f0) := (blk_cell BXa.out 0).trans rfl
                            have hy1 : Wa.cell? ⟨gx, 1, none⟩ = some (.int .i64 x1.f1) := (blk_cell BXa.out 1).trans rfl
                            have hy2 : Wa.cell? ⟨gx, 2, none⟩ = some (.slice A2 x1.f2.length c2) := (blk_cell BXa.out 2).trans rfl
                            have hb0 : ∀ o, (Wa.alloc o).cell? ⟨gx, 0, none⟩ = some (.int .i64 x1.f0) := fun o => (blk_cell (blk_alloc BXa.out o) 0).trans rfl
                            have hb1 : ∀ o, (Wa.alloc o).cell? ⟨gx, 1, none⟩ = some (.int .i64 x1.f1) := fun o => (blk_cell (blk_alloc BXa.out o) 1).trans rfl
                            have hb2 : ∀ o, (Wa.alloc o).cell? ⟨gx, 2, none⟩ = some (.slice A2 x1.f2.length c2) := fun o => (blk_cell (blk_alloc BXa.out o) 2).trans rfl
                            have hbf0 : ∀ o, (Wa.alloc o).frozen? ⟨gx, 0, none⟩ = false := fun o => blk_frozen (blk_alloc BXa.out o) 0
                            have hbf1 : ∀ o, (Wa.alloc o).frozen? ⟨gx, 1, none⟩ = false := fun o => blk_frozen (blk_alloc BXa.out o) 1
                            have hbf2 : ∀ o, (Wa.alloc o).frozen? ⟨gx, 2, none⟩ = false := fun o => blk_frozen (blk_alloc BXa.out o) 2
                            go_wp2
                            repeat (go_quiet (fail); try go_wp2)
                            go_roundg k2
                            case measure => omega
                            case rel => exact ⟨⟨4 + j, 0, [x1]⟩, r, ⟨by have := HL.out; simp at this; omega⟩, ⟨expr_Parse.Sf_step HWa.out BXa.out HVa.out BRa.out GX.out GE.out GN.out HSF.out HWJ.out⟩⟩
            · simp only [] at h3
              rw [if_neg hd] at h3
              cases h3
        · rw [if_neg hp] at h
          cases h
theorem expr_Parse.all_ (k : Nat) : expr_Parse.HI k ∧ expr_Parse.HS k ∧ expr_Parse.HA k := by
  induction k using Nat.strongRecOn with
  | _ k ih =>
    have hS : expr_Parse.HS k := expr_Parse.seq_ k (fun j hj => (ih j hj).1)
    have hA : expr_Parse.HA k := expr_Parse.alt_ k (fun j hj => by
      rcases Nat.lt_or_ge j k with h | h
      · exact (ih j h).2.1
      · obtain rfl : j = k := by omega
        exact hS)
    exact ⟨expr_Parse.item_ k (fun j hj => (ih j hj).2.2), hS, hA⟩
set_option maxHeartbeats 4000000 in
set_option maxRecDepth 100000 in
theorem expr_Parse.calls (k : Nat) (a0 : ByteArray) (r1 r2 : Int) (r3 : List S28) (r4 : Int) (w : World) (h : expr_Parse.f k a0 = some (r1, r2, r3, r4)) :
    Calls Try.prog 22 #[.string a0] w fun e w' => ∃ v2_ : Value, e = .returned (.tuple #[.agg #[.int .i64 r1, .int .i64 r2, v2_], .int .i64 r4]) ∧ Kd.V k28 28 w' w.heap.size (fun k_ => w.heap.size ≤ k_) v2_ r3 ∧ Below w.heap.size w w' := by
  unfold expr_Parse.f at h
  by_cases hsz : a0.size ≤ 40
  · rw [if_pos hsz] at h
    obtain ⟨⟨x, l⟩, hy, h2⟩ := Option.bind_eq_some_iff.1 h
    cases l with
    | cons c l => cases h2
    | nil =>
      simp only [] at h2
      obtain ⟨e, hc, h3⟩ := Option.bind_eq_some_iff.1 h2
      by_cases he : e = 0
      · rw [if_pos he] at h3
        subst he
        have h4 := Option.some.inj h3
        simp only [Prod.mk.injEq] at h4
        obtain ⟨rfl, rfl, rfl, rfl⟩ := h4
        have HCK := Aside0.mk hc
        have HA := Aside0.mk ((expr_Parse.all_ k).2.2 _ _ _ hy)
        have HY := Aside0.mk hy
        have HSZ := Aside0.mk hsz
        have EB : Aside0 (a0 = expr_Parse.B a0.data.toList) := ⟨by cases a0; simp [expr_Parse.B]⟩
        have hu28 := Try.underlying28
        have hb0 : decide ((a0.size : Int) > 40) = false := decide_eq_false (by omega)
        clear h h2 h3 hy hc hsz
        go_enter Try.func22, Try.ntmps22
        go_upto_region 5 with (first
          | ((with_reducible refine gate_dst (N := 2) rfl ?_); refine box_event ?hg (N := 2) ?hd (cs := #[.int .i64 0, .int .i64 0, .slice none 0 0]) (t := 28) ?hr ?_; (case hd => rfl); (case hg => rfl); (case hr => first | (go_simp; done) | (go_simp; rfl)); intro gr hg W1 hbox hb; have BR1 := Aside0.mk hbox; have HB1 := Aside0.mk hb; have GE := Aside0.mk (Nat.le_of_eq hg.symm); clear hb hbox hg)
          | ((with_reducible refine gate_dst (N := 13) rfl ?_); refine box_event ?hg (N := 13) ?hd (cs := #[.string a0, .bool false]) (t := 83) ?hr ?_; (case hd => rfl); (case hg => rfl); (case hr => first | (go_simp; done) | (go_simp; rfl)); intro g hg W2 hbox hb; have HI2 := Aside0.mk (show IsS83 w W2 g (expr_Parse.B a0.data.toList) false from ⟨by rw [← EB.out]; exact hbox, by rw [hg]; exact HB1.out.size⟩); have BR2 := Aside0.mk (blk_below BR1.out hb); have HB2 := Aside0.mk (HB1.out.trans (hb.mono HB1.out.size)); have GN := Aside0.mk (show gr ≠ g by rw [hg]; exact Nat.ne_of_lt (blk_lt BR1.out)); clear hb hbox hg)
          | (go_at_call 35; (with_reducible refine (HA.out g w W2 HI2.out HB2.out).mono ?_); rintro e W3 ⟨v2, rfl, hv, hf⟩; obtain ⟨A2, c2, rfl⟩ := Kd.V_slice hv; have HV3 := Aside0.mk hv; have HF3 := Aside0.mk hf; have BR3 := Aside0.mk ((hf.2.2.1.2 gr (blk_lt BR2.out) GN.out (by simp)).trans BR2.out); clear hv hf)
          | ((with_reducible refine gate_dst (N := 5) rfl ?_); refine box_event ?hg (N := 5) ?hd (cs := #[.int .i64 0, .int .i64 0, .slice none 0 0]) (t := 28) ?hr ?_; (case hd => rfl); (case hg => rfl); (case hr => first | (go_simp; done) | (go_simp; rfl)); intro gx hg W4 hbox hb; have BX4 := Aside0.mk hbox; have BR4 := Aside0.mk (blk_below BR3.out hb); have HV4 := Aside0.mk (Kd.V_below (Kd.V_mono (ok' := fun j => w.heap.size ≤ j ∧ j ≠ gr ∧ j ≠ gx) (Kd.V_bound HV3.out) (fun j hj => ⟨Nat.le_trans HB2.out.size hj.1, fun he => by have := blk_lt BR2.out; have := hj.1; omega, fun he => by have := hj.2; rw [hg] at he; omega⟩)) hb); have GX := Aside0.mk (show W3.heap.size ≤ gx by rw [hg]; exact Nat.le_refl _); have BG4 := Aside0.mk (blk_below HF3.out.blk hb); have HB4 := Aside0.mk (HF3.out.2.1.trans (hb.mono HF3.out.2.1.size)); clear hb hbox hg; have hz0 : W4.cell? ⟨gx, 0, none⟩ = some (.int .i64 0) := (blk_cell BX4.out 0).trans rfl; have hz1 : W4.cell? ⟨gx, 1, none⟩ = some (.int .i64 0) := (blk_cell BX4.out 1).trans rfl; have hz2 : W4.cell? ⟨gx, 2, none⟩ = some (.slice none 0 0) := (blk_cell BX4.out 2).trans rfl; have hfz0 := blk_frozen BX4.out 0; have hfz1 := blk_frozen BX4.out 1; have hfz2 := blk_frozen BX4.out 2))
        refine expr_Parse.pack (fun W => W.heap[gx]? = some (.cells #[.int .i64 x.f0, .int .i64 x.f1, .slice A2 x.f2.length c2] 28 (0, 0)) ∧ Kd.V k28 28 W W.heap.size (fun j => w.heap.size ≤ j ∧ j ≠ gr ∧ j ≠ gx) (.slice A2 x.f2.length c2) x.f2 ∧ W.heap[gr]? = some (.cells #[.int .i64 0, .int .i64 0, .slice none 0 0] 28 (0, 0)) ∧ W.heap[g]? = some (.cells #[.string (expr_Parse.B []), .bool false] 83 (0, 0)) ∧ Below w.heap.size w W) ?p1 ?p2
        case p1 =>
          have g1 : g ≠ gx := fun he => by have := blk_lt HF3.out.blk; have := GX.out; omega
          have g2 : gr ≠ gx := fun he => by have := blk_lt BR3.out; have := GX.out; omega
          have g3 : w.heap.size ≤ gx := Nat.le_trans HF3.out.2.1.size GX.out
          exact ⟨expr_Parse.put3 BX4.out _ _ _, expr_Parse.far3 HV4.out (fun j hj => hj.2.2) _ _ _, expr_Parse.far3b BR4.out g2 _ _ _, expr_Parse.far3b BG4.out g1 _ _ _, expr_Parse.below3 HB4.out g3 _ _ _⟩
        case p2 =>
          intro W5 h5
          obtain ⟨bx, hv, br, bg, hb5⟩ := h5
          have BX5 := Aside0.mk bx
          have HV5 := Aside0.mk hv
          have BR5 := Aside0.mk br
          have HB5 := Aside0.mk hb5
          have HC5 := Aside0.mk (Kd.V_reads' hv).2.2
          have HL5 := Aside0.mk (Kd.V_reads' hv).2.1
          have hc0 := cellS83_0 bg
          have hc1 := cellS83_1 bg
          clear bx hv br bg hb5 hz0 hz1 hz2 hfz0 hfz1 hfz2
          have hx0 : W5.cell? ⟨gx, 0, none⟩ = some (.int .i64 x.f0) := (blk_cell BX5.out 0).trans rfl
          have hx1 : W5.cell? ⟨gx, 1, none⟩ = some (.int .i64 x.f1) := (blk_cell BX5.out 1).trans rfl
          have hx2 : W5.cell? ⟨gx, 2, none⟩ = some (.slice A2 x.f2.length c2) := (blk_cell BX5.out 2).trans rfl
          have hs0 := expr_Parse.B_nil
          have hs1 : ((expr_Parse.B []).toList != ([] : List UInt8)) = false := by rw [bne, hs0]; rfl
          go_wp2_with (go_at_call 23; (with_reducible refine (expr_Check.calls k x.f0 x.f1 A2 c2 x.f2 0 W5 HC5.out HL5.out HCK.out).mono ?_); rintro e W6 ⟨rfl, hb⟩; have BX6 := Aside0.mk (blk_below BX5.out hb); have BR6 := Aside0.mk (blk_below BR5.out hb); have HV6 := Aside0.mk (Kd.V_below HV5.out hb); have HB6 := Aside0.mk (HB5.out.trans (hb.mono HB5.out.size)); clear hb hx0 hx1 hx2; have hx0 : W6.cell? ⟨gx, 0, none⟩ = some (.int .i64 x.f0) := (blk_cell BX6.out 0).trans rfl; have hx1 : W6.cell? ⟨gx, 1, none⟩ = some (.int .i64 x.f1) := (blk_cell BX6.out 1).trans rfl; have hx2 : W6.cell? ⟨gx, 2, none⟩ = some (.slice A2 x.f2.length c2) := (blk_cell BX6.out 2).trans rfl; have hr0 : W6.cell? ⟨gr, 0, none⟩ = some (.int .i64 0) := (blk_cell BR6.out 0).trans rfl; have hr1 : W6.cell? ⟨gr, 1, none⟩ = some (.int .i64 0) := (blk_cell BR6.out 1).trans rfl; have hr2 : W6.cell? ⟨gr, 2, none⟩ = some (.slice none 0 0) := (blk_cell BR6.out 2).trans rfl; have hrf0 := blk_frozen BR6.out 0; have hrf1 := blk_frozen BR6.out 1; have hrf2 := blk_frozen BR6.out 2)
          repeat (go_quiet (fail); try go_wp2)
          refine bodyPost_ret (results_ct rfl _ _ gr 28 #[.int .i64 x.f0, .int .i64 x.f1, .slice A2 x.f2.length c2] (0, 0) _ rfl (expr_Parse.put3 BR6.out _ _ _) Try.underlying28 rfl (by kernel_rfl)) rfl ?_
          exact ⟨_, rfl, Kd.V_mono (expr_Parse.far3 HV6.out (fun j hj => hj.2.1) _ _ _) (fun j hj => hj.1), expr_Parse.below3 HB6.out GE.out _ _ _⟩
      · rw [if_neg he] at h3
        cases h3
  · rw [if_neg hsz] at h
    cases h
end Go.Proofs.Ytjmhihadgpdiaaa.X
end
section
namespace Go.Proofs.Ytjmhihadgpdiaaa.X
open Go.RowKit Go.Proofs.YtjmhihadgpdiaaaW.PrintWords Go.Proofs.YtjmhihadgpdiaaaW.PrintLast Go.Proofs.YtjmhihadgpdiaaaW.PrintMore
attribute [local go_sem] max2_int min2_int max_two min_two max_three min_three max_four min_four   -- for this text's walks alone
set_option linter.unusedVariables false
set_option linter.unusedSimpArgs false
def bobbinetkeep_exprOf.f (k : Nat) (a0 : ByteArray) : Option (Int × Int × (List (S28)) × Bool) := (expr_Parse.f k a0).bind fun bt192 => ((expr_Parse.f k (⟨#[97]⟩ : ByteArray)).bind fun bt199 => (if bt192.2.2.2 = 0 then (if bt199.2.2.2 = 0 then (some (bt192.1, bt192.2.1, bt192.2.2.1, (bt199.1 == 1))) else (some (bt192.1, bt192.2.1, bt192.2.2.1, false))) else (some (bt192.1, bt192.2.1, bt192.2.2.1, false))))
def bobbinetkeep_exprOf.T3 : Bool × List (List Nat × List Nat) := (true, [([], []), ([], []), ([1], [1]), ([2], [2]), ([3], [3]), ([4, 3], [3, 4]), ([3, 5], [3, 5]), ([6, 3], [6]), ([7], [7]), ([8, 7], [7, 8]), ([9, 7], [7, 9]), ([7, 10], [7, 10]), ([0, 7, 0], [0]), ([11, 12, 0, 1, 2, 3, 4, 5, 6, 7, 8, 9, 10, 11, 12], [11])])
def bobbinetkeep_exprOf.B3 : List Nat := [0, 0, 2, 6, 14, 30, 62, 126, 254, 510, 1022, 2046, 255, 8191]
theorem bobbinetkeep_exprOf.tab3 : rtab .any (opsOf Try.f11 3) = bobbinetkeep_exprOf.T3 := by kernel_rfl
theorem bobbinetkeep_exprOf.bits3 : waitsOk bobbinetkeep_exprOf.T3.2 bobbinetkeep_exprOf.B3 = true := by kernel_rfl
set_option maxHeartbeats 8000000 in
set_option maxRecDepth 100000 in
theorem bobbinetkeep_exprOf.calls (k : Nat) (a0 : ByteArray) (r1 : Int) (r2 : Int) (r3 : List (S28)) (r4 : Bool) (w : World) (h : bobbinetkeep_exprOf.f k a0 = some (r1, r2, r3, r4)) :
  Calls Try.prog 11 #[.string a0] w fun e w' => ∃ v2_ : Value, e = .returned (.tuple #[.agg #[.int .i64 r1, .int .i64 r2, v2_], .bool r4]) ∧ Kd.V k28 28 w' w.heap.size (fun k_ => (w.heap.size ≤ k_)) v2_ r3 ∧ Below w.heap.size w w' := by
 have hu28 := Try.underlying28
 have HB := Aside0.mk (Below.refl w.heap.size w)
 have H : ((expr_Parse.f k a0).bind fun bt192 => ((expr_Parse.f k (⟨#[97]⟩ : ByteArray)).bind fun bt199 => (if bt192.2.2.2 = 0 then (if bt199.2.2.2 = 0 then (some (bt192.1, bt192.2.1, bt192.2.2.1, (bt199.1 == 1))) else (some (bt192.1, bt192.2.1, bt192.2.2.1, false))) else (some (bt192.1, bt192.2.1, bt192.2.2.1, false))))) = some (r1, r2, r3, r4) := h
 clear h
 replace H := Option.bind_eq_some_iff.mp H
 obtain ⟨⟨t192, t193, t194, t197⟩, A20, H⟩ := H
 replace H : ((expr_Parse.f k (⟨#[97]⟩ : ByteArray)).bind fun bt199 => (if t197 = 0 then (if bt199.2.2.2 = 0 then (some (t192, t193, t194, (bt199.1 == 1))) else (some (t192, t193, t194, false))) else (some (t192, t193, t194, false)))) = some (r1, r2, r3, r4) := H
 have A2 := Aside0.mk A20
 clear A20
 replace H := Option.bind_eq_some_iff.mp H
 obtain ⟨⟨t199, t200, t201, t204⟩, A30, H⟩ := H
 replace H : (if t197 = 0 then (if t204 = 0 then (some (t192, t193, t194, (t199 == 1))) else (some (t192, t193, t194, false))) else (some (t192, t193, t194, false))) = some (r1, r2, r3, r4) := H
 have A3 := Aside0.mk A30
 clear A30
 by_cases c4 : t197 = 0
 ·
  rw [if_pos c4] at H
  have c4b0 : (t197 == 0) = true := beq_iff_eq.mpr c4
  have c4b1 : (t197 != 0) = false := bne_eq_false_iff_eq.mpr c4
  clear c4
  by_cases c5 : t204 = 0
  ·
   rw [if_pos c5] at H
   have c5b0 : (t204 == 0) = true := beq_iff_eq.mpr c5
   have c5b1 : (t204 != 0) = false := bne_eq_false_iff_eq.mpr c5
   clear c5
   simp only [Option.some.injEq, Prod.mk.injEq] at H
   obtain ⟨rfl, rfl, rfl, rfl⟩ := H
   go_enter Try.func11, Try.ntmps11
   try go_wp2_with (first | ((with_reducible refine gate_dst (N := 2) rfl ?_); refine box_event ?hg (N := 2) ?hd (cs := #[.int .i64 0, .int .i64 0, .slice none 0 0]) (t := 28) ?hr ?_; (case hd => rfl); (case hg => rfl); (case hr => first | (go_simp; done) | (go_simp; rfl)); intro gb191 hg w6 hbox hb; have n0_ := Aside0.mk (below_step (by repeat (first | (with_reducible first | exact HB.out | apply below_alloc | apply pw_below_drewN | apply below_drew1) | exact HB.out)) hb); have n1_ := Aside0.mk (hbox); have n2_ := Aside0.mk ((by rw [hg]; exact (below_size (by repeat (first | (with_reducible first | exact HB.out | apply below_alloc | apply pw_below_drewN | apply below_drew1) | exact HB.out))) : w.heap.size ≤ gb191)); have n3_ := Aside0.mk ((by rw [hg]; exact (below_size (by repeat (first | (with_reducible first | exact HB.out | apply below_alloc | apply pw_below_drewN | apply below_drew1) | exact HB.out))) : w.heap.size ≤ gb191)); clear HB; have HB := n0_; have BK191 := n1_; have GW191 := n2_; have GE191 := n3_; clear n0_ n1_ n2_ n3_; clear hb hbox hg) | ((with_reducible refine gate_callee (f := 22) rfl ?_); refine goesL_ (some 10) rfl rfl Try.func22 (by kernel_rfl) rfl #[.string a0] rfl (by (try simp only [List.map_toArray, List.map_cons, List.map_nil]); first | done | rfl | (simp only [List.length_drop, List.length_take]; rfl)) ?_; (with_reducible refine (expr_Parse.calls k a0 t192 t193 t194 t197 _ A2.out).mono ?_); rintro e w7 ⟨v195, rfl, ho0, hb⟩; refine ⟨_, rfl, ?_⟩; have n0_ := Aside0.mk (Kd.V_lower (Kd.V_mono (ok' := fun k_ => (w.heap.size ≤ k_) ∧ k_ ≠ gb191) ho0 (fun k_ hk_ => ⟨(Nat.le_trans (below_size (by repeat (first | (with_reducible first | exact HB.out | apply below_alloc | apply pw_below_drewN | apply below_drew1 | refine below_set ?_ GE191.out) | exact HB.out))) hk_), (Kd.freshB (g := gb191) (o := .cells #[.int .i64 0, .int .i64 0, .slice none 0 0] 28 (0, 0)) (by (with_reducible repeat (first | refine blk_drewN ?_ _ | refine blk_drew ?_ | refine blk_alloc ?_ _)); exact BK191.out) k_ hk_)⟩)) (below_size (by repeat (first | (with_reducible first | exact HB.out | apply below_alloc | apply pw_below_drewN | apply below_drew1 | refine below_set ?_ GE191.out) | exact HB.out)))); have n1_ := Aside0.mk (blk_below (g := gb191) (o := .cells #[.int .i64 0, .int .i64 0, .slice none 0 0] 28 (0, 0)) (by (with_reducible repeat (first | refine blk_drewN ?_ _ | refine blk_drew ?_ | refine blk_alloc ?_ _)); exact BK191.out) hb); have n2_ := Aside0.mk (below_step (by repeat (first | (with_reducible first | exact HB.out | apply below_alloc | apply pw_below_drewN | apply below_drew1 | refine below_set ?_ GE191.out) | exact HB.out)) hb); clear BK191; clear HB; have HO196 := n0_; have BK191 := n1_; have HB := n2_; clear n0_ n1_ n2_; (try clear hb); (try clear hb2); (try clear hk); (try clear hi); (try clear ho0)) | ((with_reducible refine gate_dst (N := 4) rfl ?_); refine box_event ?hg (N := 4) ?hd (cs := #[.int .i64 0, .int .i64 0, .slice none 0 0]) (t := 28) ?hr ?_; (case hd => rfl); (case hg => rfl); (case hr => first | (go_simp; done) | (go_simp; rfl)); intro gb198 hg w8 hbox hb; have n0_ := Aside0.mk (Kd.V_below (Kd.V_elderB (by (with_reducible repeat (first | apply Kd.V_alloc | apply Kd.V_drewN | apply Kd.V_drew)); exact HO196.out) gb198 (Nat.le_of_eq hg.symm)) hb); have n1_ := Aside0.mk (blk_below (g := gb191) (o := .cells #[.int .i64 0, .int .i64 0, .slice none 0 0] 28 (0, 0)) (by (with_reducible repeat (first | refine blk_drewN ?_ _ | refine blk_drew ?_ | refine blk_alloc ?_ _)); exact BK191.out) hb); have n2_ := Aside0.mk (below_step (by repeat (first | (with_reducible first | exact HB.out | apply below_alloc | apply pw_below_drewN | apply below_drew1 | refine below_set ?_ GE191.out) | exact HB.out)) hb); have n3_ := Aside0.mk (hbox); have n4_ := Aside0.mk ((by rw [hg]; exact (below_size (by repeat (first | (with_reducible first | exact HB.out | apply below_alloc | apply pw_below_drewN | apply below_drew1 | refine below_set ?_ GE191.out) | exact HB.out))) : w.heap.size ≤ gb198)); have n5_ := Aside0.mk ((by rw [hg]; exact (below_size (by repeat (first | (with_reducible first | exact HB.out | apply below_alloc | apply pw_below_drewN | apply below_drew1 | refine below_set ?_ GE191.out) | exact HB.out))) : w.heap.size ≤ gb198)); have n6_ := Aside0.mk ((by rw [hg]; exact Nat.ne_of_lt (blk_lt (g := gb191) (o := .cells #[.int .i64 0, .int .i64 0, .slice none 0 0] 28 (0, 0)) (by (with_reducible repeat (first | refine blk_drewN ?_ _ | refine blk_drew ?_ | refine blk_alloc ?_ _)); exact BK191.out)) : gb191 ≠ gb198)); have n7_ := Aside0.mk ((by rw [hg]; exact Nat.ne_of_gt (blk_lt (g := gb191) (o := .cells #[.int .i64 0, .int .i64 0, .slice none 0 0] 28 (0, 0)) (by (with_reducible repeat (first | refine blk_drewN ?_ _ | refine blk_drew ?_ | refine blk_alloc ?_ _)); exact BK191.out)) : gb198 ≠ gb191)); clear HO196; clear BK191; clear HB; have HO196 := n0_; have BK191 := n1_; have HB := n2_; have BK198 := n3_; have GW198 := n4_; have GE198 := n5_; have NB191_198 := n6_; have NB198_191 := n7_; clear n0_ n1_ n2_ n3_ n4_ n5_ n6_ n7_; clear hb hbox hg; have hnb9 := NB198_191.out; have hnc9 := NB191_198.out; have hcz10_0 : w8.cell? ⟨gb198, 0, none⟩ = some (.int .i64 0) := (blk_cell BK198.out 0).trans rfl; have hcz10_1 : w8.cell? ⟨gb198, 1, none⟩ = some (.int .i64 0) := (blk_cell BK198.out 1).trans rfl; have hcz10_2 : w8.cell? ⟨gb198, 2, none⟩ = some (.slice none 0 0) := (blk_cell BK198.out 2).trans rfl; have hfz10_0 := blk_frozen BK198.out 0; have hfz10_1 := blk_frozen BK198.out 1; have hfz10_2 := blk_frozen BK198.out 2; obtain ⟨Ao11, co11, eo11⟩ := Kd.V_slice HO196.out; subst eo11) | ((with_reducible refine gate_callee (f := 22) rfl ?_); refine goesL_ (some 14) rfl rfl Try.func22 (by kernel_rfl) rfl #[.string (⟨#[97]⟩ : ByteArray)] rfl (by (try simp only [List.map_toArray, List.map_cons, List.map_nil]); first | done | rfl | (simp only [List.length_drop, List.length_take]; rfl)) ?_; (with_reducible refine (expr_Parse.calls k (⟨#[97]⟩ : ByteArray) t199 t200 t201 t204 _ A3.out).mono ?_); rintro e w12 ⟨v202, rfl, ho0, hb⟩; refine ⟨_, rfl, ?_⟩; have n0_ := Aside0.mk (Kd.V_below (by (with_reducible repeat (first | apply Kd.V_alloc | apply Kd.V_drewN | apply Kd.V_drew)); exact (Kd.V_mono (Kd.V_far (p := ⟨gb198, 2, none⟩) (Kd.V_far (p := ⟨gb198, 1, none⟩) (Kd.V_far (p := ⟨gb198, 0, none⟩) (Kd.V_mono HO196.out (fun k_ hk => (⟨hk, hk.2⟩ : _ ∧ k_ ≠ gb198))) (fun _ hk => hk.2) (.int .i64 t192)) (fun _ hk => hk.2) (.int .i64 t193)) (fun _ hk => hk.2) (.slice Ao11 t194.length co11)) (fun _ h_ => h_.1))) hb); have n1_ := Aside0.mk (Kd.V_lower (Kd.V_mono (ok' := fun k_ => (w.heap.size ≤ k_) ∧ k_ ≠ gb191 ∧ k_ ≠ gb198) ho0 (fun k_ hk_ => ⟨(Nat.le_trans (below_size (by repeat (first | (with_reducible first | exact HB.out | apply below_alloc | apply pw_below_drewN | apply below_drew1 | refine below_set ?_ GE191.out | refine below_set ?_ GE198.out) | exact HB.out))) hk_), (Kd.freshB (g := gb191) (o := .cells #[.int .i64 0, .int .i64 0, .slice none 0 0] 28 (0, 0)) (by (with_reducible repeat (first | refine blk_drewN ?_ _ | refine blk_drew ?_ | refine blk_alloc ?_ _)); refine blk_far ?_ NB191_198.out _; (with_reducible repeat (first | refine blk_drewN ?_ _ | refine blk_drew ?_ | refine blk_alloc ?_ _)); refine blk_far ?_ NB191_198.out _; (with_reducible repeat (first | refine blk_drewN ?_ _ | refine blk_drew ?_ | refine blk_alloc ?_ _)); refine blk_far ?_ NB191_198.out _; (with_reducible repeat (first | refine blk_drewN ?_ _ | refine blk_drew ?_ | refine blk_alloc ?_ _)); exact BK191.out) k_ hk_), (Kd.freshB (g := gb198) (o := .cells #[.int .i64 t192, .int .i64 t193, .slice Ao11 t194.length co11] 28 (0, 0)) (by (with_reducible repeat (first | refine blk_drewN ?_ _ | refine blk_drew ?_ | refine blk_alloc ?_ _)); refine blk_put (cs := #[.int .i64 t192, .int .i64 t193, .slice none 0 0]) ?_ 2 _ rfl; (with_reducible repeat (first | refine blk_drewN ?_ _ | refine blk_drew ?_ | refine blk_alloc ?_ _)); refine blk_put (cs := #[.int .i64 t192, .int .i64 0, .slice none 0 0]) ?_ 1 _ rfl; (with_reducible repeat (first | refine blk_drewN ?_ _ | refine blk_drew ?_ | refine blk_alloc ?_ _)); refine blk_put (cs := #[.int .i64 0, .int .i64 0, .slice none 0 0]) ?_ 0 _ rfl; (with_reducible repeat (first | refine blk_drewN ?_ _ | refine blk_drew ?_ | refine blk_alloc ?_ _)); exact BK198.out) k_ hk_)⟩)) (below_size (by repeat (first | (with_reducible first | exact HB.out | apply below_alloc | apply pw_below_drewN | apply below_drew1 | refine below_set ?_ GE191.out | refine below_set ?_ GE198.out) | exact HB.out)))); have n2_ := Aside0.mk (blk_below (g := gb191) (o := .cells #[.int .i64 0, .int .i64 0, .slice none 0 0] 28 (0, 0)) (by (with_reducible repeat (first | refine blk_drewN ?_ _ | refine blk_drew ?_ | refine blk_alloc ?_ _)); refine blk_far ?_ NB191_198.out _; (with_reducible repeat (first | refine blk_drewN ?_ _ | refine blk_drew ?_ | refine blk_alloc ?_ _)); refine blk_far ?_ NB191_198.out _; (with_reducible repeat (first | refine blk_drewN ?_ _ | refine blk_drew ?_ | refine blk_alloc ?_ _)); refine blk_far ?_ NB191_198.out _; (with_reducible repeat (first | refine blk_drewN ?_ _ | refine blk_drew ?_ | refine blk_alloc ?_ _)); exact BK191.out) hb); have n3_ := Aside0.mk (blk_below (g := gb198) (o := .cells #[.int .i64 t192, .int .i64 t193, .slice Ao11 t194.length co11] 28 (0, 0)) (by (with_reducible repeat (first | refine blk_drewN ?_ _ | refine blk_drew ?_ | refine blk_alloc ?_ _)); refine blk_put (cs := #[.int .i64 t192, .int .i64 t193, .slice none 0 0]) ?_ 2 _ rfl; (with_reducible repeat (first | refine blk_drewN ?_ _ | refine blk_drew ?_ | refine blk_alloc ?_ _)); refine blk_put (cs := #[.int .i64 t192, .int .i64 0, .slice none 0 0]) ?_ 1 _ rfl; (with_reducible repeat (first | refine blk_drewN ?_ _ | refine blk_drew ?_ | refine blk_alloc ?_ _)); refine blk_put (cs := #[.int .i64 0, .int .i64 0, .slice none 0 0]) ?_ 0 _ rfl; (with_reducible repeat (first | refine blk_drewN ?_ _ | refine blk_drew ?_ | refine blk_alloc ?_ _)); exact BK198.out) hb); have n4_ := Aside0.mk (below_step (by repeat (first | (with_reducible first | exact HB.out | apply below_alloc | apply pw_below_drewN | apply below_drew1 | refine below_set ?_ GE191.out | refine below_set ?_ GE198.out) | exact HB.out)) hb); clear HO196; clear BK191; clear BK198; clear HB; have HO196 := n0_; have HO203 := n1_; have BK191 := n2_; have BK198 := n3_; have HB := n4_; clear n0_ n1_ n2_ n3_ n4_; (try clear hb); (try clear hb2); (try clear hk); (try clear hi); (try clear ho0)) | ((with_reducible refine gate_dst (N := 6) rfl ?_); refine box_event ?hg (N := 6) ?hd (cs := #[.int .i64 0, .int .i64 0, .slice none 0 0]) (t := 28) ?hr ?_; (case hd => rfl); (case hg => rfl); (case hr => first | (go_simp; done) | (go_simp; rfl)); intro gb205 hg w13 hbox hb; have n0_ := Aside0.mk (Kd.V_below (Kd.V_elderB (by (with_reducible repeat (first | apply Kd.V_alloc | apply Kd.V_drewN | apply Kd.V_drew)); exact HO196.out) gb205 (Nat.le_of_eq hg.symm)) hb); have n1_ := Aside0.mk (Kd.V_below (Kd.V_elderB (by (with_reducible repeat (first | apply Kd.V_alloc | apply Kd.V_drewN | apply Kd.V_drew)); exact HO203.out) gb205 (Nat.le_of_eq hg.symm)) hb); have n2_ := Aside0.mk (blk_below (g := gb191) (o := .cells #[.int .i64 0, .int .i64 0, .slice none 0 0] 28 (0, 0)) (by (with_reducible repeat (first | refine blk_drewN ?_ _ | refine blk_drew ?_ | refine blk_alloc ?_ _)); exact BK191.out) hb); have n3_ := Aside0.mk (blk_below (g := gb198) (o := .cells #[.int .i64 t192, .int .i64 t193, .slice Ao11 t194.length co11] 28 (0, 0)) (by (with_reducible repeat (first | refine blk_drewN ?_ _ | refine blk_drew ?_ | refine blk_alloc ?_ _)); exact BK198.out) hb); have n4_ := Aside0.mk (below_step (by repeat (first | (with_reducible first | exact HB.out | apply below_alloc | apply pw_below_drewN | apply below_drew1 | refine below_set ?_ GE191.out | refine below_set ?_ GE198.out) | exact HB.out)) hb); have n5_ := Aside0.mk (hbox); have n6_ := Aside0.mk ((by rw [hg]; exact (below_size (by repeat (first | (with_reducible first | exact HB.out | apply below_alloc | apply pw_below_drewN | apply below_drew1 | refine below_set ?_ GE191.out | refine below_set ?_ GE198.out) | exact HB.out))) : w.heap.size ≤ gb205)); have n7_ := Aside0.mk ((by rw [hg]; exact (below_size (by repeat (first | (with_reducible first | exact HB.out | apply below_alloc | apply pw_below_drewN | apply below_drew1 | refine below_set ?_ GE191.out | refine below_set ?_ GE198.out) | exact HB.out))) : w.heap.size ≤ gb205)); have n8_ := Aside0.mk ((by rw [hg]; exact Nat.ne_of_lt (blk_lt (g := gb191) (o := .cells #[.int .i64 0, .int .i64 0, .slice none 0 0] 28 (0, 0)) (by (with_reducible repeat (first | refine blk_drewN ?_ _ | refine blk_drew ?_ | refine blk_alloc ?_ _)); exact BK191.out)) : gb191 ≠ gb205)); have n9_ := Aside0.mk ((by rw [hg]; exact Nat.ne_of_gt (blk_lt (g := gb191) (o := .cells #[.int .i64 0, .int .i64 0, .slice none 0 0] 28 (0, 0)) (by (with_reducible repeat (first | refine blk_drewN ?_ _ | refine blk_drew ?_ | refine blk_alloc ?_ _)); exact BK191.out)) : gb205 ≠ gb191)); have n10_ := Aside0.mk ((by rw [hg]; exact Nat.ne_of_lt (blk_lt (g := gb198) (o := .cells #[.int .i64 t192, .int .i64 t193, .slice Ao11 t194.length co11] 28 (0, 0)) (by (with_reducible repeat (first | refine blk_drewN ?_ _ | refine blk_drew ?_ | refine blk_alloc ?_ _)); exact BK198.out)) : gb198 ≠ gb205)); have n11_ := Aside0.mk ((by rw [hg]; exact Nat.ne_of_gt (blk_lt (g := gb198) (o := .cells #[.int .i64 t192, .int .i64 t193, .slice Ao11 t194.length co11] 28 (0, 0)) (by (with_reducible repeat (first | refine blk_drewN ?_ _ | refine blk_drew ?_ | refine blk_alloc ?_ _)); exact BK198.out)) : gb205 ≠ gb198)); clear HO196; clear HO203; clear BK191; clear BK198; clear HB; have HO196 := n0_; have HO203 := n1_; have BK191 := n2_; have BK198 := n3_; have HB := n4_; have BK205 := n5_; have GW205 := n6_; have GE205 := n7_; have NB191_205 := n8_; have NB205_191 := n9_; have NB198_205 := n10_; have NB205_198 := n11_; clear n0_ n1_ n2_ n3_ n4_ n5_ n6_ n7_ n8_ n9_ n10_ n11_; clear hb hbox hg; have hnb14 := NB205_191.out; have hnc14 := NB191_205.out; have hnb15 := NB205_198.out; have hnc15 := NB198_205.out; have hcz16_0 : w13.cell? ⟨gb205, 0, none⟩ = some (.int .i64 0) := (blk_cell BK205.out 0).trans rfl; have hcz16_1 : w13.cell? ⟨gb205, 1, none⟩ = some (.int .i64 0) := (blk_cell BK205.out 1).trans rfl; have hcz16_2 : w13.cell? ⟨gb205, 2, none⟩ = some (.slice none 0 0) := (blk_cell BK205.out 2).trans rfl; have hfz16_0 := blk_frozen BK205.out 0; have hfz16_1 := blk_frozen BK205.out 1; have hfz16_2 := blk_frozen BK205.out 2; obtain ⟨Ao17, co17, eo17⟩ := Kd.V_slice HO203.out; subst eo17))
   have n0_ : Aside0 (Kd.V k28 28 (((w13.setCell ⟨gb205, 0, none⟩ (.int .i64 t199)).setCell ⟨gb205, 1, none⟩ (.int .i64 t200)).setCell ⟨gb205, 2, none⟩ (.slice Ao17 t201.length co17)) w.heap.size (fun k_ => (w.heap.size ≤ k_) ∧ k_ ≠ gb191 ∧ k_ ≠ gb198 ∧ k_ ≠ gb205) (.slice Ao11 t194.length co11) t194) := ⟨by (with_reducible repeat (first | apply Kd.V_alloc | apply Kd.V_drewN | apply Kd.V_drew)); exact Kd.V_mono (Kd.V_far (p := ⟨gb205, 2, none⟩) (Kd.V_far (p := ⟨gb205, 1, none⟩) (Kd.V_far (p := ⟨gb205, 0, none⟩) (Kd.V_mono HO196.out (fun k_ hk => (⟨hk, hk.2⟩ : _ ∧ k_ ≠ gb205))) (fun _ hk => hk.2) (.int .i64 t199)) (fun _ hk => hk.2) (.int .i64 t200)) (fun _ hk => hk.2) (.slice Ao17 t201.length co17)) (fun _ hk => ⟨hk.1.1.1.1, ⟨hk.1.1.1.2, ⟨hk.1.1.2, hk.1.2⟩⟩⟩)⟩
   have n1_ : Aside0 (Kd.V k28 28 (((w13.setCell ⟨gb205, 0, none⟩ (.int .i64 t199)).setCell ⟨gb205, 1, none⟩ (.int .i64 t200)).setCell ⟨gb205, 2, none⟩ (.slice Ao17 t201.length co17)) w.heap.size (fun k_ => (w.heap.size ≤ k_) ∧ k_ ≠ gb191 ∧ k_ ≠ gb198 ∧ k_ ≠ gb205) (.slice Ao17 t201.length co17) t201) := ⟨by (with_reducible repeat (first | apply Kd.V_alloc | apply Kd.V_drewN | apply Kd.V_drew)); exact Kd.V_mono (Kd.V_far (p := ⟨gb205, 2, none⟩) (Kd.V_far (p := ⟨gb205, 1, none⟩) (Kd.V_far (p := ⟨gb205, 0, none⟩) (Kd.V_mono HO203.out (fun k_ hk => (⟨hk, hk.2⟩ : _ ∧ k_ ≠ gb205))) (fun _ hk => hk.2) (.int .i64 t199)) (fun _ hk => hk.2) (.int .i64 t200)) (fun _ hk => hk.2) (.slice Ao17 t201.length co17)) (fun _ hk => ⟨hk.1.1.1, ⟨hk.1.1.2.1, ⟨hk.1.1.2.2, hk.1.2⟩⟩⟩)⟩
   have n2_ : Aside0 ((((w13.setCell ⟨gb205, 0, none⟩ (.int .i64 t199)).setCell ⟨gb205, 1, none⟩ (.int .i64 t200)).setCell ⟨gb205, 2, none⟩ (.slice Ao17 t201.length co17)).heap[gb191]? = some (.cells #[.int .i64 0, .int .i64 0, .slice none 0 0] 28 (0, 0))) := ⟨by (with_reducible repeat (first | refine blk_drewN ?_ _ | refine blk_drew ?_ | refine blk_alloc ?_ _)); refine blk_far ?_ NB191_205.out _; (with_reducible repeat (first | refine blk_drewN ?_ _ | refine blk_drew ?_ | refine blk_alloc ?_ _)); refine blk_far ?_ NB191_205.out _; (with_reducible repeat (first | refine blk_drewN ?_ _ | refine blk_drew ?_ | refine blk_alloc ?_ _)); refine blk_far ?_ NB191_205.out _; (with_reducible repeat (first | refine blk_drewN ?_ _ | refine blk_drew ?_ | refine blk_alloc ?_ _)); exact BK191.out⟩
   have n3_ : Aside0 ((((w13.setCell ⟨gb205, 0, none⟩ (.int .i64 t199)).setCell ⟨gb205, 1, none⟩ (.int .i64 t200)).setCell ⟨gb205, 2, none⟩ (.slice Ao17 t201.length co17)).heap[gb198]? = some (.cells #[.int .i64 t192, .int .i64 t193, .slice Ao11 t194.length co11] 28 (0, 0))) := ⟨by (with_reducible repeat (first | refine blk_drewN ?_ _ | refine blk_drew ?_ | refine blk_alloc ?_ _)); refine blk_far ?_ NB198_205.out _; (with_reducible repeat (first | refine blk_drewN ?_ _ | refine blk_drew ?_ | refine blk_alloc ?_ _)); refine blk_far ?_ NB198_205.out _; (with_reducible repeat (first | refine blk_drewN ?_ _ | refine blk_drew ?_ | refine blk_alloc ?_ _)); refine blk_far ?_ NB198_205.out _; (with_reducible repeat (first | refine blk_drewN ?_ _ | refine blk_drew ?_ | refine blk_alloc ?_ _)); exact BK198.out⟩
   have n4_ : Aside0 ((((w13.setCell ⟨gb205, 0, none⟩ (.int .i64 t199)).setCell ⟨gb205, 1, none⟩ (.int .i64 t200)).setCell ⟨gb205, 2, none⟩ (.slice Ao17 t201.length co17)).heap[gb205]? = some (.cells #[.int .i64 t199, .int .i64 t200, .slice Ao17 t201.length co17] 28 (0, 0))) := ⟨by (with_reducible repeat (first | refine blk_drewN ?_ _ | refine blk_drew ?_ | refine blk_alloc ?_ _)); refine blk_put (cs := #[.int .i64 t199, .int .i64 t200, .slice none 0 0]) ?_ 2 _ rfl; (with_reducible repeat (first | refine blk_drewN ?_ _ | refine blk_drew ?_ | refine blk_alloc ?_ _)); refine blk_put (cs := #[.int .i64 t199, .int .i64 0, .slice none 0 0]) ?_ 1 _ rfl; (with_reducible repeat (first | refine blk_drewN ?_ _ | refine blk_drew ?_ | refine blk_alloc ?_ _)); refine blk_put (cs := #[.int .i64 0, .int .i64 0, .slice none 0 0]) ?_ 0 _ rfl; (with_reducible repeat (first | refine blk_drewN ?_ _ | refine blk_drew ?_ | refine blk_alloc ?_ _)); exact BK205.out⟩
   have n5_ : Aside0 (Below w.heap.size w (((w13.setCell ⟨gb205, 0, none⟩ (.int .i64 t199)).setCell ⟨gb205, 1, none⟩ (.int .i64 t200)).setCell ⟨gb205, 2, none⟩ (.slice Ao17 t201.length co17))) := ⟨by repeat (first | (with_reducible first | exact HB.out | apply below_alloc | apply pw_below_drewN | apply below_drew1 | refine below_set ?_ GE191.out | refine below_set ?_ GE198.out | refine below_set ?_ GE205.out) | exact HB.out)⟩
   (try clear HO196)
   (try clear HO203)
   (try clear BK191)
   (try clear BK198)
   (try clear BK205)
   (try clear HB)
   generalize (((w13.setCell ⟨gb205, 0, none⟩ (.int .i64 t199)).setCell ⟨gb205, 1, none⟩ (.int .i64 t200)).setCell ⟨gb205, 2, none⟩ (.slice Ao17 t201.length co17)) = w18 at n0_ n1_ n2_ n3_ n4_ n5_ ⊢
   have HO196 := n0_
   have HO203 := n1_
   have BK191 := n2_
   have BK198 := n3_
   have BK205 := n4_
   have HB := n5_
   clear n0_ n1_ n2_ n3_ n4_ n5_
   have n0_ := Aside0.mk (Kd.V_drew HO196.out)
   have n1_ := Aside0.mk (Kd.V_drew HO203.out)
   have n2_ := Aside0.mk (blk_drew BK191.out)
   have n3_ := Aside0.mk (blk_drew BK198.out)
   have n4_ := Aside0.mk (blk_drew BK205.out)
   have n5_ := Aside0.mk (below_drew1 HB.out)
   clear HO196
   clear HO203
   clear BK191
   clear BK198
   clear BK205
   clear HB
   have HO196 := n0_
   have HO203 := n1_
   have BK191 := n2_
   have BK198 := n3_
   have BK205 := n4_
   have HB := n5_
   clear n0_ n1_ n2_ n3_ n4_ n5_
   refine start_ (n := 14) (S := fun w' => w'.cell? ⟨gb198, 0, none⟩ = some (.int .i64 t192) ∧ w'.cell? ⟨gb198, 1, none⟩ = some (.int .i64 t193) ∧ w'.cell? ⟨gb198, 2, none⟩ = some (.slice Ao11 t194.length co11) ∧ w'.cell? ⟨gb205, 0, none⟩ = some (.int .i64 t199) ∧ w'.cell? ⟨gb205, 1, none⟩ = some (.int .i64 t200) ∧ w'.cell? ⟨gb205, 2, none⟩ = some (.slice Ao17 t201.length co17)) (ds := []) #[false, false, false, false, false, false, false, false, false, false, false, false, false, false] (by kernel_rfl) rfl rfl ⟨(blk_cell BK198.out 0).trans rfl, (blk_cell BK198.out 1).trans rfl, (blk_cell BK198.out 2).trans rfl, (blk_cell BK205.out 0).trans rfl, (blk_cell BK205.out 1).trans rfl, (blk_cell BK205.out 2).trans rfl⟩ (fun hHeld => ?_); refine with_tabW bobbinetkeep_exprOf.tab3 bobbinetkeep_exprOf.bits3 (fun HT_ HW_ => ?_)
   generalize w18.drew = w19 at HO196 HO203 BK191 BK198 BK205 HB hHeld ⊢
   refine pure_ (i := 1) (N := some 18) (v := ?_) (a' := ?_) #[false, true, false, false, false, false, false, false, false, false, false, false, false, false] rfl rfl (any_of HT_.out (by kernel_rfl)) (fun _ _ _ h => h) (Or.inl ⟨by rfl, ?_⟩) ?_ ?_
   rotate_left
   ·
    intro w'
    go_simp
    with_reducible rfl
   rotate_left
   ·
    simp only [Act.put, List.setIfInBounds_toArray, List.set_cons_zero, List.set_cons_succ, i64_w, i32_w]
    rfl
   refine pure_ (i := 2) (N := some 19) (v := ?_) (a' := ?_) #[false, true, true, false, false, false, false, false, false, false, false, false, false, false] rfl rfl (any_of HT_.out (by kernel_rfl)) (fun _ _ _ h => h) (Or.inl ⟨by rfl, ?_⟩) ?_ ?_
   rotate_left
   ·
    intro w'
    go_simp
    with_reducible rfl
   rotate_left
   ·
    simp only [Act.put, List.setIfInBounds_toArray, List.set_cons_zero, List.set_cons_succ, i64_w, i32_w]
    rfl
   refine pure_ (i := 3) (N := some 20) (v := ?_) (a' := ?_) #[false, true, true, true, false, false, false, false, false, false, false, false, false, false] rfl rfl (any_of HT_.out (by kernel_rfl)) (fun _ _ _ h => h) (Or.inl ⟨by rfl, ?_⟩) ?_ ?_
   rotate_left
   ·
    intro w'
    go_simp
    with_reducible rfl
   rotate_left
   ·
    simp only [Act.put, List.setIfInBounds_toArray, List.set_cons_zero, List.set_cons_succ, i64_w, i32_w]
    rfl
   refine pure_ (i := 4) (N := some 21) (v := ?_) (a' := ?_) #[false, true, true, true, true, false, false, false, false, false, false, false, false, false] rfl rfl (any_of HT_.out (by kernel_rfl)) (fun _ _ _ h => h) (Or.inl ⟨by rfl, ?_⟩) ?_ ?_
   rotate_left
   ·
    intro w'
    go_simp
    with_reducible rfl
   rotate_left
   ·
    simp only [Act.put, List.setIfInBounds_toArray, List.set_cons_zero, List.set_cons_succ, i64_w, i32_w]
    rfl
   refine pure_ (i := 5) (N := some 22) (v := ?_) (a' := ?_) #[false, true, true, true, true, true, false, false, false, false, false, false, false, false] rfl rfl (any_of HT_.out (by kernel_rfl)) (fun _ _ _ h => h) (Or.inl ⟨by rfl, ?_⟩) ?_ ?_
   rotate_left
   ·
    intro w'
    go_simp
    with_reducible rfl
   rotate_left
   ·
    simp only [Act.put, List.setIfInBounds_toArray, List.set_cons_zero, List.set_cons_succ, i64_w, i32_w]
    rfl
   refine pure_ (i := 6) (N := some 23) (v := ?_) (a' := ?_) #[false, true, true, true, true, true, true, false, false, false, false, false, false, false] rfl rfl (any_of HT_.out (by kernel_rfl)) (fun _ _ _ h => h) (Or.inl ⟨by rfl, ?_⟩) ?_ ?_
   rotate_left
   ·
    intro w'
    go_simp
    with_reducible rfl
   rotate_left
   ·
    simp only [Act.put, List.setIfInBounds_toArray, List.set_cons_zero, List.set_cons_succ, i64_w, i32_w]
    rfl
   refine pure_ (i := 7) (N := some 24) (v := ?_) (a' := ?_) #[false, true, true, true, true, true, true, true, false, false, false, false, false, false] rfl rfl (any_of HT_.out (by kernel_rfl)) (fun _ _ _ h => h) (Or.inl ⟨by rfl, ?_⟩) ?_ ?_
   rotate_left
   ·
    intro w'
    go_simp
    with_reducible rfl
   rotate_left
   ·
    simp only [Act.put, List.setIfInBounds_toArray, List.set_cons_zero, List.set_cons_succ, i64_w, i32_w]
    rfl
   refine pure_ (i := 8) (N := some 25) (v := ?_) (a' := ?_) #[false, true, true, true, true, true, true, true, true, false, false, false, false, false] rfl rfl (any_of HT_.out (by kernel_rfl)) (fun _ _ _ h => h) (Or.inl ⟨by rfl, ?_⟩) ?_ ?_
   rotate_left
   ·
    intro w'
    go_simp
    with_reducible rfl
   rotate_left
   ·
    simp only [Act.put, List.setIfInBounds_toArray, List.set_cons_zero, List.set_cons_succ, i64_w, i32_w]
    rfl
   refine take_ (i := 0) (N := some 17) (v := ?_) (a' := ?_) #[true, true, true, true, true, true, true, true, true, false, false, false, false, false] rfl rfl (take_ofW HT_.out HW_.out (by kernel_rfl)) (fun _ _ _ h => h) (Or.inl ⟨by rfl, ?_⟩) hHeld ?_ ?_
   rotate_left
   ·
    rintro w' ⟨s0, s1, s2, s3, s4, s5⟩
    go_simp
    with_reducible rfl
   rotate_left
   ·
    simp only [Act.put, List.setIfInBounds_toArray, List.set_cons_zero, List.set_cons_succ, i64_w, i32_w]
    rfl
   refine take_ (i := 9) (N := some 26) (v := ?_) (a' := ?_) #[true, true, true, true, true, true, true, true, true, true, false, false, false, false] rfl rfl (take_ofW HT_.out HW_.out (by kernel_rfl)) (fun _ _ _ h => h) (Or.inl ⟨by rfl, ?_⟩) hHeld ?_ ?_
   rotate_left
   ·
    rintro w' ⟨s0, s1, s2, s3, s4, s5⟩
    go_simp
    with_reducible rfl
   rotate_left
   ·
    simp only [Act.put, List.setIfInBounds_toArray, List.set_cons_zero, List.set_cons_succ, i64_w, i32_w]
    rfl
   refine pure_ (i := 10) (N := some 27) (v := ?_) (a' := ?_) #[true, true, true, true, true, true, true, true, true, true, true, false, false, false] rfl rfl (any_of HT_.out (by kernel_rfl)) (fun _ _ _ h => h) (Or.inl ⟨by rfl, ?_⟩) ?_ ?_
   rotate_left
   ·
    intro w'
    go_simp
    with_reducible rfl
   rotate_left
   ·
    simp only [Act.put, List.setIfInBounds_toArray, List.set_cons_zero, List.set_cons_succ, i64_w, i32_w]
    rfl
   refine pure_ (i := 11) (N := some 28) (v := ?_) (a' := ?_) #[true, true, true, true, true, true, true, true, true, true, true, true, false, false] rfl rfl (any_of HT_.out (by kernel_rfl)) (fun _ _ _ h => h) (Or.inl ⟨by rfl, ?_⟩) ?_ ?_
   rotate_left
   ·
    intro w'
    go_simp
    with_reducible rfl
   rotate_left
   ·
    simp only [Act.put, List.setIfInBounds_toArray, List.set_cons_zero, List.set_cons_succ, i64_w, i32_w]
    rfl
   refine one_ (i := 12) (N := none) #[true, true, true, true, true, true, true, true, true, true, true, true, true, false] rfl rfl (one_of HT_.out (by kernel_rfl)) (by decide) (fun K hK => ?_)
   have hs20 : w19.cell? ⟨gb191, 0, none⟩ = some (.int .i64 0) := (blk_cell BK191.out 0).trans rfl
   have hfs20 := blk_frozen BK191.out 0
   have hns20_1 := NB198_191.out
   have hns20_2 := NB205_191.out
   have hms20_1 := NB191_198.out
   have hms20_2 := NB191_205.out
   have hs21 : w19.cell? ⟨gb191, 1, none⟩ = some (.int .i64 0) := (blk_cell BK191.out 1).trans rfl
   have hfs21 := blk_frozen BK191.out 1
   have hns21_1 := NB198_191.out
   have hns21_2 := NB205_191.out
   have hms21_1 := NB191_198.out
   have hms21_2 := NB191_205.out
   have hs22 : w19.cell? ⟨gb191, 2, none⟩ = some (.slice none 0 0) := (blk_cell BK191.out 2).trans rfl
   have hfs22 := blk_frozen BK191.out 2
   have hns22_1 := NB198_191.out
   have hns22_2 := NB205_191.out
   have hms22_1 := NB191_198.out
   have hms22_2 := NB191_205.out
   refine skip_ (w1 := ?_) (by rfl) rfl ?_ ?_
   rotate_left
   ·
    go_simp
    rfl
   refine hK.out _ _ ⟨((cell_far (p := ⟨gb191, _, none⟩) NB198_191.out _).trans (((cell_far (p := ⟨gb191, _, none⟩) NB198_191.out _).trans (((cell_far (p := ⟨gb191, _, none⟩) NB198_191.out _).trans (hHeld.1)))))), ((cell_far (p := ⟨gb191, _, none⟩) NB198_191.out _).trans (((cell_far (p := ⟨gb191, _, none⟩) NB198_191.out _).trans (((cell_far (p := ⟨gb191, _, none⟩) NB198_191.out _).trans (hHeld.2.1)))))), ((cell_far (p := ⟨gb191, _, none⟩) NB198_191.out _).trans (((cell_far (p := ⟨gb191, _, none⟩) NB198_191.out _).trans (((cell_far (p := ⟨gb191, _, none⟩) NB198_191.out _).trans (hHeld.2.2.1)))))), ((cell_far (p := ⟨gb191, _, none⟩) NB205_191.out _).trans (((cell_far (p := ⟨gb191, _, none⟩) NB205_191.out _).trans (((cell_far (p := ⟨gb191, _, none⟩) NB205_191.out _).trans (hHeld.2.2.2.1)))))), ((cell_far (p := ⟨gb191, _, none⟩) NB205_191.out _).trans (((cell_far (p := ⟨gb191, _, none⟩) NB205_191.out _).trans (((cell_far (p := ⟨gb191, _, none⟩) NB205_191.out _).trans (hHeld.2.2.2.2.1)))))), ((cell_far (p := ⟨gb191, _, none⟩) NB205_191.out _).trans (((cell_far (p := ⟨gb191, _, none⟩) NB205_191.out _).trans (((cell_far (p := ⟨gb191, _, none⟩) NB205_191.out _).trans (hHeld.2.2.2.2.2))))))⟩ (fun hHeld => ?_)
   clear hK K
   refine pure_ (i := 13) (N := some 3) (v := ?_) (a' := ?_) #[true, true, true, true, true, true, true, true, true, true, true, true, true, true] rfl rfl (any_of HT_.out (by kernel_rfl)) (fun _ _ _ h => h) (Or.inl ⟨by rfl, ?_⟩) ?_ ?_
   rotate_left
   ·
    intro w'
    go_simp
    with_reducible rfl
   rotate_left
   ·
    simp only [Act.put, List.setIfInBounds_toArray, List.set_cons_zero, List.set_cons_succ, i64_w, i32_w]
    rfl
   refine done_ (done_of HT_.out (by kernel_rfl)) ?_
   try go_wp2
   refine bodyPost_ret (results_ct rfl _ _ gb191 28 #[.int .i64 t192, .int .i64 t193, .slice Ao11 t194.length co11] (0, 0) _ rfl (by (with_reducible repeat (first | refine blk_drewN ?_ _ | refine blk_drew ?_ | refine blk_alloc ?_ _)); refine blk_put (cs := #[.int .i64 t192, .int .i64 t193, .slice none 0 0]) ?_ 2 _ rfl; (with_reducible repeat (first | refine blk_drewN ?_ _ | refine blk_drew ?_ | refine blk_alloc ?_ _)); refine blk_put (cs := #[.int .i64 t192, .int .i64 0, .slice none 0 0]) ?_ 1 _ rfl; (with_reducible repeat (first | refine blk_drewN ?_ _ | refine blk_drew ?_ | refine blk_alloc ?_ _)); refine blk_put (cs := #[.int .i64 0, .int .i64 0, .slice none 0 0]) ?_ 0 _ rfl; (with_reducible repeat (first | refine blk_drewN ?_ _ | refine blk_drew ?_ | refine blk_alloc ?_ _)); exact BK191.out) Try.underlying28 rfl (by kernel_rfl)) rfl ?_
   exact ⟨.slice Ao11 t194.length co11, by first | rfl | (simp [errW_none, errW_some] <;> rfl) | (simp [*, errW_none, errW_some] <;> rfl), by (with_reducible repeat (first | apply Kd.V_alloc | apply Kd.V_drewN | apply Kd.V_drew)); exact Kd.V_mono (Kd.V_far (p := ⟨gb191, 2, none⟩) (Kd.V_far (p := ⟨gb191, 1, none⟩) (Kd.V_far (p := ⟨gb191, 0, none⟩) (Kd.V_mono HO196.out (fun k_ hk => (⟨hk, hk.2.1⟩ : _ ∧ k_ ≠ gb191))) (fun _ hk => hk.2) (.int .i64 t192)) (fun _ hk => hk.2) (.int .i64 t193)) (fun _ hk => hk.2) (.slice Ao11 t194.length co11)) (fun _ hk => hk.1.1), by repeat (first | (with_reducible first | exact HB.out | apply below_alloc | apply pw_below_drewN | apply below_drew1 | refine below_set ?_ GE191.out | refine below_set ?_ GE198.out | refine below_set ?_ GE205.out) | exact HB.out)⟩
  ·
   rw [if_neg c5] at H
   have c5b0 : (t204 == 0) = false := beq_eq_false_iff_ne.mpr c5
   have c5b1 : (t204 != 0) = true := bne_iff_ne.mpr c5
   simp only [Option.some.injEq, Prod.mk.injEq] at H
   obtain ⟨rfl, rfl, rfl, rfl⟩ := H
   go_enter Try.func11, Try.ntmps11
   try go_wp2_with (first | ((with_reducible refine gate_dst (N := 2) rfl ?_); refine box_event ?hg (N := 2) ?hd (cs := #[.int .i64 0, .int .i64 0, .slice none 0 0]) (t := 28) ?hr ?_; (case hd => rfl); (case hg => rfl); (case hr => first | (go_simp; done) | (go_simp; rfl)); intro gb191 hg w23 hbox hb; have n0_ := Aside0.mk (below_step (by repeat (first | (with_reducible first | exact HB.out | apply below_alloc | apply pw_below_drewN | apply below_drew1) | exact HB.out)) hb); have n1_ := Aside0.mk (hbox); have n2_ := Aside0.mk ((by rw [hg]; exact (below_size (by repeat (first | (with_reducible first | exact HB.out | apply below_alloc | apply pw_below_drewN | apply below_drew1) | exact HB.out))) : w.heap.size ≤ gb191)); have n3_ := Aside0.mk ((by rw [hg]; exact (below_size (by repeat (first | (with_reducible first | exact HB.out | apply below_alloc | apply pw_below_drewN | apply below_drew1) | exact HB.out))) : w.heap.size ≤ gb191)); clear HB; have HB := n0_; have BK191 := n1_; have GW191 := n2_; have GE191 := n3_; clear n0_ n1_ n2_ n3_; clear hb hbox hg) | ((with_reducible refine gate_callee (f := 22) rfl ?_); refine goesL_ (some 10) rfl rfl Try.func22 (by kernel_rfl) rfl #[.string a0] rfl (by (try simp only [List.map_toArray, List.map_cons, List.map_nil]); first | done | rfl | (simp only [List.length_drop, List.length_take]; rfl)) ?_; (with_reducible refine (expr_Parse.calls k a0 t192 t193 t194 t197 _ A2.out).mono ?_); rintro e w24 ⟨v195, rfl, ho0, hb⟩; refine ⟨_, rfl, ?_⟩; have n0_ := Aside0.mk (Kd.V_lower (Kd.V_mono (ok' := fun k_ => (w.heap.size ≤ k_) ∧ k_ ≠ gb191) ho0 (fun k_ hk_ => ⟨(Nat.le_trans (below_size (by repeat (first | (with_reducible first | exact HB.out | apply below_alloc | apply pw_below_drewN | apply below_drew1 | refine below_set ?_ GE191.out) | exact HB.out))) hk_), (Kd.freshB (g := gb191) (o := .cells #[.int .i64 0, .int .i64 0, .slice none 0 0] 28 (0, 0)) (by (with_reducible repeat (first | refine blk_drewN ?_ _ | refine blk_drew ?_ | refine blk_alloc ?_ _)); exact BK191.out) k_ hk_)⟩)) (below_size (by repeat (first | (with_reducible first | exact HB.out | apply below_alloc | apply pw_below_drewN | apply below_drew1 | refine below_set ?_ GE191.out) | exact HB.out)))); have n1_ := Aside0.mk (blk_below (g := gb191) (o := .cells #[.int .i64 0, .int .i64 0, .slice none 0 0] 28 (0, 0)) (by (with_reducible repeat (first | refine blk_drewN ?_ _ | refine blk_drew ?_ | refine blk_alloc ?_ _)); exact BK191.out) hb); have n2_ := Aside0.mk (below_step (by repeat (first | (with_reducible first | exact HB.out | apply below_alloc | apply pw_below_drewN | apply below_drew1 | refine below_set ?_ GE191.out) | exact HB.out)) hb); clear BK191; clear HB; have HO196 := n0_; have BK191 := n1_; have HB := n2_; clear n0_ n1_ n2_; (try clear hb); (try clear hb2); (try clear hk); (try clear hi); (try clear ho0)) | ((with_reducible refine gate_dst (N := 4) rfl ?_); refine box_event ?hg (N := 4) ?hd (cs := #[.int .i64 0, .int .i64 0, .slice none 0 0]) (t := 28) ?hr ?_; (case hd => rfl); (case hg => rfl); (case hr => first | (go_simp; done) | (go_simp; rfl)); intro gb198 hg w25 hbox hb; have n0_ := Aside0.mk (Kd.V_below (Kd.V_elderB (by (with_reducible repeat (first | apply Kd.V_alloc | apply Kd.V_drewN | apply Kd.V_drew)); exact HO196.out) gb198 (Nat.le_of_eq hg.symm)) hb); have n1_ := Aside0.mk (blk_below (g := gb191) (o := .cells #[.int .i64 0, .int .i64 0, .slice none 0 0] 28 (0, 0)) (by (with_reducible repeat (first | refine blk_drewN ?_ _ | refine blk_drew ?_ | refine blk_alloc ?_ _)); exact BK191.out) hb); have n2_ := Aside0.mk (below_step (by repeat (first | (with_reducible first | exact HB.out | apply below_alloc | apply pw_below_drewN | apply below_drew1 | refine below_set ?_ GE191.out) | exact HB.out)) hb); have n3_ := Aside0.mk (hbox); have n4_ := Aside0.mk ((by rw [hg]; exact (below_size (by repeat (first | (with_reducible first | exact HB.out | apply below_alloc | apply pw_below_drewN | apply below_drew1 | refine below_set ?_ GE191.out) | exact HB.out))) : w.heap.size ≤ gb198)); have n5_ := Aside0.mk ((by rw [hg]; exact (below_size (by repeat (first | (with_reducible first | exact HB.out | apply below_alloc | apply pw_below_drewN | apply below_drew1 | refine below_set ?_ GE191.out) | exact HB.out))) : w.heap.size ≤ gb198)); have n6_ := Aside0.mk ((by rw [hg]; exact Nat.ne_of_lt (blk_lt (g := gb191) (o := .cells #[.int .i64 0, .int .i64 0, .slice none 0 0] 28 (0, 0)) (by (with_reducible repeat (first | refine blk_drewN ?_ _ | refine blk_drew ?_ | refine blk_alloc ?_ _)); exact BK191.out)) : gb191 ≠ gb198)); have n7_ := Aside0.mk ((by rw [hg]; exact Nat.ne_of_gt (blk_lt (g := gb191) (o := .cells #[.int .i64 0, .int .i64 0, .slice none 0 0] 28 (0, 0)) (by (with_reducible repeat (first | refine blk_drewN ?_ _ | refine blk_drew ?_ | refine blk_alloc ?_ _)); exact BK191.out)) : gb198 ≠ gb191)); clear HO196; clear BK191; clear HB; have HO196 := n0_; have BK191 := n1_; have HB := n2_; have BK198 := n3_; have GW198 := n4_; have GE198 := n5_; have NB191_198 := n6_; have NB198_191 := n7_; clear n0_ n1_ n2_ n3_ n4_ n5_ n6_ n7_; clear hb hbox hg; have hnb26 := NB198_191.out; have hnc26 := NB191_198.out; have hcz27_0 : w25.cell? ⟨gb198, 0, none⟩ = some (.int .i64 0) := (blk_cell BK198.out 0).trans rfl; have hcz27_1 : w25.cell? ⟨gb198, 1, none⟩ = some (.int .i64 0) := (blk_cell BK198.out 1).trans rfl; have hcz27_2 : w25.cell? ⟨gb198, 2, none⟩ = some (.slice none 0 0) := (blk_cell BK198.out 2).trans rfl; have hfz27_0 := blk_frozen BK198.out 0; have hfz27_1 := blk_frozen BK198.out 1; have hfz27_2 := blk_frozen BK198.out 2; obtain ⟨Ao28, co28, eo28⟩ := Kd.V_slice HO196.out; subst eo28) | ((with_reducible refine gate_callee (f := 22) rfl ?_); refine goesL_ (some 14) rfl rfl Try.func22 (by kernel_rfl) rfl #[.string (⟨#[97]⟩ : ByteArray)] rfl (by (try simp only [List.map_toArray, List.map_cons, List.map_nil]); first | done | rfl | (simp only [List.length_drop, List.length_take]; rfl)) ?_; (with_reducible refine (expr_Parse.calls k (⟨#[97]⟩ : ByteArray) t199 t200 t201 t204 _ A3.out).mono ?_); rintro e w29 ⟨v202, rfl, ho0, hb⟩; refine ⟨_, rfl, ?_⟩; have n0_ := Aside0.mk (Kd.V_below (by (with_reducible repeat (first | apply Kd.V_alloc | apply Kd.V_drewN | apply Kd.V_drew)); exact (Kd.V_mono (Kd.V_far (p := ⟨gb198, 2, none⟩) (Kd.V_far (p := ⟨gb198, 1, none⟩) (Kd.V_far (p := ⟨gb198, 0, none⟩) (Kd.V_mono HO196.out (fun k_ hk => (⟨hk, hk.2⟩ : _ ∧ k_ ≠ gb198))) (fun _ hk => hk.2) (.int .i64 t192)) (fun _ hk => hk.2) (.int .i64 t193)) (fun _ hk => hk.2) (.slice Ao28 t194.length co28)) (fun _ h_ => h_.1))) hb); have n1_ := Aside0.mk (Kd.V_lower (Kd.V_mono (ok' := fun k_ => (w.heap.size ≤ k_) ∧ k_ ≠ gb191 ∧ k_ ≠ gb198) ho0 (fun k_ hk_ => ⟨(Nat.le_trans (below_size (by repeat (first | (with_reducible first | exact HB.out | apply below_alloc | apply pw_below_drewN | apply below_drew1 | refine below_set ?_ GE191.out | refine below_set ?_ GE198.out) | exact HB.out))) hk_), (Kd.freshB (g := gb191) (o := .cells #[.int .i64 0, .int .i64 0, .slice none 0 0] 28 (0, 0)) (by (with_reducible repeat (first | refine blk_drewN ?_ _ | refine blk_drew ?_ | refine blk_alloc ?_ _)); refine blk_far ?_ NB191_198.out _; (with_reducible repeat (first | refine blk_drewN ?_ _ | refine blk_drew ?_ | refine blk_alloc ?_ _)); refine blk_far ?_ NB191_198.out _; (with_reducible repeat (first | refine blk_drewN ?_ _ | refine blk_drew ?_ | refine blk_alloc ?_ _)); refine blk_far ?_ NB191_198.out _; (with_reducible repeat (first | refine blk_drewN ?_ _ | refine blk_drew ?_ | refine blk_alloc ?_ _)); exact BK191.out) k_ hk_), (Kd.freshB (g := gb198) (o := .cells #[.int .i64 t192, .int .i64 t193, .slice Ao28 t194.length co28] 28 (0, 0)) (by (with_reducible repeat (first | refine blk_drewN ?_ _ | refine blk_drew ?_ | refine blk_alloc ?_ _)); refine blk_put (cs := #[.int .i64 t192, .int .i64 t193, .slice none 0 0]) ?_ 2 _ rfl; (with_reducible repeat (first | refine blk_drewN ?_ _ | refine blk_drew ?_ | refine blk_alloc ?_ _)); refine blk_put (cs := #[.int .i64 t192, .int .i64 0, .slice none 0 0]) ?_ 1 _ rfl; (with_reducible repeat (first | refine blk_drewN ?_ _ | refine blk_drew ?_ | refine blk_alloc ?_ _)); refine blk_put (cs := #[.int .i64 0, .int .i64 0, .slice none 0 0]) ?_ 0 _ rfl; (with_reducible repeat (first | refine blk_drewN ?_ _ | refine blk_drew ?_ | refine blk_alloc ?_ _)); exact BK198.out) k_ hk_)⟩)) (below_size (by repeat (first | (with_reducible first | exact HB.out | apply below_alloc | apply pw_below_drewN | apply below_drew1 | refine below_set ?_ GE191.out | refine below_set ?_ GE198.out) | exact HB.out)))); have n2_ := Aside0.mk (blk_below (g := gb191) (o := .cells #[.int .i64 0, .int .i64 0, .slice none 0 0] 28 (0, 0)) (by (with_reducible repeat (first | refine blk_drewN ?_ _ | refine blk_drew ?_ | refine blk_alloc ?_ _)); refine blk_far ?_ NB191_198.out _; (with_reducible repeat (first | refine blk_drewN ?_ _ | refine blk_drew ?_ | refine blk_alloc ?_ _)); refine blk_far ?_ NB191_198.out _; (with_reducible repeat (first | refine blk_drewN ?_ _ | refine blk_drew ?_ | refine blk_alloc ?_ _)); refine blk_far ?_ NB191_198.out _; (with_reducible repeat (first | refine blk_drewN ?_ _ | refine blk_drew ?_ | refine blk_alloc ?_ _)); exact BK191.out) hb); have n3_ := Aside0.mk (blk_below (g := gb198) (o := .cells #[.int .i64 t192, .int .i64 t193, .slice Ao28 t194.length co28] 28 (0, 0)) (by (with_reducible repeat (first | refine blk_drewN ?_ _ | refine blk_drew ?_ | refine blk_alloc ?_ _)); refine blk_put (cs := #[.int .i64 t192, .int .i64 t193, .slice none 0 0]) ?_ 2 _ rfl; (with_reducible repeat (first | refine blk_drewN ?_ _ | refine blk_drew ?_ | refine blk_alloc ?_ _)); refine blk_put (cs := #[.int .i64 t192, .int .i64 0, .slice none 0 0]) ?_ 1 _ rfl; (with_reducible repeat (first | refine blk_drewN ?_ _ | refine blk_drew ?_ | refine blk_alloc ?_ _)); refine blk_put (cs := #[.int .i64 0, .int .i64 0, .slice none 0 0]) ?_ 0 _ rfl; (with_reducible repeat (first | refine blk_drewN ?_ _ | refine blk_drew ?_ | refine blk_alloc ?_ _)); exact BK198.out) hb); have n4_ := Aside0.mk (below_step (by repeat (first | (with_reducible first | exact HB.out | apply below_alloc | apply pw_below_drewN | apply below_drew1 | refine below_set ?_ GE191.out | refine below_set ?_ GE198.out) | exact HB.out)) hb); clear HO196; clear BK191; clear BK198; clear HB; have HO196 := n0_; have HO203 := n1_; have BK191 := n2_; have BK198 := n3_; have HB := n4_; clear n0_ n1_ n2_ n3_ n4_; (try clear hb); (try clear hb2); (try clear hk); (try clear hi); (try clear ho0)) | ((with_reducible refine gate_dst (N := 6) rfl ?_); refine box_event ?hg (N := 6) ?hd (cs := #[.int .i64 0, .int .i64 0, .slice none 0 0]) (t := 28) ?hr ?_; (case hd => rfl); (case hg => rfl); (case hr => first | (go_simp; done) | (go_simp; rfl)); intro gb205 hg w30 hbox hb; have n0_ := Aside0.mk (Kd.V_below (Kd.V_elderB (by (with_reducible repeat (first | apply Kd.V_alloc | apply Kd.V_drewN | apply Kd.V_drew)); exact HO196.out) gb205 (Nat.le_of_eq hg.symm)) hb); have n1_ := Aside0.mk (Kd.V_below (Kd.V_elderB (by (with_reducible repeat (first | apply Kd.V_alloc | apply Kd.V_drewN | apply Kd.V_drew)); exact HO203.out) gb205 (Nat.le_of_eq hg.symm)) hb); have n2_ := Aside0.mk (blk_below (g := gb191) (o := .cells #[.int .i64 0, .int .i64 0, .slice none 0 0] 28 (0, 0)) (by (with_reducible repeat (first | refine blk_drewN ?_ _ | refine blk_drew ?_ | refine blk_alloc ?_ _)); exact BK191.out) hb); have n3_ := Aside0.mk (blk_below (g := gb198) (o := .cells #[.int .i64 t192, .int .i64 t193, .slice Ao28 t194.length co28] 28 (0, 0)) (by (with_reducible repeat (first | refine blk_drewN ?_ _ | refine blk_drew ?_ | refine blk_alloc ?_ _)); exact BK198.out) hb); have n4_ := Aside0.mk (below_step (by repeat (first | (with_reducible first | exact HB.out | apply below_alloc | apply pw_below_drewN | apply below_drew1 | refine below_set ?_ GE191.out | refine below_set ?_ GE198.out) | exact HB.out)) hb); have n5_ := Aside0.mk (hbox); have n6_ := Aside0.mk ((by rw [hg]; exact (below_size (by repeat (first | (with_reducible first | exact HB.out | apply below_alloc | apply pw_below_drewN | apply below_drew1 | refine below_set ?_ GE191.out | refine below_set ?_ GE198.out) | exact HB.out))) : w.heap.size ≤ gb205)); have n7_ := Aside0.mk ((by rw [hg]; exact (below_size (by repeat (first | (with_reducible first | exact HB.out | apply below_alloc | apply pw_below_drewN | apply below_drew1 | refine below_set ?_ GE191.out | refine below_set ?_ GE198.out) | exact HB.out))) : w.heap.size ≤ gb205)); have n8_ := Aside0.mk ((by rw [hg]; exact Nat.ne_of_lt (blk_lt (g := gb191) (o := .cells #[.int .i64 0, .int .i64 0, .slice none 0 0] 28 (0, 0)) (by (with_reducible repeat (first | refine blk_drewN ?_ _ | refine blk_drew ?_ | refine blk_alloc ?_ _)); exact BK191.out)) : gb191 ≠ gb205)); have n9_ := Aside0.mk ((by rw [hg]; exact Nat.ne_of_gt (blk_lt (g := gb191) (o := .cells #[.int .i64 0, .int .i64 0, .slice none 0 0] 28 (0, 0)) (by (with_reducible repeat (first | refine blk_drewN ?_ _ | refine blk_drew ?_ | refine blk_alloc ?_ _)); exact BK191.out)) : gb205 ≠ gb191)); have n10_ := Aside0.mk ((by rw [hg]; exact Nat.ne_of_lt (blk_lt (g := gb198) (o := .cells #[.int .i64 t192, .int .i64 t193, .slice Ao28 t194.length co28] 28 (0, 0)) (by (with_reducible repeat (first | refine blk_drewN ?_ _ | refine blk_drew ?_ | refine blk_alloc ?_ _)); exact BK198.out)) : gb198 ≠ gb205)); have n11_ := Aside0.mk ((by rw [hg]; exact Nat.ne_of_gt (blk_lt (g := gb198) (o := .cells #[.int .i64 t192, .int .i64 t193, .slice Ao28 t194.length co28] 28 (0, 0)) (by (with_reducible repeat (first | refine blk_drewN ?_ _ | refine blk_drew ?_ | refine blk_alloc ?_ _)); exact BK198.out)) : gb205 ≠ gb198)); clear HO196; clear HO203; clear BK191; clear BK198; clear HB; have HO196 := n0_; have HO203 := n1_; have BK191 := n2_; have BK198 := n3_; have HB := n4_; have BK205 := n5_; have GW205 := n6_; have GE205 := n7_; have NB191_205 := n8_; have NB205_191 := n9_; have NB198_205 := n10_; have NB205_198 := n11_; clear n0_ n1_ n2_ n3_ n4_ n5_ n6_ n7_ n8_ n9_ n10_ n11_; clear hb hbox hg; have hnb31 := NB205_191.out; have hnc31 := NB191_205.out; have hnb32 := NB205_198.out; have hnc32 := NB198_205.out; have hcz33_0 : w30.cell? ⟨gb205, 0, none⟩ = some (.int .i64 0) := (blk_cell BK205.out 0).trans rfl; have hcz33_1 : w30.cell? ⟨gb205, 1, none⟩ = some (.int .i64 0) := (blk_cell BK205.out 1).trans rfl; have hcz33_2 : w30.cell? ⟨gb205, 2, none⟩ = some (.slice none 0 0) := (blk_cell BK205.out 2).trans rfl; have hfz33_0 := blk_frozen BK205.out 0; have hfz33_1 := blk_frozen BK205.out 1; have hfz33_2 := blk_frozen BK205.out 2; obtain ⟨Ao34, co34, eo34⟩ := Kd.V_slice HO203.out; subst eo34))
   have n0_ : Aside0 (Kd.V k28 28 (((w30.setCell ⟨gb205, 0, none⟩ (.int .i64 t199)).setCell ⟨gb205, 1, none⟩ (.int .i64 t200)).setCell ⟨gb205, 2, none⟩ (.slice Ao34 t201.length co34)) w.heap.size (fun k_ => (w.heap.size ≤ k_) ∧ k_ ≠ gb191 ∧ k_ ≠ gb198 ∧ k_ ≠ gb205) (.slice Ao28 t194.length co28) t194) := ⟨by (with_reducible repeat (first | apply Kd.V_alloc | apply Kd.V_drewN | apply Kd.V_drew)); exact Kd.V_mono (Kd.V_far (p := ⟨gb205, 2, none⟩) (Kd.V_far (p := ⟨gb205, 1, none⟩) (Kd.V_far (p := ⟨gb205, 0, none⟩) (Kd.V_mono HO196.out (fun k_ hk => (⟨hk, hk.2⟩ : _ ∧ k_ ≠ gb205))) (fun _ hk => hk.2) (.int .i64 t199)) (fun _ hk => hk.2) (.int .i64 t200)) (fun _ hk => hk.2) (.slice Ao34 t201.length co34)) (fun _ hk => ⟨hk.1.1.1.1, ⟨hk.1.1.1.2, ⟨hk.1.1.2, hk.1.2⟩⟩⟩)⟩
   have n1_ : Aside0 (Kd.V k28 28 (((w30.setCell ⟨gb205, 0, none⟩ (.int .i64 t199)).setCell ⟨gb205, 1, none⟩ (.int .i64 t200)).setCell ⟨gb205, 2, none⟩ (.slice Ao34 t201.length co34)) w.heap.size (fun k_ => (w.heap.size ≤ k_) ∧ k_ ≠ gb191 ∧ k_ ≠ gb198 ∧ k_ ≠ gb205) (.slice Ao34 t201.length co34) t201) := ⟨by (with_reducible repeat (first | apply Kd.V_alloc | apply Kd.V_drewN | apply Kd.V_drew)); exact Kd.V_mono (Kd.V_far (p := ⟨gb205, 2, none⟩) (Kd.V_far (p := ⟨gb205, 1, none⟩) (Kd.V_far (p := ⟨gb205, 0, none⟩) (Kd.V_mono HO203.out (fun k_ hk => (⟨hk, hk.2⟩ : _ ∧ k_ ≠ gb205))) (fun _ hk => hk.2) (.int .i64 t199)) (fun _ hk => hk.2) (.int .i64 t200)) (fun _ hk => hk.2) (.slice Ao34 t201.length co34)) (fun _ hk => ⟨hk.1.1.1, ⟨hk.1.1.2.1, ⟨hk.1.1.2.2, hk.1.2⟩⟩⟩)⟩
   have n2_ : Aside0 ((((w30.setCell ⟨gb205, 0, none⟩ (.int .i64 t199)).setCell ⟨gb205, 1, none⟩ (.int .i64 t200)).setCell ⟨gb205, 2, none⟩ (.slice Ao34 t201.length co34)).heap[gb191]? = some (.cells #[.int .i64 0, .int .i64 0, .slice none 0 0] 28 (0, 0))) := ⟨by (with_reducible repeat (first | refine blk_drewN ?_ _ | refine blk_drew ?_ | refine blk_alloc ?_ _)); refine blk_far ?_ NB191_205.out _; (with_reducible repeat (first | refine blk_drewN ?_ _ | refine blk_drew ?_ | refine blk_alloc ?_ _)); refine blk_far ?_ NB191_205.out _; (with_reducible repeat (first | refine blk_drewN ?_ _ | refine blk_drew ?_ | refine blk_alloc ?_ _)); refine blk_far ?_ NB191_205.out _; (with_reducible repeat (first | refine blk_drewN ?_ _ | refine blk_drew ?_ | refine blk_alloc ?_ _)); exact BK191.out⟩
   have n3_ : Aside0 ((((w30.setCell ⟨gb205, 0, none⟩ (.int .i64 t199)).setCell ⟨gb205, 1, none⟩ (.int .i64 t200)).setCell ⟨gb205, 2, none⟩ (.slice Ao34 t201.length co34)).heap[gb198]? = some (.cells #[.int .i64 t192, .int .i64 t193, .slice Ao28 t194.length co28] 28 (0, 0))) := ⟨by (with_reducible repeat (first | refine blk_drewN ?_ _ | refine blk_drew ?_ | refine blk_alloc ?_ _)); refine blk_far ?_ NB198_205.out _; (with_reducible repeat (first | refine blk_drewN ?_ _ | refine blk_drew ?_ | refine blk_alloc ?_ _)); refine blk_far ?_ NB198_205.out _; (with_reducible repeat (first | refine blk_drewN ?_ _ | refine blk_drew ?_ | refine blk_alloc ?_ _)); refine blk_far ?_ NB198_205.out _; (with_reducible repeat (first | refine blk_drewN ?_ _ | refine blk_drew ?_ | refine blk_alloc ?_ _)); exact BK198.out⟩
   have n4_ : Aside0 ((((w30.setCell ⟨gb205, 0, none⟩ (.int .i64 t199)).setCell ⟨gb205, 1, none⟩ (.int .i64 t200)).setCell ⟨gb205, 2, none⟩ (.slice Ao34 t201.length co34)).heap[gb205]? = some (.cells #[.int .i64 t199, .int .i64 t200, .slice Ao34 t201.length co34] 28 (0, 0))) := ⟨by (with_reducible repeat (first | refine blk_drewN ?_ _ | refine blk_drew ?_ | refine blk_alloc ?_ _)); refine blk_put (cs := #[.int .i64 t199, .int .i64 t200, .slice none 0 0]) ?_ 2 _ rfl; (with_reducible repeat (first | refine blk_drewN ?_ _ | refine blk_drew ?_ | refine blk_alloc ?_ _)); refine blk_put (cs := #[.int .i64 t199, .int .i64 0, .slice none 0 0]) ?_ 1 _ rfl; (with_reducible repeat (first | refine blk_drewN ?_ _ | refine blk_drew ?_ | refine blk_alloc ?_ _)); refine blk_put (cs := #[.int .i64 0, .int .i64 0, .slice none 0 0]) ?_ 0 _ rfl; (with_reducible repeat (first | refine blk_drewN ?_ _ | refine blk_drew ?_ | refine blk_alloc ?_ _)); exact BK205.out⟩
   have n5_ : Aside0 (Below w.heap.size w (((w30.setCell ⟨gb205, 0, none⟩ (.int .i64 t199)).setCell ⟨gb205, 1, none⟩ (.int .i64 t200)).setCell ⟨gb205, 2, none⟩ (.slice Ao34 t201.length co34))) := ⟨by repeat (first | (with_reducible first | exact HB.out | apply below_alloc | apply pw_below_drewN | apply below_drew1 | refine below_set ?_ GE191.out | refine below_set ?_ GE198.out | refine below_set ?_ GE205.out) | exact HB.out)⟩
   (try clear HO196)
   (try clear HO203)
   (try clear BK191)
   (try clear BK198)
   (try clear BK205)
   (try clear HB)
   generalize (((w30.setCell ⟨gb205, 0, none⟩ (.int .i64 t199)).setCell ⟨gb205, 1, none⟩ (.int .i64 t200)).setCell ⟨gb205, 2, none⟩ (.slice Ao34 t201.length co34)) = w35 at n0_ n1_ n2_ n3_ n4_ n5_ ⊢
   have HO196 := n0_
   have HO203 := n1_
   have BK191 := n2_
   have BK198 := n3_
   have BK205 := n4_
   have HB := n5_
   clear n0_ n1_ n2_ n3_ n4_ n5_
   have n0_ := Aside0.mk (Kd.V_drew HO196.out)
   have n1_ := Aside0.mk (Kd.V_drew HO203.out)
   have n2_ := Aside0.mk (blk_drew BK191.out)
   have n3_ := Aside0.mk (blk_drew BK198.out)
   have n4_ := Aside0.mk (blk_drew BK205.out)
   have n5_ := Aside0.mk (below_drew1 HB.out)
   clear HO196
   clear HO203
   clear BK191
   clear BK198
   clear BK205
   clear HB
   have HO196 := n0_
   have HO203 := n1_
   have BK191 := n2_
   have BK198 := n3_
   have BK205 := n4_
   have HB := n5_
   clear n0_ n1_ n2_ n3_ n4_ n5_
   refine start_ (n := 14) (S := fun w' => w'.cell? ⟨gb198, 0, none⟩ = some (.int .i64 t192) ∧ w'.cell? ⟨gb198, 1, none⟩ = some (.int .i64 t193) ∧ w'.cell? ⟨gb198, 2, none⟩ = some (.slice Ao28 t194.length co28)) (ds := []) #[false, false, false, false, false, false, false, false, false, false, false, false, false, false] (by kernel_rfl) rfl rfl ⟨(blk_cell BK198.out 0).trans rfl, (blk_cell BK198.out 1).trans rfl, (blk_cell BK198.out 2).trans rfl⟩ (fun hHeld => ?_); refine with_tabW bobbinetkeep_exprOf.tab3 bobbinetkeep_exprOf.bits3 (fun HT_ HW_ => ?_)
   generalize w35.drew = w36 at HO196 HO203 BK191 BK198 BK205 HB hHeld ⊢
   refine pure_ (i := 1) (N := some 18) (v := ?_) (a' := ?_) #[false, true, false, false, false, false, false, false, false, false, false, false, false, false] rfl rfl (any_of HT_.out (by kernel_rfl)) (fun _ _ _ h => h) (Or.inl ⟨by rfl, ?_⟩) ?_ ?_
   rotate_left
   ·
    intro w'
    go_simp
    with_reducible rfl
   rotate_left
   ·
    simp only [Act.put, List.setIfInBounds_toArray, List.set_cons_zero, List.set_cons_succ, i64_w, i32_w]
    rfl
   refine pure_ (i := 2) (N := some 19) (v := ?_) (a' := ?_) #[false, true, true, false, false, false, false, false, false, false, false, false, false, false] rfl rfl (any_of HT_.out (by kernel_rfl)) (fun _ _ _ h => h) (Or.inl ⟨by rfl, ?_⟩) ?_ ?_
   rotate_left
   ·
    intro w'
    go_simp
    with_reducible rfl
   rotate_left
   ·
    simp only [Act.put, List.setIfInBounds_toArray, List.set_cons_zero, List.set_cons_succ, i64_w, i32_w]
    rfl
   refine pure_ (i := 3) (N := some 20) (v := ?_) (a' := ?_) #[false, true, true, true, false, false, false, false, false, false, false, false, false, false] rfl rfl (any_of HT_.out (by kernel_rfl)) (fun _ _ _ h => h) (Or.inl ⟨by rfl, ?_⟩) ?_ ?_
   rotate_left
   ·
    intro w'
    go_simp
    with_reducible rfl
   rotate_left
   ·
    simp only [Act.put, List.setIfInBounds_toArray, List.set_cons_zero, List.set_cons_succ, i64_w, i32_w]
    rfl
   refine pure_ (i := 4) (N := some 21) (v := ?_) (a' := ?_) #[false, true, true, true, true, false, false, false, false, false, false, false, false, false] rfl rfl (any_of HT_.out (by kernel_rfl)) (fun _ _ _ h => h) (Or.inl ⟨by rfl, ?_⟩) ?_ ?_
   rotate_left
   ·
    intro w'
    go_simp
    with_reducible rfl
   rotate_left
   ·
    simp only [Act.put, List.setIfInBounds_toArray, List.set_cons_zero, List.set_cons_succ, i64_w, i32_w]
    rfl
   refine pure_ (i := 5) (N := some 22) (v := ?_) (a' := ?_) #[false, true, true, true, true, true, false, false, false, false, false, false, false, false] rfl rfl (any_of HT_.out (by kernel_rfl)) (fun _ _ _ h => h) (Or.inl ⟨by rfl, ?_⟩) ?_ ?_
   rotate_left
   ·
    intro w'
    go_simp
    with_reducible rfl
   rotate_left
   ·
    simp only [Act.put, List.setIfInBounds_toArray, List.set_cons_zero, List.set_cons_succ, i64_w, i32_w]
    rfl
   refine pure_ (i := 6) (N := some 23) (v := ?_) (a' := ?_) #[false, true, true, true, true, true, true, false, false, false, false, false, false, false] rfl rfl (any_of HT_.out (by kernel_rfl)) (fun _ _ _ h => h) (Or.inl ⟨by rfl, ?_⟩) ?_ ?_
   rotate_left
   ·
    intro w'
    go_simp
    with_reducible rfl
   rotate_left
   ·
    simp only [Act.put, List.setIfInBounds_toArray, List.set_cons_zero, List.set_cons_succ, i64_w, i32_w]
    rfl
   refine pure_ (i := 7) (N := some 24) (v := ?_) (a' := ?_) #[false, true, true, true, true, true, true, true, false, false, false, false, false, false] rfl rfl (any_of HT_.out (by kernel_rfl)) (fun _ _ _ h => h) (Or.inl ⟨by rfl, ?_⟩) ?_ ?_
   rotate_left
   ·
    intro w'
    go_simp
    with_reducible rfl
   rotate_left
   ·
    simp only [Act.put, List.setIfInBounds_toArray, List.set_cons_zero, List.set_cons_succ, i64_w, i32_w]
    rfl
   refine pure_ (i := 8) (N := some 25) (v := undef) (a' := ?_) #[false, true, true, true, true, true, true, true, true, false, false, false, false, false] rfl rfl (any_of HT_.out (by kernel_rfl)) (fun _ _ _ h => h) (Or.inr ⟨by rfl, rfl⟩) ?_ ?_
   rotate_left
   ·
    simp only [Act.put, List.setIfInBounds_toArray, List.set_cons_zero, List.set_cons_succ, i64_w, i32_w]
    rfl
   refine pure_ (i := 9) (N := some 26) (v := undef) (a' := ?_) #[false, true, true, true, true, true, true, true, true, true, false, false, false, false] rfl rfl (any_of HT_.out (by kernel_rfl)) (fun _ _ _ h => h) (Or.inr ⟨by rfl, rfl⟩) ?_ ?_
   rotate_left
   ·
    simp only [Act.put, List.setIfInBounds_toArray, List.set_cons_zero, List.set_cons_succ, i64_w, i32_w]
    rfl
   refine pure_ (i := 10) (N := some 27) (v := undef) (a' := ?_) #[false, true, true, true, true, true, true, true, true, true, true, false, false, false] rfl rfl (any_of HT_.out (by kernel_rfl)) (fun _ _ _ h => h) (Or.inr ⟨by rfl, rfl⟩) ?_ ?_
   rotate_left
   ·
    simp only [Act.put, List.setIfInBounds_toArray, List.set_cons_zero, List.set_cons_succ, i64_w, i32_w]
    rfl
   refine pure_ (i := 11) (N := some 28) (v := ?_) (a' := ?_) #[false, true, true, true, true, true, true, true, true, true, true, true, false, false] rfl rfl (any_of HT_.out (by kernel_rfl)) (fun _ _ _ h => h) (Or.inl ⟨by rfl, ?_⟩) ?_ ?_
   rotate_left
   ·
    intro w'
    go_simp
    with_reducible rfl
   rotate_left
   ·
    simp only [Act.put, List.setIfInBounds_toArray, List.set_cons_zero, List.set_cons_succ, i64_w, i32_w]
    rfl
   refine take_ (i := 0) (N := some 17) (v := ?_) (a' := ?_) #[true, true, true, true, true, true, true, true, true, true, true, true, false, false] rfl rfl (take_ofW HT_.out HW_.out (by kernel_rfl)) (fun _ _ _ h => h) (Or.inl ⟨by rfl, ?_⟩) hHeld ?_ ?_
   rotate_left
   ·
    rintro w' ⟨s0, s1, s2⟩
    go_simp
    with_reducible rfl
   rotate_left
   ·
    simp only [Act.put, List.setIfInBounds_toArray, List.set_cons_zero, List.set_cons_succ, i64_w, i32_w]
    rfl
   refine one_ (i := 12) (N := none) #[true, true, true, true, true, true, true, true, true, true, true, true, true, false] rfl rfl (one_of HT_.out (by kernel_rfl)) (by decide) (fun K hK => ?_)
   have hs37 : w36.cell? ⟨gb191, 0, none⟩ = some (.int .i64 0) := (blk_cell BK191.out 0).trans rfl
   have hfs37 := blk_frozen BK191.out 0
   have hns37_1 := NB198_191.out
   have hns37_2 := NB205_191.out
   have hms37_1 := NB191_198.out
   have hms37_2 := NB191_205.out
   have hs38 : w36.cell? ⟨gb191, 1, none⟩ = some (.int .i64 0) := (blk_cell BK191.out 1).trans rfl
   have hfs38 := blk_frozen BK191.out 1
   have hns38_1 := NB198_191.out
   have hns38_2 := NB205_191.out
   have hms38_1 := NB191_198.out
   have hms38_2 := NB191_205.out
   have hs39 : w36.cell? ⟨gb191, 2, none⟩ = some (.slice none 0 0) := (blk_cell BK191.out 2).trans rfl
   have hfs39 := blk_frozen BK191.out 2
   have hns39_1 := NB198_191.out
   have hns39_2 := NB205_191.out
   have hms39_1 := NB191_198.out
   have hms39_2 := NB191_205.out
   refine skip_ (w1 := ?_) (by rfl) rfl ?_ ?_
   rotate_left
   ·
    go_simp
    rfl
   refine hK.out _ _ ⟨((cell_far (p := ⟨gb191, _, none⟩) NB198_191.out _).trans (((cell_far (p := ⟨gb191, _, none⟩) NB198_191.out _).trans (((cell_far (p := ⟨gb191, _, none⟩) NB198_191.out _).trans (hHeld.1)))))), ((cell_far (p := ⟨gb191, _, none⟩) NB198_191.out _).trans (((cell_far (p := ⟨gb191, _, none⟩) NB198_191.out _).trans (((cell_far (p := ⟨gb191, _, none⟩) NB198_191.out _).trans (hHeld.2.1)))))), ((cell_far (p := ⟨gb191, _, none⟩) NB198_191.out _).trans (((cell_far (p := ⟨gb191, _, none⟩) NB198_191.out _).trans (((cell_far (p := ⟨gb191, _, none⟩) NB198_191.out _).trans (hHeld.2.2))))))⟩ (fun hHeld => ?_)
   clear hK K
   refine pure_ (i := 13) (N := some 3) (v := ?_) (a' := ?_) #[true, true, true, true, true, true, true, true, true, true, true, true, true, true] rfl rfl (any_of HT_.out (by kernel_rfl)) (fun _ _ _ h => h) (Or.inl ⟨by rfl, ?_⟩) ?_ ?_
   rotate_left
   ·
    intro w'
    go_simp
    with_reducible rfl
   rotate_left
   ·
    simp only [Act.put, List.setIfInBounds_toArray, List.set_cons_zero, List.set_cons_succ, i64_w, i32_w]
    rfl
   refine done_ (done_of HT_.out (by kernel_rfl)) ?_
   try go_wp2
   refine bodyPost_ret (results_ct rfl _ _ gb191 28 #[.int .i64 t192, .int .i64 t193, .slice Ao28 t194.length co28] (0, 0) _ rfl (by (with_reducible repeat (first | refine blk_drewN ?_ _ | refine blk_drew ?_ | refine blk_alloc ?_ _)); refine blk_put (cs := #[.int .i64 t192, .int .i64 t193, .slice none 0 0]) ?_ 2 _ rfl; (with_reducible repeat (first | refine blk_drewN ?_ _ | refine blk_drew ?_ | refine blk_alloc ?_ _)); refine blk_put (cs := #[.int .i64 t192, .int .i64 0, .slice none 0 0]) ?_ 1 _ rfl; (with_reducible repeat (first | refine blk_drewN ?_ _ | refine blk_drew ?_ | refine blk_alloc ?_ _)); refine blk_put (cs := #[.int .i64 0, .int .i64 0, .slice none 0 0]) ?_ 0 _ rfl; (with_reducible repeat (first | refine blk_drewN ?_ _ | refine blk_drew ?_ | refine blk_alloc ?_ _)); exact BK191.out) Try.underlying28 rfl (by kernel_rfl)) rfl ?_
   exact ⟨.slice Ao28 t194.length co28, by first | rfl | (simp [errW_none, errW_some] <;> rfl) | (simp [*, errW_none, errW_some] <;> rfl), by (with_reducible repeat (first | apply Kd.V_alloc | apply Kd.V_drewN | apply Kd.V_drew)); exact Kd.V_mono (Kd.V_far (p := ⟨gb191, 2, none⟩) (Kd.V_far (p := ⟨gb191, 1, none⟩) (Kd.V_far (p := ⟨gb191, 0, none⟩) (Kd.V_mono HO196.out (fun k_ hk => (⟨hk, hk.2.1⟩ : _ ∧ k_ ≠ gb191))) (fun _ hk => hk.2) (.int .i64 t192)) (fun _ hk => hk.2) (.int .i64 t193)) (fun _ hk => hk.2) (.slice Ao28 t194.length co28)) (fun _ hk => hk.1.1), by repeat (first | (with_reducible first | exact HB.out | apply below_alloc | apply pw_below_drewN | apply below_drew1 | refine below_set ?_ GE191.out | refine below_set ?_ GE198.out | refine below_set ?_ GE205.out) | exact HB.out)⟩
 ·
  rw [if_neg c4] at H
  have c4b0 : (t197 == 0) = false := beq_eq_false_iff_ne.mpr c4
  have c4b1 : (t197 != 0) = true := bne_iff_ne.mpr c4
  simp only [Option.some.injEq, Prod.mk.injEq] at H
  obtain ⟨rfl, rfl, rfl, rfl⟩ := H
  go_enter Try.func11, Try.ntmps11
  try go_wp2_with (first | ((with_reducible refine gate_dst (N := 2) rfl ?_); refine box_event ?hg (N := 2) ?hd (cs := #[.int .i64 0, .int .i64 0, .slice none 0 0]) (t := 28) ?hr ?_; (case hd => rfl); (case hg => rfl); (case hr => first | (go_simp; done) | (go_simp; rfl)); intro gb191 hg w40 hbox hb; have n0_ := Aside0.mk (below_step (by repeat (first | (with_reducible first | exact HB.out | apply below_alloc | apply pw_below_drewN | apply below_drew1) | exact HB.out)) hb); have n1_ := Aside0.mk (hbox); have n2_ := Aside0.mk ((by rw [hg]; exact (below_size (by repeat (first | (with_reducible first | exact HB.out | apply below_alloc | apply pw_below_drewN | apply below_drew1) | exact HB.out))) : w.heap.size ≤ gb191)); have n3_ := Aside0.mk ((by rw [hg]; exact (below_size (by repeat (first | (with_reducible first | exact HB.out | apply below_alloc | apply pw_below_drewN | apply below_drew1) | exact HB.out))) : w.heap.size ≤ gb191)); clear HB; have HB := n0_; have BK191 := n1_; have GW191 := n2_; have GE191 := n3_; clear n0_ n1_ n2_ n3_; clear hb hbox hg) | ((with_reducible refine gate_callee (f := 22) rfl ?_); refine goesL_ (some 10) rfl rfl Try.func22 (by kernel_rfl) rfl #[.string a0] rfl (by (try simp only [List.map_toArray, List.map_cons, List.map_nil]); first | done | rfl | (simp only [List.length_drop, List.length_take]; rfl)) ?_; (with_reducible refine (expr_Parse.calls k a0 t192 t193 t194 t197 _ A2.out).mono ?_); rintro e w41 ⟨v195, rfl, ho0, hb⟩; refine ⟨_, rfl, ?_⟩; have n0_ := Aside0.mk (Kd.V_lower (Kd.V_mono (ok' := fun k_ => (w.heap.size ≤ k_) ∧ k_ ≠ gb191) ho0 (fun k_ hk_ => ⟨(Nat.le_trans (below_size (by repeat (first | (with_reducible first | exact HB.out | apply below_alloc | apply pw_below_drewN | apply below_drew1 | refine below_set ?_ GE191.out) | exact HB.out))) hk_), (Kd.freshB (g := gb191) (o := .cells #[.int .i64 0, .int .i64 0, .slice none 0 0] 28 (0, 0)) (by (with_reducible repeat (first | refine blk_drewN ?_ _ | refine blk_drew ?_ | refine blk_alloc ?_ _)); exact BK191.out) k_ hk_)⟩)) (below_size (by repeat (first | (with_reducible first | exact HB.out | apply below_alloc | apply pw_below_drewN | apply below_drew1 | refine below_set ?_ GE191.out) | exact HB.out)))); have n1_ := Aside0.mk (blk_below (g := gb191) (o := .cells #[.int .i64 0, .int .i64 0, .slice none 0 0] 28 (0, 0)) (by (with_reducible repeat (first | refine blk_drewN ?_ _ | refine blk_drew ?_ | refine blk_alloc ?_ _)); exact BK191.out) hb); have n2_ := Aside0.mk (below_step (by repeat (first | (with_reducible first | exact HB.out | apply below_alloc | apply pw_below_drewN | apply below_drew1 | refine below_set ?_ GE191.out) | exact HB.out)) hb); clear BK191; clear HB; have HO196 := n0_; have BK191 := n1_; have HB := n2_; clear n0_ n1_ n2_; (try clear hb); (try clear hb2); (try clear hk); (try clear hi); (try clear ho0)) | ((with_reducible refine gate_dst (N := 4) rfl ?_); refine box_event ?hg (N := 4) ?hd (cs := #[.int .i64 0, .int .i64 0, .slice none 0 0]) (t := 28) ?hr ?_; (case hd => rfl); (case hg => rfl); (case hr => first | (go_simp; done) | (go_simp; rfl)); intro gb198 hg w42 hbox hb; have n0_ := Aside0.mk (Kd.V_below (Kd.V_elderB (by (with_reducible repeat (first | apply Kd.V_alloc | apply Kd.V_drewN | apply Kd.V_drew)); exact HO196.out) gb198 (Nat.le_of_eq hg.symm)) hb); have n1_ := Aside0.mk (blk_below (g := gb191) (o := .cells #[.int .i64 0, .int .i64 0, .slice none 0 0] 28 (0, 0)) (by (with_reducible repeat (first | refine blk_drewN ?_ _ | refine blk_drew ?_ | refine blk_alloc ?_ _)); exact BK191.out) hb); have n2_ := Aside0.mk (below_step (by repeat (first | (with_reducible first | exact HB.out | apply below_alloc | apply pw_below_drewN | apply below_drew1 | refine below_set ?_ GE191.out) | exact HB.out)) hb); have n3_ := Aside0.mk (hbox); have n4_ := Aside0.mk ((by rw [hg]; exact (below_size (by repeat (first | (with_reducible first | exact HB.out | apply below_alloc | apply pw_below_drewN | apply below_drew1 | refine below_set ?_ GE191.out) | exact HB.out))) : w.heap.size ≤ gb198)); have n5_ := Aside0.mk ((by rw [hg]; exact (below_size (by repeat (first | (with_reducible first | exact HB.out | apply below_alloc | apply pw_below_drewN | apply below_drew1 | refine below_set ?_ GE191.out) | exact HB.out))) : w.heap.size ≤ gb198)); have n6_ := Aside0.mk ((by rw [hg]; exact Nat.ne_of_lt (blk_lt (g := gb191) (o := .cells #[.int .i64 0, .int .i64 0, .slice none 0 0] 28 (0, 0)) (by (with_reducible repeat (first | refine blk_drewN ?_ _ | refine blk_drew ?_ | refine blk_alloc ?_ _)); exact BK191.out)) : gb191 ≠ gb198)); have n7_ := Aside0.mk ((by rw [hg]; exact Nat.ne_of_gt (blk_lt (g := gb191) (o := .cells #[.int .i64 0, .int .i64 0, .slice none 0 0] 28 (0, 0)) (by (with_reducible repeat (first | refine blk_drewN ?_ _ | refine blk_drew ?_ | refine blk_alloc ?_ _)); exact BK191.out)) : gb198 ≠ gb191)); clear HO196; clear BK191; clear HB; have HO196 := n0_; have BK191 := n1_; have HB := n2_; have BK198 := n3_; have GW198 := n4_; have GE198 := n5_; have NB191_198 := n6_; have NB198_191 := n7_; clear n0_ n1_ n2_ n3_ n4_ n5_ n6_ n7_; clear hb hbox hg; have hnb43 := NB198_191.out; have hnc43 := NB191_198.out; have hcz44_0 : w42.cell? ⟨gb198, 0, none⟩ = some (.int .i64 0) := (blk_cell BK198.out 0).trans rfl; have hcz44_1 : w42.cell? ⟨gb198, 1, none⟩ = some (.int .i64 0) := (blk_cell BK198.out 1).trans rfl; have hcz44_2 : w42.cell? ⟨gb198, 2, none⟩ = some (.slice none 0 0) := (blk_cell BK198.out 2).trans rfl; have hfz44_0 := blk_frozen BK198.out 0; have hfz44_1 := blk_frozen BK198.out 1; have hfz44_2 := blk_frozen BK198.out 2; obtain ⟨Ao45, co45, eo45⟩ := Kd.V_slice HO196.out; subst eo45) | ((with_reducible refine gate_callee (f := 22) rfl ?_); refine goesL_ (some 14) rfl rfl Try.func22 (by kernel_rfl) rfl #[.string (⟨#[97]⟩ : ByteArray)] rfl (by (try simp only [List.map_toArray, List.map_cons, List.map_nil]); first | done | rfl | (simp only [List.length_drop, List.length_take]; rfl)) ?_; (with_reducible refine (expr_Parse.calls k (⟨#[97]⟩ : ByteArray) t199 t200 t201 t204 _ A3.out).mono ?_); rintro e w46 ⟨v202, rfl, ho0, hb⟩; refine ⟨_, rfl, ?_⟩; have n0_ := Aside0.mk (Kd.V_below (by (with_reducible repeat (first | apply Kd.V_alloc | apply Kd.V_drewN | apply Kd.V_drew)); exact (Kd.V_mono (Kd.V_far (p := ⟨gb198, 2, none⟩) (Kd.V_far (p := ⟨gb198, 1, none⟩) (Kd.V_far (p := ⟨gb198, 0, none⟩) (Kd.V_mono HO196.out (fun k_ hk => (⟨hk, hk.2⟩ : _ ∧ k_ ≠ gb198))) (fun _ hk => hk.2) (.int .i64 t192)) (fun _ hk => hk.2) (.int .i64 t193)) (fun _ hk => hk.2) (.slice Ao45 t194.length co45)) (fun _ h_ => h_.1))) hb); have n1_ := Aside0.mk (Kd.V_lower (Kd.V_mono (ok' := fun k_ => (w.heap.size ≤ k_) ∧ k_ ≠ gb191 ∧ k_ ≠ gb198) ho0 (fun k_ hk_ => ⟨(Nat.le_trans (below_size (by repeat (first | (with_reducible first | exact HB.out | apply below_alloc | apply pw_below_drewN | apply below_drew1 | refine below_set ?_ GE191.out | refine below_set ?_ GE198.out) | exact HB.out))) hk_), (Kd.freshB (g := gb191) (o := .cells #[.int .i64 0, .int .i64 0, .slice none 0 0] 28 (0, 0)) (by (with_reducible repeat (first | refine blk_drewN ?_ _ | refine blk_drew ?_ | refine blk_alloc ?_ _)); refine blk_far ?_ NB191_198.out _; (with_reducible repeat (first | refine blk_drewN ?_ _ | refine blk_drew ?_ | refine blk_alloc ?_ _)); refine blk_far ?_ NB191_198.out _; (with_reducible repeat (first | refine blk_drewN ?_ _ | refine blk_drew ?_ | refine blk_alloc ?_ _)); refine blk_far ?_ NB191_198.out _; (with_reducible repeat (first | refine blk_drewN ?_ _ | refine blk_drew ?_ | refine blk_alloc ?_ _)); exact BK191.out) k_ hk_), (Kd.freshB (g := gb198) (o := .cells #[.int .i64 t192, .int .i64 t193, .slice Ao45 t194.length co45] 28 (0, 0)) (by (with_reducible repeat (first | refine blk_drewN ?_ _ | refine blk_drew ?_ | refine blk_alloc ?_ _)); refine blk_put (cs := #[.int .i64 t192, .int .i64 t193, .slice none 0 0]) ?_ 2 _ rfl; (with_reducible repeat (first | refine blk_drewN ?_ _ | refine blk_drew ?_ | refine blk_alloc ?_ _)); refine blk_put (cs := #[.int .i64 t192, .int .i64 0, .slice none 0 0]) ?_ 1 _ rfl; (with_reducible repeat (first | refine blk_drewN ?_ _ | refine blk_drew ?_ | refine blk_alloc ?_ _)); refine blk_put (cs := #[.int .i64 0, .int .i64 0, .slice none 0 0]) ?_ 0 _ rfl; (with_reducible repeat (first | refine blk_drewN ?_ _ | refine blk_drew ?_ | refine blk_alloc ?_ _)); exact BK198.out) k_ hk_)⟩)) (below_size (by repeat (first | (with_reducible first | exact HB.out | apply below_alloc | apply pw_below_drewN | apply below_drew1 | refine below_set ?_ GE191.out | refine below_set ?_ GE198.out) | exact HB.out)))); have n2_ := Aside0.mk (blk_below (g := gb191) (o := .cells #[.int .i64 0, .int .i64 0, .slice none 0 0] 28 (0, 0)) (by (with_reducible repeat (first | refine blk_drewN ?_ _ | refine blk_drew ?_ | refine blk_alloc ?_ _)); refine blk_far ?_ NB191_198.out _; (with_reducible repeat (first | refine blk_drewN ?_ _ | refine blk_drew ?_ | refine blk_alloc ?_ _)); refine blk_far ?_ NB191_198.out _; (with_reducible repeat (first | refine blk_drewN ?_ _ | refine blk_drew ?_ | refine blk_alloc ?_ _)); refine blk_far ?_ NB191_198.out _; (with_reducible repeat (first | refine blk_drewN ?_ _ | refine blk_drew ?_ | refine blk_alloc ?_ _)); exact BK191.out) hb); have n3_ := Aside0.mk (blk_below (g := gb198) (o := .cells #[.int .i64 t192, .int .i64 t193, .slice Ao45 t194.length co45] 28 (0, 0)) (by (with_reducible repeat (first | refine blk_drewN ?_ _ | refine blk_drew ?_ | refine blk_alloc ?_ _)); refine blk_put (cs := #[.int .i64 t192, .int .i64 t193, .slice none 0 0]) ?_ 2 _ rfl; (with_reducible repeat (first | refine blk_drewN ?_ _ | refine blk_drew ?_ | refine blk_alloc ?_ _)); refine blk_put (cs := #[.int .i64 t192, .int .i64 0, .slice none 0 0]) ?_ 1 _ rfl; (with_reducible repeat (first | refine blk_drewN ?_ _ | refine blk_drew ?_ | refine blk_alloc ?_ _)); refine blk_put (cs := #[.int .i64 0, .int .i64 0, .slice none 0 0]) ?_ 0 _ rfl; (with_reducible repeat (first | refine blk_drewN ?_ _ | refine blk_drew ?_ | refine blk_alloc ?_ _)); exact BK198.out) hb); have n4_ := Aside0.mk (below_step (by repeat (first | (with_reducible first | exact HB.out | apply below_alloc | apply pw_below_drewN | apply below_drew1 | refine below_set ?_ GE191.out | refine below_set ?_ GE198.out) | exact HB.out)) hb); clear HO196; clear BK191; clear BK198; clear HB; have HO196 := n0_; have HO203 := n1_; have BK191 := n2_; have BK198 := n3_; have HB := n4_; clear n0_ n1_ n2_ n3_ n4_; (try clear hb); (try clear hb2); (try clear hk); (try clear hi); (try clear ho0)) | ((with_reducible refine gate_dst (N := 6) rfl ?_); refine box_event ?hg (N := 6) ?hd (cs := #[.int .i64 0, .int .i64 0, .slice none 0 0]) (t := 28) ?hr ?_; (case hd => rfl); (case hg => rfl); (case hr => first | (go_simp; done) | (go_simp; rfl)); intro gb205 hg w47 hbox hb; have n0_ := Aside0.mk (Kd.V_below (Kd.V_elderB (by (with_reducible repeat (first | apply Kd.V_alloc | apply Kd.V_drewN | apply Kd.V_drew)); exact HO196.out) gb205 (Nat.le_of_eq hg.symm)) hb); have n1_ := Aside0.mk (Kd.V_below (Kd.V_elderB (by (with_reducible repeat (first | apply Kd.V_alloc | apply Kd.V_drewN | apply Kd.V_drew)); exact HO203.out) gb205 (Nat.le_of_eq hg.symm)) hb); have n2_ := Aside0.mk (blk_below (g := gb191) (o := .cells #[.int .i64 0, .int .i64 0, .slice none 0 0] 28 (0, 0)) (by (with_reducible repeat (first | refine blk_drewN ?_ _ | refine blk_drew ?_ | refine blk_alloc ?_ _)); exact BK191.out) hb); have n3_ := Aside0.mk (blk_below (g := gb198) (o := .cells #[.int .i64 t192, .int .i64 t193, .slice Ao45 t194.length co45] 28 (0, 0)) (by (with_reducible repeat (first | refine blk_drewN ?_ _ | refine blk_drew ?_ | refine blk_alloc ?_ _)); exact BK198.out) hb); have n4_ := Aside0.mk (below_step (by repeat (first | (with_reducible first | exact HB.out | apply below_alloc | apply pw_below_drewN | apply below_drew1 | refine below_set ?_ GE191.out | refine below_set ?_ GE198.out) | exact HB.out)) hb); have n5_ := Aside0.mk (hbox); have n6_ := Aside0.mk ((by rw [hg]; exact (below_size (by repeat (first | (with_reducible first | exact HB.out | apply below_alloc | apply pw_below_drewN | apply below_drew1 | refine below_set ?_ GE191.out | refine below_set ?_ GE198.out) | exact HB.out))) : w.heap.size ≤ gb205)); have n7_ := Aside0.mk ((by rw [hg]; exact (below_size (by repeat (first | (with_reducible first | exact HB.out | apply below_alloc | apply pw_below_drewN | apply below_drew1 | refine below_set ?_ GE191.out | refine below_set ?_ GE198.out) | exact HB.out))) : w.heap.size ≤ gb205)); have n8_ := Aside0.mk ((by rw [hg]; exact Nat.ne_of_lt (blk_lt (g := gb191) (o := .cells #[.int .i64 0, .int .i64 0, .slice none 0 0] 28 (0, 0)) (by (with_reducible repeat (first | refine blk_drewN ?_ _ | refine blk_drew ?_ | refine blk_alloc ?_ _)); exact BK191.out)) : gb191 ≠ gb205)); have n9_ := Aside0.mk ((by rw [hg]; exact Nat.ne_of_gt (blk_lt (g := gb191) (o := .cells #[.int .i64 0, .int .i64 0, .slice none 0 0] 28 (0, 0)) (by (with_reducible repeat (first | refine blk_drewN ?_ _ | refine blk_drew ?_ | refine blk_alloc ?_ _)); exact BK191.out)) : gb205 ≠ gb191)); have n10_ := Aside0.mk ((by rw [hg]; exact Nat.ne_of_lt (blk_lt (g := gb198) (o := .cells #[.int .i64 t192, .int .i64 t193, .slice Ao45 t194.length co45] 28 (0, 0)) (by (with_reducible repeat (first | refine blk_drewN ?_ _ | refine blk_drew ?_ | refine blk_alloc ?_ _)); exact BK198.out)) : gb198 ≠ gb205)); have n11_ := Aside0.mk ((by rw [hg]; exact Nat.ne_of_gt (blk_lt (g := gb198) (o := .cells #[.int .i64 t192, .int .i64 t193, .slice Ao45 t194.length co45] 28 (0, 0)) (by (with_reducible repeat (first | refine blk_drewN ?_ _ | refine blk_drew ?_ | refine blk_alloc ?_ _)); exact BK198.out)) : gb205 ≠ gb198)); clear HO196; clear HO203; clear BK191; clear BK198; clear HB; have HO196 := n0_; have HO203 := n1_; have BK191 := n2_; have BK198 := n3_; have HB := n4_; have BK205 := n5_; have GW205 := n6_; have GE205 := n7_; have NB191_205 := n8_; have NB205_191 := n9_; have NB198_205 := n10_; have NB205_198 := n11_; clear n0_ n1_ n2_ n3_ n4_ n5_ n6_ n7_ n8_ n9_ n10_ n11_; clear hb hbox hg; have hnb48 := NB205_191.out; have hnc48 := NB191_205.out; have hnb49 := NB205_198.out; have hnc49 := NB198_205.out; have hcz50_0 : w47.cell? ⟨gb205, 0, none⟩ = some (.int .i64 0) := (blk_cell BK205.out 0).trans rfl; have hcz50_1 : w47.cell? ⟨gb205, 1, none⟩ = some (.int .i64 0) := (blk_cell BK205.out 1).trans rfl; have hcz50_2 : w47.cell? ⟨gb205, 2, none⟩ = some (.slice none 0 0) := (blk_cell BK205.out 2).trans rfl; have hfz50_0 := blk_frozen BK205.out 0; have hfz50_1 := blk_frozen BK205.out 1; have hfz50_2 := blk_frozen BK205.out 2; obtain ⟨Ao51, co51, eo51⟩ := Kd.V_slice HO203.out; subst eo51))
  have n0_ : Aside0 (Kd.V k28 28 (((w47.setCell ⟨gb205, 0, none⟩ (.int .i64 t199)).setCell ⟨gb205, 1, none⟩ (.int .i64 t200)).setCell ⟨gb205, 2, none⟩ (.slice Ao51 t201.length co51)) w.heap.size (fun k_ => (w.heap.size ≤ k_) ∧ k_ ≠ gb191 ∧ k_ ≠ gb198 ∧ k_ ≠ gb205) (.slice Ao45 t194.length co45) t194) := ⟨by (with_reducible repeat (first | apply Kd.V_alloc | apply Kd.V_drewN | apply Kd.V_drew)); exact Kd.V_mono (Kd.V_far (p := ⟨gb205, 2, none⟩) (Kd.V_far (p := ⟨gb205, 1, none⟩) (Kd.V_far (p := ⟨gb205, 0, none⟩) (Kd.V_mono HO196.out (fun k_ hk => (⟨hk, hk.2⟩ : _ ∧ k_ ≠ gb205))) (fun _ hk => hk.2) (.int .i64 t199)) (fun _ hk => hk.2) (.int .i64 t200)) (fun _ hk => hk.2) (.slice Ao51 t201.length co51)) (fun _ hk => ⟨hk.1.1.1.1, ⟨hk.1.1.1.2, ⟨hk.1.1.2, hk.1.2⟩⟩⟩)⟩
  have n1_ : Aside0 (Kd.V k28 28 (((w47.setCell ⟨gb205, 0, none⟩ (.int .i64 t199)).setCell ⟨gb205, 1, none⟩ (.int .i64 t200)).setCell ⟨gb205, 2, none⟩ (.slice Ao51 t201.length co51)) w.heap.size (fun k_ => (w.heap.size ≤ k_) ∧ k_ ≠ gb191 ∧ k_ ≠ gb198 ∧ k_ ≠ gb205) (.slice Ao51 t201.length co51) t201) := ⟨by (with_reducible repeat (first | apply Kd.V_alloc | apply Kd.V_drewN | apply Kd.V_drew)); exact Kd.V_mono (Kd.V_far (p := ⟨gb205, 2, none⟩) (Kd.V_far (p := ⟨gb205, 1, none⟩) (Kd.V_far (p := ⟨gb205, 0, none⟩) (Kd.V_mono HO203.out (fun k_ hk => (⟨hk, hk.2⟩ : _ ∧ k_ ≠ gb205))) (fun _ hk => hk.2) (.int .i64 t199)) (fun _ hk => hk.2) (.int .i64 t200)) (fun _ hk => hk.2) (.slice Ao51 t201.length co51)) (fun _ hk => ⟨hk.1.1.1, ⟨hk.1.1.2.1, ⟨hk.1.1.2.2, hk.1.2⟩⟩⟩)⟩
  have n2_ : Aside0 ((((w47.setCell ⟨gb205, 0, none⟩ (.int .i64 t199)).setCell ⟨gb205, 1, none⟩ (.int .i64 t200)).setCell ⟨gb205, 2, none⟩ (.slice Ao51 t201.length co51)).heap[gb191]? = some (.cells #[.int .i64 0, .int .i64 0, .slice none 0 0] 28 (0, 0))) := ⟨by (with_reducible repeat (first | refine blk_drewN ?_ _ | refine blk_drew ?_ | refine blk_alloc ?_ _)); refine blk_far ?_ NB191_205.out _; (with_reducible repeat (first | refine blk_drewN ?_ _ | refine blk_drew ?_ | refine blk_alloc ?_ _)); refine blk_far ?_ NB191_205.out _; (with_reducible repeat (first | refine blk_drewN ?_ _ | refine blk_drew ?_ | refine blk_alloc ?_ _)); refine blk_far ?_ NB191_205.out _; (with_reducible repeat (first | refine blk_drewN ?_ _ | refine blk_drew ?_ | refine blk_alloc ?_ _)); exact BK191.out⟩
  have n3_ : Aside0 ((((w47.setCell ⟨gb205, 0, none⟩ (.int .i64 t199)).setCell ⟨gb205, 1, none⟩ (.int .i64 t200)).setCell ⟨gb205, 2, none⟩ (.slice Ao51 t201.length co51)).heap[gb198]? = some (.cells #[.int .i64 t192, .int .i64 t193, .slice Ao45 t194.length co45] 28 (0, 0))) := ⟨by (with_reducible repeat (first | refine blk_drewN ?_ _ | refine blk_drew ?_ | refine blk_alloc ?_ _)); refine blk_far ?_ NB198_205.out _; (with_reducible repeat (first | refine blk_drewN ?_ _ | refine blk_drew ?_ | refine blk_alloc ?_ _)); refine blk_far ?_ NB198_205.out _; (with_reducible repeat (first | refine blk_drewN ?_ _ | refine blk_drew ?_ | refine blk_alloc ?_ _)); refine blk_far ?_ NB198_205.out _; (with_reducible repeat (first | refine blk_drewN ?_ _ | refine blk_drew ?_ | refine blk_alloc ?_ _)); exact BK198.out⟩
  have n4_ : Aside0 ((((w47.setCell ⟨gb205, 0, none⟩ (.int .i64 t199)).setCell ⟨gb205, 1, none⟩ (.int .i64 t200)).setCell ⟨gb205, 2, none⟩ (.slice Ao51 t201.length co51)).heap[gb205]? = some (.cells #[.int .i64 t199, .int .i64 t200, .slice Ao51 t201.length co51] 28 (0, 0))) := ⟨by (with_reducible repeat (first | refine blk_drewN ?_ _ | refine blk_drew ?_ | refine blk_alloc ?_ _)); refine blk_put (cs := #[.int .i64 t199, .int .i64 t200, .slice none 0 0]) ?_ 2 _ rfl; (with_reducible repeat (first | refine blk_drewN ?_ _ | refine blk_drew ?_ | refine blk_alloc ?_ _)); refine blk_put (cs := #[.int .i64 t199, .int .i64 0, .slice none 0 0]) ?_ 1 _ rfl; (with_reducible repeat (first | refine blk_drewN ?_ _ | refine blk_drew ?_ | refine blk_alloc ?_ _)); refine blk_put (cs := #[.int .i64 0, .int .i64 0, .slice none 0 0]) ?_ 0 _ rfl; (with_reducible repeat (first | refine blk_drewN ?_ _ | refine blk_drew ?_ | refine blk_alloc ?_ _)); exact BK205.out⟩
  have n5_ : Aside0 (Below w.heap.size w (((w47.setCell ⟨gb205, 0, none⟩ (.int .i64 t199)).setCell ⟨gb205, 1, none⟩ (.int .i64 t200)).setCell ⟨gb205, 2, none⟩ (.slice Ao51 t201.length co51))) := ⟨by repeat (first | (with_reducible first | exact HB.out | apply below_alloc | apply pw_below_drewN | apply below_drew1 | refine below_set ?_ GE191.out | refine below_set ?_ GE198.out | refine below_set ?_ GE205.out) | exact HB.out)⟩
  (try clear HO196)
  (try clear HO203)
  (try clear BK191)
  (try clear BK198)
  (try clear BK205)
  (try clear HB)
  generalize (((w47.setCell ⟨gb205, 0, none⟩ (.int .i64 t199)).setCell ⟨gb205, 1, none⟩ (.int .i64 t200)).setCell ⟨gb205, 2, none⟩ (.slice Ao51 t201.length co51)) = w52 at n0_ n1_ n2_ n3_ n4_ n5_ ⊢
  have HO196 := n0_
  have HO203 := n1_
  have BK191 := n2_
  have BK198 := n3_
  have BK205 := n4_
  have HB := n5_
  clear n0_ n1_ n2_ n3_ n4_ n5_
  have n0_ := Aside0.mk (Kd.V_drew HO196.out)
  have n1_ := Aside0.mk (Kd.V_drew HO203.out)
  have n2_ := Aside0.mk (blk_drew BK191.out)
  have n3_ := Aside0.mk (blk_drew BK198.out)
  have n4_ := Aside0.mk (blk_drew BK205.out)
  have n5_ := Aside0.mk (below_drew1 HB.out)
  clear HO196
  clear HO203
  clear BK191
  clear BK198
  clear BK205
  clear HB
  have HO196 := n0_
  have HO203 := n1_
  have BK191 := n2_
  have BK198 := n3_
  have BK205 := n4_
  have HB := n5_
  clear n0_ n1_ n2_ n3_ n4_ n5_
  refine start_ (n := 14) (S := fun w' => w'.cell? ⟨gb198, 0, none⟩ = some (.int .i64 t192) ∧ w'.cell? ⟨gb198, 1, none⟩ = some (.int .i64 t193) ∧ w'.cell? ⟨gb198, 2, none⟩ = some (.slice Ao45 t194.length co45)) (ds := []) #[false, false, false, false, false, false, false, false, false, false, false, false, false, false] (by kernel_rfl) rfl rfl ⟨(blk_cell BK198.out 0).trans rfl, (blk_cell BK198.out 1).trans rfl, (blk_cell BK198.out 2).trans rfl⟩ (fun hHeld => ?_); refine with_tabW bobbinetkeep_exprOf.tab3 bobbinetkeep_exprOf.bits3 (fun HT_ HW_ => ?_)
  generalize w52.drew = w53 at HO196 HO203 BK191 BK198 BK205 HB hHeld ⊢
  refine pure_ (i := 1) (N := some 18) (v := ?_) (a' := ?_) #[false, true, false, false, false, false, false, false, false, false, false, false, false, false] rfl rfl (any_of HT_.out (by kernel_rfl)) (fun _ _ _ h => h) (Or.inl ⟨by rfl, ?_⟩) ?_ ?_
  rotate_left
  ·
   intro w'
   go_simp
   with_reducible rfl
  rotate_left
  ·
   simp only [Act.put, List.setIfInBounds_toArray, List.set_cons_zero, List.set_cons_succ, i64_w, i32_w]
   rfl
  refine pure_ (i := 2) (N := some 19) (v := ?_) (a' := ?_) #[false, true, true, false, false, false, false, false, false, false, false, false, false, false] rfl rfl (any_of HT_.out (by kernel_rfl)) (fun _ _ _ h => h) (Or.inl ⟨by rfl, ?_⟩) ?_ ?_
  rotate_left
  ·
   intro w'
   go_simp
   with_reducible rfl
  rotate_left
  ·
   simp only [Act.put, List.setIfInBounds_toArray, List.set_cons_zero, List.set_cons_succ, i64_w, i32_w]
   rfl
  refine pure_ (i := 3) (N := some 20) (v := ?_) (a' := ?_) #[false, true, true, true, false, false, false, false, false, false, false, false, false, false] rfl rfl (any_of HT_.out (by kernel_rfl)) (fun _ _ _ h => h) (Or.inl ⟨by rfl, ?_⟩) ?_ ?_
  rotate_left
  ·
   intro w'
   go_simp
   with_reducible rfl
  rotate_left
  ·
   simp only [Act.put, List.setIfInBounds_toArray, List.set_cons_zero, List.set_cons_succ, i64_w, i32_w]
   rfl
  refine pure_ (i := 4) (N := some 21) (v := undef) (a' := ?_) #[false, true, true, true, true, false, false, false, false, false, false, false, false, false] rfl rfl (any_of HT_.out (by kernel_rfl)) (fun _ _ _ h => h) (Or.inr ⟨by rfl, rfl⟩) ?_ ?_
  rotate_left
  ·
   simp only [Act.put, List.setIfInBounds_toArray, List.set_cons_zero, List.set_cons_succ, i64_w, i32_w]
   rfl
  refine pure_ (i := 5) (N := some 22) (v := undef) (a' := ?_) #[false, true, true, true, true, true, false, false, false, false, false, false, false, false] rfl rfl (any_of HT_.out (by kernel_rfl)) (fun _ _ _ h => h) (Or.inr ⟨by rfl, rfl⟩) ?_ ?_
  rotate_left
  ·
   simp only [Act.put, List.setIfInBounds_toArray, List.set_cons_zero, List.set_cons_succ, i64_w, i32_w]
   rfl
  refine pure_ (i := 6) (N := some 23) (v := ?_) (a' := ?_) #[false, true, true, true, true, true, true, false, false, false, false, false, false, false] rfl rfl (any_of HT_.out (by kernel_rfl)) (fun _ _ _ h => h) (Or.inl ⟨by rfl, ?_⟩) ?_ ?_
  rotate_left
  ·
   intro w'
   go_simp
   with_reducible rfl
  rotate_left
  ·
   simp only [Act.put, List.setIfInBounds_toArray, List.set_cons_zero, List.set_cons_succ, i64_w, i32_w]
   rfl
  refine pure_ (i := 7) (N := some 24) (v := ?_) (a' := ?_) #[false, true, true, true, true, true, true, true, false, false, false, false, false, false] rfl rfl (any_of HT_.out (by kernel_rfl)) (fun _ _ _ h => h) (Or.inl ⟨by rfl, ?_⟩) ?_ ?_
  rotate_left
  ·
   intro w'
   go_simp
   with_reducible rfl
  rotate_left
  ·
   simp only [Act.put, List.setIfInBounds_toArray, List.set_cons_zero, List.set_cons_succ, i64_w, i32_w]
   rfl
  refine pure_ (i := 8) (N := some 25) (v := undef) (a' := ?_) #[false, true, true, true, true, true, true, true, true, false, false, false, false, false] rfl rfl (any_of HT_.out (by kernel_rfl)) (fun _ _ _ h => h) (Or.inr ⟨by rfl, rfl⟩) ?_ ?_
  rotate_left
  ·
   simp only [Act.put, List.setIfInBounds_toArray, List.set_cons_zero, List.set_cons_succ, i64_w, i32_w]
   rfl
  refine pure_ (i := 9) (N := some 26) (v := undef) (a' := ?_) #[false, true, true, true, true, true, true, true, true, true, false, false, false, false] rfl rfl (any_of HT_.out (by kernel_rfl)) (fun _ _ _ h => h) (Or.inr ⟨by rfl, rfl⟩) ?_ ?_
  rotate_left
  ·
   simp only [Act.put, List.setIfInBounds_toArray, List.set_cons_zero, List.set_cons_succ, i64_w, i32_w]
   rfl
  refine pure_ (i := 10) (N := some 27) (v := undef) (a' := ?_) #[false, true, true, true, true, true, true, true, true, true, true, false, false, false] rfl rfl (any_of HT_.out (by kernel_rfl)) (fun _ _ _ h => h) (Or.inr ⟨by rfl, rfl⟩) ?_ ?_
  rotate_left
  ·
   simp only [Act.put, List.setIfInBounds_toArray, List.set_cons_zero, List.set_cons_succ, i64_w, i32_w]
   rfl
  refine pure_ (i := 11) (N := some 28) (v := ?_) (a' := ?_) #[false, true, true, true, true, true, true, true, true, true, true, true, false, false] rfl rfl (any_of HT_.out (by kernel_rfl)) (fun _ _ _ h => h) (Or.inl ⟨by rfl, ?_⟩) ?_ ?_
  rotate_left
  ·
   intro w'
   go_simp
   with_reducible rfl
  rotate_left
  ·
   simp only [Act.put, List.setIfInBounds_toArray, List.set_cons_zero, List.set_cons_succ, i64_w, i32_w]
   rfl
  refine take_ (i := 0) (N := some 17) (v := ?_) (a' := ?_) #[true, true, true, true, true, true, true, true, true, true, true, true, false, false] rfl rfl (take_ofW HT_.out HW_.out (by kernel_rfl)) (fun _ _ _ h => h) (Or.inl ⟨by rfl, ?_⟩) hHeld ?_ ?_
  rotate_left
  ·
   rintro w' ⟨s0, s1, s2⟩
   go_simp
   with_reducible rfl
  rotate_left
  ·
   simp only [Act.put, List.setIfInBounds_toArray, List.set_cons_zero, List.set_cons_succ, i64_w, i32_w]
   rfl
  refine one_ (i := 12) (N := none) #[true, true, true, true, true, true, true, true, true, true, true, true, true, false] rfl rfl (one_of HT_.out (by kernel_rfl)) (by decide) (fun K hK => ?_)
  have hs54 : w53.cell? ⟨gb191, 0, none⟩ = some (.int .i64 0) := (blk_cell BK191.out 0).trans rfl
  have hfs54 := blk_frozen BK191.out 0
  have hns54_1 := NB198_191.out
  have hns54_2 := NB205_191.out
  have hms54_1 := NB191_198.out
  have hms54_2 := NB191_205.out
  have hs55 : w53.cell? ⟨gb191, 1, none⟩ = some (.int .i64 0) := (blk_cell BK191.out 1).trans rfl
  have hfs55 := blk_frozen BK191.out 1
  have hns55_1 := NB198_191.out
  have hns55_2 := NB205_191.out
  have hms55_1 := NB191_198.out
  have hms55_2 := NB191_205.out
  have hs56 : w53.cell? ⟨gb191, 2, none⟩ = some (.slice none 0 0) := (blk_cell BK191.out 2).trans rfl
  have hfs56 := blk_frozen BK191.out 2
  have hns56_1 := NB198_191.out
  have hns56_2 := NB205_191.out
  have hms56_1 := NB191_198.out
  have hms56_2 := NB191_205.out
  refine skip_ (w1 := ?_) (by rfl) rfl ?_ ?_
  rotate_left
  ·
   go_simp
   rfl
  refine hK.out _ _ ⟨((cell_far (p := ⟨gb191, _, none⟩) NB198_191.out _).trans (((cell_far (p := ⟨gb191, _, none⟩) NB198_191.out _).trans (((cell_far (p := ⟨gb191, _, none⟩) NB198_191.out _).trans (hHeld.1)))))), ((cell_far (p := ⟨gb191, _, none⟩) NB198_191.out _).trans (((cell_far (p := ⟨gb191, _, none⟩) NB198_191.out _).trans (((cell_far (p := ⟨gb191, _, none⟩) NB198_191.out _).trans (hHeld.2.1)))))), ((cell_far (p := ⟨gb191, _, none⟩) NB198_191.out _).trans (((cell_far (p := ⟨gb191, _, none⟩) NB198_191.out _).trans (((cell_far (p := ⟨gb191, _, none⟩) NB198_191.out _).trans (hHeld.2.2))))))⟩ (fun hHeld => ?_)
  clear hK K
  refine pure_ (i := 13) (N := some 3) (v := ?_) (a' := ?_) #[true, true, true, true, true, true, true, true, true, true, true, true, true, true] rfl rfl (any_of HT_.out (by kernel_rfl)) (fun _ _ _ h => h) (Or.inl ⟨by rfl, ?_⟩) ?_ ?_
  rotate_left
  ·
   intro w'
   go_simp
   with_reducible rfl
  rotate_left
  ·
   simp only [Act.put, List.setIfInBounds_toArray, List.set_cons_zero, List.set_cons_succ, i64_w, i32_w]
   rfl
  refine done_ (done_of HT_.out (by kernel_rfl)) ?_
  try go_wp2
  refine bodyPost_ret (results_ct rfl _ _ gb191 28 #[.int .i64 t192, .int .i64 t193, .slice Ao45 t194.length co45] (0, 0) _ rfl (by (with_reducible repeat (first | refine blk_drewN ?_ _ | refine blk_drew ?_ | refine blk_alloc ?_ _)); refine blk_put (cs := #[.int .i64 t192, .int .i64 t193, .slice none 0 0]) ?_ 2 _ rfl; (with_reducible repeat (first | refine blk_drewN ?_ _ | refine blk_drew ?_ | refine blk_alloc ?_ _)); refine blk_put (cs := #[.int .i64 t192, .int .i64 0, .slice none 0 0]) ?_ 1 _ rfl; (with_reducible repeat (first | refine blk_drewN ?_ _ | refine blk_drew ?_ | refine blk_alloc ?_ _)); refine blk_put (cs := #[.int .i64 0, .int .i64 0, .slice none 0 0]) ?_ 0 _ rfl; (with_reducible repeat (first | refine blk_drewN ?_ _ | refine blk_drew ?_ | refine blk_alloc ?_ _)); exact BK191.out) Try.underlying28 rfl (by kernel_rfl)) rfl ?_
  exact ⟨.slice Ao45 t194.length co45, by first | rfl | (simp [errW_none, errW_some] <;> rfl) | (simp [*, errW_none, errW_some] <;> rfl), by (with_reducible repeat (first | apply Kd.V_alloc | apply Kd.V_drewN | apply Kd.V_drew)); exact Kd.V_mono (Kd.V_far (p := ⟨gb191, 2, none⟩) (Kd.V_far (p := ⟨gb191, 1, none⟩) (Kd.V_far (p := ⟨gb191, 0, none⟩) (Kd.V_mono HO196.out (fun k_ hk => (⟨hk, hk.2.1⟩ : _ ∧ k_ ≠ gb191))) (fun _ hk => hk.2) (.int .i64 t192)) (fun _ hk => hk.2) (.int .i64 t193)) (fun _ hk => hk.2) (.slice Ao45 t194.length co45)) (fun _ hk => hk.1.1), by repeat (first | (with_reducible first | exact HB.out | apply below_alloc | apply pw_below_drewN | apply below_drew1 | refine below_set ?_ GE191.out | refine below_set ?_ GE198.out | refine below_set ?_ GE205.out) | exact HB.out)⟩
end Go.Proofs.Ytjmhihadgpdiaaa.X
end
section
namespace Go.Proofs.Ytjmhihadgpdiaaa.X
open Go.RowKit Go.Proofs.YtjmhihadgpdiaaaW.PrintWords Go.Proofs.YtjmhihadgpdiaaaW.PrintLast Go.Proofs.YtjmhihadgpdiaaaW.PrintMore
attribute [local go_sem] max2_int min2_int max_two min_two max_three min_three max_four min_four   -- for this text's walks alone
set_option linter.unusedVariables false
set_option linter.unusedSimpArgs false
end Go.Proofs.Ytjmhihadgpdiaaa.X
end
section
namespace Go.Proofs.Ytjmhihadgpdiaaa.Expr
open Go.RowKit Go.Proofs.Ytjmhihadgpdiaaa.X Go.Proofs.YtjmhihadgpdiaaaW.PrintWords Go.Proofs.YtjmhihadgpdiaaaW.PrintLast Go.Proofs.Ytjmhihadgpdiaaa.Base
set_option linter.unusedVariables false
set_option linter.unusedSimpArgs false
abbrev S := S28
abbrev T := List UInt8
theorem Ev.succ {α : Type} {g : Nat → Option α} {r : α} (h : Ev (fun k => g (k + 1)) r) : Ev g r := Ev.one (f := fun k => g (k + 1)) (fun _ => rfl) h
theorem Ev.eqv {α : Type} {g f : Nat → Option α} {r : α} (h : ∀ k, g k = f k) (k : Ev f r) : Ev g r := by
  have : g = f := funext h
  rw [this]; exact k
theorem eta (x : S) : (⟨x.f0, x.f1, x.f2⟩ : S) = x := by cases x; rfl
def flat (kd : Int) : List S → List S
  | [] => []
  | p :: l => (if p.f0 = kd then p.f2 else [p]) ++ flat kd l
def one (kd : Int) (l : List S) : S := if l.length = 1 then rd_T28 l 0 else ⟨kd, 0, l⟩
def tog (kd : Int) (l : List S) : S := if l.length = 1 then rd_T28 l 0 else one kd (flat kd l)
def tl : List S → Nat
  | [] => 0
  | p :: l => 1 + tl p.f2 + tl l
termination_by l => SizeOf.sizeOf l
decreasing_by all_goals (cases p; simp; omega)
theorem tl_nil : tl [] = 0 := by rw [tl]
theorem tl_cons (p : S) (l : List S) : tl (p :: l) = 1 + tl p.f2 + tl l := by rw [tl]
theorem tl_app (a b : List S) : tl (a ++ b) = tl a + tl b := by
  induction a with
  | nil => simp [tl_nil]
  | cons p a ih => rw [List.cons_append, tl_cons, tl_cons, ih]; omega
theorem tl_len : ∀ l : List S, l.length ≤ tl l
  | [] => Nat.zero_le _
  | p :: l => by have := tl_len l; rw [tl_cons, List.length_cons]; omega
theorem tl_flat (kd : Int) : ∀ l : List S, tl (flat kd l) ≤ tl l
  | [] => Nat.le_refl _
  | p :: l => by
    have := tl_flat kd l
    rw [flat, tl_cons, tl_app]
    split
    · omega
    · rw [tl_cons, tl_nil]; omega
theorem rdT_at (l : List S) (i : Nat) (h : i < l.length) : rd_T28 l (i : Int) = l[i] := by
  simp [rd_T28, List.getD, h]
theorem rdT_zero (x : S) (l : List S) : rd_T28 (x :: l) 0 = x := rfl
theorem tl_one (kd : Int) (l : List S) : tl (one kd l).f2 ≤ tl l := by
  unfold one
  split
  · rename_i h1
    match l, h1 with
    | [x], _ => rw [rdT_zero, tl_cons]; omega
  · exact Nat.le_refl _
theorem tl_tog (kd : Int) (l : List S) : tl (tog kd l).f2 ≤ tl l := by
  unfold tog
  split
  · rename_i h1
    match l, h1 with
    | [x], _ => rw [rdT_zero, tl_cons]; omega
  · exact Nat.le_trans (tl_one _ _) (tl_flat _ _)
/-- the length of what is put together -/
theorem together_l0 (kd : Int) (l : List S) (hl : l.length < 1000000000) : ∀ (d i : Nat) (acc : List S), l.length - i = d → i ≤ l.length → acc.length + (flat kd (l.drop i)).length < 3518437208883 →
    Ev (fun k => expr_together.l0 k kd l (l.length : Int) (i : Int) kd 0 acc) ((one kd (acc ++ flat kd (l.drop i))).f0, (one kd (acc ++ flat kd (l.drop i))).f1, (one kd (acc ++ flat kd (l.drop i))).f2) := by
  intro d
  induction d with
  | zero =>
    intro i acc hd hi hb
    have e : i = l.length := by omega
    subst e
    rw [List.drop_length, flat, List.append_nil]
    refine Ev.one (f := fun k => _) (fun k => by rw [expr_together.l0]) ?_
    refine Ev.ite_neg (by omega) ?_
    unfold one
    by_cases h1 : acc.length = 1
    · rw [if_pos h1]
      refine Ev.ite_pos (by omega) (Ev.ite_pos (by omega) (Ev.some _))
    · rw [if_neg h1]
      exact Ev.ite_neg (by omega) (Ev.some _)
  | succ d ih =>
    intro i acc hd hi hb
    have hlt : i < l.length := by omega
    have hw : wrap64 ((i : Int) + 1) = ((i + 1 : Nat) : Int) := wrap_succ hlt (by omega)
    have e : flat kd (l.drop i) = (if l[i].f0 = kd then l[i].f2 else [l[i]]) ++ flat kd (l.drop (i + 1)) := by
      rw [List.drop_eq_getElem_cons hlt, flat]
    rw [e] at hb ⊢
    refine Ev.one (f := fun k => _) (fun k => by rw [expr_together.l0, hw, rdT_at l i hlt, eta]) ?_
    refine Ev.ite_pos (by omega) (Ev.ite_pos (by omega) (Ev.ite_pos (by omega) ?_))
    rw [List.length_append] at hb
    by_cases h1 : l[i].f0 = kd
    · rw [if_pos h1] at hb ⊢
      refine Ev.ite_pos h1 (Ev.ite_pos (by omega) ?_)
      have := ih (i + 1) (acc ++ l[i].f2) (by omega) (by omega) (by rw [List.length_append]; omega)
      rw [List.append_assoc] at this
      exact this
    · rw [if_neg h1] at hb ⊢
      rw [List.length_singleton] at hb
      refine Ev.ite_neg h1 (Ev.ite_pos (by omega) ?_)
      have := ih (i + 1) (acc ++ [l[i]]) (by omega) (by omega) (by rw [List.length_append, List.length_singleton]; omega)
      rw [List.append_assoc] at this
      exact this
theorem together_ev (kd : Int) (l : List S) (hl : tl l < 1000000000) : Ev (fun k => expr_together.f k kd l) ((tog kd l).f0, (tog kd l).f1, (tog kd l).f2) := by
  have h1 := tl_len l
  have h2 := Nat.le_trans (tl_len _) (tl_flat kd l)
  unfold expr_together.f tog
  by_cases h : l.length = 1
  · rw [if_pos h]
    exact Ev.ite_pos (by omega) (Ev.ite_pos (by omega) (Ev.some _))
  · rw [if_neg h]
    refine Ev.ite_neg (by omega) ?_
    exact together_l0 kd l (by omega) l.length 0 [] (by omega) (by omega) (by rw [List.drop_zero]; simp; omega)
def Ns (l : T) : Prop := ∀ c r, l = c :: r → expr_Parse.sign c = none
def St (l : T) : Prop := ∀ c r, l = c :: r → c.toNat = 124 ∨ c.toNat = 41
def Cl (l : T) : Prop := ∀ c r, l = c :: r → c.toNat = 41
def Hd (l : T) : Prop := ∃ c r, l = c :: r ∧ ¬ (c.toNat = 124 ∨ c.toNat = 41) ∧ expr_Parse.sign c = none
theorem St.nil : St [] := fun c r h => by cases h
theorem Cl.nil : Cl [] := fun c r h => by cases h
theorem Cl.st {l : T} (h : Cl l) : St l := fun c r e => .inr (h c r e)
theorem Ns.nil : Ns [] := fun c r h => by cases h
theorem St.ns {l : T} (h : St l) : Ns l := by
  intro c r e
  unfold expr_Parse.sign
  have := h c r e
  rw [if_neg (by omega), if_neg (by omega), if_neg (by omega)]
theorem Hd.ns {l m : T} (h : Hd l) : Ns (l ++ m) := by
  obtain ⟨c, r, rfl, -, h3⟩ := h
  intro c' r' e
  cases e
  exact h3
theorem Hd.ns0 {l : T} (h : Hd l) : Ns l := by
  obtain ⟨c, r, rfl, -, h3⟩ := h
  intro c' r' e
  cases e
  exact h3
def BP (t : T) (x : S) : Prop := Hd t ∧ tl x.f2 + 2 ≤ 2 * t.length ∧ (t.length < 1000000 → ∀ rest, Ev (fun k => expr_Parse.item k (t ++ rest)) (expr_Parse.sfx rest x))
def SP (t : T) (xs : List S) : Prop := Ns t ∧ (tl xs ≤ 2 * t.length ∧ xs.length ≤ t.length) ∧ (t.length < 1000000 → ∀ acc rest R, Ns rest → acc.length + t.length < 1000000 → Ev (fun k => expr_Parse.seqs k (acc ++ xs) rest) R → Ev (fun k => expr_Parse.seqs k acc (t ++ rest)) R)
def QP (t : T) (y : S) : Prop := tl y.f2 ≤ 2 * t.length ∧ (t.length < 1000000 → ∀ rest, St rest → Ev (fun k => expr_Parse.seqs k [] (t ++ rest)) (y, rest))
def AP (t : T) (y : S) : Prop := tl y.f2 ≤ 2 * t.length + 1 ∧ (t.length < 1000000 → ∀ rest, Cl rest → Ev (fun k => expr_Parse.alt k (t ++ rest)) (y, rest))
theorem sfx_ns {rest : T} (h : Ns rest) (x : S) : expr_Parse.sfx rest x = (x, rest) := by
  cases rest with
  | nil => rfl
  | cons c r => rw [expr_Parse.sfx, h c r rfl]
theorem sfx_sg {c : UInt8} {j : Int} (h : expr_Parse.sign c = some j) (r : T) (x : S) : expr_Parse.sfx (c :: r) x = expr_Parse.sfx r ⟨4 + j, 0, [x]⟩ := by
  rw [expr_Parse.sfx, h]
theorem seqs_end (acc : List S) (rest : T) (h : St rest) (hl : tl acc < 1000000000) : Ev (fun k => expr_Parse.seqs k acc rest) (tog 2 acc, rest) := by
  have ht := together_ev 2 acc hl
  cases rest with
  | nil => exact Ev.one (f := fun k => _) (fun k => by rw [expr_Parse.seqs]) (Ev.bnd ht ⟨0, fun _ _ => by rw [eta]⟩)
  | cons c r =>
    refine Ev.one (f := fun k => _) (fun k => by rw [expr_Parse.seqs]) ?_
    exact Ev.ite_pos (h c r rfl) (Ev.bnd ht ⟨0, fun _ _ => by rw [eta]⟩)
theorem BP.sp {t : T} {x : S} (h : BP t x) : SP t [x] := by
  obtain ⟨h1, h2, h3⟩ := h
  have h0 : 1 ≤ t.length := by obtain ⟨c, r, rfl, -⟩ := h1; simp
  refine ⟨h1.ns0, ⟨by rw [tl_cons, tl_nil]; omega, h0⟩, fun hl acc rest R hr ha hR => ?_⟩
  have h4 := h3 hl rest
  rw [sfx_ns hr] at h4
  obtain ⟨c, r, rfl, hc, hs⟩ := h1
  rw [List.cons_append] at h4 ⊢
  refine Ev.one (f := fun k => _) (fun k => by rw [expr_Parse.seqs]) ?_
  exact Ev.ite_neg hc (Ev.bnd h4 (Ev.ite_pos (by omega) hR))
theorem SP.nil : SP [] [] := ⟨Ns.nil, ⟨by rw [tl_nil]; exact Nat.le_refl _, Nat.le_refl _⟩, fun _ acc rest R _ _ h => by rw [List.append_nil] at h; exact h⟩
theorem SP.app {a b : T} {xs ys : List S} (h : SP a xs) (g : SP b ys) : SP (a ++ b) (xs ++ ys) := by
  obtain ⟨h1, h2, h3⟩ := h
  obtain ⟨g1, g2, g3⟩ := g
  refine ⟨?_, ⟨by rw [tl_app, List.length_append]; omega, by rw [List.length_append, List.length_append]; omega⟩, fun hl acc rest R hr ha hR => ?_⟩
  · intro c r e
    cases a with
    | nil => exact g1 c r e
    | cons d a => cases e; exact h1 _ _ rfl
  · rw [List.length_append] at hl ha
    rw [List.append_assoc]
    refine h3 (by omega) acc (b ++ rest) R ?_ (by omega) ?_
    · intro c r e
      cases b with
      | nil => exact hr c r e
      | cons d b => cases e; exact g1 _ _ rfl
    · refine g3 (by omega) (acc ++ xs) rest R hr ?_ (by rw [List.append_assoc]; exact hR)
      have := tl_len xs
      rw [List.length_append]; omega
theorem SP.qp {t : T} {xs : List S} (h : SP t xs) : QP t (tog 2 xs) := by
  obtain ⟨h1, h2, h3⟩ := h
  refine ⟨Nat.le_trans (tl_tog 2 xs) h2.1, fun hl rest hr => ?_⟩
  exact h3 hl [] rest _ hr.ns (by simpa using hl) (seqs_end xs rest hr (by omega))
/-- what stands behind the first of some alternatives -/
def tail : List T → T
  | [] => []
  | t :: l => 124 :: t ++ tail l
inductive QS : List T → List S → Prop
  | nil : QS [] []
  | cons {t y ts ys} : QP t y → QS ts ys → QS (t :: ts) (y :: ys)
theorem tail_st (ts : List T) {rest : T} (h : Cl rest) : St (tail ts ++ rest) := by
  cases ts with
  | nil => exact h.st
  | cons t ts => intro c r e; cases e; exact .inl rfl
theorem QS.tl {ts : List T} {ys : List S} (h : QS ts ys) : tl ys ≤ 2 * (tail ts).length := by
  induction h with
  | nil => rw [tl_nil]; omega
  | cons h _ ih =>
    have := h.1
    rw [tl_cons, tail, List.length_append, List.length_cons]
    omega
theorem alts_list {ts : List T} {ys : List S} (h : QS ts ys) : ∀ acc rest, Cl rest → acc.length + (tail ts).length < 1000001 → Expr.tl (acc ++ ys) < 1000000000 → Ev (fun k => expr_Parse.alts k acc (tail ts ++ rest)) (tog 3 (acc ++ ys), rest) := by
  induction h with
  | nil =>
    intro acc rest hr ha hb
    rw [List.append_nil] at hb ⊢
    have ht := together_ev 3 acc hb
    cases rest with
    | nil => exact Ev.one (f := fun k => _) (fun k => by rw [tail, List.nil_append, expr_Parse.alts]) (Ev.bnd ht ⟨0, fun _ _ => by rw [eta]⟩)
    | cons c r =>
      have := hr c r rfl
      refine Ev.one (f := fun k => _) (fun k => by rw [tail, List.nil_append, expr_Parse.alts]) ?_
      exact Ev.ite_neg (by omega) (Ev.bnd ht ⟨0, fun _ _ => by rw [eta]⟩)
  | @cons t y ts ys hq _ ih =>
    intro acc rest hr ha hb
    rw [tail, List.length_append, List.length_cons] at ha
    have h1 := hq.2 (by omega) (tail ts ++ rest) (tail_st ts hr)
    have h2 := ih (acc ++ [y]) rest hr (by rw [List.length_append, List.length_singleton]; omega) (by rw [List.append_assoc]; exact hb)
    rw [List.append_assoc] at h2
    refine Ev.one (f := fun k => _) (fun k => by rw [tail, List.cons_append, List.cons_append, List.append_assoc, expr_Parse.alts]) ?_
    exact Ev.ite_pos rfl (Ev.bnd h1 (Ev.ite_pos (by omega) h2))
theorem AP.list {t : T} {y : S} {ts : List T} {ys : List S} (h : QP t y) (hs : QS ts ys) : AP (t ++ tail ts) (tog 3 (y :: ys)) := by
  have h1 := h.1
  have h2 := hs.tl
  have h3 := tl_tog 3 (y :: ys)
  rw [tl_cons] at h3
  refine ⟨by rw [List.length_append]; omega, fun hl rest hr => ?_⟩
  rw [List.length_append] at hl
  unfold expr_Parse.alt
  rw [List.append_assoc]
  have h4 := h.2 (by omega) (tail ts ++ rest) (tail_st ts hr)
  refine Ev.bnd h4 (alts_list hs [y] rest hr (by rw [List.length_singleton]; omega) ?_)
  rw [List.singleton_append, tl_cons]; omega
theorem AP.one {t : T} {y : S} (h : QP t y) : AP t y := by
  have := AP.list h QS.nil
  rw [tail, List.append_nil] at this
  exact this
theorem AP.two {t u : T} {y z : S} (h : QP t y) (g : QP u z) : AP (t ++ 124 :: u) (tog 3 [y, z]) := by
  have := AP.list h (QS.cons g QS.nil)
  rw [tail, tail, List.append_nil] at this
  exact this
theorem BP.letter (c : UInt8) (h : 97 ≤ c.toNat ∧ c.toNat ≤ 104) : BP [c] ⟨1, (c.toNat : Int) - 97, []⟩ := by
  refine ⟨⟨c, [], rfl, by omega, ?_⟩, by rw [tl_nil]; simp, fun _ rest => ?_⟩
  · unfold expr_Parse.sign
    rw [if_neg (by omega), if_neg (by omega), if_neg (by omega)]
  · exact Ev.one (f := fun k => _) (fun k => by rw [List.singleton_append, expr_Parse.item]) (Ev.ite_pos h (Ev.some _))
theorem BP.sign {t : T} {x : S} {c : UInt8} {j : Int} (h : BP t x) (hc : expr_Parse.sign c = some j) : BP (t ++ [c]) ⟨4 + j, 0, [x]⟩ := by
  obtain ⟨h1, h2, h3⟩ := h
  refine ⟨?_, ?_, fun hl rest => ?_⟩
  · obtain ⟨d, r, rfl, h4⟩ := h1
    exact ⟨d, r ++ [c], rfl, h4⟩
  · rw [tl_cons, tl_nil, List.length_append, List.length_singleton]; omega
  · rw [List.length_append, List.length_singleton] at hl
    have := h3 (by omega) (c :: rest)
    rw [sfx_sg hc] at this
    rw [List.append_assoc]
    exact this
theorem BP.paren {t : T} {x : S} (h : AP t x) : BP (40 :: t ++ [41]) x := by
  obtain ⟨h1, h2⟩ := h
  refine ⟨⟨40, t ++ [41], rfl, by decide, by decide⟩, ?_, fun hl rest => ?_⟩
  · rw [List.cons_append, List.length_cons, List.length_append, List.length_singleton]; omega
  · rw [List.cons_append, List.length_cons, List.length_append, List.length_singleton] at hl
    have h3 := h2 (by omega) (41 :: rest) (fun c r e => by cases e; rfl)
    refine Ev.one (f := fun k => _) (fun k => by rw [List.cons_append, List.cons_append, List.append_assoc, List.singleton_append, expr_Parse.item]) ?_
    refine Ev.ite_neg (by decide) (Ev.ite_pos rfl ?_)
    unfold expr_Parse.alt at h3
    obtain ⟨K, hK⟩ := h3
    refine ⟨K, fun k hk => ?_⟩
    have h4 := hK k hk
    obtain ⟨z, hz, h5⟩ := Option.bind_eq_some_iff.1 h4
    show (expr_Parse.seqs k [] (t ++ 41 :: rest)).bind _ = _
    rw [hz, Option.bind_some, h5, Option.bind_some]
    rfl
/-- a whole text -/
theorem AP.all {t : T} {x : S} (h : AP t x) (hl : t.length < 1000000) : Ev (fun k => expr_Parse.alt k t) (x, []) := by
  have := h.2 hl [] Cl.nil
  rw [List.append_nil] at this
  exact this
end Go.Proofs.Ytjmhihadgpdiaaa.Expr
end
section
namespace Go.Proofs.Ytjmhihadgpdiaaa.Expr
open Go.RowKit Go.Proofs.Ytjmhihadgpdiaaa.X Go.Proofs.YtjmhihadgpdiaaaW.PrintWords Go.Proofs.YtjmhihadgpdiaaaW.PrintLast Go.Proofs.Ytjmhihadgpdiaaa.Base
set_option linter.unusedVariables false
set_option linter.unusedSimpArgs false
abbrev W := List Int
abbrev Lg := W → Prop
inductive M : S → W → Prop
  | one (t : Int) (l : List S) : M ⟨1, t, l⟩ [t]
  | seqn (t : Int) : M ⟨2, t, []⟩ []
  | seqc {t : Int} {p : S} {ps : List S} {u v : W} : M p u → M ⟨2, t, ps⟩ v → M ⟨2, t, p :: ps⟩ (u ++ v)
  | alt {t : Int} {p : S} {ps : List S} {u : W} : p ∈ ps → M p u → M ⟨3, t, ps⟩ u
  | starn {t : Int} {p : S} : M ⟨4, t, [p]⟩ []
  | starc {t : Int} {p : S} {u v : W} : M p u → M ⟨4, t, [p]⟩ v → M ⟨4, t, [p]⟩ (u ++ v)
  | plus {t : Int} {p : S} {u v : W} : M p u → M ⟨4, t, [p]⟩ v → M ⟨5, t, [p]⟩ (u ++ v)
  | optn {t : Int} {p : S} : M ⟨6, t, [p]⟩ []
  | opts {t : Int} {p : S} {u : W} : M p u → M ⟨6, t, [p]⟩ u
def Nil : Lg := fun w => w = []
def Cat (A B : Lg) : Lg := fun w => ∃ u v, w = u ++ v ∧ A u ∧ B v
def Or (A B : Lg) : Lg := fun w => A w ∨ B w
inductive Star (L : Lg) : W → Prop
  | nil : Star L []
  | cons {u v : W} : L u → Star L v → Star L (u ++ v)
def MS : List S → Lg
  | [] => Nil
  | p :: l => Cat (M p) (MS l)
theorem M_one {t : Int} {l : List S} {w : W} : M ⟨1, t, l⟩ w ↔ w = [t] := by
  constructor
  · intro h
    generalize hx : (⟨1, t, l⟩ : S) = x at h
    cases h <;> simp at hx
    rw [hx.1]
  · rintro rfl; exact M.one t l
theorem M_seq {t : Int} {l : List S} {w : W} : M ⟨2, t, l⟩ w ↔ MS l w := by
  constructor
  · intro h
    generalize hx : (⟨2, t, l⟩ : S) = x at h
    induction h generalizing l <;> simp at hx
    · rw [hx.2]; exact rfl
    · rename_i t' p ps u v h1 h2 ih1 ih2
      rw [hx.2]
      exact ⟨u, v, rfl, h1, ih2 (by rw [hx.1])⟩
  · intro h
    induction l generalizing w with
    | nil => obtain rfl : w = [] := h; exact M.seqn t
    | cons p l ih =>
      obtain ⟨u, v, rfl, h1, h2⟩ := h
      exact M.seqc h1 (ih h2)
theorem M_alt {t : Int} {l : List S} {w : W} : M ⟨3, t, l⟩ w ↔ ∃ p ∈ l, M p w := by
  constructor
  · intro h
    generalize hx : (⟨3, t, l⟩ : S) = x at h
    cases h <;> simp at hx
    rename_i t' p ps h1 h2
    rw [hx.2]; exact ⟨p, h1, h2⟩
  · rintro ⟨p, h1, h2⟩; exact M.alt h1 h2
theorem M_star {t : Int} {p : S} {w : W} : M ⟨4, t, [p]⟩ w ↔ Star (M p) w := by
  constructor
  · intro h
    generalize hx : (⟨4, t, [p]⟩ : S) = x at h
    induction h <;> simp at hx
    · exact Star.nil
    · rename_i t' p' u v h1 h2 ih1 ih2
      obtain ⟨rfl, rfl⟩ := hx
      exact Star.cons h1 (ih2 rfl)
  · intro h
    induction h with
    | nil => exact M.starn
    | cons h1 _ ih => exact M.starc h1 ih
theorem M_plus {t : Int} {p : S} {w : W} : M ⟨5, t, [p]⟩ w ↔ Cat (M p) (Star (M p)) w := by
  constructor
  · intro h
    generalize hx : (⟨5, t, [p]⟩ : S) = x at h
    cases h <;> simp at hx
    rename_i t' p' u v h1 h2
    obtain ⟨rfl, rfl⟩ := hx
    exact ⟨u, v, rfl, h1, M_star.1 h2⟩
  · rintro ⟨u, v, rfl, h1, h2⟩; exact M.plus h1 (M_star.2 h2)
theorem M_opt {t : Int} {p : S} {w : W} : M ⟨6, t, [p]⟩ w ↔ Or Nil (M p) w := by
  constructor
  · intro h
    generalize hx : (⟨6, t, [p]⟩ : S) = x at h
    cases h <;> simp at hx
    · exact .inl rfl
    · rename_i t' p' h1
      obtain ⟨rfl, rfl⟩ := hx
      exact .inr h1
  · rintro (rfl | h)
    · exact M.optn
    · exact M.opts h
theorem MS_app {a b : List S} {w : W} : MS (a ++ b) w ↔ Cat (MS a) (MS b) w := by
  induction a generalizing w with
  | nil => exact ⟨fun h => ⟨[], w, rfl, rfl, h⟩, by rintro ⟨u, v, rfl, rfl, h⟩; exact h⟩
  | cons p a ih =>
    constructor
    · rintro ⟨u, v, rfl, h1, h2⟩
      obtain ⟨x, y, rfl, h3, h4⟩ := ih.1 h2
      exact ⟨u ++ x, y, by rw [List.append_assoc], ⟨u, x, rfl, h1, h3⟩, h4⟩
    · rintro ⟨_, v, rfl, ⟨u, x, rfl, h1, h2⟩, h3⟩
      exact ⟨u, x ++ v, by rw [List.append_assoc], h1, ih.2 ⟨x, v, rfl, h2, h3⟩⟩
theorem MS_one {p : S} {w : W} : MS [p] w ↔ M p w :=
  ⟨by rintro ⟨u, v, rfl, h, rfl⟩; rw [List.append_nil]; exact h, fun h => ⟨w, [], by rw [List.append_nil], h, rfl⟩⟩
theorem MS_flat (l : List S) {w : W} : MS (flat 2 l) w ↔ MS l w := by
  induction l generalizing w with
  | nil => exact Iff.rfl
  | cons p l ih =>
    rw [flat, MS_app]
    have h : ∀ u, MS (if p.f0 = 2 then p.f2 else [p]) u ↔ M p u := by
      intro u
      by_cases h : p.f0 = 2
      · rw [if_pos h]
        obtain ⟨k, t, ps⟩ := p
        obtain rfl : k = 2 := h
        exact M_seq.symm
      · rw [if_neg h]; exact MS_one
    constructor
    · rintro ⟨u, v, rfl, h1, h2⟩; exact ⟨u, v, rfl, (h u).1 h1, ih.1 h2⟩
    · rintro ⟨u, v, rfl, h1, h2⟩; exact ⟨u, v, rfl, (h u).2 h1, ih.2 h2⟩
theorem len1 {α : Type} {l : List α} (h : l.length = 1) : ∃ x, l = [x] := by
  match l, h with
  | [x], _ => exact ⟨x, rfl⟩
theorem M_tog2 {l : List S} {w : W} : M (tog 2 l) w ↔ MS l w := by
  unfold tog
  split
  · rename_i h; obtain ⟨x, rfl⟩ := len1 h; exact MS_one.symm
  · unfold one
    rw [← MS_flat l]
    split
    · rename_i h; obtain ⟨x, e⟩ := len1 h; rw [e]; exact MS_one.symm
    · exact M_seq
theorem any_flat (l : List S) {w : W} : (∃ p ∈ flat 3 l, M p w) ↔ ∃ p ∈ l, M p w := by
  induction l with
  | nil => exact Iff.rfl
  | cons p l ih =>
    have h : (∃ q ∈ (if p.f0 = 3 then p.f2 else [p]), M q w) ↔ M p w := by
      by_cases h : p.f0 = 3
      · rw [if_pos h]
        obtain ⟨k, t, ps⟩ := p
        obtain rfl : k = 3 := h
        exact M_alt.symm
      · rw [if_neg h]; simp
    rw [flat]
    constructor
    · rintro ⟨q, hq, hm⟩
      rcases List.mem_append.1 hq with hq | hq
      · exact ⟨p, List.mem_cons_self, h.1 ⟨q, hq, hm⟩⟩
      · obtain ⟨r, hr, hm⟩ := ih.1 ⟨q, hq, hm⟩
        exact ⟨r, List.mem_cons_of_mem _ hr, hm⟩
    · rintro ⟨q, hq, hm⟩
      rcases List.mem_cons.1 hq with rfl | hq
      · obtain ⟨r, hr, hm⟩ := h.2 hm
        exact ⟨r, List.mem_append_left _ hr, hm⟩
      · obtain ⟨r, hr, hm⟩ := ih.2 ⟨q, hq, hm⟩
        exact ⟨r, List.mem_append_right _ hr, hm⟩
theorem M_tog3 {l : List S} {w : W} : M (tog 3 l) w ↔ ∃ p ∈ l, M p w := by
  unfold tog
  split
  · rename_i h; obtain ⟨x, rfl⟩ := len1 h; simp [rdT_zero]
  · unfold one
    rw [← any_flat l]
    split
    · rename_i h; obtain ⟨x, e⟩ := len1 h; rw [e]; simp [rdT_zero]
    · exact M_alt
def Loc (x : S) : Prop := (x.f0 = 1 ∧ x.f2 = [] ∧ 0 ≤ x.f1 ∧ x.f1 < 8) ∨ (x.f0 = 2 ∧ x.f1 = 0 ∧ x.f2.length ≠ 1 ∧ ∀ p ∈ x.f2, p.f0 ≠ 2) ∨ (x.f0 = 3 ∧ x.f1 = 0 ∧ 2 ≤ x.f2.length ∧ ∀ p ∈ x.f2, p.f0 ≠ 3) ∨ (4 ≤ x.f0 ∧ x.f0 ≤ 6 ∧ x.f1 = 0 ∧ ∃ p, x.f2 = [p])
inductive Ok : S → Prop
  | mk {x : S} : Loc x → (∀ p ∈ x.f2, Ok p) → Ok x
theorem Ok.loc {x : S} (h : Ok x) : Loc x := by cases h; assumption
theorem Ok.parts {x : S} (h : Ok x) : ∀ p ∈ x.f2, Ok p := by cases h; assumption
def seg (w : W) (i j : Nat) : W := (w.take j).drop i
theorem seg_cat {w : W} {i j k : Nat} (h1 : i ≤ j) (h2 : j ≤ k) : seg w i j ++ seg w j k = seg w i k := by
  unfold seg
  apply List.ext_getElem?
  intro n
  by_cases hn : n < (List.drop i (List.take j w)).length
  · rw [List.getElem?_append_left hn]
    simp only [List.length_drop, List.length_take] at hn
    simp only [List.getElem?_drop, List.getElem?_take]
    rw [if_pos (by omega), if_pos (by omega)]
  · rw [List.getElem?_append_right (by omega)]
    simp only [List.length_drop, List.length_take] at hn ⊢
    simp only [List.getElem?_drop, List.getElem?_take]
    by_cases hj : j ≤ w.length
    · rw [show j + (n - (min j w.length - i)) = i + n by omega]
    · have e1 : w[j + (n - (min j w.length - i))]? = none := List.getElem?_eq_none (by omega)
      have e2 : w[i + n]? = none := List.getElem?_eq_none (by omega)
      rw [e1, e2]
      split <;> split <;> rfl
theorem seg_split {w : W} {i k : Nat} {u v : W} (h1 : i ≤ k) (hk : k ≤ w.length) (h : seg w i k = u ++ v) : ∃ j, i ≤ j ∧ j ≤ k ∧ seg w i j = u ∧ seg w j k = v := by
  have hl : (seg w i k).length = k - i := by unfold seg; rw [List.length_drop, List.length_take]; omega
  have hl2 : u.length + v.length = k - i := by rw [← hl, h, List.length_append]
  have h2 := @seg_cat w i (i + u.length) k (by omega) (by omega)
  have hl3 : (seg w i (i + u.length)).length = u.length := by unfold seg; rw [List.length_drop, List.length_take]; omega
  have h3 := List.append_inj (h2.trans h) hl3
  exact ⟨i + u.length, by omega, by omega, h3.1, h3.2⟩
theorem seg_self (w : W) (i : Nat) : seg w i i = [] := by
  unfold seg
  apply List.drop_eq_nil_of_le
  rw [List.length_take]; omega
theorem seg_nil {w : W} {i k : Nat} (h1 : i ≤ k) (hk : k ≤ w.length) (h : seg w i k = []) : i = k := by
  have hl : (seg w i k).length = k - i := by unfold seg; rw [List.length_drop, List.length_take]; omega
  rw [h] at hl
  simp at hl
  omega
theorem seg_one {w : W} {i k : Nat} {t : Int} (h1 : i ≤ k) (hk : k ≤ w.length) : seg w i k = [t] ↔ k = i + 1 ∧ w.getD i 0 = t := by
  have hl : (seg w i k).length = k - i := by unfold seg; rw [List.length_drop, List.length_take]; omega
  constructor
  · intro h
    rw [h] at hl
    simp at hl
    have e : k = i + 1 := by omega
    subst e
    refine ⟨rfl, ?_⟩
    have h2 : (seg w i (i + 1)).getD 0 0 = t := by rw [h]; rfl
    unfold seg at h2
    rw [List.getD_eq_getElem?_getD] at h2 ⊢
    simp at h2
    simpa using h2
  · rintro ⟨rfl, rfl⟩
    have : i < w.length := by omega
    apply List.ext_getElem?
    intro n
    unfold seg
    rw [List.getElem?_drop, List.getElem?_take]
    cases n with
    | zero => simp [List.getD, this]
    | succ n => rw [if_neg (by omega)]; rfl
/-- what stands from each place on -/
abbrev at_ (l : List Bool) (i : Nat) : Prop := l.getD i false = true
def Rch (L : Lg) (w : W) (a b : List Bool) : Prop := b.length = w.length + 1 ∧ ∀ j, j ≤ w.length → (at_ b j ↔ ∃ i, i ≤ j ∧ at_ a i ∧ L (seg w i j))
theorem Rch.congr {A B : Lg} {w : W} {a b : List Bool} (h : Rch A w a b) (e : ∀ u, A u ↔ B u) : Rch B w a b :=
  ⟨h.1, fun j hj => (h.2 j hj).trans ⟨fun ⟨i, h1, h2, h3⟩ => ⟨i, h1, h2, (e _).1 h3⟩, fun ⟨i, h1, h2, h3⟩ => ⟨i, h1, h2, (e _).2 h3⟩⟩⟩
theorem Rch.nil {w : W} {a : List Bool} (h : a.length = w.length + 1) : Rch Nil w a a := by
  refine ⟨h, fun j hj => ⟨fun h => ⟨j, Nat.le_refl _, h, seg_self w j⟩, ?_⟩⟩
  rintro ⟨i, h1, h2, h3⟩
  rw [← seg_nil h1 hj h3]
  exact h2
theorem Rch.cat {A B : Lg} {w : W} {a b c : List Bool} (h : Rch A w a b) (g : Rch B w b c) : Rch (Cat A B) w a c := by
  refine ⟨g.1, fun k hk => ⟨fun h1 => ?_, ?_⟩⟩
  · obtain ⟨j, h2, h3, h4⟩ := (g.2 k hk).1 h1
    obtain ⟨i, h5, h6, h7⟩ := (h.2 j (by omega)).1 h3
    exact ⟨i, by omega, h6, _, _, (seg_cat h5 h2).symm, h7, h4⟩
  · rintro ⟨i, h1, h2, u, v, h3, h4, h5⟩
    obtain ⟨j, h6, h7, rfl, rfl⟩ := seg_split h1 hk h3
    exact (g.2 k hk).2 ⟨j, h7, (h.2 j (by omega)).2 ⟨i, h6, h2, h4⟩, h5⟩
/-- one or the other -/
def eith (a b : List Bool) : List Bool := List.zipWith (· || ·) a b
theorem eith_at {a b : List Bool} (h : a.length = b.length) (j : Nat) : at_ (eith a b) j ↔ at_ a j ∨ at_ b j := by
  unfold at_ eith
  rw [List.getD_eq_getElem?_getD, List.getD_eq_getElem?_getD, List.getD_eq_getElem?_getD, List.getElem?_zipWith]
  by_cases hj : j < a.length
  · rw [List.getElem?_eq_getElem hj, List.getElem?_eq_getElem (by omega)]; simp
  · rw [List.getElem?_eq_none (by omega), List.getElem?_eq_none (by omega)]; simp
theorem eith_len {a b : List Bool} (h : a.length = b.length) : (eith a b).length = a.length := by
  unfold eith; rw [List.length_zipWith]; omega
theorem Rch.or {A B : Lg} {w : W} {a b c : List Bool} (h : Rch A w a b) (g : Rch B w a c) : Rch (Or A B) w a (eith b c) := by
  have hl : b.length = c.length := h.1.trans g.1.symm
  refine ⟨(eith_len hl).trans h.1, fun j hj => (eith_at hl j).trans ?_⟩
  rw [h.2 j hj, g.2 j hj]
  constructor
  · rintro (⟨i, h1, h2, h3⟩ | ⟨i, h1, h2, h3⟩)
    · exact ⟨i, h1, h2, .inl h3⟩
    · exact ⟨i, h1, h2, .inr h3⟩
  · rintro ⟨i, h1, h2, h3 | h3⟩
    · exact .inl ⟨i, h1, h2, h3⟩
    · exact .inr ⟨i, h1, h2, h3⟩
theorem rdOf_at (l : List Bool) (i : Nat) : rdOf false l (i : Int) = l.getD i false := by simp [rdOf]
theorem either_l0 (a b : List Bool) (h : a.length = b.length) (hl : a.length < 1000000) : ∀ (d i : Nat) (c : List Bool), a.length - i = d → i ≤ a.length → c.length = a.length →
    Ev (fun k => expr_either.l0 k a b c (a.length : Int) (i : Int)) (c.take i ++ (eith a b).drop i) := by
  intro d
  induction d with
  | zero =>
    intro i c hd hi hc
    obtain rfl : i = a.length := by omega
    have e : (eith a b).drop a.length = [] := List.drop_eq_nil_of_le (by rw [eith_len h]; omega)
    rw [e, List.append_nil, List.take_of_length_le (by omega)]
    exact Ev.one (f := fun k => _) (fun k => by rw [expr_either.l0]) (Ev.ite_neg (by omega) (Ev.some _))
  | succ d ih =>
    intro i c hd hi hc
    have hlt : i < a.length := by omega
    have hw : wrap64 ((i : Int) + 1) = ((i + 1 : Nat) : Int) := wrap_succ hlt (by omega)
    have e : ∀ v, v = (a.getD i false || b.getD i false) → (c.set i v).take (i + 1) ++ (eith a b).drop (i + 1) = c.take i ++ (eith a b).drop i := by
      intro v hv
      have h3 : i < (eith a b).length := by rw [eith_len h]; omega
      have e5 : (List.take i c ++ [c[i]'(by omega)]).set i v = List.take i c ++ [v] := by
        rw [List.set_append_right _ _ (by rw [List.length_take]; omega), List.length_take, show i - min i c.length = 0 by omega]
        rfl
      rw [List.drop_eq_getElem_cons h3, List.take_set, List.take_succ_eq_append_getElem (by omega), e5, List.append_assoc, List.singleton_append, hv]
      have e6 : (eith a b).getD i false = (a.getD i false || b.getD i false) := by
        rw [Bool.eq_iff_iff, Bool.or_eq_true]; exact eith_at h i
      rw [← e6]
      simp [List.getD, h3]
    refine Ev.one (f := fun k => _) (fun k => by rw [expr_either.l0, hw, rdOf_at, rdOf_at]) ?_
    refine Ev.ite_pos (by omega) (Ev.ite_pos (by omega) (Ev.ite_pos (by omega) ?_))
    by_cases ha : a.getD i false = true
    · refine Ev.ite_pos ha (Ev.ite_pos (by omega) ?_)
      rw [← e true (by rw [ha]; rfl)]
      exact ih (i + 1) (c.set i true) (by omega) (by omega) (by rw [List.length_set]; exact hc)
    · refine Ev.ite_neg ha (Ev.ite_pos (by omega) (Ev.ite_pos (by omega) ?_))
      rw [← e (b.getD i false) (by rw [show a.getD i false = false by simpa using ha]; rfl)]
      exact ih (i + 1) (c.set i (b.getD i false)) (by omega) (by omega) (by rw [List.length_set]; exact hc)
theorem either_ev {a b : List Bool} (h : a.length = b.length) (hl : a.length < 1000000) : Ev (fun k => expr_either.f k a b) (eith a b) := by
  unfold expr_either.f
  refine Ev.ite_pos (by omega) (Ev.ite_pos (by omega) ?_)
  have := either_l0 a b h hl a.length 0 (List.replicate a.length false) (by omega) (by omega) (by simp)
  rw [List.take_zero, List.drop_zero, List.nil_append] at this
  exact this
theorem equal_l0 (a b : List Bool) (h : a.length = b.length) (hl : a.length < 1000000) : ∀ (d i : Nat), a.length - i = d → i ≤ a.length →
    Ev (fun k => slices_Equal_bool_bool.l0 k a b (a.length : Int) (i : Int)) (decide (a.drop i = b.drop i)) := by
  intro d
  induction d with
  | zero =>
    intro i hd hi
    have e : i = a.length := by omega
    have e1 : a.drop i = [] := List.drop_eq_nil_of_le (by omega)
    have e2 : b.drop i = [] := List.drop_eq_nil_of_le (by omega)
    rw [e1, e2]
    exact Ev.one (f := fun k => _) (fun k => by rw [slices_Equal_bool_bool.l0]) (Ev.ite_neg (by omega) ⟨0, fun _ _ => by simp⟩)
  | succ d ih =>
    intro i hd hi
    have hlt : i < a.length := by omega
    have hw : wrap64 ((i : Int) + 1) = ((i + 1 : Nat) : Int) := wrap_succ hlt (by omega)
    have ea : a.getD i false = a[i] := by simp [List.getD, hlt]
    have eb : b.getD i false = b[i]'(by omega) := by simp [List.getD, show i < b.length by omega]
    rw [List.drop_eq_getElem_cons hlt, List.drop_eq_getElem_cons (show i < b.length by omega)]
    refine Ev.one (f := fun k => _) (fun k => by rw [slices_Equal_bool_bool.l0, hw, rdOf_at, rdOf_at, ea, eb]) ?_
    refine Ev.ite_pos (by omega) (Ev.ite_pos (by omega) (Ev.ite_pos (by omega) (Ev.ite_pos (by omega) ?_)))
    by_cases he : a[i] = b[i]'(by omega)
    · refine Ev.ite_neg (by simp [he]) ?_
      have := ih (i + 1) (by omega) (by omega)
      rw [show decide (a[i] :: List.drop (i + 1) a = b[i]'(by omega) :: List.drop (i + 1) b) = decide (List.drop (i + 1) a = List.drop (i + 1) b) by rw [he]; simp only [List.cons.injEq, true_and]]
      exact this
    · exact Ev.ite_pos (by simp [he]) ⟨0, fun _ _ => by simp only [List.cons.injEq, he, false_and, decide_false]⟩
theorem equal_ev {a b : List Bool} (h : a.length = b.length) (hl : a.length < 1000000) : Ev (fun k => slices_Equal_bool_bool.f k a b) (decide (a = b)) := by
  unfold slices_Equal_bool_bool.f
  refine Ev.ite_pos (by omega) ?_
  exact equal_l0 a b h hl a.length 0 (by omega) (by omega)
end Go.Proofs.Ytjmhihadgpdiaaa.Expr
end
