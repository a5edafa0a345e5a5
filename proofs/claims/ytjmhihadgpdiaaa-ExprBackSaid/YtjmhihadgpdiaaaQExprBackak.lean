/- Parts of the proof of ExprBack that are needed, put together by pack.py. -/
import Derived.Test.YtjmhihadgpdiaaaQExprBackaf
import Derived.Test.YtjmhihadgpdiaaaQExprBackag
import Derived.Test.YtjmhihadgpdiaaaQExprBackaj
import Derived.Test.YtjmhihadgpdiaaaQExprBackai
section
namespace Go.Proofs.Ytjmhihadgpdiaaa.X
open Go.RowKit Go.Proofs.YtjmhihadgpdiaaaW.PrintWords Go.Proofs.YtjmhihadgpdiaaaW.PrintLast Go.Proofs.YtjmhihadgpdiaaaW.PrintMore
attribute [local go_sem] max2_int min2_int max_two min_two max_three min_three max_four min_four   -- for this text's walks alone
set_option linter.unusedVariables false
set_option linter.unusedSimpArgs false
mutual
def bobbinetkeep_sameExpr.j0 : Nat → Bool → Int → Int → List (S28) → Int → Int → List (S28) → Option (Bool)
 | 0, _, _, _, _, _, _, _ => none
 | k + 1, x26, x351000, x351001, x351002, x352000, x352001, x352002 => if x26 = true then (some false) else (bobbinetkeep_sameExpr.l0 k 0 x351000 x351001 x351002 x352000 x352001 x352002)
def bobbinetkeep_sameExpr.l0 : Nat → Int → Int → Int → List (S28) → Int → Int → List (S28) → Option (Bool)
 | 0, _, _, _, _, _, _, _ => none
 | k + 1, x5, x351000, x351001, x351002, x352000, x352001, x352002 => if x5 < (x351002.length : Int) then (if 0 ≤ x5 then (if x5 < (x352002.length : Int) then ((bobbinetkeep_sameExpr.f k ((rd_T28 x351002 x5).f0) ((rd_T28 x351002 x5).f1) ((rd_T28 x351002 x5).f2) ((rd_T28 x352002 x5).f0) ((rd_T28 x352002 x5).f1) ((rd_T28 x352002 x5).f2)).bind fun t354 => (if t354 = true then (bobbinetkeep_sameExpr.l0 k (wrap64 (x5 + 1)) x351000 x351001 x351002 x352000 x352001 x352002) else (some false))) else (none)) else (none)) else (some true)
def bobbinetkeep_sameExpr.f : Nat → Int → Int → List (S28) → Int → Int → List (S28) → Option (Bool)
 | 0, _, _, _, _, _, _ => none
 | k + 1, a0_0, a0_1, l0_2, a1_0, a1_1, l1_2 => if a0_0 = a1_0 then (if a0_1 = a1_1 then (bobbinetkeep_sameExpr.j0 k ((l0_2.length : Int) != (l1_2.length : Int)) a0_0 a0_1 l0_2 a1_0 a1_1 l1_2) else (bobbinetkeep_sameExpr.j0 k true a0_0 a0_1 l0_2 a1_0 a1_1 l1_2)) else (bobbinetkeep_sameExpr.j0 k true a0_0 a0_1 l0_2 a1_0 a1_1 l1_2)
end
def bobbinetkeep_sameExpr.T6 : Bool × List (List Nat × List Nat) := (true, [([], []), ([0], [0]), ([], []), ([1, 2], [1, 2]), ([3], [3]), ([], []), ([5], [5]), ([], []), ([6, 7], [6, 7]), ([8], [8]), ([4, 9], [4, 9]), ([10], [10])])
def bobbinetkeep_sameExpr.B6 : List Nat := [0, 1, 0, 7, 15, 0, 32, 0, 224, 480, 1023, 2047]
theorem bobbinetkeep_sameExpr.tab6 : rtab .any (opsOf Try.f13 6) = bobbinetkeep_sameExpr.T6 := by kernel_rfl
theorem bobbinetkeep_sameExpr.bits6 : waitsOk bobbinetkeep_sameExpr.T6.2 bobbinetkeep_sameExpr.B6 = true := by kernel_rfl
set_option maxHeartbeats 8000000 in
set_option maxRecDepth 100000 in
theorem bobbinetkeep_sameExpr.calls (k : Nat) : ∀ (a0_0 : Int) (a0_1 : Int) (A0_2 : Option Addr) (c0_2 : Nat) (l0_2 : List (S28)) (a1_0 : Int) (a1_1 : Int) (A1_2 : Option Addr) (c1_2 : Nat) (l1_2 : List (S28)) (r : Bool) (w : World) (hr0_2 : Kd.C k28 w A0_2 l0_2.length l0_2) (hc0_2 : l0_2.length ≤ c0_2) (hr1_2 : Kd.C k28 w A1_2 l1_2.length l1_2) (hc1_2 : l1_2.length ≤ c1_2) (h : bobbinetkeep_sameExpr.f k a0_0 a0_1 l0_2 a1_0 a1_1 l1_2 = some r),
  Calls Try.prog 13 #[.agg #[.int .i64 a0_0, .int .i64 a0_1, .slice A0_2 l0_2.length c0_2], .agg #[.int .i64 a1_0, .int .i64 a1_1, .slice A1_2 l1_2.length c1_2]] w fun e w' => e = .returned (.bool r) ∧ Below w.heap.size w w' := by
 induction k using Nat.strongRecOn with
 | _ k ih =>
 intro a0_0 a0_1 A0_2 c0_2 l0_2 a1_0 a1_1 A1_2 c1_2 l1_2 r w hr0_2 hc0_2 hr1_2 hc1_2 h
 cases k with
 | zero => exact absurd h (by simp [bobbinetkeep_sameExpr.f])
 | succ k =>
 simp only [bobbinetkeep_sameExpr.f] at h
 have hu28 := Try.underlying28
 have HR0_2 := Aside0.mk hr0_2
 have HC0_2 := Aside0.mk hc0_2
 clear hr0_2 hc0_2
 have HR1_2 := Aside0.mk hr1_2
 have HC1_2 := Aside0.mk hc1_2
 clear hr1_2 hc1_2
 have HB := Aside0.mk (Below.refl w.heap.size w)
 have H : (if a0_0 = a1_0 then (if a0_1 = a1_1 then (bobbinetkeep_sameExpr.j0 k ((l0_2.length : Int) != (l1_2.length : Int)) a0_0 a0_1 l0_2 a1_0 a1_1 l1_2) else (bobbinetkeep_sameExpr.j0 k true a0_0 a0_1 l0_2 a1_0 a1_1 l1_2)) else (bobbinetkeep_sameExpr.j0 k true a0_0 a0_1 l0_2 a1_0 a1_1 l1_2)) = some r := h
 clear h
 have HC3 := Aside0.mk H
 clear H
 go_enter Try.func13, Try.ntmps13
 go_upto_region 1 with (first | ((with_reducible refine gate_dst (N := 2) rfl ?_); (try (refine gate_guard (by rfl) ?_; dsimp only)); refine box_event ?hg (N := 2) ?hd (cs := #[.int .i64 a0_0, .int .i64 a0_1, .slice A0_2 l0_2.length c0_2]) (t := 28) ?hr ?_; (case hd => rfl); (case hg => rfl); (case hr => first | (go_simp; done) | (go_simp; rfl)); intro gb350 hg w4 hbox hb; have n0_ := Aside0.mk (below_step (by repeat (first | (with_reducible first | exact HB.out | apply below_alloc | apply pw_below_drewN | apply below_drew1) | exact HB.out)) hb); have n1_ := Aside0.mk (hbox); have n2_ := Aside0.mk ((by rw [hg]; exact (below_size (by repeat (first | (with_reducible first | exact HB.out | apply below_alloc | apply pw_below_drewN | apply below_drew1) | exact HB.out))) : w.heap.size ≤ gb350)); have n3_ := Aside0.mk ((by rw [hg]; exact (below_size (by repeat (first | (with_reducible first | exact HB.out | apply below_alloc | apply pw_below_drewN | apply below_drew1) | exact HB.out))) : w.heap.size ≤ gb350)); clear HB; have HB := n0_; have BK350 := n1_; have GW350 := n2_; have GE350 := n3_; clear n0_ n1_ n2_ n3_; clear hb hbox hg) | ((with_reducible refine gate_dst (N := 3) rfl ?_); (try (refine gate_guard (by rfl) ?_; dsimp only)); refine box_event ?hg (N := 3) ?hd (cs := #[.int .i64 a1_0, .int .i64 a1_1, .slice A1_2 l1_2.length c1_2]) (t := 28) ?hr ?_; (case hd => rfl); (case hg => rfl); (case hr => first | (go_simp; done) | (go_simp; rfl)); intro gb351 hg w5 hbox hb; have n0_ := Aside0.mk (blk_below (g := gb350) (o := .cells #[.int .i64 a0_0, .int .i64 a0_1, .slice A0_2 l0_2.length c0_2] 28 (0, 0)) (by (with_reducible repeat (first | refine blk_drewN ?_ _ | refine blk_drew ?_ | refine blk_alloc ?_ _)); exact BK350.out) hb); have n1_ := Aside0.mk (below_step (by repeat (first | (with_reducible first | exact HB.out | apply below_alloc | apply pw_below_drewN | apply below_drew1 | refine below_set ?_ GE350.out) | exact HB.out)) hb); have n2_ := Aside0.mk (hbox); have n3_ := Aside0.mk ((by rw [hg]; exact (below_size (by repeat (first | (with_reducible first | exact HB.out | apply below_alloc | apply pw_below_drewN | apply below_drew1 | refine below_set ?_ GE350.out) | exact HB.out))) : w.heap.size ≤ gb351)); have n4_ := Aside0.mk ((by rw [hg]; exact (below_size (by repeat (first | (with_reducible first | exact HB.out | apply below_alloc | apply pw_below_drewN | apply below_drew1 | refine below_set ?_ GE350.out) | exact HB.out))) : w.heap.size ≤ gb351)); have n5_ := Aside0.mk ((by rw [hg]; exact Nat.ne_of_lt (blk_lt (g := gb350) (o := .cells #[.int .i64 a0_0, .int .i64 a0_1, .slice A0_2 l0_2.length c0_2] 28 (0, 0)) (by (with_reducible repeat (first | refine blk_drewN ?_ _ | refine blk_drew ?_ | refine blk_alloc ?_ _)); exact BK350.out)) : gb350 ≠ gb351)); have n6_ := Aside0.mk ((by rw [hg]; exact Nat.ne_of_gt (blk_lt (g := gb350) (o := .cells #[.int .i64 a0_0, .int .i64 a0_1, .slice A0_2 l0_2.length c0_2] 28 (0, 0)) (by (with_reducible repeat (first | refine blk_drewN ?_ _ | refine blk_drew ?_ | refine blk_alloc ?_ _)); exact BK350.out)) : gb351 ≠ gb350)); clear BK350; clear HB; have BK350 := n0_; have HB := n1_; have BK351 := n2_; have GW351 := n3_; have GE351 := n4_; have NB350_351 := n5_; have NB351_350 := n6_; clear n0_ n1_ n2_ n3_ n4_ n5_ n6_; clear hb hbox hg))
 (try simp only [Act.put, List.setIfInBounds_toArray, List.set_cons_zero, List.set_cons_succ])
 go_cut [26] (fun v26 wc => ∃ (kq : Nat) (x26_2 : Bool), v26 = .bool x26_2 ∧ Aside0 (bobbinetkeep_sameExpr.j0 kq x26_2 a0_0 a0_1 l0_2 a1_0 a1_1 l1_2 = some r) ∧ Aside0 (kq ≤ k) ∧ Aside0 (wc.heap[gb350]? = some (.cells #[.int .i64 a0_0, .int .i64 a0_1, (.slice A0_2 l0_2.length c0_2)] 28 (0, 0))) ∧ Aside0 (wc.heap[gb351]? = some (.cells #[.int .i64 a1_0, .int .i64 a1_1, (.slice A1_2 l1_2.length c1_2)] 28 (0, 0))) ∧ Aside0 (Below w.heap.size w wc))
 case first =>
  have H := HC3.out
  clear HC3
  by_cases c6 : a0_0 = a1_0
  ·
   rw [if_pos c6] at H
   have c6b0 : (a0_0 == a1_0) = true := beq_iff_eq.mpr c6
   have c6b1 : (a0_0 != a1_0) = false := bne_eq_false_iff_eq.mpr c6
   clear c6
   (first | rw [c6b0] | (simp only [i64_w, i32_w]; rw [c6b0]) | rw [c6b1] | skip)
   by_cases c7 : a0_1 = a1_1
   ·
    rw [if_pos c7] at H
    have c7b0 : (a0_1 == a1_1) = true := beq_iff_eq.mpr c7
    have c7b1 : (a0_1 != a1_1) = false := bne_eq_false_iff_eq.mpr c7
    clear c7
    have H' := Aside0.mk H
    clear H
    have hnb8 := NB350_351.out
    have hnc8 := NB351_350.out
    have hcz9_0 : w5.cell? ⟨gb350, 0, none⟩ = some (.int .i64 a0_0) := (blk_cell BK350.out 0).trans rfl
    have hcz9_1 : w5.cell? ⟨gb350, 1, none⟩ = some (.int .i64 a0_1) := (blk_cell BK350.out 1).trans rfl
    have hcz9_2 : w5.cell? ⟨gb350, 2, none⟩ = some (.slice A0_2 l0_2.length c0_2) := (blk_cell BK350.out 2).trans rfl
    have hfz9_0 := blk_frozen BK350.out 0
    have hfz9_1 := blk_frozen BK350.out 1
    have hfz9_2 := blk_frozen BK350.out 2
    have hcz10_0 : w5.cell? ⟨gb351, 0, none⟩ = some (.int .i64 a1_0) := (blk_cell BK351.out 0).trans rfl
    have hcz10_1 : w5.cell? ⟨gb351, 1, none⟩ = some (.int .i64 a1_1) := (blk_cell BK351.out 1).trans rfl
    have hcz10_2 : w5.cell? ⟨gb351, 2, none⟩ = some (.slice A1_2 l1_2.length c1_2) := (blk_cell BK351.out 2).trans rfl
    have hfz10_0 := blk_frozen BK351.out 0
    have hfz10_1 := blk_frozen BK351.out 1
    have hfz10_2 := blk_frozen BK351.out 2
    go_wp2
    go_meet
    case rel => exact ⟨_, (((l0_2.length : Int) != (l1_2.length : Int))), (by first | rfl | (simp; done) | (simp [*]; done) | (simp [bne]; done)), H', ⟨by first | omega | exact Nat.le_refl _⟩, ⟨by (with_reducible repeat (first | refine blk_drewN ?_ _ | refine blk_drew ?_ | refine blk_alloc ?_ _)); exact BK350.out⟩, ⟨by (with_reducible repeat (first | refine blk_drewN ?_ _ | refine blk_drew ?_ | refine blk_alloc ?_ _)); exact BK351.out⟩, ⟨by repeat (first | (with_reducible first | exact HB.out | apply below_alloc | apply pw_below_drewN | apply below_drew1 | refine below_set ?_ GE350.out | refine below_set ?_ GE351.out) | exact HB.out)⟩⟩
   ·
    rw [if_neg c7] at H
    have c7b0 : (a0_1 == a1_1) = false := beq_eq_false_iff_ne.mpr c7
    have c7b1 : (a0_1 != a1_1) = true := bne_iff_ne.mpr c7
    have H' := Aside0.mk H
    clear H
    have hnb11 := NB350_351.out
    have hnc11 := NB351_350.out
    have hcz12_0 : w5.cell? ⟨gb350, 0, none⟩ = some (.int .i64 a0_0) := (blk_cell BK350.out 0).trans rfl
    have hcz12_1 : w5.cell? ⟨gb350, 1, none⟩ = some (.int .i64 a0_1) := (blk_cell BK350.out 1).trans rfl
    have hcz12_2 : w5.cell? ⟨gb350, 2, none⟩ = some (.slice A0_2 l0_2.length c0_2) := (blk_cell BK350.out 2).trans rfl
    have hfz12_0 := blk_frozen BK350.out 0
    have hfz12_1 := blk_frozen BK350.out 1
    have hfz12_2 := blk_frozen BK350.out 2
    have hcz13_0 : w5.cell? ⟨gb351, 0, none⟩ = some (.int .i64 a1_0) := (blk_cell BK351.out 0).trans rfl
    have hcz13_1 : w5.cell? ⟨gb351, 1, none⟩ = some (.int .i64 a1_1) := (blk_cell BK351.out 1).trans rfl
    have hcz13_2 : w5.cell? ⟨gb351, 2, none⟩ = some (.slice A1_2 l1_2.length c1_2) := (blk_cell BK351.out 2).trans rfl
    have hfz13_0 := blk_frozen BK351.out 0
    have hfz13_1 := blk_frozen BK351.out 1
    have hfz13_2 := blk_frozen BK351.out 2
    go_wp2
    go_meet
    case rel => exact ⟨_, (true), (by first | rfl | (simp; done) | (simp [*]; done) | (simp [bne]; done)), H', ⟨by first | omega | exact Nat.le_refl _⟩, ⟨by (with_reducible repeat (first | refine blk_drewN ?_ _ | refine blk_drew ?_ | refine blk_alloc ?_ _)); exact BK350.out⟩, ⟨by (with_reducible repeat (first | refine blk_drewN ?_ _ | refine blk_drew ?_ | refine blk_alloc ?_ _)); exact BK351.out⟩, ⟨by repeat (first | (with_reducible first | exact HB.out | apply below_alloc | apply pw_below_drewN | apply below_drew1 | refine below_set ?_ GE350.out | refine below_set ?_ GE351.out) | exact HB.out)⟩⟩
  ·
   rw [if_neg c6] at H
   have c6b0 : (a0_0 == a1_0) = false := beq_eq_false_iff_ne.mpr c6
   have c6b1 : (a0_0 != a1_0) = true := bne_iff_ne.mpr c6
   (first | rw [c6b0] | (simp only [i64_w, i32_w]; rw [c6b0]) | rw [c6b1] | skip)
   have H' := Aside0.mk H
   clear H
   have hnb14 := NB350_351.out
   have hnc14 := NB351_350.out
   have hcz15_0 : w5.cell? ⟨gb350, 0, none⟩ = some (.int .i64 a0_0) := (blk_cell BK350.out 0).trans rfl
   have hcz15_1 : w5.cell? ⟨gb350, 1, none⟩ = some (.int .i64 a0_1) := (blk_cell BK350.out 1).trans rfl
   have hcz15_2 : w5.cell? ⟨gb350, 2, none⟩ = some (.slice A0_2 l0_2.length c0_2) := (blk_cell BK350.out 2).trans rfl
   have hfz15_0 := blk_frozen BK350.out 0
   have hfz15_1 := blk_frozen BK350.out 1
   have hfz15_2 := blk_frozen BK350.out 2
   have hcz16_0 : w5.cell? ⟨gb351, 0, none⟩ = some (.int .i64 a1_0) := (blk_cell BK351.out 0).trans rfl
   have hcz16_1 : w5.cell? ⟨gb351, 1, none⟩ = some (.int .i64 a1_1) := (blk_cell BK351.out 1).trans rfl
   have hcz16_2 : w5.cell? ⟨gb351, 2, none⟩ = some (.slice A1_2 l1_2.length c1_2) := (blk_cell BK351.out 2).trans rfl
   have hfz16_0 := blk_frozen BK351.out 0
   have hfz16_1 := blk_frozen BK351.out 1
   have hfz16_2 := blk_frozen BK351.out 2
   go_wp2
   go_meet
   case rel => exact ⟨_, (true), (by first | rfl | (simp; done) | (simp [*]; done) | (simp [bne]; done)), H', ⟨by first | omega | exact Nat.le_refl _⟩, ⟨by (with_reducible repeat (first | refine blk_drewN ?_ _ | refine blk_drew ?_ | refine blk_alloc ?_ _)); exact BK350.out⟩, ⟨by (with_reducible repeat (first | refine blk_drewN ?_ _ | refine blk_drew ?_ | refine blk_alloc ?_ _)); exact BK351.out⟩, ⟨by repeat (first | (with_reducible first | exact HB.out | apply below_alloc | apply pw_below_drewN | apply below_drew1 | refine below_set ?_ GE350.out | refine below_set ?_ GE351.out) | exact HB.out)⟩⟩
 case rest =>
  clear HC3
  try clear c1
  try clear p2
  try clear c6
  try clear c6b0
  try clear c6b1
  try clear c7
  try clear c7b0
  try clear c7b1
  try clear c8
  try clear c11
  try clear c13
  try clear c14
  try clear hcz10_0
  try clear hcz10_1
  try clear hcz10_2
  try clear hcz12_0
  try clear hcz12_1
  try clear hcz12_2
  try clear hcz13_0
  try clear hcz13_1
  try clear hcz13_2
  try clear hcz15_0
  try clear hcz15_1
  try clear hcz15_2
  try clear hcz16_0
  try clear hcz16_1
  try clear hcz16_2
  try clear hcz9_0
  try clear hcz9_1
  try clear hcz9_2
  try clear hfz10_0
  try clear hfz10_1
  try clear hfz10_2
  try clear hfz12_0
  try clear hfz12_1
  try clear hfz12_2
  try clear hfz13_0
  try clear hfz13_1
  try clear hfz13_2
  try clear hfz15_0
  try clear hfz15_1
  try clear hfz15_2
  try clear hfz16_0
  try clear hfz16_1
  try clear hfz16_2
  try clear hfz9_0
  try clear hfz9_1
  try clear hfz9_2
  obtain ⟨kq, x26_2, rfl, HA, HJ2, BK350, BK351, HB⟩ := hcut
  cases kq with
  | zero => exact absurd HA.out (by simp [bobbinetkeep_sameExpr.j0])
  | succ kj2 =>
   have H := HA.out
   clear HA
   simp only [bobbinetkeep_sameExpr.j0] at H
   by_cases c17 : x26_2 = true
   ·
    subst c17
    have H1 : (some false) = some r := by rw [if_pos rfl] at H; exact H
    clear H
    have H := H1
    clear H1
    obtain rfl := Option.some.inj H
    go_wp2
    go_ret
    exact ⟨by first | rfl | (simp [errW_none, errW_some] <;> rfl) | (simp [*, errW_none, errW_some] <;> rfl), by repeat (first | (with_reducible first | exact HB.out | apply below_alloc | apply pw_below_drewN | apply below_drew1 | refine below_set ?_ GE350.out | refine below_set ?_ GE351.out) | exact HB.out)⟩
   ·
    replace c17 := Bool.eq_false_iff.mpr c17
    subst c17
    have H1 : (bobbinetkeep_sameExpr.l0 kj2 0 a0_0 a0_1 l0_2 a1_0 a1_1 l1_2) = some r := by rw [if_neg (show ¬ (false = true) by decide)] at H; exact H
    clear H
    have H := H1
    clear H1
    have H' := Aside0.mk H
    clear H
    go_wp2
    go_loopg [5] kj2 (fun kq v5 w' => ∃ (x5_2 : Int), v5 = .int .i64 x5_2 ∧ Aside0 (bobbinetkeep_sameExpr.l0 kq x5_2 a0_0 a0_1 l0_2 a1_0 a1_1 l1_2 = some r) ∧ Aside0 (kq ≤ kj2) ∧ Aside0 (w'.heap[gb350]? = some (.cells #[.int .i64 a0_0, .int .i64 a0_1, (.slice A0_2 l0_2.length c0_2)] 28 (0, 0))) ∧ Aside0 (w'.heap[gb351]? = some (.cells #[.int .i64 a1_0, .int .i64 a1_1, (.slice A1_2 l1_2.length c1_2)] 28 (0, 0))) ∧ Aside0 (Below w.heap.size w w'))
    case atStart => exact ⟨(0), (by first | rfl | (simp; done) | (simp [*]; done) | (simp [bne]; done)), H', ⟨Nat.le_refl _⟩, ⟨by (with_reducible repeat (first | refine blk_drewN ?_ _ | refine blk_drew ?_ | refine blk_alloc ?_ _)); exact BK350.out⟩, ⟨by (with_reducible repeat (first | refine blk_drewN ?_ _ | refine blk_drew ?_ | refine blk_alloc ?_ _)); exact BK351.out⟩, ⟨by repeat (first | (with_reducible first | exact HB.out | apply below_alloc | apply pw_below_drewN | apply below_drew1 | refine below_set ?_ GE350.out | refine below_set ?_ GE351.out) | exact HB.out)⟩⟩
    case round =>
     clear H'
     try clear c1
     try clear p2
     try clear c6
     try clear c6b0
     try clear c6b1
     try clear c7
     try clear c7b0
     try clear c7b1
     try clear c8
     try clear c11
     try clear c13
     try clear c14
     try clear c17
     try clear hcz10_0
     try clear hcz10_1
     try clear hcz10_2
     try clear hcz12_0
     try clear hcz12_1
     try clear hcz12_2
     try clear hcz13_0
     try clear hcz13_1
     try clear hcz13_2
     try clear hcz15_0
     try clear hcz15_1
     try clear hcz15_2
     try clear hcz16_0
     try clear hcz16_1
     try clear hcz16_2
     try clear hcz9_0
     try clear hcz9_1
     try clear hcz9_2
     try clear hfz10_0
     try clear hfz10_1
     try clear hfz10_2
     try clear hfz12_0
     try clear hfz12_1
     try clear hfz12_2
     try clear hfz13_0
     try clear hfz13_1
     try clear hfz13_2
     try clear hfz15_0
     try clear hfz15_1
     try clear hfz15_2
     try clear hfz16_0
     try clear hfz16_1
     try clear hfz16_2
     try clear hfz9_0
     try clear hfz9_1
     try clear hfz9_2
     try clear p2
     obtain ⟨x5_2, rfl, HA, HK2, BK350, BK351, HB⟩ := hrel
     cases gk with
     | zero => exact absurd HA.out (by simp [bobbinetkeep_sameExpr.l0])
     | succ k2 =>
      have H := HA.out
      clear HA
      simp only [bobbinetkeep_sameExpr.l0] at H
      by_cases c18 : x5_2 < (l0_2.length : Int)
      ·
       rw [if_pos c18] at H
       have c18b0 : decide (x5_2 < (l0_2.length : Int)) = true := decide_eq_true c18
       clear c18
       by_cases c19 : 0 ≤ x5_2
       ·
        rw [if_pos c19] at H
        have c19b0 : decide (0 ≤ x5_2) = true := decide_eq_true c19
        clear c19
        by_cases c20 : x5_2 < (l1_2.length : Int)
        ·
         rw [if_pos c20] at H
         have c20b0 : decide (x5_2 < (l1_2.length : Int)) = true := decide_eq_true c20
         clear c20
         replace H := Option.bind_eq_some_iff.mp H
         obtain ⟨t354, A210, H⟩ := H
         replace H : (if t354 = true then (bobbinetkeep_sameExpr.l0 k2 (wrap64 (x5_2 + 1)) a0_0 a0_1 l0_2 a1_0 a1_1 l1_2) else (some false)) = some r := H
         have A21 := Aside0.mk A210
         clear A210
         by_cases c22 : t354 = true
         ·
          subst c22
          have H1 : (bobbinetkeep_sameExpr.l0 k2 (wrap64 (x5_2 + 1)) a0_0 a0_1 l0_2 a1_0 a1_1 l1_2) = some r := by rw [if_pos rfl] at H; exact H
          clear H
          have H := H1
          clear H1
          have H' := Aside0.mk H
          clear H
          have hnb23 := NB350_351.out
          have hnc23 := NB351_350.out
          have hcz24_0 : wr.cell? ⟨gb350, 0, none⟩ = some (.int .i64 a0_0) := (blk_cell BK350.out 0).trans rfl
          have hcz24_1 : wr.cell? ⟨gb350, 1, none⟩ = some (.int .i64 a0_1) := (blk_cell BK350.out 1).trans rfl
          have hcz24_2 : wr.cell? ⟨gb350, 2, none⟩ = some (.slice A0_2 l0_2.length c0_2) := (blk_cell BK350.out 2).trans rfl
          have hfz24_0 := blk_frozen BK350.out 0
          have hfz24_1 := blk_frozen BK350.out 1
          have hfz24_2 := blk_frozen BK350.out 2
          try go_wp2
          have n0_ := Aside0.mk (blk_drew BK350.out)
          have n1_ := Aside0.mk (blk_drew BK351.out)
          have n2_ := Aside0.mk (below_drew1 HB.out)
          clear BK350
          clear BK351
          clear HB
          have BK350 := n0_
          have BK351 := n1_
          have HB := n2_
          clear n0_ n1_ n2_
          have p352 : 0 ≤ (x5_2 : Int) := of_decide_eq_true (by first | (with_reducible assumption) | assumption)
          have q352 : x5_2 < (l0_2.length : Int) := of_decide_eq_true (by first | (with_reducible assumption) | assumption)
          obtain ⟨ad352, A352_2, c352_2, e352, hx352_0, hx352_1, hx352_2, hl352_2, hi352_2⟩ := at_T28 HR0_2.out x5_2 p352 q352
          have hw352_2 := hx352_2
          have hw352_1 := hx352_1
          have hw352_0 := hx352_0
          cases e352
          replace hx352_0 := (HB.out.cell (World.block_lt_of_cell? w _ hx352_0)).trans hx352_0
          replace hx352_1 := (HB.out.cell (World.block_lt_of_cell? w _ hx352_1)).trans hx352_1
          replace hx352_2 := (HB.out.cell (World.block_lt_of_cell? w _ hx352_2)).trans hx352_2
          have HR352_2 := Aside0.mk hi352_2
          have HC352_2 := Aside0.mk hl352_2
          clear hi352_2 hl352_2
          replace p352 := eq_true p352
          replace q352 := eq_true q352
          have p353 : 0 ≤ (x5_2 : Int) := of_decide_eq_true (by first | (with_reducible assumption) | assumption)
          have q353 : x5_2 < (l1_2.length : Int) := of_decide_eq_true (by first | (with_reducible assumption) | assumption)
          obtain ⟨ad353, A353_2, c353_2, e353, hx353_0, hx353_1, hx353_2, hl353_2, hi353_2⟩ := at_T28 HR1_2.out x5_2 p353 q353
          have hw353_2 := hx353_2
          have hw353_1 := hx353_1
          have hw353_0 := hx353_0
          cases e353
          replace hx353_0 := (HB.out.cell (World.block_lt_of_cell? w _ hx353_0)).trans hx353_0
          replace hx353_1 := (HB.out.cell (World.block_lt_of_cell? w _ hx353_1)).trans hx353_1
          replace hx353_2 := (HB.out.cell (World.block_lt_of_cell? w _ hx353_2)).trans hx353_2
          have HR353_2 := Aside0.mk hi353_2
          have HC353_2 := Aside0.mk hl353_2
          clear hi353_2 hl353_2
          replace p353 := eq_true p353
          replace q353 := eq_true q353
          refine start_ (n := 12) (S := fun w' => w'.cell? ⟨gb350, 0, none⟩ = some (.int .i64 a0_0) ∧ w'.cell? ⟨gb350, 1, none⟩ = some (.int .i64 a0_1) ∧ w'.cell? ⟨gb350, 2, none⟩ = some (.slice (some ad352) l0_2.length c0_2) ∧ w'.cell? ⟨gb351, 0, none⟩ = some (.int .i64 a1_0) ∧ w'.cell? ⟨gb351, 1, none⟩ = some (.int .i64 a1_1) ∧ w'.cell? ⟨gb351, 2, none⟩ = some (.slice (some ad353) l1_2.length c1_2) ∧ w'.cell? (ad352.add ((x5_2).toNat * 3)) = some (.int .i64 ((rd_T28 l0_2 x5_2).f0)) ∧ w'.cell? ⟨(ad352.add ((x5_2).toNat * 3)).block, (ad352.add ((x5_2).toNat * 3)).off + 1, none⟩ = some (.int .i64 ((rd_T28 l0_2 x5_2).f1)) ∧ w'.cell? ⟨(ad352.add ((x5_2).toNat * 3)).block, (ad352.add ((x5_2).toNat * 3)).off + 2, none⟩ = some (.slice A352_2 ((rd_T28 l0_2 x5_2).f2).length c352_2) ∧ w'.cell? (ad353.add ((x5_2).toNat * 3)) = some (.int .i64 ((rd_T28 l1_2 x5_2).f0)) ∧ w'.cell? ⟨(ad353.add ((x5_2).toNat * 3)).block, (ad353.add ((x5_2).toNat * 3)).off + 1, none⟩ = some (.int .i64 ((rd_T28 l1_2 x5_2).f1)) ∧ w'.cell? ⟨(ad353.add ((x5_2).toNat * 3)).block, (ad353.add ((x5_2).toNat * 3)).off + 2, none⟩ = some (.slice A353_2 ((rd_T28 l1_2 x5_2).f2).length c353_2)) (ds := []) #[false, false, false, false, false, false, false, false, false, false, false, false] (by kernel_rfl) rfl rfl ⟨(blk_cell BK350.out 0).trans rfl, (blk_cell BK350.out 1).trans rfl, (blk_cell BK350.out 2).trans rfl, (blk_cell BK351.out 0).trans rfl, (blk_cell BK351.out 1).trans rfl, (blk_cell BK351.out 2).trans rfl, ((HB.out.cell (World.block_lt_of_cell? w _ hw352_0)).trans hw352_0), ((HB.out.cell (World.block_lt_of_cell? w _ hw352_1)).trans hw352_1), ((HB.out.cell (World.block_lt_of_cell? w _ hw352_2)).trans hw352_2), ((HB.out.cell (World.block_lt_of_cell? w _ hw353_0)).trans hw353_0), ((HB.out.cell (World.block_lt_of_cell? w _ hw353_1)).trans hw353_1), ((HB.out.cell (World.block_lt_of_cell? w _ hw353_2)).trans hw353_2)⟩ (fun hHeld => ?_); refine with_tabW bobbinetkeep_sameExpr.tab6 bobbinetkeep_sameExpr.bits6 (fun HT_ HW_ => ?_)
          generalize wr.drew = w25 at BK350 BK351 HB HR352_2 HR353_2 hx352_0 hx352_1 hx352_2 hx353_0 hx353_1 hx353_2 hHeld ⊢
          refine pure_ (i := 0) (N := some 34) (v := ?_) (a' := ?_) #[true, false, false, false, false, false, false, false, false, false, false, false] rfl rfl (any_of HT_.out (by kernel_rfl)) (fun _ _ _ h => h) (Or.inl ⟨by rfl, ?_⟩) ?_ ?_
          rotate_left
          ·
           intro w'
           go_simp
           with_reducible rfl
          rotate_left
          ·
           simp only [Act.put, List.setIfInBounds_toArray, List.set_cons_zero, List.set_cons_succ, i64_w, i32_w]
           rfl
          refine pure_ (i := 2) (N := some 36) (v := ?_) (a' := ?_) #[true, false, true, false, false, false, false, false, false, false, false, false] rfl rfl (any_of HT_.out (by kernel_rfl)) (fun _ _ _ h => h) (Or.inl ⟨by rfl, ?_⟩) ?_ ?_
          rotate_left
          ·
           intro w'
           go_simp
           with_reducible rfl
          rotate_left
          ·
           simp only [Act.put, List.setIfInBounds_toArray, List.set_cons_zero, List.set_cons_succ, i64_w, i32_w]
           rfl
          refine pure_ (i := 5) (N := some 39) (v := ?_) (a' := ?_) #[true, false, true, false, false, true, false, false, false, false, false, false] rfl rfl (any_of HT_.out (by kernel_rfl)) (fun _ _ _ h => h) (Or.inl ⟨by rfl, ?_⟩) ?_ ?_
          rotate_left
          ·
           intro w'
           go_simp
           with_reducible rfl
          rotate_left
          ·
           simp only [Act.put, List.setIfInBounds_toArray, List.set_cons_zero, List.set_cons_succ, i64_w, i32_w]
           rfl
          refine pure_ (i := 7) (N := some 41) (v := ?_) (a' := ?_) #[true, false, true, false, false, true, false, true, false, false, false, false] rfl rfl (any_of HT_.out (by kernel_rfl)) (fun _ _ _ h => h) (Or.inl ⟨by rfl, ?_⟩) ?_ ?_
          rotate_left
          ·
           intro w'
           go_simp
           with_reducible rfl
          rotate_left
          ·
           simp only [Act.put, List.setIfInBounds_toArray, List.set_cons_zero, List.set_cons_succ, i64_w, i32_w]
           rfl
          refine take_ (i := 1) (N := some 35) (v := ?_) (a' := ?_) #[true, true, true, false, false, true, false, true, false, false, false, false] rfl rfl (take_ofW HT_.out HW_.out (by kernel_rfl)) (fun _ _ _ h => h) (Or.inl ⟨by rfl, ?_⟩) hHeld ?_ ?_
          rotate_left
          ·
           rintro w' ⟨s0, s1, s2, s3, s4, s5, s6, s7, s8, s9, s10, s11⟩
           go_simp
           with_reducible rfl
          rotate_left
          ·
           simp only [Act.put, List.setIfInBounds_toArray, List.set_cons_zero, List.set_cons_succ, i64_w, i32_w]
           rfl
          refine pure_ (i := 3) (N := some 37) (v := ?_) (a' := ?_) #[true, true, true, true, false, true, false, true, false, false, false, false] rfl rfl (any_of HT_.out (by kernel_rfl)) (fun _ _ _ h => h) (Or.inl ⟨by rfl, ?_⟩) ?_ ?_
          rotate_left
          ·
           intro w'
           go_simp
           with_reducible rfl
          rotate_left
          ·
           simp only [Act.put, List.setIfInBounds_toArray, List.set_cons_zero, List.set_cons_succ, i64_w, i32_w]
           rfl
          refine take_ (i := 4) (N := some 38) (v := ?_) (a' := ?_) #[true, true, true, true, true, true, false, true, false, false, false, false] rfl rfl (take_ofW HT_.out HW_.out (by kernel_rfl)) (fun _ _ _ h => h) (Or.inl ⟨by rfl, ?_⟩) hHeld ?_ ?_
          rotate_left
          ·
           rintro w' ⟨s0, s1, s2, s3, s4, s5, s6, s7, s8, s9, s10, s11⟩
           go_simp
           with_reducible rfl
          rotate_left
          ·
           simp only [Act.put, List.setIfInBounds_toArray, List.set_cons_zero, List.set_cons_succ, i64_w, i32_w]
           rfl
          refine take_ (i := 6) (N := some 40) (v := ?_) (a' := ?_) #[true, true, true, true, true, true, true, true, false, false, false, false] rfl rfl (take_ofW HT_.out HW_.out (by kernel_rfl)) (fun _ _ _ h => h) (Or.inl ⟨by rfl, ?_⟩) hHeld ?_ ?_
          rotate_left
          ·
           rintro w' ⟨s0, s1, s2, s3, s4, s5, s6, s7, s8, s9, s10, s11⟩
           go_simp
           with_reducible rfl
          rotate_left
          ·
           simp only [Act.put, List.setIfInBounds_toArray, List.set_cons_zero, List.set_cons_succ, i64_w, i32_w]
           rfl
          refine pure_ (i := 8) (N := some 42) (v := ?_) (a' := ?_) #[true, true, true, true, true, true, true, true, true, false, false, false] rfl rfl (any_of HT_.out (by kernel_rfl)) (fun _ _ _ h => h) (Or.inl ⟨by rfl, ?_⟩) ?_ ?_
          rotate_left
          ·
           intro w'
           go_simp
           with_reducible rfl
          rotate_left
          ·
           simp only [Act.put, List.setIfInBounds_toArray, List.set_cons_zero, List.set_cons_succ, i64_w, i32_w]
           rfl
          refine take_ (i := 9) (N := some 43) (v := ?_) (a' := ?_) #[true, true, true, true, true, true, true, true, true, true, false, false] rfl rfl (take_ofW HT_.out HW_.out (by kernel_rfl)) (fun _ _ _ h => h) (Or.inl ⟨by rfl, ?_⟩) hHeld ?_ ?_
          rotate_left
          ·
           rintro w' ⟨s0, s1, s2, s3, s4, s5, s6, s7, s8, s9, s10, s11⟩
           go_simp
           with_reducible rfl
          rotate_left
          ·
           simp only [Act.put, List.setIfInBounds_toArray, List.set_cons_zero, List.set_cons_succ, i64_w, i32_w]
           rfl
          refine one_ (i := 10) (N := some 44) #[true, true, true, true, true, true, true, true, true, true, true, false] rfl rfl (one_of HT_.out (by kernel_rfl)) (by decide) (fun K hK => ?_)
          refine goes_ Try.func13 (by kernel_rfl) rfl #[.agg #[.int .i64 ((rd_T28 l0_2 x5_2).f0), .int .i64 ((rd_T28 l0_2 x5_2).f1), .slice A352_2 ((rd_T28 l0_2 x5_2).f2).length c352_2], .agg #[.int .i64 ((rd_T28 l1_2 x5_2).f0), .int .i64 ((rd_T28 l1_2 x5_2).f1), .slice A353_2 ((rd_T28 l1_2 x5_2).f2).length c353_2]] (by rfl) rfl rfl (by (try simp only [List.map_toArray, List.map_cons, List.map_nil]); first | done | rfl | (simp only [List.length_drop, List.length_take]; rfl)) ?_
          with_reducible refine (ih k2 (by have := HJ2.out; have := HK2.out; omega) ((rd_T28 l0_2 x5_2).f0) ((rd_T28 l0_2 x5_2).f1) _ _ ((rd_T28 l0_2 x5_2).f2) ((rd_T28 l1_2 x5_2).f0) ((rd_T28 l1_2 x5_2).f1) _ _ ((rd_T28 l1_2 x5_2).f2) true _ ?side1 ?side2 ?side3 ?side4 A21.out).mono ?_
          (case side1 => repeat (first | exact (Kd.C_below HR352_2.out HB.out) | (with_reducible refine Kd.C_alloc ?_ _) | (with_reducible refine Kd.C_drewN ?_ _) | (with_reducible refine Kd.C_drew ?_)))
          (case side2 => exact HC352_2.out)
          (case side3 => repeat (first | exact (Kd.C_below HR353_2.out HB.out) | (with_reducible refine Kd.C_alloc ?_ _) | (with_reducible refine Kd.C_drewN ?_ _) | (with_reducible refine Kd.C_drew ?_)))
          (case side4 => exact HC353_2.out)
          rintro e w26 ⟨rfl, hb⟩
          refine ⟨_, rfl, ?_⟩
          have n0_ := Aside0.mk (blk_below (g := gb350) (o := .cells #[.int .i64 a0_0, .int .i64 a0_1, .slice (some ad352) l0_2.length c0_2] 28 (0, 0)) (by (with_reducible repeat (first | refine blk_drewN ?_ _ | refine blk_drew ?_ | refine blk_alloc ?_ _)); exact BK350.out) hb)
          have n1_ := Aside0.mk (blk_below (g := gb351) (o := .cells #[.int .i64 a1_0, .int .i64 a1_1, .slice (some ad353) l1_2.length c1_2] 28 (0, 0)) (by (with_reducible repeat (first | refine blk_drewN ?_ _ | refine blk_drew ?_ | refine blk_alloc ?_ _)); exact BK351.out) hb)
          have n2_ := Aside0.mk (below_step (by repeat (first | (with_reducible first | exact HB.out | apply below_alloc | apply pw_below_drewN | apply below_drew1 | refine below_set ?_ GE350.out | refine below_set ?_ GE351.out) | exact HB.out)) hb)
          clear BK350
          clear BK351
          clear HB
          have BK350 := n0_
          have BK351 := n1_
          have HB := n2_
          clear n0_ n1_ n2_
          (try clear hb)
          (try clear hb2)
          (try clear hk)
          (try clear hi)
          refine hK.out _ _ ⟨(blk_cell BK350.out 0).trans rfl, (blk_cell BK350.out 1).trans rfl, (blk_cell BK350.out 2).trans rfl, (blk_cell BK351.out 0).trans rfl, (blk_cell BK351.out 1).trans rfl, (blk_cell BK351.out 2).trans rfl, ((HB.out.cell (World.block_lt_of_cell? w _ hw352_0)).trans hw352_0), ((HB.out.cell (World.block_lt_of_cell? w _ hw352_1)).trans hw352_1), ((HB.out.cell (World.block_lt_of_cell? w _ hw352_2)).trans hw352_2), ((HB.out.cell (World.block_lt_of_cell? w _ hw353_0)).trans hw353_0), ((HB.out.cell (World.block_lt_of_cell? w _ hw353_1)).trans hw353_1), ((HB.out.cell (World.block_lt_of_cell? w _ hw353_2)).trans hw353_2)⟩ (fun hHeld => ?_)
          clear hK K
          refine norm_ (a' := ?_) ?_ ?_
          rotate_left
          ·
           show Act.put _ (some 44) _ = _
           simp only [Act.put, List.setIfInBounds_toArray, List.set_cons_zero, List.set_cons_succ, i64_w, i32_w]
           rfl
          refine pure_ (i := 11) (N := some 45) (v := ?_) (a' := ?_) #[true, true, true, true, true, true, true, true, true, true, true, true] rfl rfl (any_of HT_.out (by kernel_rfl)) (fun _ _ _ h => h) (Or.inl ⟨by rfl, ?_⟩) ?_ ?_
          rotate_left
          ·
           intro w'
           go_simp
           with_reducible rfl
          rotate_left
          ·
           simp only [Act.put, List.setIfInBounds_toArray, List.set_cons_zero, List.set_cons_succ, i64_w, i32_w]
           rfl
          refine done_ (done_of HT_.out (by kernel_rfl)) ?_
          try go_wp2
          go_roundg k2
          case measure => have := HJ2.out; have := HK2.out; omega
          case rel => exact ⟨(wrap64 (x5_2 + 1)), (by first | rfl | (simp; done) | (simp [*]; done) | (simp [bne]; done)), H', ⟨by have := HJ2.out; have := HK2.out; omega⟩, ⟨by (with_reducible repeat (first | refine blk_drewN ?_ _ | refine blk_drew ?_ | refine blk_alloc ?_ _)); exact BK350.out⟩, ⟨by (with_reducible repeat (first | refine blk_drewN ?_ _ | refine blk_drew ?_ | refine blk_alloc ?_ _)); exact BK351.out⟩, ⟨by repeat (first | (with_reducible first | exact HB.out | apply below_alloc | apply pw_below_drewN | apply below_drew1 | refine below_set ?_ GE350.out | refine below_set ?_ GE351.out) | exact HB.out)⟩⟩
         ·
          replace c22 := Bool.eq_false_iff.mpr c22
          subst c22
          have H1 : (some false) = some r := by rw [if_neg (show ¬ (false = true) by decide)] at H; exact H
          clear H
          have H := H1
          clear H1
          obtain rfl := Option.some.inj H
          have hnb27 := NB350_351.out
          have hnc27 := NB351_350.out
          have hcz28_0 : wr.cell? ⟨gb350, 0, none⟩ = some (.int .i64 a0_0) := (blk_cell BK350.out 0).trans rfl
          have hcz28_1 : wr.cell? ⟨gb350, 1, none⟩ = some (.int .i64 a0_1) := (blk_cell BK350.out 1).trans rfl
          have hcz28_2 : wr.cell? ⟨gb350, 2, none⟩ = some (.slice A0_2 l0_2.length c0_2) := (blk_cell BK350.out 2).trans rfl
          have hfz28_0 := blk_frozen BK350.out 0
          have hfz28_1 := blk_frozen BK350.out 1
          have hfz28_2 := blk_frozen BK350.out 2
          try go_wp2
          have n0_ := Aside0.mk (blk_drew BK350.out)
          have n1_ := Aside0.mk (blk_drew BK351.out)
          have n2_ := Aside0.mk (below_drew1 HB.out)
          clear BK350
          clear BK351
          clear HB
          have BK350 := n0_
          have BK351 := n1_
          have HB := n2_
          clear n0_ n1_ n2_
          have p352 : 0 ≤ (x5_2 : Int) := of_decide_eq_true (by first | (with_reducible assumption) | assumption)
          have q352 : x5_2 < (l0_2.length : Int) := of_decide_eq_true (by first | (with_reducible assumption) | assumption)
          obtain ⟨ad352, A352_2, c352_2, e352, hx352_0, hx352_1, hx352_2, hl352_2, hi352_2⟩ := at_T28 HR0_2.out x5_2 p352 q352
          have hw352_2 := hx352_2
          have hw352_1 := hx352_1
          have hw352_0 := hx352_0
          cases e352
          replace hx352_0 := (HB.out.cell (World.block_lt_of_cell? w _ hx352_0)).trans hx352_0
          replace hx352_1 := (HB.out.cell (World.block_lt_of_cell? w _ hx352_1)).trans hx352_1
          replace hx352_2 := (HB.out.cell (World.block_lt_of_cell? w _ hx352_2)).trans hx352_2
          have HR352_2 := Aside0.mk hi352_2
          have HC352_2 := Aside0.mk hl352_2
          clear hi352_2 hl352_2
          replace p352 := eq_true p352
          replace q352 := eq_true q352
          have p353 : 0 ≤ (x5_2 : Int) := of_decide_eq_true (by first | (with_reducible assumption) | assumption)
          have q353 : x5_2 < (l1_2.length : Int) := of_decide_eq_true (by first | (with_reducible assumption) | assumption)
          obtain ⟨ad353, A353_2, c353_2, e353, hx353_0, hx353_1, hx353_2, hl353_2, hi353_2⟩ := at_T28 HR1_2.out x5_2 p353 q353
          have hw353_2 := hx353_2
          have hw353_1 := hx353_1
          have hw353_0 := hx353_0
          cases e353
          replace hx353_0 := (HB.out.cell (World.block_lt_of_cell? w _ hx353_0)).trans hx353_0
          replace hx353_1 := (HB.out.cell (World.block_lt_of_cell? w _ hx353_1)).trans hx353_1
          replace hx353_2 := (HB.out.cell (World.block_lt_of_cell? w _ hx353_2)).trans hx353_2
          have HR353_2 := Aside0.mk hi353_2
          have HC353_2 := Aside0.mk hl353_2
          clear hi353_2 hl353_2
          replace p353 := eq_true p353
          replace q353 := eq_true q353
          refine start_ (n := 12) (S := fun w' => w'.cell? ⟨gb350, 0, none⟩ = some (.int .i64 a0_0) ∧ w'.cell? ⟨gb350, 1, none⟩ = some (.int .i64 a0_1) ∧ w'.cell? ⟨gb350, 2, none⟩ = some (.slice (some ad352) l0_2.length c0_2) ∧ w'.cell? ⟨gb351, 0, none⟩ = some (.int .i64 a1_0) ∧ w'.cell? ⟨gb351, 1, none⟩ = some (.int .i64 a1_1) ∧ w'.cell? ⟨gb351, 2, none⟩ = some (.slice (some ad353) l1_2.length c1_2) ∧ w'.cell? (ad352.add ((x5_2).toNat * 3)) = some (.int .i64 ((rd_T28 l0_2 x5_2).f0)) ∧ w'.cell? ⟨(ad352.add ((x5_2).toNat * 3)).block, (ad352.add ((x5_2).toNat * 3)).off + 1, none⟩ = some (.int .i64 ((rd_T28 l0_2 x5_2).f1)) ∧ w'.cell? ⟨(ad352.add ((x5_2).toNat * 3)).block, (ad352.add ((x5_2).toNat * 3)).off + 2, none⟩ = some (.slice A352_2 ((rd_T28 l0_2 x5_2).f2).length c352_2) ∧ w'.cell? (ad353.add ((x5_2).toNat * 3)) = some (.int .i64 ((rd_T28 l1_2 x5_2).f0)) ∧ w'.cell? ⟨(ad353.add ((x5_2).toNat * 3)).block, (ad353.add ((x5_2).toNat * 3)).off + 1, none⟩ = some (.int .i64 ((rd_T28 l1_2 x5_2).f1)) ∧ w'.cell? ⟨(ad353.add ((x5_2).toNat * 3)).block, (ad353.add ((x5_2).toNat * 3)).off + 2, none⟩ = some (.slice A353_2 ((rd_T28 l1_2 x5_2).f2).length c353_2)) (ds := []) #[false, false, false, false, false, false, false, false, false, false, false, false] (by kernel_rfl) rfl rfl ⟨(blk_cell BK350.out 0).trans rfl, (blk_cell BK350.out 1).trans rfl, (blk_cell BK350.out 2).trans rfl, (blk_cell BK351.out 0).trans rfl, (blk_cell BK351.out 1).trans rfl, (blk_cell BK351.out 2).trans rfl, ((HB.out.cell (World.block_lt_of_cell? w _ hw352_0)).trans hw352_0), ((HB.out.cell (World.block_lt_of_cell? w _ hw352_1)).trans hw352_1), ((HB.out.cell (World.block_lt_of_cell? w _ hw352_2)).trans hw352_2), ((HB.out.cell (World.block_lt_of_cell? w _ hw353_0)).trans hw353_0), ((HB.out.cell (World.block_lt_of_cell? w _ hw353_1)).trans hw353_1), ((HB.out.cell (World.block_lt_of_cell? w _ hw353_2)).trans hw353_2)⟩ (fun hHeld => ?_); refine with_tabW bobbinetkeep_sameExpr.tab6 bobbinetkeep_sameExpr.bits6 (fun HT_ HW_ => ?_)
          generalize wr.drew = w29 at BK350 BK351 HB HR352_2 HR353_2 hx352_0 hx352_1 hx352_2 hx353_0 hx353_1 hx353_2 hHeld ⊢
          refine pure_ (i := 0) (N := some 34) (v := ?_) (a' := ?_) #[true, false, false, false, false, false, false, false, false, false, false, false] rfl rfl (any_of HT_.out (by kernel_rfl)) (fun _ _ _ h => h) (Or.inl ⟨by rfl, ?_⟩) ?_ ?_
          rotate_left
          ·
           intro w'
           go_simp
           with_reducible rfl
          rotate_left
          ·
           simp only [Act.put, List.setIfInBounds_toArray, List.set_cons_zero, List.set_cons_succ, i64_w, i32_w]
           rfl
          refine pure_ (i := 2) (N := some 36) (v := ?_) (a' := ?_) #[true, false, true, false, false, false, false, false, false, false, false, false] rfl rfl (any_of HT_.out (by kernel_rfl)) (fun _ _ _ h => h) (Or.inl ⟨by rfl, ?_⟩) ?_ ?_
          rotate_left
          ·
           intro w'
           go_simp
           with_reducible rfl
          rotate_left
          ·
           simp only [Act.put, List.setIfInBounds_toArray, List.set_cons_zero, List.set_cons_succ, i64_w, i32_w]
           rfl
          refine pure_ (i := 5) (N := some 39) (v := ?_) (a' := ?_) #[true, false, true, false, false, true, false, false, false, false, false, false] rfl rfl (any_of HT_.out (by kernel_rfl)) (fun _ _ _ h => h) (Or.inl ⟨by rfl, ?_⟩) ?_ ?_
          rotate_left
          ·
           intro w'
           go_simp
           with_reducible rfl
          rotate_left
          ·
           simp only [Act.put, List.setIfInBounds_toArray, List.set_cons_zero, List.set_cons_succ, i64_w, i32_w]
           rfl
          refine pure_ (i := 7) (N := some 41) (v := ?_) (a' := ?_) #[true, false, true, false, false, true, false, true, false, false, false, false] rfl rfl (any_of HT_.out (by kernel_rfl)) (fun _ _ _ h => h) (Or.inl ⟨by rfl, ?_⟩) ?_ ?_
          rotate_left
          ·
           intro w'
           go_simp
           with_reducible rfl
          rotate_left
          ·
           simp only [Act.put, List.setIfInBounds_toArray, List.set_cons_zero, List.set_cons_succ, i64_w, i32_w]
           rfl
          refine take_ (i := 1) (N := some 35) (v := ?_) (a' := ?_) #[true, true, true, false, false, true, false, true, false, false, false, false] rfl rfl (take_ofW HT_.out HW_.out (by kernel_rfl)) (fun _ _ _ h => h) (Or.inl ⟨by rfl, ?_⟩) hHeld ?_ ?_
          rotate_left
          ·
           rintro w' ⟨s0, s1, s2, s3, s4, s5, s6, s7, s8, s9, s10, s11⟩
           go_simp
           with_reducible rfl
          rotate_left
          ·
           simp only [Act.put, List.setIfInBounds_toArray, List.set_cons_zero, List.set_cons_succ, i64_w, i32_w]
           rfl
          refine pure_ (i := 3) (N := some 37) (v := ?_) (a' := ?_) #[true, true, true, true, false, true, false, true, false, false, false, false] rfl rfl (any_of HT_.out (by kernel_rfl)) (fun _ _ _ h => h) (Or.inl ⟨by rfl, ?_⟩) ?_ ?_
          rotate_left
          ·
           intro w'
           go_simp
           with_reducible rfl
          rotate_left
          ·
           simp only [Act.put, List.setIfInBounds_toArray, List.set_cons_zero, List.set_cons_succ, i64_w, i32_w]
           rfl
          refine take_ (i := 4) (N := some 38) (v := ?_) (a' := ?_) #[true, true, true, true, true, true, false, true, false, false, false, false] rfl rfl (take_ofW HT_.out HW_.out (by kernel_rfl)) (fun _ _ _ h => h) (Or.inl ⟨by rfl, ?_⟩) hHeld ?_ ?_
          rotate_left
          ·
           rintro w' ⟨s0, s1, s2, s3, s4, s5, s6, s7, s8, s9, s10, s11⟩
           go_simp
           with_reducible rfl
          rotate_left
          ·
           simp only [Act.put, List.setIfInBounds_toArray, List.set_cons_zero, List.set_cons_succ, i64_w, i32_w]
           rfl
          refine take_ (i := 6) (N := some 40) (v := ?_) (a' := ?_) #[true, true, true, true, true, true, true, true, false, false, false, false] rfl rfl (take_ofW HT_.out HW_.out (by kernel_rfl)) (fun _ _ _ h => h) (Or.inl ⟨by rfl, ?_⟩) hHeld ?_ ?_
          rotate_left
          ·
           rintro w' ⟨s0, s1, s2, s3, s4, s5, s6, s7, s8, s9, s10, s11⟩
           go_simp
           with_reducible rfl
          rotate_left
          ·
           simp only [Act.put, List.setIfInBounds_toArray, List.set_cons_zero, List.set_cons_succ, i64_w, i32_w]
           rfl
          refine pure_ (i := 8) (N := some 42) (v := ?_) (a' := ?_) #[true, true, true, true, true, true, true, true, true, false, false, false] rfl rfl (any_of HT_.out (by kernel_rfl)) (fun _ _ _ h => h) (Or.inl ⟨by rfl, ?_⟩) ?_ ?_
          rotate_left
          ·
           intro w'
           go_simp
           with_reducible rfl
          rotate_left
          ·
           simp only [Act.put, List.setIfInBounds_toArray, List.set_cons_zero, List.set_cons_succ, i64_w, i32_w]
           rfl
          refine take_ (i := 9) (N := some 43) (v := ?_) (a' := ?_) #[true, true, true, true, true, true, true, true, true, true, false, false] rfl rfl (take_ofW HT_.out HW_.out (by kernel_rfl)) (fun _ _ _ h => h) (Or.inl ⟨by rfl, ?_⟩) hHeld ?_ ?_
          rotate_left
          ·
           rintro w' ⟨s0, s1, s2, s3, s4, s5, s6, s7, s8, s9, s10, s11⟩
           go_simp
           with_reducible rfl
          rotate_left
          ·
           simp only [Act.put, List.setIfInBounds_toArray, List.set_cons_zero, List.set_cons_succ, i64_w, i32_w]
           rfl
          refine one_ (i := 10) (N := some 44) #[true, true, true, true, true, true, true, true, true, true, true, false] rfl rfl (one_of HT_.out (by kernel_rfl)) (by decide) (fun K hK => ?_)
          refine goes_ Try.func13 (by kernel_rfl) rfl #[.agg #[.int .i64 ((rd_T28 l0_2 x5_2).f0), .int .i64 ((rd_T28 l0_2 x5_2).f1), .slice A352_2 ((rd_T28 l0_2 x5_2).f2).length c352_2], .agg #[.int .i64 ((rd_T28 l1_2 x5_2).f0), .int .i64 ((rd_T28 l1_2 x5_2).f1), .slice A353_2 ((rd_T28 l1_2 x5_2).f2).length c353_2]] (by rfl) rfl rfl (by (try simp only [List.map_toArray, List.map_cons, List.map_nil]); first | done | rfl | (simp only [List.length_drop, List.length_take]; rfl)) ?_
          with_reducible refine (ih k2 (by have := HJ2.out; have := HK2.out; omega) ((rd_T28 l0_2 x5_2).f0) ((rd_T28 l0_2 x5_2).f1) _ _ ((rd_T28 l0_2 x5_2).f2) ((rd_T28 l1_2 x5_2).f0) ((rd_T28 l1_2 x5_2).f1) _ _ ((rd_T28 l1_2 x5_2).f2) false _ ?side1 ?side2 ?side3 ?side4 A21.out).mono ?_
          (case side1 => repeat (first | exact (Kd.C_below HR352_2.out HB.out) | (with_reducible refine Kd.C_alloc ?_ _) | (with_reducible refine Kd.C_drewN ?_ _) | (with_reducible refine Kd.C_drew ?_)))
          (case side2 => exact HC352_2.out)
          (case side3 => repeat (first | exact (Kd.C_below HR353_2.out HB.out) | (with_reducible refine Kd.C_alloc ?_ _) | (with_reducible refine Kd.C_drewN ?_ _) | (with_reducible refine Kd.C_drew ?_)))
          (case side4 => exact HC353_2.out)
          rintro e w30 ⟨rfl, hb⟩
          refine ⟨_, rfl, ?_⟩
          have n0_ := Aside0.mk (blk_below (g := gb350) (o := .cells #[.int .i64 a0_0, .int .i64 a0_1, .slice (some ad352) l0_2.length c0_2] 28 (0, 0)) (by (with_reducible repeat (first | refine blk_drewN ?_ _ | refine blk_drew ?_ | refine blk_alloc ?_ _)); exact BK350.out) hb)
          have n1_ := Aside0.mk (blk_below (g := gb351) (o := .cells #[.int .i64 a1_0, .int .i64 a1_1, .slice (some ad353) l1_2.length c1_2] 28 (0, 0)) (by (with_reducible repeat (first | refine blk_drewN ?_ _ | refine blk_drew ?_ | refine blk_alloc ?_ _)); exact BK351.out) hb)
          have n2_ := Aside0.mk (below_step (by repeat (first | (with_reducible first | exact HB.out | apply below_alloc | apply pw_below_drewN | apply below_drew1 | refine below_set ?_ GE350.out | refine below_set ?_ GE351.out) | exact HB.out)) hb)
          clear BK350
          clear BK351
          clear HB
          have BK350 := n0_
          have BK351 := n1_
          have HB := n2_
          clear n0_ n1_ n2_
          (try clear hb)
          (try clear hb2)
          (try clear hk)
          (try clear hi)
          refine hK.out _ _ ⟨(blk_cell BK350.out 0).trans rfl, (blk_cell BK350.out 1).trans rfl, (blk_cell BK350.out 2).trans rfl, (blk_cell BK351.out 0).trans rfl, (blk_cell BK351.out 1).trans rfl, (blk_cell BK351.out 2).trans rfl, ((HB.out.cell (World.block_lt_of_cell? w _ hw352_0)).trans hw352_0), ((HB.out.cell (World.block_lt_of_cell? w _ hw352_1)).trans hw352_1), ((HB.out.cell (World.block_lt_of_cell? w _ hw352_2)).trans hw352_2), ((HB.out.cell (World.block_lt_of_cell? w _ hw353_0)).trans hw353_0), ((HB.out.cell (World.block_lt_of_cell? w _ hw353_1)).trans hw353_1), ((HB.out.cell (World.block_lt_of_cell? w _ hw353_2)).trans hw353_2)⟩ (fun hHeld => ?_)
          clear hK K
          refine norm_ (a' := ?_) ?_ ?_
          rotate_left
          ·
           show Act.put _ (some 44) _ = _
           simp only [Act.put, List.setIfInBounds_toArray, List.set_cons_zero, List.set_cons_succ, i64_w, i32_w]
           rfl
          refine pure_ (i := 11) (N := some 45) (v := ?_) (a' := ?_) #[true, true, true, true, true, true, true, true, true, true, true, true] rfl rfl (any_of HT_.out (by kernel_rfl)) (fun _ _ _ h => h) (Or.inl ⟨by rfl, ?_⟩) ?_ ?_
          rotate_left
          ·
           intro w'
           go_simp
           with_reducible rfl
          rotate_left
          ·
           simp only [Act.put, List.setIfInBounds_toArray, List.set_cons_zero, List.set_cons_succ, i64_w, i32_w]
           rfl
          refine done_ (done_of HT_.out (by kernel_rfl)) ?_
          try go_wp2
          go_ret
          exact ⟨by first | rfl | (simp [errW_none, errW_some] <;> rfl) | (simp [*, errW_none, errW_some] <;> rfl), by repeat (first | (with_reducible first | exact HB.out | apply below_alloc | apply pw_below_drewN | apply below_drew1 | refine below_set ?_ GE350.out | refine below_set ?_ GE351.out) | exact HB.out)⟩
        ·
         rw [if_neg c20] at H
         exact absurd H (by simp)
       ·
        rw [if_neg c19] at H
        exact absurd H (by simp)
      ·
       rw [if_neg c18] at H
       have c18b0 : decide (x5_2 < (l0_2.length : Int)) = false := decide_eq_false c18
       clear c18
       obtain rfl := Option.some.inj H
       have hnb31 := NB350_351.out
       have hnc31 := NB351_350.out
       have hcz32_0 : wr.cell? ⟨gb350, 0, none⟩ = some (.int .i64 a0_0) := (blk_cell BK350.out 0).trans rfl
       have hcz32_1 : wr.cell? ⟨gb350, 1, none⟩ = some (.int .i64 a0_1) := (blk_cell BK350.out 1).trans rfl
       have hcz32_2 : wr.cell? ⟨gb350, 2, none⟩ = some (.slice A0_2 l0_2.length c0_2) := (blk_cell BK350.out 2).trans rfl
       have hfz32_0 := blk_frozen BK350.out 0
       have hfz32_1 := blk_frozen BK350.out 1
       have hfz32_2 := blk_frozen BK350.out 2
       go_wp2
       go_ret
       exact ⟨by first | rfl | (simp [errW_none, errW_some] <;> rfl) | (simp [*, errW_none, errW_some] <;> rfl), by repeat (first | (with_reducible first | exact HB.out | apply below_alloc | apply pw_below_drewN | apply below_drew1 | refine below_set ?_ GE350.out | refine below_set ?_ GE351.out) | exact HB.out)⟩
end Go.Proofs.Ytjmhihadgpdiaaa.X
end
section
namespace Go.Proofs.Ytjmhihadgpdiaaa.X
open Go.RowKit Go.Proofs.YtjmhihadgpdiaaaW.PrintWords Go.Proofs.YtjmhihadgpdiaaaW.PrintLast Go.Proofs.YtjmhihadgpdiaaaW.PrintMore
attribute [local go_sem] max2_int min2_int max_two min_two max_three min_three max_four min_four   -- for this text's walks alone
set_option linter.unusedVariables false
set_option linter.unusedSimpArgs false
def bobbinetkeep_ExprBack.f (k : Nat) (l0 : List Int) (a1 : Int) : Option (Bool) := (bobbinetkeep_Picked.f a1 3).bind fun t355 => ((bobbinetkeep_ExprText.f k l0 (wrap64 (1 + t355))).bind fun bt356 => (if (wrap64 ((bt356.1.size : Int) + 2)) > 40 then (some true) else ((bobbinetkeep_exprOf.f k bt356.1).bind fun bt360 => (if 1 + bt356.1.size ≤ 9223372036854775807 then (if ((⟨#[40]⟩ : ByteArray) ++ bt356.1).size + 1 ≤ 9223372036854775807 then ((bobbinetkeep_exprOf.f k (((⟨#[40]⟩ : ByteArray) ++ bt356.1) ++ (⟨#[41]⟩ : ByteArray))).bind fun bt367 => ((expr_Print.f k bt360.1 bt360.2.1 bt360.2.2.1).bind fun bt374 => ((bobbinetkeep_exprOf.f k bt374.1).bind fun bt376 => (if bt360.2.2.2 = true then (if bt367.2.2.2 = true then (if bt376.2.2.2 = true then (if bt374.2 = 0 then (if (bt374.1.size : Int) ≤ (bt356.1.size : Int) then ((bobbinetkeep_sameExpr.f k bt360.1 bt360.2.1 bt360.2.2.1 bt376.1 bt376.2.1 bt376.2.2.1).bind fun t383 => (if t383 = true then ((bobbinetkeep_sameExpr.f k bt360.1 bt360.2.1 bt360.2.2.1 bt367.1 bt367.2.1 bt367.2.2.1).bind fun t384 => (some t384)) else (none))) else (none)) else (none)) else (none)) else (none)) else (none))))) else (none)) else (none)))))
set_option maxHeartbeats 8000000 in
set_option maxRecDepth 100000 in
theorem bobbinetkeep_ExprBack.calls (k : Nat) (A0 : Option Addr) (c0 : Nat) (l0 : List Int) (a1 : Int) (r : Bool) (w : World) (hr0 : Kd.C (Kd.int .i64) w A0 l0.length l0) (hc0 : l0.length ≤ c0) (h : bobbinetkeep_ExprBack.f k l0 a1 = some r) :
  Calls Try.prog 3 #[.slice A0 l0.length c0, .int .i64 a1] w fun e w' => e = .returned (.bool r) ∧ Below w.heap.size w w' := by
 have hu28 := Try.underlying28
 have HR0 := Aside0.mk hr0
 have HC0 := Aside0.mk hc0
 clear hr0 hc0
 have HB := Aside0.mk (Below.refl w.heap.size w)
 have H : ((bobbinetkeep_Picked.f a1 3).bind fun t355 => ((bobbinetkeep_ExprText.f k l0 (wrap64 (1 + t355))).bind fun bt356 => (if (wrap64 ((bt356.1.size : Int) + 2)) > 40 then (some true) else ((bobbinetkeep_exprOf.f k bt356.1).bind fun bt360 => (if 1 + bt356.1.size ≤ 9223372036854775807 then (if ((⟨#[40]⟩ : ByteArray) ++ bt356.1).size + 1 ≤ 9223372036854775807 then ((bobbinetkeep_exprOf.f k (((⟨#[40]⟩ : ByteArray) ++ bt356.1) ++ (⟨#[41]⟩ : ByteArray))).bind fun bt367 => ((expr_Print.f k bt360.1 bt360.2.1 bt360.2.2.1).bind fun bt374 => ((bobbinetkeep_exprOf.f k bt374.1).bind fun bt376 => (if bt360.2.2.2 = true then (if bt367.2.2.2 = true then (if bt376.2.2.2 = true then (if bt374.2 = 0 then (if (bt374.1.size : Int) ≤ (bt356.1.size : Int) then ((bobbinetkeep_sameExpr.f k bt360.1 bt360.2.1 bt360.2.2.1 bt376.1 bt376.2.1 bt376.2.2.1).bind fun t383 => (if t383 = true then ((bobbinetkeep_sameExpr.f k bt360.1 bt360.2.1 bt360.2.2.1 bt367.1 bt367.2.1 bt367.2.2.1).bind fun t384 => (some t384)) else (none))) else (none)) else (none)) else (none)) else (none)) else (none))))) else (none)) else (none)))))) = some r := h
 clear h
 replace H := Option.bind_eq_some_iff.mp H
 obtain ⟨t355, A30, H⟩ := H
 replace H : ((bobbinetkeep_ExprText.f k l0 (wrap64 (1 + t355))).bind fun bt356 => (if (wrap64 ((bt356.1.size : Int) + 2)) > 40 then (some true) else ((bobbinetkeep_exprOf.f k bt356.1).bind fun bt360 => (if 1 + bt356.1.size ≤ 9223372036854775807 then (if ((⟨#[40]⟩ : ByteArray) ++ bt356.1).size + 1 ≤ 9223372036854775807 then ((bobbinetkeep_exprOf.f k (((⟨#[40]⟩ : ByteArray) ++ bt356.1) ++ (⟨#[41]⟩ : ByteArray))).bind fun bt367 => ((expr_Print.f k bt360.1 bt360.2.1 bt360.2.2.1).bind fun bt374 => ((bobbinetkeep_exprOf.f k bt374.1).bind fun bt376 => (if bt360.2.2.2 = true then (if bt367.2.2.2 = true then (if bt376.2.2.2 = true then (if bt374.2 = 0 then (if (bt374.1.size : Int) ≤ (bt356.1.size : Int) then ((bobbinetkeep_sameExpr.f k bt360.1 bt360.2.1 bt360.2.2.1 bt376.1 bt376.2.1 bt376.2.2.1).bind fun t383 => (if t383 = true then ((bobbinetkeep_sameExpr.f k bt360.1 bt360.2.1 bt360.2.2.1 bt367.1 bt367.2.1 bt367.2.2.1).bind fun t384 => (some t384)) else (none))) else (none)) else (none)) else (none)) else (none)) else (none))))) else (none)) else (none))))) = some r := H
 have A3 := Aside0.mk A30
 clear A30
 replace H := Option.bind_eq_some_iff.mp H
 obtain ⟨⟨t356, t357⟩, A40, H⟩ := H
 replace H : (if (wrap64 ((t356.size : Int) + 2)) > 40 then (some true) else ((bobbinetkeep_exprOf.f k t356).bind fun bt360 => (if 1 + t356.size ≤ 9223372036854775807 then (if ((⟨#[40]⟩ : ByteArray) ++ t356).size + 1 ≤ 9223372036854775807 then ((bobbinetkeep_exprOf.f k (((⟨#[40]⟩ : ByteArray) ++ t356) ++ (⟨#[41]⟩ : ByteArray))).bind fun bt367 => ((expr_Print.f k bt360.1 bt360.2.1 bt360.2.2.1).bind fun bt374 => ((bobbinetkeep_exprOf.f k bt374.1).bind fun bt376 => (if bt360.2.2.2 = true then (if bt367.2.2.2 = true then (if bt376.2.2.2 = true then (if bt374.2 = 0 then (if (bt374.1.size : Int) ≤ (t356.size : Int) then ((bobbinetkeep_sameExpr.f k bt360.1 bt360.2.1 bt360.2.2.1 bt376.1 bt376.2.1 bt376.2.2.1).bind fun t383 => (if t383 = true then ((bobbinetkeep_sameExpr.f k bt360.1 bt360.2.1 bt360.2.2.1 bt367.1 bt367.2.1 bt367.2.2.1).bind fun t384 => (some t384)) else (none))) else (none)) else (none)) else (none)) else (none)) else (none))))) else (none)) else (none)))) = some r := H
 have A4 := Aside0.mk A40
 clear A40
 by_cases c5 : (wrap64 ((t356.size : Int) + 2)) > 40
 ·
  rw [if_pos c5] at H
  have c5b0 : decide (40 < (wrap64 ((t356.size : Int) + 2))) = true := decide_eq_true c5
  clear c5
  obtain rfl := Option.some.inj H
  go_enter Try.func3, Try.ntmps3
  go_wp2_with (first | ((with_reducible refine gate_callee (f := 10) rfl ?_); refine goesL_ (some 18) rfl rfl Try.func10 (by kernel_rfl) rfl #[.int .i64 a1, .int .i64 3] rfl (by (try simp only [List.map_toArray, List.map_cons, List.map_nil]); first | done | rfl | (simp only [List.length_drop, List.length_take]; rfl)) ?_; (with_reducible refine (bobbinetkeep_Picked.calls a1 3 t355 _ A3.out).mono ?_); rintro e w' ⟨rfl, ⟨nd, rfl⟩⟩; refine ⟨_, rfl, ?_⟩) | ((with_reducible refine gate_callee (f := 9) rfl ?_); refine goesL_ (some 20) rfl rfl Try.func9 (by kernel_rfl) rfl #[.slice A0 l0.length c0, .int .i64 (wrap64 (1 + t355))] rfl (by (try simp only [List.map_toArray, List.map_cons, List.map_nil]); first | done | rfl | (simp only [List.length_drop, List.length_take]; rfl)) ?_; (with_reducible refine (bobbinetkeep_ExprText.calls k (fun k_ => k_ < w.heap.size) _ _ l0 (wrap64 (1 + t355)) t356 t357 _ ?side1 A4.out).mono ?_); (case side1 => exact Kd.V_mk HC0.out (Kd.F_below (Kd.C_F (Kd.heap_int .i64) HR0.out) (by repeat (first | (with_reducible first | exact HB.out | apply below_alloc | apply pw_below_drewN | apply below_drew1) | exact HB.out)))); rintro e w6 ⟨v358, rfl, ho0, hb⟩; refine ⟨_, rfl, ?_⟩; have n0_ := Aside0.mk (Kd.V_lower (Kd.V_mono (ok' := fun k_ => True) ho0 (fun k_ hk_ => trivial)) (below_size (by repeat (first | (with_reducible first | exact HB.out | apply below_alloc | apply pw_below_drewN | apply below_drew1) | exact HB.out)))); have n1_ := Aside0.mk (below_step (by repeat (first | (with_reducible first | exact HB.out | apply below_alloc | apply pw_below_drewN | apply below_drew1) | exact HB.out)) hb); clear HB; have HO359 := n0_; have HB := n1_; clear n0_ n1_; (try clear hb); (try clear hb2); (try clear hk); (try clear hi); (try clear ho0)))
  go_ret
  exact ⟨by first | rfl | (simp [errW_none, errW_some] <;> rfl) | (simp [*, errW_none, errW_some] <;> rfl), by repeat (first | (with_reducible first | exact HB.out | apply below_alloc | apply pw_below_drewN | apply below_drew1) | exact HB.out)⟩
 ·
  rw [if_neg c5] at H
  have c5b0 : decide (40 < (wrap64 ((t356.size : Int) + 2))) = false := decide_eq_false c5
  clear c5
  replace H := Option.bind_eq_some_iff.mp H
  obtain ⟨⟨t360, t361, t362, t365⟩, A70, H⟩ := H
  replace H : (if 1 + t356.size ≤ 9223372036854775807 then (if ((⟨#[40]⟩ : ByteArray) ++ t356).size + 1 ≤ 9223372036854775807 then ((bobbinetkeep_exprOf.f k (((⟨#[40]⟩ : ByteArray) ++ t356) ++ (⟨#[41]⟩ : ByteArray))).bind fun bt367 => ((expr_Print.f k t360 t361 t362).bind fun bt374 => ((bobbinetkeep_exprOf.f k bt374.1).bind fun bt376 => (if t365 = true then (if bt367.2.2.2 = true then (if bt376.2.2.2 = true then (if bt374.2 = 0 then (if (bt374.1.size : Int) ≤ (t356.size : Int) then ((bobbinetkeep_sameExpr.f k t360 t361 t362 bt376.1 bt376.2.1 bt376.2.2.1).bind fun t383 => (if t383 = true then ((bobbinetkeep_sameExpr.f k t360 t361 t362 bt367.1 bt367.2.1 bt367.2.2.1).bind fun t384 => (some t384)) else (none))) else (none)) else (none)) else (none)) else (none)) else (none))))) else (none)) else (none)) = some r := H
  have A7 := Aside0.mk A70
  clear A70
  by_cases c8 : 1 + t356.size ≤ 9223372036854775807
  ·
   rw [if_pos c8] at H
   have c8b0 := eq_true c8
   have c8b1 : decide (1 + t356.size ≤ 9223372036854775807) = true := decide_eq_true c8
   try have c8b2 : (9223372036854775807 < 1 + t356.size) = False := eq_false (Nat.not_lt.2 c8)
   by_cases c9 : ((⟨#[40]⟩ : ByteArray) ++ t356).size + 1 ≤ 9223372036854775807
   ·
    rw [if_pos c9] at H
    have c9b0 := eq_true c9
    have c9b1 : decide (((⟨#[40]⟩ : ByteArray) ++ t356).size + 1 ≤ 9223372036854775807) = true := decide_eq_true c9
    try have c9b2 : (9223372036854775807 < ((⟨#[40]⟩ : ByteArray) ++ t356).size + 1) = False := eq_false (Nat.not_lt.2 c9)
    try (have c9b3 := c9b2; simp only [ByteArray.size_append] at c9b3)
    try (have c9b4 := c9b2; simp only [ByteArray.size_append, show (⟨#[40]⟩ : ByteArray).size = 1 from rfl] at c9b4)
    replace H := Option.bind_eq_some_iff.mp H
    obtain ⟨⟨t367, t368, t369, t372⟩, A100, H⟩ := H
    replace H : ((expr_Print.f k t360 t361 t362).bind fun bt374 => ((bobbinetkeep_exprOf.f k bt374.1).bind fun bt376 => (if t365 = true then (if t372 = true then (if bt376.2.2.2 = true then (if bt374.2 = 0 then (if (bt374.1.size : Int) ≤ (t356.size : Int) then ((bobbinetkeep_sameExpr.f k t360 t361 t362 bt376.1 bt376.2.1 bt376.2.2.1).bind fun t383 => (if t383 = true then ((bobbinetkeep_sameExpr.f k t360 t361 t362 t367 t368 t369).bind fun t384 => (some t384)) else (none))) else (none)) else (none)) else (none)) else (none)) else (none)))) = some r := H
    have A10 := Aside0.mk A100
    clear A100
    replace H := Option.bind_eq_some_iff.mp H
    obtain ⟨⟨t374, t375⟩, A110, H⟩ := H
    replace H : ((bobbinetkeep_exprOf.f k t374).bind fun bt376 => (if t365 = true then (if t372 = true then (if bt376.2.2.2 = true then (if t375 = 0 then (if (t374.size : Int) ≤ (t356.size : Int) then ((bobbinetkeep_sameExpr.f k t360 t361 t362 bt376.1 bt376.2.1 bt376.2.2.1).bind fun t383 => (if t383 = true then ((bobbinetkeep_sameExpr.f k t360 t361 t362 t367 t368 t369).bind fun t384 => (some t384)) else (none))) else (none)) else (none)) else (none)) else (none)) else (none))) = some r := H
    have A11 := Aside0.mk A110
    clear A110
    replace H := Option.bind_eq_some_iff.mp H
    obtain ⟨⟨t376, t377, t378, t381⟩, A120, H⟩ := H
    replace H : (if t365 = true then (if t372 = true then (if t381 = true then (if t375 = 0 then (if (t374.size : Int) ≤ (t356.size : Int) then ((bobbinetkeep_sameExpr.f k t360 t361 t362 t376 t377 t378).bind fun t383 => (if t383 = true then ((bobbinetkeep_sameExpr.f k t360 t361 t362 t367 t368 t369).bind fun t384 => (some t384)) else (none))) else (none)) else (none)) else (none)) else (none)) else (none)) = some r := H
    have A12 := Aside0.mk A120
    clear A120
    by_cases c13 : t365 = true
    ·
     subst c13
     have H1 : (if t372 = true then (if t381 = true then (if t375 = 0 then (if (t374.size : Int) ≤ (t356.size : Int) then ((bobbinetkeep_sameExpr.f k t360 t361 t362 t376 t377 t378).bind fun t383 => (if t383 = true then ((bobbinetkeep_sameExpr.f k t360 t361 t362 t367 t368 t369).bind fun t384 => (some t384)) else (none))) else (none)) else (none)) else (none)) else (none)) = some r := by rw [if_pos rfl] at H; exact H
     clear H
     have H := H1
     clear H1
     by_cases c14 : t372 = true
     ·
      subst c14
      have H1 : (if t381 = true then (if t375 = 0 then (if (t374.size : Int) ≤ (t356.size : Int) then ((bobbinetkeep_sameExpr.f k t360 t361 t362 t376 t377 t378).bind fun t383 => (if t383 = true then ((bobbinetkeep_sameExpr.f k t360 t361 t362 t367 t368 t369).bind fun t384 => (some t384)) else (none))) else (none)) else (none)) else (none)) = some r := by rw [if_pos rfl] at H; exact H
      clear H
      have H := H1
      clear H1
      by_cases c15 : t381 = true
      ·
       subst c15
       have H1 : (if t375 = 0 then (if (t374.size : Int) ≤ (t356.size : Int) then ((bobbinetkeep_sameExpr.f k t360 t361 t362 t376 t377 t378).bind fun t383 => (if t383 = true then ((bobbinetkeep_sameExpr.f k t360 t361 t362 t367 t368 t369).bind fun t384 => (some t384)) else (none))) else (none)) else (none)) = some r := by rw [if_pos rfl] at H; exact H
       clear H
       have H := H1
       clear H1
       by_cases c16 : t375 = 0
       ·
        rw [if_pos c16] at H
        have c16b0 : (t375 == 0) = true := beq_iff_eq.mpr c16
        have c16b1 : (t375 != 0) = false := bne_eq_false_iff_eq.mpr c16
        clear c16
        by_cases c17 : (t374.size : Int) ≤ (t356.size : Int)
        ·
         rw [if_pos c17] at H
         have c17b0 : decide ((t374.size : Int) ≤ (t356.size : Int)) = true := decide_eq_true c17
         have c17b1 : decide (t374.size ≤ t356.size) = true := decide_eq_true (Int.ofNat_le.mp c17)
         clear c17
         replace H := Option.bind_eq_some_iff.mp H
         obtain ⟨t383, A180, H⟩ := H
         replace H : (if t383 = true then ((bobbinetkeep_sameExpr.f k t360 t361 t362 t367 t368 t369).bind fun t384 => (some t384)) else (none)) = some r := H
         have A18 := Aside0.mk A180
         clear A180
         by_cases c19 : t383 = true
         ·
          subst c19
          have H1 : ((bobbinetkeep_sameExpr.f k t360 t361 t362 t367 t368 t369).bind fun t384 => (some t384)) = some r := by rw [if_pos rfl] at H; exact H
          clear H
          have H := H1
          clear H1
          replace H := Option.bind_eq_some_iff.mp H
          obtain ⟨t384, A200, H⟩ := H
          replace H : (some t384) = some r := H
          have A20 := Aside0.mk A200
          clear A200
          obtain rfl := Option.some.inj H
          go_enter Try.func3, Try.ntmps3
          go_wp2_with (first | ((with_reducible refine gate_callee (f := 10) rfl ?_); refine goesL_ (some 18) rfl rfl Try.func10 (by kernel_rfl) rfl #[.int .i64 a1, .int .i64 3] rfl (by (try simp only [List.map_toArray, List.map_cons, List.map_nil]); first | done | rfl | (simp only [List.length_drop, List.length_take]; rfl)) ?_; (with_reducible refine (bobbinetkeep_Picked.calls a1 3 t355 _ A3.out).mono ?_); rintro e w' ⟨rfl, ⟨nd, rfl⟩⟩; refine ⟨_, rfl, ?_⟩) | ((with_reducible refine gate_callee (f := 9) rfl ?_); refine goesL_ (some 20) rfl rfl Try.func9 (by kernel_rfl) rfl #[.slice A0 l0.length c0, .int .i64 (wrap64 (1 + t355))] rfl (by (try simp only [List.map_toArray, List.map_cons, List.map_nil]); first | done | rfl | (simp only [List.length_drop, List.length_take]; rfl)) ?_; (with_reducible refine (bobbinetkeep_ExprText.calls k (fun k_ => k_ < w.heap.size) _ _ l0 (wrap64 (1 + t355)) t356 t357 _ ?side1 A4.out).mono ?_); (case side1 => exact Kd.V_mk HC0.out (Kd.F_below (Kd.C_F (Kd.heap_int .i64) HR0.out) (by repeat (first | (with_reducible first | exact HB.out | apply below_alloc | apply pw_below_drewN | apply below_drew1) | exact HB.out)))); rintro e w21 ⟨v358, rfl, ho0, hb⟩; refine ⟨_, rfl, ?_⟩; have n0_ := Aside0.mk (Kd.V_lower (Kd.V_mono (ok' := fun k_ => True) ho0 (fun k_ hk_ => trivial)) (below_size (by repeat (first | (with_reducible first | exact HB.out | apply below_alloc | apply pw_below_drewN | apply below_drew1) | exact HB.out)))); have n1_ := Aside0.mk (below_step (by repeat (first | (with_reducible first | exact HB.out | apply below_alloc | apply pw_below_drewN | apply below_drew1) | exact HB.out)) hb); clear HB; have HO359 := n0_; have HB := n1_; clear n0_ n1_; (try clear hb); (try clear hb2); (try clear hk); (try clear hi); (try clear ho0)) | ((with_reducible refine gate_callee (f := 11) rfl ?_); refine goesL_ (some 29) rfl rfl Try.func11 (by kernel_rfl) rfl #[.string t356] rfl (by (try simp only [List.map_toArray, List.map_cons, List.map_nil]); first | done | rfl | (simp only [List.length_drop, List.length_take]; rfl)) ?_; (with_reducible refine (bobbinetkeep_exprOf.calls k t356 t360 t361 t362 true _ A7.out).mono ?_); rintro e w22 ⟨v363, rfl, ho0, hb⟩; refine ⟨_, rfl, ?_⟩; have n0_ := Aside0.mk (Kd.V_below (by (with_reducible repeat (first | apply Kd.V_alloc | apply Kd.V_drewN | apply Kd.V_drew)); exact HO359.out) hb); have n1_ := Aside0.mk (Kd.V_lower (Kd.V_mono (ok' := fun k_ => True) ho0 (fun k_ hk_ => trivial)) (below_size (by repeat (first | (with_reducible first | exact HB.out | apply below_alloc | apply pw_below_drewN | apply below_drew1) | exact HB.out)))); have n2_ := Aside0.mk (below_step (by repeat (first | (with_reducible first | exact HB.out | apply below_alloc | apply pw_below_drewN | apply below_drew1) | exact HB.out)) hb); clear HO359; clear HB; have HO359 := n0_; have HO364 := n1_; have HB := n2_; clear n0_ n1_ n2_; (try clear hb); (try clear hb2); (try clear hk); (try clear hi); (try clear ho0)) | ((with_reducible refine gate_dst (N := 7) rfl ?_); (try (refine gate_guard (by rfl) ?_; dsimp only)); refine box_event ?hg (N := 7) ?hd (cs := #[.int .i64 0, .int .i64 0, .slice none 0 0]) (t := 28) ?hr ?_; (case hd => rfl); (case hg => rfl); (case hr => first | (go_simp; done) | (go_simp; rfl)); intro gb366 hg w23 hbox hb; have n0_ := Aside0.mk (Kd.V_below (Kd.V_elderB (by (with_reducible repeat (first | apply Kd.V_alloc | apply Kd.V_drewN | apply Kd.V_drew)); exact HO359.out) gb366 (Nat.le_of_eq hg.symm)) hb); have n1_ := Aside0.mk (Kd.V_below (Kd.V_elderB (by (with_reducible repeat (first | apply Kd.V_alloc | apply Kd.V_drewN | apply Kd.V_drew)); exact HO364.out) gb366 (Nat.le_of_eq hg.symm)) hb); have n2_ := Aside0.mk (below_step (by repeat (first | (with_reducible first | exact HB.out | apply below_alloc | apply pw_below_drewN | apply below_drew1) | exact HB.out)) hb); have n3_ := Aside0.mk (hbox); have n4_ := Aside0.mk ((by rw [hg]; exact (below_size (by repeat (first | (with_reducible first | exact HB.out | apply below_alloc | apply pw_below_drewN | apply below_drew1) | exact HB.out))) : w.heap.size ≤ gb366)); have n5_ := Aside0.mk ((by rw [hg]; exact (below_size (by repeat (first | (with_reducible first | exact HB.out | apply below_alloc | apply pw_below_drewN | apply below_drew1) | exact HB.out))) : w.heap.size ≤ gb366)); clear HO359; clear HO364; clear HB; have HO359 := n0_; have HO364 := n1_; have HB := n2_; have BK366 := n3_; have GW366 := n4_; have GE366 := n5_; clear n0_ n1_ n2_ n3_ n4_ n5_; clear hb hbox hg; have hcz24_0 : w23.cell? ⟨gb366, 0, none⟩ = some (.int .i64 0) := (blk_cell BK366.out 0).trans rfl; have hcz24_1 : w23.cell? ⟨gb366, 1, none⟩ = some (.int .i64 0) := (blk_cell BK366.out 1).trans rfl; have hcz24_2 : w23.cell? ⟨gb366, 2, none⟩ = some (.slice none 0 0) := (blk_cell BK366.out 2).trans rfl; have hfz24_0 := blk_frozen BK366.out 0; have hfz24_1 := blk_frozen BK366.out 1; have hfz24_2 := blk_frozen BK366.out 2; obtain ⟨Ao25, co25, eo25⟩ := Kd.V_slice HO364.out; subst eo25) | ((with_reducible refine gate_callee (f := 11) rfl ?_); refine goesL_ (some 36) rfl rfl Try.func11 (by kernel_rfl) rfl #[.string (((⟨#[40]⟩ : ByteArray) ++ t356) ++ (⟨#[41]⟩ : ByteArray))] rfl (by (try simp only [List.map_toArray, List.map_cons, List.map_nil]); first | done | rfl | (simp only [List.length_drop, List.length_take]; rfl)) ?_; (with_reducible refine (bobbinetkeep_exprOf.calls k (((⟨#[40]⟩ : ByteArray) ++ t356) ++ (⟨#[41]⟩ : ByteArray)) t367 t368 t369 true _ A10.out).mono ?_); rintro e w26 ⟨v370, rfl, ho0, hb⟩; refine ⟨_, rfl, ?_⟩; have n0_ := Aside0.mk (Kd.V_below (by (with_reducible repeat (first | apply Kd.V_alloc | apply Kd.V_drewN | apply Kd.V_drew)); exact (Kd.V_mono (Kd.V_far (p := ⟨gb366, 2, none⟩) (Kd.V_far (p := ⟨gb366, 1, none⟩) (Kd.V_far (p := ⟨gb366, 0, none⟩) (Kd.V_mono HO359.out (fun k_ hk => (⟨hk, hk.2⟩ : _ ∧ k_ ≠ gb366))) (fun _ hk => hk.2) (.int .i64 t360)) (fun _ hk => hk.2) (.int .i64 t361)) (fun _ hk => hk.2) (.slice Ao25 t362.length co25)) (fun _ h_ => h_.1))) hb); have n1_ := Aside0.mk (Kd.V_below (by (with_reducible repeat (first | apply Kd.V_alloc | apply Kd.V_drewN | apply Kd.V_drew)); exact (Kd.V_mono (Kd.V_far (p := ⟨gb366, 2, none⟩) (Kd.V_far (p := ⟨gb366, 1, none⟩) (Kd.V_far (p := ⟨gb366, 0, none⟩) (Kd.V_mono HO364.out (fun k_ hk => (⟨hk, hk.2⟩ : _ ∧ k_ ≠ gb366))) (fun _ hk => hk.2) (.int .i64 t360)) (fun _ hk => hk.2) (.int .i64 t361)) (fun _ hk => hk.2) (.slice Ao25 t362.length co25)) (fun _ h_ => h_.1))) hb); have n2_ := Aside0.mk (Kd.V_lower (Kd.V_mono (ok' := fun k_ => k_ ≠ gb366) ho0 (fun k_ hk_ => (Kd.freshB (g := gb366) (o := .cells #[.int .i64 t360, .int .i64 t361, .slice Ao25 t362.length co25] 28 (0, 0)) (by (with_reducible repeat (first | refine blk_drewN ?_ _ | refine blk_drew ?_ | refine blk_alloc ?_ _)); refine blk_put (cs := #[.int .i64 t360, .int .i64 t361, .slice none 0 0]) ?_ 2 _ rfl; (with_reducible repeat (first | refine blk_drewN ?_ _ | refine blk_drew ?_ | refine blk_alloc ?_ _)); refine blk_put (cs := #[.int .i64 t360, .int .i64 0, .slice none 0 0]) ?_ 1 _ rfl; (with_reducible repeat (first | refine blk_drewN ?_ _ | refine blk_drew ?_ | refine blk_alloc ?_ _)); refine blk_put (cs := #[.int .i64 0, .int .i64 0, .slice none 0 0]) ?_ 0 _ rfl; (with_reducible repeat (first | refine blk_drewN ?_ _ | refine blk_drew ?_ | refine blk_alloc ?_ _)); exact BK366.out) k_ hk_))) (below_size (by repeat (first | (with_reducible first | exact HB.out | apply below_alloc | apply pw_below_drewN | apply below_drew1 | refine below_set ?_ GE366.out) | exact HB.out)))); have n3_ := Aside0.mk (blk_below (g := gb366) (o := .cells #[.int .i64 t360, .int .i64 t361, .slice Ao25 t362.length co25] 28 (0, 0)) (by (with_reducible repeat (first | refine blk_drewN ?_ _ | refine blk_drew ?_ | refine blk_alloc ?_ _)); refine blk_put (cs := #[.int .i64 t360, .int .i64 t361, .slice none 0 0]) ?_ 2 _ rfl; (with_reducible repeat (first | refine blk_drewN ?_ _ | refine blk_drew ?_ | refine blk_alloc ?_ _)); refine blk_put (cs := #[.int .i64 t360, .int .i64 0, .slice none 0 0]) ?_ 1 _ rfl; (with_reducible repeat (first | refine blk_drewN ?_ _ | refine blk_drew ?_ | refine blk_alloc ?_ _)); refine blk_put (cs := #[.int .i64 0, .int .i64 0, .slice none 0 0]) ?_ 0 _ rfl; (with_reducible repeat (first | refine blk_drewN ?_ _ | refine blk_drew ?_ | refine blk_alloc ?_ _)); exact BK366.out) hb); have n4_ := Aside0.mk (below_step (by repeat (first | (with_reducible first | exact HB.out | apply below_alloc | apply pw_below_drewN | apply below_drew1 | refine below_set ?_ GE366.out) | exact HB.out)) hb); clear HO359; clear HO364; clear BK366; clear HB; have HO359 := n0_; have HO364 := n1_; have HO371 := n2_; have BK366 := n3_; have HB := n4_; clear n0_ n1_ n2_ n3_ n4_; (try clear hb); (try clear hb2); (try clear hk); (try clear hi); (try clear ho0)) | ((with_reducible refine gate_dst (N := 9) rfl ?_); (try (refine gate_guard (by rfl) ?_; dsimp only)); refine box_event ?hg (N := 9) ?hd (cs := #[.int .i64 0, .int .i64 0, .slice none 0 0]) (t := 28) ?hr ?_; (case hd => rfl); (case hg => rfl); (case hr => first | (go_simp; done) | (go_simp; rfl)); intro gb373 hg w27 hbox hb; have n0_ := Aside0.mk (Kd.V_below (Kd.V_elderB (by (with_reducible repeat (first | apply Kd.V_alloc | apply Kd.V_drewN | apply Kd.V_drew)); exact HO359.out) gb373 (Nat.le_of_eq hg.symm)) hb); have n1_ := Aside0.mk (Kd.V_below (Kd.V_elderB (by (with_reducible repeat (first | apply Kd.V_alloc | apply Kd.V_drewN | apply Kd.V_drew)); exact HO364.out) gb373 (Nat.le_of_eq hg.symm)) hb); have n2_ := Aside0.mk (Kd.V_below (Kd.V_elderB (by (with_reducible repeat (first | apply Kd.V_alloc | apply Kd.V_drewN | apply Kd.V_drew)); exact HO371.out) gb373 (Nat.le_of_eq hg.symm)) hb); have n3_ := Aside0.mk (blk_below (g := gb366) (o := .cells #[.int .i64 t360, .int .i64 t361, .slice Ao25 t362.length co25] 28 (0, 0)) (by (with_reducible repeat (first | refine blk_drewN ?_ _ | refine blk_drew ?_ | refine blk_alloc ?_ _)); exact BK366.out) hb); have n4_ := Aside0.mk (below_step (by repeat (first | (with_reducible first | exact HB.out | apply below_alloc | apply pw_below_drewN | apply below_drew1 | refine below_set ?_ GE366.out) | exact HB.out)) hb); have n5_ := Aside0.mk (hbox); have n6_ := Aside0.mk ((by rw [hg]; exact (below_size (by repeat (first | (with_reducible first | exact HB.out | apply below_alloc | apply pw_below_drewN | apply below_drew1 | refine below_set ?_ GE366.out) | exact HB.out))) : w.heap.size ≤ gb373)); have n7_ := Aside0.mk ((by rw [hg]; exact (below_size (by repeat (first | (with_reducible first | exact HB.out | apply below_alloc | apply pw_below_drewN | apply below_drew1 | refine below_set ?_ GE366.out) | exact HB.out))) : w.heap.size ≤ gb373)); have n8_ := Aside0.mk ((by rw [hg]; exact Nat.ne_of_lt (blk_lt (g := gb366) (o := .cells #[.int .i64 t360, .int .i64 t361, .slice Ao25 t362.length co25] 28 (0, 0)) (by (with_reducible repeat (first | refine blk_drewN ?_ _ | refine blk_drew ?_ | refine blk_alloc ?_ _)); exact BK366.out)) : gb366 ≠ gb373)); have n9_ := Aside0.mk ((by rw [hg]; exact Nat.ne_of_gt (blk_lt (g := gb366) (o := .cells #[.int .i64 t360, .int .i64 t361, .slice Ao25 t362.length co25] 28 (0, 0)) (by (with_reducible repeat (first | refine blk_drewN ?_ _ | refine blk_drew ?_ | refine blk_alloc ?_ _)); exact BK366.out)) : gb373 ≠ gb366)); clear HO359; clear HO364; clear HO371; clear BK366; clear HB; have HO359 := n0_; have HO364 := n1_; have HO371 := n2_; have BK366 := n3_; have HB := n4_; have BK373 := n5_; have GW373 := n6_; have GE373 := n7_; have NB366_373 := n8_; have NB373_366 := n9_; clear n0_ n1_ n2_ n3_ n4_ n5_ n6_ n7_ n8_ n9_; clear hb hbox hg; have hnb28 := NB373_366.out; have hnc28 := NB366_373.out; have hcz29_0 : w27.cell? ⟨gb373, 0, none⟩ = some (.int .i64 0) := (blk_cell BK373.out 0).trans rfl; have hcz29_1 : w27.cell? ⟨gb373, 1, none⟩ = some (.int .i64 0) := (blk_cell BK373.out 1).trans rfl; have hcz29_2 : w27.cell? ⟨gb373, 2, none⟩ = some (.slice none 0 0) := (blk_cell BK373.out 2).trans rfl; have hfz29_0 := blk_frozen BK373.out 0; have hfz29_1 := blk_frozen BK373.out 1; have hfz29_2 := blk_frozen BK373.out 2; obtain ⟨Ao30, co30, eo30⟩ := Kd.V_slice HO371.out; subst eo30; have hcz31_0 : w27.cell? ⟨gb366, 0, none⟩ = some (.int .i64 t360) := (blk_cell BK366.out 0).trans rfl; have hcz31_1 : w27.cell? ⟨gb366, 1, none⟩ = some (.int .i64 t361) := (blk_cell BK366.out 1).trans rfl; have hcz31_2 : w27.cell? ⟨gb366, 2, none⟩ = some (.slice Ao25 t362.length co25) := (blk_cell BK366.out 2).trans rfl; have hfz31_0 := blk_frozen BK366.out 0; have hfz31_1 := blk_frozen BK366.out 1; have hfz31_2 := blk_frozen BK366.out 2) | ((with_reducible refine gate_callee (f := 12) rfl ?_); refine goesL_ (some 41) rfl rfl Try.func12 (by kernel_rfl) rfl #[.agg #[.int .i64 t360, .int .i64 t361, .slice Ao25 t362.length co25]] rfl (by (try simp only [List.map_toArray, List.map_cons, List.map_nil]); first | done | rfl | (simp only [List.length_drop, List.length_take]; rfl)) ?_; (with_reducible refine (expr_Print.calls k t360 t361 _ _ t362 t374 t375 _ ?side1 ?side2 A11.out).mono ?_); (case side1 => refine (Kd.V_reads' (e := 28) (base := w.heap.size) (ok := fun k_ => ((True ∧ k_ ≠ gb366) ∧ k_ ≠ gb373)) (n := t362.length) (c := co25) ?_).2.2; exact (by (with_reducible repeat (first | apply Kd.V_alloc | apply Kd.V_drewN | apply Kd.V_drew)); exact (Kd.V_mono (Kd.V_far (p := ⟨gb373, 2, none⟩) (Kd.V_far (p := ⟨gb373, 1, none⟩) (Kd.V_far (p := ⟨gb373, 0, none⟩) (Kd.V_mono HO364.out (fun k_ hk => (⟨hk, hk.2⟩ : _ ∧ k_ ≠ gb373))) (fun _ hk => hk.2) (.int .i64 t367)) (fun _ hk => hk.2) (.int .i64 t368)) (fun _ hk => hk.2) (.slice Ao30 t369.length co30)) (fun _ h_ => h_.1)))); (case side2 => exact (Kd.V_reads' HO364.out).2.1); rintro e w32 ⟨rfl, hb⟩; refine ⟨_, rfl, ?_⟩; have n0_ := Aside0.mk (Kd.V_below (by (with_reducible repeat (first | apply Kd.V_alloc | apply Kd.V_drewN | apply Kd.V_drew)); exact (Kd.V_mono (Kd.V_far (p := ⟨gb373, 2, none⟩) (Kd.V_far (p := ⟨gb373, 1, none⟩) (Kd.V_far (p := ⟨gb373, 0, none⟩) (Kd.V_mono HO359.out (fun k_ hk => (⟨hk, hk.2⟩ : _ ∧ k_ ≠ gb373))) (fun _ hk => hk.2) (.int .i64 t367)) (fun _ hk => hk.2) (.int .i64 t368)) (fun _ hk => hk.2) (.slice Ao30 t369.length co30)) (fun _ h_ => h_.1))) hb); have n1_ := Aside0.mk (Kd.V_below (by (with_reducible repeat (first | apply Kd.V_alloc | apply Kd.V_drewN | apply Kd.V_drew)); exact (Kd.V_mono (Kd.V_far (p := ⟨gb373, 2, none⟩) (Kd.V_far (p := ⟨gb373, 1, none⟩) (Kd.V_far (p := ⟨gb373, 0, none⟩) (Kd.V_mono HO364.out (fun k_ hk => (⟨hk, hk.2⟩ : _ ∧ k_ ≠ gb373))) (fun _ hk => hk.2) (.int .i64 t367)) (fun _ hk => hk.2) (.int .i64 t368)) (fun _ hk => hk.2) (.slice Ao30 t369.length co30)) (fun _ h_ => h_.1))) hb); have n2_ := Aside0.mk (Kd.V_below (by (with_reducible repeat (first | apply Kd.V_alloc | apply Kd.V_drewN | apply Kd.V_drew)); exact (Kd.V_mono (Kd.V_far (p := ⟨gb373, 2, none⟩) (Kd.V_far (p := ⟨gb373, 1, none⟩) (Kd.V_far (p := ⟨gb373, 0, none⟩) (Kd.V_mono HO371.out (fun k_ hk => (⟨hk, hk.2⟩ : _ ∧ k_ ≠ gb373))) (fun _ hk => hk.2) (.int .i64 t367)) (fun _ hk => hk.2) (.int .i64 t368)) (fun _ hk => hk.2) (.slice Ao30 t369.length co30)) (fun _ h_ => h_.1))) hb); have n3_ := Aside0.mk (blk_below (g := gb366) (o := .cells #[.int .i64 t360, .int .i64 t361, .slice Ao25 t362.length co25] 28 (0, 0)) (by (with_reducible repeat (first | refine blk_drewN ?_ _ | refine blk_drew ?_ | refine blk_alloc ?_ _)); refine blk_far ?_ NB366_373.out _; (with_reducible repeat (first | refine blk_drewN ?_ _ | refine blk_drew ?_ | refine blk_alloc ?_ _)); refine blk_far ?_ NB366_373.out _; (with_reducible repeat (first | refine blk_drewN ?_ _ | refine blk_drew ?_ | refine blk_alloc ?_ _)); refine blk_far ?_ NB366_373.out _; (with_reducible repeat (first | refine blk_drewN ?_ _ | refine blk_drew ?_ | refine blk_alloc ?_ _)); exact BK366.out) hb); have n4_ := Aside0.mk (blk_below (g := gb373) (o := .cells #[.int .i64 t367, .int .i64 t368, .slice Ao30 t369.length co30] 28 (0, 0)) (by (with_reducible repeat (first | refine blk_drewN ?_ _ | refine blk_drew ?_ | refine blk_alloc ?_ _)); refine blk_put (cs := #[.int .i64 t367, .int .i64 t368, .slice none 0 0]) ?_ 2 _ rfl; (with_reducible repeat (first | refine blk_drewN ?_ _ | refine blk_drew ?_ | refine blk_alloc ?_ _)); refine blk_put (cs := #[.int .i64 t367, .int .i64 0, .slice none 0 0]) ?_ 1 _ rfl; (with_reducible repeat (first | refine blk_drewN ?_ _ | refine blk_drew ?_ | refine blk_alloc ?_ _)); refine blk_put (cs := #[.int .i64 0, .int .i64 0, .slice none 0 0]) ?_ 0 _ rfl; (with_reducible repeat (first | refine blk_drewN ?_ _ | refine blk_drew ?_ | refine blk_alloc ?_ _)); exact BK373.out) hb); have n5_ := Aside0.mk (below_step (by repeat (first | (with_reducible first | exact HB.out | apply below_alloc | apply pw_below_drewN | apply below_drew1 | refine below_set ?_ GE366.out | refine below_set ?_ GE373.out) | exact HB.out)) hb); clear HO359; clear HO364; clear HO371; clear BK366; clear BK373; clear HB; have HO359 := n0_; have HO364 := n1_; have HO371 := n2_; have BK366 := n3_; have BK373 := n4_; have HB := n5_; clear n0_ n1_ n2_ n3_ n4_ n5_; (try clear hb); (try clear hb2); (try clear hk); (try clear hi)) | ((with_reducible refine gate_callee (f := 11) rfl ?_); refine goesL_ (some 46) rfl rfl Try.func11 (by kernel_rfl) rfl #[.string t374] rfl (by (try simp only [List.map_toArray, List.map_cons, List.map_nil]); first | done | rfl | (simp only [List.length_drop, List.length_take]; rfl)) ?_; (with_reducible refine (bobbinetkeep_exprOf.calls k t374 t376 t377 t378 true _ A12.out).mono ?_); rintro e w33 ⟨v379, rfl, ho0, hb⟩; refine ⟨_, rfl, ?_⟩; have n0_ := Aside0.mk (Kd.V_below (by (with_reducible repeat (first | apply Kd.V_alloc | apply Kd.V_drewN | apply Kd.V_drew)); exact HO359.out) hb); have n1_ := Aside0.mk (Kd.V_below (by (with_reducible repeat (first | apply Kd.V_alloc | apply Kd.V_drewN | apply Kd.V_drew)); exact HO364.out) hb); have n2_ := Aside0.mk (Kd.V_below (by (with_reducible repeat (first | apply Kd.V_alloc | apply Kd.V_drewN | apply Kd.V_drew)); exact HO371.out) hb); have n3_ := Aside0.mk (Kd.V_lower (Kd.V_mono (ok' := fun k_ => k_ ≠ gb366 ∧ k_ ≠ gb373) ho0 (fun k_ hk_ => ⟨(Kd.freshB (g := gb366) (o := .cells #[.int .i64 t360, .int .i64 t361, .slice Ao25 t362.length co25] 28 (0, 0)) (by (with_reducible repeat (first | refine blk_drewN ?_ _ | refine blk_drew ?_ | refine blk_alloc ?_ _)); exact BK366.out) k_ hk_), (Kd.freshB (g := gb373) (o := .cells #[.int .i64 t367, .int .i64 t368, .slice Ao30 t369.length co30] 28 (0, 0)) (by (with_reducible repeat (first | refine blk_drewN ?_ _ | refine blk_drew ?_ | refine blk_alloc ?_ _)); exact BK373.out) k_ hk_)⟩)) (below_size (by repeat (first | (with_reducible first | exact HB.out | apply below_alloc | apply pw_below_drewN | apply below_drew1 | refine below_set ?_ GE366.out | refine below_set ?_ GE373.out) | exact HB.out)))); have n4_ := Aside0.mk (blk_below (g := gb366) (o := .cells #[.int .i64 t360, .int .i64 t361, .slice Ao25 t362.length co25] 28 (0, 0)) (by (with_reducible repeat (first | refine blk_drewN ?_ _ | refine blk_drew ?_ | refine blk_alloc ?_ _)); exact BK366.out) hb); have n5_ := Aside0.mk (blk_below (g := gb373) (o := .cells #[.int .i64 t367, .int .i64 t368, .slice Ao30 t369.length co30] 28 (0, 0)) (by (with_reducible repeat (first | refine blk_drewN ?_ _ | refine blk_drew ?_ | refine blk_alloc ?_ _)); exact BK373.out) hb); have n6_ := Aside0.mk (below_step (by repeat (first | (with_reducible first | exact HB.out | apply below_alloc | apply pw_below_drewN | apply below_drew1 | refine below_set ?_ GE366.out | refine below_set ?_ GE373.out) | exact HB.out)) hb); clear HO359; clear HO364; clear HO371; clear BK366; clear BK373; clear HB; have HO359 := n0_; have HO364 := n1_; have HO371 := n2_; have HO380 := n3_; have BK366 := n4_; have BK373 := n5_; have HB := n6_; clear n0_ n1_ n2_ n3_ n4_ n5_ n6_; (try clear hb); (try clear hb2); (try clear hk); (try clear hi); (try clear ho0)) | ((with_reducible refine gate_dst (N := 13) rfl ?_); (try (refine gate_guard (by rfl) ?_; dsimp only)); refine box_event ?hg (N := 13) ?hd (cs := #[.int .i64 0, .int .i64 0, .slice none 0 0]) (t := 28) ?hr ?_; (case hd => rfl); (case hg => rfl); (case hr => first | (go_simp; done) | (go_simp; rfl)); intro gb382 hg w34 hbox hb; have n0_ := Aside0.mk (Kd.V_below (Kd.V_elderB (by (with_reducible repeat (first | apply Kd.V_alloc | apply Kd.V_drewN | apply Kd.V_drew)); exact HO359.out) gb382 (Nat.le_of_eq hg.symm)) hb); have n1_ := Aside0.mk (Kd.V_below (Kd.V_elderB (by (with_reducible repeat (first | apply Kd.V_alloc | apply Kd.V_drewN | apply Kd.V_drew)); exact HO364.out) gb382 (Nat.le_of_eq hg.symm)) hb); have n2_ := Aside0.mk (Kd.V_below (Kd.V_elderB (by (with_reducible repeat (first | apply Kd.V_alloc | apply Kd.V_drewN | apply Kd.V_drew)); exact HO371.out) gb382 (Nat.le_of_eq hg.symm)) hb); have n3_ := Aside0.mk (Kd.V_below (Kd.V_elderB (by (with_reducible repeat (first | apply Kd.V_alloc | apply Kd.V_drewN | apply Kd.V_drew)); exact HO380.out) gb382 (Nat.le_of_eq hg.symm)) hb); have n4_ := Aside0.mk (blk_below (g := gb366) (o := .cells #[.int .i64 t360, .int .i64 t361, .slice Ao25 t362.length co25] 28 (0, 0)) (by (with_reducible repeat (first | refine blk_drewN ?_ _ | refine blk_drew ?_ | refine blk_alloc ?_ _)); exact BK366.out) hb); have n5_ := Aside0.mk (blk_below (g := gb373) (o := .cells #[.int .i64 t367, .int .i64 t368, .slice Ao30 t369.length co30] 28 (0, 0)) (by (with_reducible repeat (first | refine blk_drewN ?_ _ | refine blk_drew ?_ | refine blk_alloc ?_ _)); exact BK373.out) hb); have n6_ := Aside0.mk (below_step (by repeat (first | (with_reducible first | exact HB.out | apply below_alloc | apply pw_below_drewN | apply below_drew1 | refine below_set ?_ GE366.out | refine below_set ?_ GE373.out) | exact HB.out)) hb); have n7_ := Aside0.mk (hbox); have n8_ := Aside0.mk ((by rw [hg]; exact (below_size (by repeat (first | (with_reducible first | exact HB.out | apply below_alloc | apply pw_below_drewN | apply below_drew1 | refine below_set ?_ GE366.out | refine below_set ?_ GE373.out) | exact HB.out))) : w.heap.size ≤ gb382)); have n9_ := Aside0.mk ((by rw [hg]; exact (below_size (by repeat (first | (with_reducible first | exact HB.out | apply below_alloc | apply pw_below_drewN | apply below_drew1 | refine below_set ?_ GE366.out | refine below_set ?_ GE373.out) | exact HB.out))) : w.heap.size ≤ gb382)); have n10_ := Aside0.mk ((by rw [hg]; exact Nat.ne_of_lt (blk_lt (g := gb366) (o := .cells #[.int .i64 t360, .int .i64 t361, .slice Ao25 t362.length co25] 28 (0, 0)) (by (with_reducible repeat (first | refine blk_drewN ?_ _ | refine blk_drew ?_ | refine blk_alloc ?_ _)); exact BK366.out)) : gb366 ≠ gb382)); have n11_ := Aside0.mk ((by rw [hg]; exact Nat.ne_of_gt (blk_lt (g := gb366) (o := .cells #[.int .i64 t360, .int .i64 t361, .slice Ao25 t362.length co25] 28 (0, 0)) (by (with_reducible repeat (first | refine blk_drewN ?_ _ | refine blk_drew ?_ | refine blk_alloc ?_ _)); exact BK366.out)) : gb382 ≠ gb366)); have n12_ := Aside0.mk ((by rw [hg]; exact Nat.ne_of_lt (blk_lt (g := gb373) (o := .cells #[.int .i64 t367, .int .i64 t368, .slice Ao30 t369.length co30] 28 (0, 0)) (by (with_reducible repeat (first | refine blk_drewN ?_ _ | refine blk_drew ?_ | refine blk_alloc ?_ _)); exact BK373.out)) : gb373 ≠ gb382)); have n13_ := Aside0.mk ((by rw [hg]; exact Nat.ne_of_gt (blk_lt (g := gb373) (o := .cells #[.int .i64 t367, .int .i64 t368, .slice Ao30 t369.length co30] 28 (0, 0)) (by (with_reducible repeat (first | refine blk_drewN ?_ _ | refine blk_drew ?_ | refine blk_alloc ?_ _)); exact BK373.out)) : gb382 ≠ gb373)); clear HO359; clear HO364; clear HO371; clear HO380; clear BK366; clear BK373; clear HB; have HO359 := n0_; have HO364 := n1_; have HO371 := n2_; have HO380 := n3_; have BK366 := n4_; have BK373 := n5_; have HB := n6_; have BK382 := n7_; have GW382 := n8_; have GE382 := n9_; have NB366_382 := n10_; have NB382_366 := n11_; have NB373_382 := n12_; have NB382_373 := n13_; clear n0_ n1_ n2_ n3_ n4_ n5_ n6_ n7_ n8_ n9_ n10_ n11_ n12_ n13_; clear hb hbox hg; have hnb35 := NB382_366.out; have hnc35 := NB366_382.out; have hnb36 := NB382_373.out; have hnc36 := NB373_382.out; have hcz37_0 : w34.cell? ⟨gb382, 0, none⟩ = some (.int .i64 0) := (blk_cell BK382.out 0).trans rfl; have hcz37_1 : w34.cell? ⟨gb382, 1, none⟩ = some (.int .i64 0) := (blk_cell BK382.out 1).trans rfl; have hcz37_2 : w34.cell? ⟨gb382, 2, none⟩ = some (.slice none 0 0) := (blk_cell BK382.out 2).trans rfl; have hfz37_0 := blk_frozen BK382.out 0; have hfz37_1 := blk_frozen BK382.out 1; have hfz37_2 := blk_frozen BK382.out 2; obtain ⟨Ao38, co38, eo38⟩ := Kd.V_slice HO380.out; subst eo38; have hcz39_0 : w34.cell? ⟨gb366, 0, none⟩ = some (.int .i64 t360) := (blk_cell BK366.out 0).trans rfl; have hcz39_1 : w34.cell? ⟨gb366, 1, none⟩ = some (.int .i64 t361) := (blk_cell BK366.out 1).trans rfl; have hcz39_2 : w34.cell? ⟨gb366, 2, none⟩ = some (.slice Ao25 t362.length co25) := (blk_cell BK366.out 2).trans rfl; have hfz39_0 := blk_frozen BK366.out 0; have hfz39_1 := blk_frozen BK366.out 1; have hfz39_2 := blk_frozen BK366.out 2) | (go_at_call 13; (with_reducible refine (bobbinetkeep_sameExpr.calls k t360 t361 _ _ t362 t376 t377 _ _ t378 true _ ?side1 ?side2 ?side3 ?side4 A18.out).mono ?_); (case side1 => refine (Kd.V_reads' (e := 28) (base := w.heap.size) (ok := fun k_ => (((True ∧ k_ ≠ gb366) ∧ k_ ≠ gb373) ∧ k_ ≠ gb382)) (n := t362.length) (c := co25) ?_).2.2; exact (by (with_reducible repeat (first | apply Kd.V_alloc | apply Kd.V_drewN | apply Kd.V_drew)); exact (Kd.V_mono (Kd.V_far (p := ⟨gb382, 2, none⟩) (Kd.V_far (p := ⟨gb382, 1, none⟩) (Kd.V_far (p := ⟨gb382, 0, none⟩) (Kd.V_mono HO364.out (fun k_ hk => (⟨hk, hk.2⟩ : _ ∧ k_ ≠ gb382))) (fun _ hk => hk.2) (.int .i64 t376)) (fun _ hk => hk.2) (.int .i64 t377)) (fun _ hk => hk.2) (.slice Ao38 t378.length co38)) (fun _ h_ => h_.1)))); (case side2 => exact (Kd.V_reads' HO364.out).2.1); (case side3 => refine (Kd.V_reads' (e := 28) (base := w.heap.size) (ok := fun k_ => ((k_ ≠ gb366 ∧ k_ ≠ gb373) ∧ k_ ≠ gb382)) (n := t378.length) (c := co38) ?_).2.2; exact (by (with_reducible repeat (first | apply Kd.V_alloc | apply Kd.V_drewN | apply Kd.V_drew)); exact (Kd.V_mono (Kd.V_far (p := ⟨gb382, 2, none⟩) (Kd.V_far (p := ⟨gb382, 1, none⟩) (Kd.V_far (p := ⟨gb382, 0, none⟩) (Kd.V_mono HO380.out (fun k_ hk => (⟨hk, hk.2⟩ : _ ∧ k_ ≠ gb382))) (fun _ hk => hk.2) (.int .i64 t376)) (fun _ hk => hk.2) (.int .i64 t377)) (fun _ hk => hk.2) (.slice Ao38 t378.length co38)) (fun _ h_ => h_.1)))); (case side4 => exact (Kd.V_reads' HO380.out).2.1); rintro e w40 ⟨rfl, hb⟩; have n0_ := Aside0.mk (Kd.V_below (by (with_reducible repeat (first | apply Kd.V_alloc | apply Kd.V_drewN | apply Kd.V_drew)); exact (Kd.V_mono (Kd.V_far (p := ⟨gb382, 2, none⟩) (Kd.V_far (p := ⟨gb382, 1, none⟩) (Kd.V_far (p := ⟨gb382, 0, none⟩) (Kd.V_mono HO359.out (fun k_ hk => (⟨hk, hk.2⟩ : _ ∧ k_ ≠ gb382))) (fun _ hk => hk.2) (.int .i64 t376)) (fun _ hk => hk.2) (.int .i64 t377)) (fun _ hk => hk.2) (.slice Ao38 t378.length co38)) (fun _ h_ => h_.1))) hb); have n1_ := Aside0.mk (Kd.V_below (by (with_reducible repeat (first | apply Kd.V_alloc | apply Kd.V_drewN | apply Kd.V_drew)); exact (Kd.V_mono (Kd.V_far (p := ⟨gb382, 2, none⟩) (Kd.V_far (p := ⟨gb382, 1, none⟩) (Kd.V_far (p := ⟨gb382, 0, none⟩) (Kd.V_mono HO364.out (fun k_ hk => (⟨hk, hk.2⟩ : _ ∧ k_ ≠ gb382))) (fun _ hk => hk.2) (.int .i64 t376)) (fun _ hk => hk.2) (.int .i64 t377)) (fun _ hk => hk.2) (.slice Ao38 t378.length co38)) (fun _ h_ => h_.1))) hb); have n2_ := Aside0.mk (Kd.V_below (by (with_reducible repeat (first | apply Kd.V_alloc | apply Kd.V_drewN | apply Kd.V_drew)); exact (Kd.V_mono (Kd.V_far (p := ⟨gb382, 2, none⟩) (Kd.V_far (p := ⟨gb382, 1, none⟩) (Kd.V_far (p := ⟨gb382, 0, none⟩) (Kd.V_mono HO371.out (fun k_ hk => (⟨hk, hk.2⟩ : _ ∧ k_ ≠ gb382))) (fun _ hk => hk.2) (.int .i64 t376)) (fun _ hk => hk.2) (.int .i64 t377)) (fun _ hk => hk.2) (.slice Ao38 t378.length co38)) (fun _ h_ => h_.1))) hb); have n3_ := Aside0.mk (Kd.V_below (by (with_reducible repeat (first | apply Kd.V_alloc | apply Kd.V_drewN | apply Kd.V_drew)); exact (Kd.V_mono (Kd.V_far (p := ⟨gb382, 2, none⟩) (Kd.V_far (p := ⟨gb382, 1, none⟩) (Kd.V_far (p := ⟨gb382, 0, none⟩) (Kd.V_mono HO380.out (fun k_ hk => (⟨hk, hk.2⟩ : _ ∧ k_ ≠ gb382))) (fun _ hk => hk.2) (.int .i64 t376)) (fun _ hk => hk.2) (.int .i64 t377)) (fun _ hk => hk.2) (.slice Ao38 t378.length co38)) (fun _ h_ => h_.1))) hb); have n4_ := Aside0.mk (blk_below (g := gb366) (o := .cells #[.int .i64 t360, .int .i64 t361, .slice Ao25 t362.length co25] 28 (0, 0)) (by (with_reducible repeat (first | refine blk_drewN ?_ _ | refine blk_drew ?_ | refine blk_alloc ?_ _)); refine blk_far ?_ NB366_382.out _; (with_reducible repeat (first | refine blk_drewN ?_ _ | refine blk_drew ?_ | refine blk_alloc ?_ _)); refine blk_far ?_ NB366_382.out _; (with_reducible repeat (first | refine blk_drewN ?_ _ | refine blk_drew ?_ | refine blk_alloc ?_ _)); refine blk_far ?_ NB366_382.out _; (with_reducible repeat (first | refine blk_drewN ?_ _ | refine blk_drew ?_ | refine blk_alloc ?_ _)); exact BK366.out) hb); have n5_ := Aside0.mk (blk_below (g := gb373) (o := .cells #[.int .i64 t367, .int .i64 t368, .slice Ao30 t369.length co30] 28 (0, 0)) (by (with_reducible repeat (first | refine blk_drewN ?_ _ | refine blk_drew ?_ | refine blk_alloc ?_ _)); refine blk_far ?_ NB373_382.out _; (with_reducible repeat (first | refine blk_drewN ?_ _ | refine blk_drew ?_ | refine blk_alloc ?_ _)); refine blk_far ?_ NB373_382.out _; (with_reducible repeat (first | refine blk_drewN ?_ _ | refine blk_drew ?_ | refine blk_alloc ?_ _)); refine blk_far ?_ NB373_382.out _; (with_reducible repeat (first | refine blk_drewN ?_ _ | refine blk_drew ?_ | refine blk_alloc ?_ _)); exact BK373.out) hb); have n6_ := Aside0.mk (blk_below (g := gb382) (o := .cells #[.int .i64 t376, .int .i64 t377, .slice Ao38 t378.length co38] 28 (0, 0)) (by (with_reducible repeat (first | refine blk_drewN ?_ _ | refine blk_drew ?_ | refine blk_alloc ?_ _)); refine blk_put (cs := #[.int .i64 t376, .int .i64 t377, .slice none 0 0]) ?_ 2 _ rfl; (with_reducible repeat (first | refine blk_drewN ?_ _ | refine blk_drew ?_ | refine blk_alloc ?_ _)); refine blk_put (cs := #[.int .i64 t376, .int .i64 0, .slice none 0 0]) ?_ 1 _ rfl; (with_reducible repeat (first | refine blk_drewN ?_ _ | refine blk_drew ?_ | refine blk_alloc ?_ _)); refine blk_put (cs := #[.int .i64 0, .int .i64 0, .slice none 0 0]) ?_ 0 _ rfl; (with_reducible repeat (first | refine blk_drewN ?_ _ | refine blk_drew ?_ | refine blk_alloc ?_ _)); exact BK382.out) hb); have n7_ := Aside0.mk (below_step (by repeat (first | (with_reducible first | exact HB.out | apply below_alloc | apply pw_below_drewN | apply below_drew1 | refine below_set ?_ GE366.out | refine below_set ?_ GE373.out | refine below_set ?_ GE382.out) | exact HB.out)) hb); clear HO359; clear HO364; clear HO371; clear HO380; clear BK366; clear BK373; clear BK382; clear HB; have HO359 := n0_; have HO364 := n1_; have HO371 := n2_; have HO380 := n3_; have BK366 := n4_; have BK373 := n5_; have BK382 := n6_; have HB := n7_; clear n0_ n1_ n2_ n3_ n4_ n5_ n6_ n7_; (try clear hb); (try clear hb2); (try clear hk); (try clear hi); have hcz41_0 : w40.cell? ⟨gb366, 0, none⟩ = some (.int .i64 t360) := (blk_cell BK366.out 0).trans rfl; have hcz41_1 : w40.cell? ⟨gb366, 1, none⟩ = some (.int .i64 t361) := (blk_cell BK366.out 1).trans rfl; have hcz41_2 : w40.cell? ⟨gb366, 2, none⟩ = some (.slice Ao25 t362.length co25) := (blk_cell BK366.out 2).trans rfl; have hfz41_0 := blk_frozen BK366.out 0; have hfz41_1 := blk_frozen BK366.out 1; have hfz41_2 := blk_frozen BK366.out 2; have hcz42_0 : w40.cell? ⟨gb373, 0, none⟩ = some (.int .i64 t367) := (blk_cell BK373.out 0).trans rfl; have hcz42_1 : w40.cell? ⟨gb373, 1, none⟩ = some (.int .i64 t368) := (blk_cell BK373.out 1).trans rfl; have hcz42_2 : w40.cell? ⟨gb373, 2, none⟩ = some (.slice Ao30 t369.length co30) := (blk_cell BK373.out 2).trans rfl; have hfz42_0 := blk_frozen BK373.out 0; have hfz42_1 := blk_frozen BK373.out 1; have hfz42_2 := blk_frozen BK373.out 2) | (go_at_call 13; (with_reducible refine (bobbinetkeep_sameExpr.calls k t360 t361 _ _ t362 t367 t368 _ _ t369 t384 _ ?side1 ?side2 ?side3 ?side4 A20.out).mono ?_); (case side1 => repeat (first | exact (Kd.V_reads' HO364.out).2.2 | (with_reducible refine Kd.C_alloc ?_ _) | (with_reducible refine Kd.C_drewN ?_ _) | (with_reducible refine Kd.C_drew ?_))); (case side2 => exact (Kd.V_reads' HO364.out).2.1); (case side3 => repeat (first | exact (Kd.V_reads' HO371.out).2.2 | (with_reducible refine Kd.C_alloc ?_ _) | (with_reducible refine Kd.C_drewN ?_ _) | (with_reducible refine Kd.C_drew ?_))); (case side4 => exact (Kd.V_reads' HO371.out).2.1); rintro e w43 ⟨rfl, hb⟩; have n0_ := Aside0.mk (Kd.V_below (by (with_reducible repeat (first | apply Kd.V_alloc | apply Kd.V_drewN | apply Kd.V_drew)); exact HO359.out) hb); have n1_ := Aside0.mk (Kd.V_below (by (with_reducible repeat (first | apply Kd.V_alloc | apply Kd.V_drewN | apply Kd.V_drew)); exact HO364.out) hb); have n2_ := Aside0.mk (Kd.V_below (by (with_reducible repeat (first | apply Kd.V_alloc | apply Kd.V_drewN | apply Kd.V_drew)); exact HO371.out) hb); have n3_ := Aside0.mk (Kd.V_below (by (with_reducible repeat (first | apply Kd.V_alloc | apply Kd.V_drewN | apply Kd.V_drew)); exact HO380.out) hb); have n4_ := Aside0.mk (blk_below (g := gb366) (o := .cells #[.int .i64 t360, .int .i64 t361, .slice Ao25 t362.length co25] 28 (0, 0)) (by (with_reducible repeat (first | refine blk_drewN ?_ _ | refine blk_drew ?_ | refine blk_alloc ?_ _)); exact BK366.out) hb); have n5_ := Aside0.mk (blk_below (g := gb373) (o := .cells #[.int .i64 t367, .int .i64 t368, .slice Ao30 t369.length co30] 28 (0, 0)) (by (with_reducible repeat (first | refine blk_drewN ?_ _ | refine blk_drew ?_ | refine blk_alloc ?_ _)); exact BK373.out) hb); have n6_ := Aside0.mk (blk_below (g := gb382) (o := .cells #[.int .i64 t376, .int .i64 t377, .slice Ao38 t378.length co38] 28 (0, 0)) (by (with_reducible repeat (first | refine blk_drewN ?_ _ | refine blk_drew ?_ | refine blk_alloc ?_ _)); exact BK382.out) hb); have n7_ := Aside0.mk (below_step (by repeat (first | (with_reducible first | exact HB.out | apply below_alloc | apply pw_below_drewN | apply below_drew1 | refine below_set ?_ GE366.out | refine below_set ?_ GE373.out | refine below_set ?_ GE382.out) | exact HB.out)) hb); clear HO359; clear HO364; clear HO371; clear HO380; clear BK366; clear BK373; clear BK382; clear HB; have HO359 := n0_; have HO364 := n1_; have HO371 := n2_; have HO380 := n3_; have BK366 := n4_; have BK373 := n5_; have BK382 := n6_; have HB := n7_; clear n0_ n1_ n2_ n3_ n4_ n5_ n6_ n7_; (try clear hb); (try clear hb2); (try clear hk); (try clear hi)))
          go_ret
          exact ⟨by first | rfl | (simp [errW_none, errW_some] <;> rfl) | (simp [*, errW_none, errW_some] <;> rfl), by repeat (first | (with_reducible first | exact HB.out | apply below_alloc | apply pw_below_drewN | apply below_drew1 | refine below_set ?_ GE366.out | refine below_set ?_ GE373.out | refine below_set ?_ GE382.out) | exact HB.out)⟩
         ·
          replace c19 := Bool.eq_false_iff.mpr c19
          subst c19
          have H1 : (none) = some r := by rw [if_neg (show ¬ (false = true) by decide)] at H; exact H
          clear H
          have H := H1
          clear H1
          exact absurd H (by simp)
        ·
         rw [if_neg c17] at H
         exact absurd H (by simp)
       ·
        rw [if_neg c16] at H
        exact absurd H (by simp)
      ·
       replace c15 := Bool.eq_false_iff.mpr c15
       subst c15
       have H1 : (none) = some r := by rw [if_neg (show ¬ (false = true) by decide)] at H; exact H
       clear H
       have H := H1
       clear H1
       exact absurd H (by simp)
     ·
      replace c14 := Bool.eq_false_iff.mpr c14
      subst c14
      have H1 : (none) = some r := by rw [if_neg (show ¬ (false = true) by decide)] at H; exact H
      clear H
      have H := H1
      clear H1
      exact absurd H (by simp)
    ·
     replace c13 := Bool.eq_false_iff.mpr c13
     subst c13
     have H1 : (none) = some r := by rw [if_neg (show ¬ (false = true) by decide)] at H; exact H
     clear H
     have H := H1
     clear H1
     exact absurd H (by simp)
   ·
    rw [if_neg c9] at H
    exact absurd H (by simp)
  ·
   rw [if_neg c8] at H
   exact absurd H (by simp)
/-- THE ONE PURE STATEMENT of bobbinetkeep_ExprBack: yours. -/
def bobbinetkeep_ExprBack.Pure : Prop := ∀ (l0 : List Int) (a1 : Int), l0.length ≤ maxLen → l0.length * 8 ≤ 140737488351232 → (∀ x ∈ l0, (Lit.int .i64 x).wf = true) → (Lit.int .i64 a1).wf = true → ∃ k, bobbinetkeep_ExprBack.f k l0 a1 = some true
theorem bobbinetkeep_ExprBack.walk (P : bobbinetkeep_ExprBack.Pure) (a0 : Option Addr) (len0 cap0 : Nat) (z0 : List Int) (a1 : Int) (w : World) (w0 : (a0 = none ∧ len0 = 0 ∧ cap0 = 0 ∧ z0 = []) ∨ ∃ x, a0 = some x ∧ len0 ≤ cap0 ∧ cap0 ≤ maxLen ∧ z0.length = cap0 ∧ (∀ i, i < z0.length → w.cell? (x.add i) = some (.int .i64 (z0.getD i 0))) ∧ ∀ n ∈ z0, (Lit.int .i64 n).wf = true) (y0 : len0 * 8 ≤ 140737488351232) (w1 : (Lit.int .i64 a1).wf = true) :
  Calls Try.prog 3 #[.slice a0 len0 cap0, .int .i64 a1] w fun e w' => e = .returned (.bool true) ∧ Below w.heap.size w w' := by
 obtain ⟨l0, rfl, hr0, hm0, hw0, hc0⟩ := ReadsInt.ofRowC w0
 obtain ⟨k, h⟩ := P l0 a1 hm0 y0 hw0 w1
 refine (bobbinetkeep_ExprBack.calls k _ _ l0 a1 true w (Kd.C_of_reads (d := (0 : Int)) (h1 := fun _ => rfl) hr0) hc0 h).mono ?_
 rintro e w' ⟨rfl, hd⟩
 exact ⟨rfl, hd⟩
end Go.Proofs.Ytjmhihadgpdiaaa.X
end
section
namespace Go.Proofs.Ytjmhihadgpdiaaa.X
open Go.RowKit Go.Proofs.YtjmhihadgpdiaaaW.PrintWords Go.Proofs.YtjmhihadgpdiaaaW.PrintLast Go.Proofs.YtjmhihadgpdiaaaW.PrintMore
attribute [local go_sem] max2_int min2_int max_two min_two max_three min_three max_four min_four   -- for this text's walks alone
set_option linter.unusedVariables false
set_option linter.unusedSimpArgs false
end Go.Proofs.Ytjmhihadgpdiaaa.X
end
section
namespace Go.Proofs.Ytjmhihadgpdiaaa.X
open Go.RowKit Go.Proofs.YtjmhihadgpdiaaaW.PrintWords Go.Proofs.YtjmhihadgpdiaaaW.PrintLast Go.Proofs.YtjmhihadgpdiaaaW.PrintMore
attribute [local go_sem] max2_int min2_int max_two min_two max_three min_three max_four min_four   -- for this text's walks alone
set_option linter.unusedVariables false
set_option linter.unusedSimpArgs false
end Go.Proofs.Ytjmhihadgpdiaaa.X
end
section
namespace Go.Proofs.Ytjmhihadgpdiaaa.X
open Go.RowKit Go.Proofs.YtjmhihadgpdiaaaW.PrintWords Go.Proofs.YtjmhihadgpdiaaaW.PrintLast Go.Proofs.YtjmhihadgpdiaaaW.PrintMore
attribute [local go_sem] max2_int min2_int max_two min_two max_three min_three max_four min_four   -- for this text's walks alone
set_option linter.unusedVariables false
set_option linter.unusedSimpArgs false
end Go.Proofs.Ytjmhihadgpdiaaa.X
end
section
namespace Go.Proofs.Ytjmhihadgpdiaaa.X
open Go.RowKit Go.Proofs.YtjmhihadgpdiaaaW.PrintWords Go.Proofs.YtjmhihadgpdiaaaW.PrintLast Go.Proofs.YtjmhihadgpdiaaaW.PrintMore
attribute [local go_sem] max2_int min2_int max_two min_two max_three min_three max_four min_four   -- for this text's walks alone
set_option linter.unusedVariables false
set_option linter.unusedSimpArgs false
end Go.Proofs.Ytjmhihadgpdiaaa.X
end
section
namespace Go.Proofs.Ytjmhihadgpdiaaa.Expr
open Go.RowKit Go.Proofs.Ytjmhihadgpdiaaa.X Go.Proofs.YtjmhihadgpdiaaaW.PrintWords Go.Proofs.YtjmhihadgpdiaaaW.PrintLast Go.Proofs.Ytjmhihadgpdiaaa.Base
set_option linter.unusedVariables false
set_option linter.unusedSimpArgs false
abbrev S := S28
abbrev T := List UInt8
theorem Ev.succ {α : Type} {g : Nat → Option α} {r : α} (h : Ev (fun k => g (k + 1)) r) : Ev g r := Ev.one (f := fun k => g (k + 1)) (fun _ => rfl) h
theorem Ev.eqv {α : Type} {g f : Nat → Option α} {r : α} (h : ∀ k, g k = f k) (k : Ev f r) : Ev g r := by
  have : g = f := funext h
  rw [this]; exact k
theorem eta (x : S) : (⟨x.f0, x.f1, x.f2⟩ : S) = x := by cases x; rfl
def flat (kd : Int) : List S → List S
  | [] => []
  | p :: l => (if p.f0 = kd then p.f2 else [p]) ++ flat kd l
def one (kd : Int) (l : List S) : S := if l.length = 1 then rd_T28 l 0 else ⟨kd, 0, l⟩
def tog (kd : Int) (l : List S) : S := if l.length = 1 then rd_T28 l 0 else one kd (flat kd l)
def tl : List S → Nat
  | [] => 0
  | p :: l => 1 + tl p.f2 + tl l
termination_by l => SizeOf.sizeOf l
decreasing_by all_goals (cases p; simp; omega)
theorem tl_nil : tl [] = 0 := by rw [tl]
theorem tl_cons (p : S) (l : List S) : tl (p :: l) = 1 + tl p.f2 + tl l := by rw [tl]
theorem tl_app (a b : List S) : tl (a ++ b) = tl a + tl b := by
  induction a with
  | nil => simp [tl_nil]
  | cons p a ih => rw [List.cons_append, tl_cons, tl_cons, ih]; omega
theorem tl_len : ∀ l : List S, l.length ≤ tl l
  | [] => Nat.zero_le _
  | p :: l => by have := tl_len l; rw [tl_cons, List.length_cons]; omega
theorem tl_flat (kd : Int) : ∀ l : List S, tl (flat kd l) ≤ tl l
  | [] => Nat.le_refl _
  | p :: l => by
    have := tl_flat kd l
    rw [flat, tl_cons, tl_app]
    split
    · omega
    · rw [tl_cons, tl_nil]; omega
theorem rdT_at (l : List S) (i : Nat) (h : i < l.length) : rd_T28 l (i : Int) = l[i] := by
  simp [rd_T28, List.getD, h]
theorem rdT_zero (x : S) (l : List S) : rd_T28 (x :: l) 0 = x := rfl
theorem tl_one (kd : Int) (l : List S) : tl (one kd l).f2 ≤ tl l := by
  unfold one
  split
  · rename_i h1
    match l, h1 with
    | [x], _ => rw [rdT_zero, tl_cons]; omega
  · exact Nat.le_refl _
theorem tl_tog (kd : Int) (l : List S) : tl (tog kd l).f2 ≤ tl l := by
  unfold tog
  split
  · rename_i h1
    match l, h1 with
    | [x], _ => rw [rdT_zero, tl_cons]; omega
  · exact Nat.le_trans (tl_one _ _) (tl_flat _ _)
/-- the length of what is put together -/
theorem together_l0 (kd : Int) (l : List S) (hl : l.length < 1000000000) : ∀ (d i : Nat) (acc : List S), l.length - i = d → i ≤ l.length → acc.length + (flat kd (l.drop i)).length < 3518437208883 →
    Ev (fun k => expr_together.l0 k kd l (l.length : Int) (i : Int) kd 0 acc) ((one kd (acc ++ flat kd (l.drop i))).f0, (one kd (acc ++ flat kd (l.drop i))).f1, (one kd (acc ++ flat kd (l.drop i))).f2) := by
  intro d
  induction d with
  | zero =>
    intro i acc hd hi hb
    have e : i = l.length := by omega
    subst e
    rw [List.drop_length, flat, List.append_nil]
    refine Ev.one (f := fun k => _) (fun k => by rw [expr_together.l0]) ?_
    refine Ev.ite_neg (by omega) ?_
    unfold one
    by_cases h1 : acc.length = 1
    · rw [if_pos h1]
      refine Ev.ite_pos (by omega) (Ev.ite_pos (by omega) (Ev.some _))
    · rw [if_neg h1]
      exact Ev.ite_neg (by omega) (Ev.some _)
  | succ d ih =>
    intro i acc hd hi hb
    have hlt : i < l.length := by omega
    have hw : wrap64 ((i : Int) + 1) = ((i + 1 : Nat) : Int) := wrap_succ hlt (by omega)
    have e : flat kd (l.drop i) = (if l[i].f0 = kd then l[i].f2 else [l[i]]) ++ flat kd (l.drop (i + 1)) := by
      rw [List.drop_eq_getElem_cons hlt, flat]
    rw [e] at hb ⊢
    refine Ev.one (f := fun k => _) (fun k => by rw [expr_together.l0, hw, rdT_at l i hlt, eta]) ?_
    refine Ev.ite_pos (by omega) (Ev.ite_pos (by omega) (Ev.ite_pos (by omega) ?_))
    rw [List.length_append] at hb
    by_cases h1 : l[i].f0 = kd
    · rw [if_pos h1] at hb ⊢
      refine Ev.ite_pos h1 (Ev.ite_pos (by omega) ?_)
      have := ih (i + 1) (acc ++ l[i].f2) (by omega) (by omega) (by rw [List.length_append]; omega)
      rw [List.append_assoc] at this
      exact this
    · rw [if_neg h1] at hb ⊢
      rw [List.length_singleton] at hb
      refine Ev.ite_neg h1 (Ev.ite_pos (by omega) ?_)
      have := ih (i + 1) (acc ++ [l[i]]) (by omega) (by omega) (by rw [List.length_append, List.length_singleton]; omega)
      rw [List.append_assoc] at this
      exact this
theorem together_ev (kd : Int) (l : List S) (hl : tl l < 1000000000) : Ev (fun k => expr_together.f k kd l) ((tog kd l).f0, (tog kd l).f1, (tog kd l).f2) := by
  have h1 := tl_len l
  have h2 := Nat.le_trans (tl_len _) (tl_flat kd l)
  unfold expr_together.f tog
  by_cases h : l.length = 1
  · rw [if_pos h]
    exact Ev.ite_pos (by omega) (Ev.ite_pos (by omega) (Ev.some _))
  · rw [if_neg h]
    refine Ev.ite_neg (by omega) ?_
    exact together_l0 kd l (by omega) l.length 0 [] (by omega) (by omega) (by rw [List.drop_zero]; simp; omega)
def Ns (l : T) : Prop := ∀ c r, l = c :: r → expr_Parse.sign c = none
def St (l : T) : Prop := ∀ c r, l = c :: r → c.toNat = 124 ∨ c.toNat = 41
def Cl (l : T) : Prop := ∀ c r, l = c :: r → c.toNat = 41
def Hd (l : T) : Prop := ∃ c r, l = c :: r ∧ ¬ (c.toNat = 124 ∨ c.toNat = 41) ∧ expr_Parse.sign c = none
theorem St.nil : St [] := fun c r h => by cases h
theorem Cl.nil : Cl [] := fun c r h => by cases h
theorem Cl.st {l : T} (h : Cl l) : St l := fun c r e => .inr (h c r e)
theorem Ns.nil : Ns [] := fun c r h => by cases h
theorem St.ns {l : T} (h : St l) : Ns l := by
  intro c r e
  unfold expr_Parse.sign
  have := h c r e
  rw [if_neg (by omega), if_neg (by omega), if_neg (by omega)]
theorem Hd.ns {l m : T} (h : Hd l) : Ns (l ++ m) := by
  obtain ⟨c, r, rfl, -, h3⟩ := h
  intro c' r' e
  cases e
  exact h3
theorem Hd.ns0 {l : T} (h : Hd l) : Ns l := by
  obtain ⟨c, r, rfl, -, h3⟩ := h
  intro c' r' e
  cases e
  exact h3
def BP (t : T) (x : S) : Prop := Hd t ∧ tl x.f2 + 2 ≤ 2 * t.length ∧ (t.length < 1000000 → ∀ rest, Ev (fun k => expr_Parse.item k (t ++ rest)) (expr_Parse.sfx rest x))
def SP (t : T) (xs : List S) : Prop := Ns t ∧ (tl xs ≤ 2 * t.length ∧ xs.length ≤ t.length) ∧ (t.length < 1000000 → ∀ acc rest R, Ns rest → acc.length + t.length < 1000000 → Ev (fun k => expr_Parse.seqs k (acc ++ xs) rest) R → Ev (fun k => expr_Parse.seqs k acc (t ++ rest)) R)
def QP (t : T) (y : S) : Prop := tl y.f2 ≤ 2 * t.length ∧ (t.length < 1000000 → ∀ rest, St rest → Ev (fun k => expr_Parse.seqs k [] (t ++ rest)) (y, rest))
def AP (t : T) (y : S) : Prop := tl y.f2 ≤ 2 * t.length + 1 ∧ (t.length < 1000000 → ∀ rest, Cl rest → Ev (fun k => expr_Parse.alt k (t ++ rest)) (y, rest))
theorem sfx_ns {rest : T} (h : Ns rest) (x : S) : expr_Parse.sfx rest x = (x, rest) := by
  cases rest with
  | nil => rfl
  | cons c r => rw [expr_Parse.sfx, h c r rfl]
theorem sfx_sg {c : UInt8} {j : Int} (h : expr_Parse.sign c = some j) (r : T) (x : S) : expr_Parse.sfx (c :: r) x = expr_Parse.sfx r ⟨4 + j, 0, [x]⟩ := by
  rw [expr_Parse.sfx, h]
theorem seqs_end (acc : List S) (rest : T) (h : St rest) (hl : tl acc < 1000000000) : Ev (fun k => expr_Parse.seqs k acc rest) (tog 2 acc, rest) := by
  have ht := together_ev 2 acc hl
  cases rest with
  | nil => exact Ev.one (f := fun k => _) (fun k => by rw [expr_Parse.seqs]) (Ev.bnd ht ⟨0, fun _ _ => by rw [eta]⟩)
  | cons c r =>
    refine Ev.one (f := fun k => _) (fun k => by rw [expr_Parse.seqs]) ?_
    exact Ev.ite_pos (h c r rfl) (Ev.bnd ht ⟨0, fun _ _ => by rw [eta]⟩)
theorem BP.sp {t : T} {x : S} (h : BP t x) : SP t [x] := by
  obtain ⟨h1, h2, h3⟩ := h
  have h0 : 1 ≤ t.length := by obtain ⟨c, r, rfl, -⟩ := h1; simp
  refine ⟨h1.ns0, ⟨by rw [tl_cons, tl_nil]; omega, h0⟩, fun hl acc rest R hr ha hR => ?_⟩
  have h4 := h3 hl rest
  rw [sfx_ns hr] at h4
  obtain ⟨c, r, rfl, hc, hs⟩ := h1
  rw [List.cons_append] at h4 ⊢
  refine Ev.one (f := fun k => _) (fun k => by rw [expr_Parse.seqs]) ?_
  exact Ev.ite_neg hc (Ev.bnd h4 (Ev.ite_pos (by omega) hR))
theorem SP.nil : SP [] [] := ⟨Ns.nil, ⟨by rw [tl_nil]; exact Nat.le_refl _, Nat.le_refl _⟩, fun _ acc rest R _ _ h => by rw [List.append_nil] at h; exact h⟩
theorem SP.app {a b : T} {xs ys : List S} (h : SP a xs) (g : SP b ys) : SP (a ++ b) (xs ++ ys) := by
  obtain ⟨h1, h2, h3⟩ := h
  obtain ⟨g1, g2, g3⟩ := g
  refine ⟨?_, ⟨by rw [tl_app, List.length_append]; omega, by rw [List.length_append, List.length_append]; omega⟩, fun hl acc rest R hr ha hR => ?_⟩
  · intro c r e
    cases a with
    | nil => exact g1 c r e
    | cons d a => cases e; exact h1 _ _ rfl
  · rw [List.length_append] at hl ha
    rw [List.append_assoc]
    refine h3 (by omega) acc (b ++ rest) R ?_ (by omega) ?_
    · intro c r e
      cases b with
      | nil => exact hr c r e
      | cons d b => cases e; exact g1 _ _ rfl
    · refine g3 (by omega) (acc ++ xs) rest R hr ?_ (by rw [List.append_assoc]; exact hR)
      have := tl_len xs
      rw [List.length_append]; omega
theorem SP.qp {t : T} {xs : List S} (h : SP t xs) : QP t (tog 2 xs) := by
  obtain ⟨h1, h2, h3⟩ := h
  refine ⟨Nat.le_trans (tl_tog 2 xs) h2.1, fun hl rest hr => ?_⟩
  exact h3 hl [] rest _ hr.ns (by simpa using hl) (seqs_end xs rest hr (by omega))
/-- what stands behind the first of some alternatives -/
def tail : List T → T
  | [] => []
  | t :: l => 124 :: t ++ tail l
inductive QS : List T → List S → Prop
  | nil : QS [] []
  | cons {t y ts ys} : QP t y → QS ts ys → QS (t :: ts) (y :: ys)
theorem tail_st (ts : List T) {rest : T} (h : Cl rest) : St (tail ts ++ rest) := by
  cases ts with
  | nil => exact h.st
  | cons t ts => intro c r e; cases e; exact .inl rfl
theorem QS.tl {ts : List T} {ys : List S} (h : QS ts ys) : tl ys ≤ 2 * (tail ts).length := by
  induction h with
  | nil => rw [tl_nil]; omega
  | cons h _ ih =>
    have := h.1
    rw [tl_cons, tail, List.length_append, List.length_cons]
    omega
theorem alts_list {ts : List T} {ys : List S} (h : QS ts ys) : ∀ acc rest, Cl rest → acc.length + (tail ts).length < 1000001 → Expr.tl (acc ++ ys) < 1000000000 → Ev (fun k => expr_Parse.alts k acc (tail ts ++ rest)) (tog 3 (acc ++ ys), rest) := by
  induction h with
  | nil =>
    intro acc rest hr ha hb
    rw [List.append_nil] at hb ⊢
    have ht := together_ev 3 acc hb
    cases rest with
    | nil => exact Ev.one (f := fun k => _) (fun k => by rw [tail, List.nil_append, expr_Parse.alts]) (Ev.bnd ht ⟨0, fun _ _ => by rw [eta]⟩)
    | cons c r =>
      have := hr c r rfl
      refine Ev.one (f := fun k => _) (fun k => by rw [tail, List.nil_append, expr_Parse.alts]) ?_
      exact Ev.ite_neg (by omega) (Ev.bnd ht ⟨0, fun _ _ => by rw [eta]⟩)
  | @cons t y ts ys hq _ ih =>
    intro acc rest hr ha hb
    rw [tail, List.length_append, List.length_cons] at ha
    have h1 := hq.2 (by omega) (tail ts ++ rest) (tail_st ts hr)
    have h2 := ih (acc ++ [y]) rest hr (by rw [List.length_append, List.length_singleton]; omega) (by rw [List.append_assoc]; exact hb)
    rw [List.append_assoc] at h2
    refine Ev.one (f := fun k => _) (fun k => by rw [tail, List.cons_append, List.cons_append, List.append_assoc, expr_Parse.alts]) ?_
    exact Ev.ite_pos rfl (Ev.bnd h1 (Ev.ite_pos (by omega) h2))
theorem AP.list {t : T} {y : S} {ts : List T} {ys : List S} (h : QP t y) (hs : QS ts ys) : AP (t ++ tail ts) (tog 3 (y :: ys)) := by
  have h1 := h.1
  have h2 := hs.tl
  have h3 := tl_tog 3 (y :: ys)
  rw [tl_cons] at h3
  refine ⟨by rw [List.length_append]; omega, fun hl rest hr => ?_⟩
  rw [List.length_append] at hl
  unfold expr_Parse.alt
  rw [List.append_assoc]
  have h4 := h.2 (by omega) (tail ts ++ rest) (tail_st ts hr)
  refine Ev.bnd h4 (alts_list hs [y] rest hr (by rw [List.length_singleton]; omega) ?_)
  rw [List.singleton_append, tl_cons]; omega
theorem AP.one {t : T} {y : S} (h : QP t y) : AP t y := by
  have := AP.list h QS.nil
  rw [tail, List.append_nil] at this
  exact this
theorem AP.two {t u : T} {y z : S} (h : QP t y) (g : QP u z) : AP (t ++ 124 :: u) (tog 3 [y, z]) := by
  have := AP.list h (QS.cons g QS.nil)
  rw [tail, tail, List.append_nil] at this
  exact this
theorem BP.letter (c : UInt8) (h : 97 ≤ c.toNat ∧ c.toNat ≤ 104) : BP [c] ⟨1, (c.toNat : Int) - 97, []⟩ := by
  refine ⟨⟨c, [], rfl, by omega, ?_⟩, by rw [tl_nil]; simp, fun _ rest => ?_⟩
  · unfold expr_Parse.sign
    rw [if_neg (by omega), if_neg (by omega), if_neg (by omega)]
  · exact Ev.one (f := fun k => _) (fun k => by rw [List.singleton_append, expr_Parse.item]) (Ev.ite_pos h (Ev.some _))
theorem BP.sign {t : T} {x : S} {c : UInt8} {j : Int} (h : BP t x) (hc : expr_Parse.sign c = some j) : BP (t ++ [c]) ⟨4 + j, 0, [x]⟩ := by
  obtain ⟨h1, h2, h3⟩ := h
  refine ⟨?_, ?_, fun hl rest => ?_⟩
  · obtain ⟨d, r, rfl, h4⟩ := h1
    exact ⟨d, r ++ [c], rfl, h4⟩
  · rw [tl_cons, tl_nil, List.length_append, List.length_singleton]; omega
  · rw [List.length_append, List.length_singleton] at hl
    have := h3 (by omega) (c :: rest)
    rw [sfx_sg hc] at this
    rw [List.append_assoc]
    exact this
theorem BP.paren {t : T} {x : S} (h : AP t x) : BP (40 :: t ++ [41]) x := by
  obtain ⟨h1, h2⟩ := h
  refine ⟨⟨40, t ++ [41], rfl, by decide, by decide⟩, ?_, fun hl rest => ?_⟩
  · rw [List.cons_append, List.length_cons, List.length_append, List.length_singleton]; omega
  · rw [List.cons_append, List.length_cons, List.length_append, List.length_singleton] at hl
    have h3 := h2 (by omega) (41 :: rest) (fun c r e => by cases e; rfl)
    refine Ev.one (f := fun k => _) (fun k => by rw [List.cons_append, List.cons_append, List.append_assoc, List.singleton_append, expr_Parse.item]) ?_
    refine Ev.ite_neg (by decide) (Ev.ite_pos rfl ?_)
    unfold expr_Parse.alt at h3
    obtain ⟨K, hK⟩ := h3
    refine ⟨K, fun k hk => ?_⟩
    have h4 := hK k hk
    obtain ⟨z, hz, h5⟩ := Option.bind_eq_some_iff.1 h4
    show (expr_Parse.seqs k [] (t ++ 41 :: rest)).bind _ = _
    rw [hz, Option.bind_some, h5, Option.bind_some]
    rfl
/-- a whole text -/
theorem AP.all {t : T} {x : S} (h : AP t x) (hl : t.length < 1000000) : Ev (fun k => expr_Parse.alt k t) (x, []) := by
  have := h.2 hl [] Cl.nil
  rw [List.append_nil] at this
  exact this
end Go.Proofs.Ytjmhihadgpdiaaa.Expr
end
section
namespace Go.Proofs.Ytjmhihadgpdiaaa.Expr
open Go.RowKit Go.Proofs.Ytjmhihadgpdiaaa.X Go.Proofs.YtjmhihadgpdiaaaW.PrintWords Go.Proofs.YtjmhihadgpdiaaaW.PrintLast Go.Proofs.Ytjmhihadgpdiaaa.Base
set_option linter.unusedVariables false
set_option linter.unusedSimpArgs false
abbrev W := List Int
abbrev Lg := W → Prop
inductive M : S → W → Prop
  | one (t : Int) (l : List S) : M ⟨1, t, l⟩ [t]
  | seqn (t : Int) : M ⟨2, t, []⟩ []
  | seqc {t : Int} {p : S} {ps : List S} {u v : W} : M p u → M ⟨2, t, ps⟩ v → M ⟨2, t, p :: ps⟩ (u ++ v)
  | alt {t : Int} {p : S} {ps : List S} {u : W} : p ∈ ps → M p u → M ⟨3, t, ps⟩ u
  | starn {t : Int} {p : S} : M ⟨4, t, [p]⟩ []
  | starc {t : Int} {p : S} {u v : W} : M p u → M ⟨4, t, [p]⟩ v → M ⟨4, t, [p]⟩ (u ++ v)
  | plus {t : Int} {p : S} {u v : W} : M p u → M ⟨4, t, [p]⟩ v → M ⟨5, t, [p]⟩ (u ++ v)
  | optn {t : Int} {p : S} : M ⟨6, t, [p]⟩ []
  | opts {t : Int} {p : S} {u : W} : M p u → M ⟨6, t, [p]⟩ u
def Nil : Lg := fun w => w = []
def Or (A B : Lg) : Lg := fun w => A w ∨ B w
inductive Star (L : Lg) : W → Prop
  | nil : Star L []
  | cons {u v : W} : L u → Star L v → Star L (u ++ v)
theorem len1 {α : Type} {l : List α} (h : l.length = 1) : ∃ x, l = [x] := by
  match l, h with
  | [x], _ => exact ⟨x, rfl⟩
def Loc (x : S) : Prop := (x.f0 = 1 ∧ x.f2 = [] ∧ 0 ≤ x.f1 ∧ x.f1 < 8) ∨ (x.f0 = 2 ∧ x.f1 = 0 ∧ x.f2.length ≠ 1 ∧ ∀ p ∈ x.f2, p.f0 ≠ 2) ∨ (x.f0 = 3 ∧ x.f1 = 0 ∧ 2 ≤ x.f2.length ∧ ∀ p ∈ x.f2, p.f0 ≠ 3) ∨ (4 ≤ x.f0 ∧ x.f0 ≤ 6 ∧ x.f1 = 0 ∧ ∃ p, x.f2 = [p])
inductive Ok : S → Prop
  | mk {x : S} : Loc x → (∀ p ∈ x.f2, Ok p) → Ok x
theorem Ok.loc {x : S} (h : Ok x) : Loc x := by cases h; assumption
theorem Ok.parts {x : S} (h : Ok x) : ∀ p ∈ x.f2, Ok p := by cases h; assumption
def seg (w : W) (i j : Nat) : W := (w.take j).drop i
theorem seg_self (w : W) (i : Nat) : seg w i i = [] := by
  unfold seg
  apply List.drop_eq_nil_of_le
  rw [List.length_take]; omega
theorem seg_nil {w : W} {i k : Nat} (h1 : i ≤ k) (hk : k ≤ w.length) (h : seg w i k = []) : i = k := by
  have hl : (seg w i k).length = k - i := by unfold seg; rw [List.length_drop, List.length_take]; omega
  rw [h] at hl
  simp at hl
  omega
/-- what stands from each place on -/
abbrev at_ (l : List Bool) (i : Nat) : Prop := l.getD i false = true
def Rch (L : Lg) (w : W) (a b : List Bool) : Prop := b.length = w.length + 1 ∧ ∀ j, j ≤ w.length → (at_ b j ↔ ∃ i, i ≤ j ∧ at_ a i ∧ L (seg w i j))
theorem Rch.congr {A B : Lg} {w : W} {a b : List Bool} (h : Rch A w a b) (e : ∀ u, A u ↔ B u) : Rch B w a b :=
  ⟨h.1, fun j hj => (h.2 j hj).trans ⟨fun ⟨i, h1, h2, h3⟩ => ⟨i, h1, h2, (e _).1 h3⟩, fun ⟨i, h1, h2, h3⟩ => ⟨i, h1, h2, (e _).2 h3⟩⟩⟩
theorem Rch.nil {w : W} {a : List Bool} (h : a.length = w.length + 1) : Rch Nil w a a := by
  refine ⟨h, fun j hj => ⟨fun h => ⟨j, Nat.le_refl _, h, seg_self w j⟩, ?_⟩⟩
  rintro ⟨i, h1, h2, h3⟩
  rw [← seg_nil h1 hj h3]
  exact h2
/-- one or the other -/
def eith (a b : List Bool) : List Bool := List.zipWith (· || ·) a b
theorem eith_at {a b : List Bool} (h : a.length = b.length) (j : Nat) : at_ (eith a b) j ↔ at_ a j ∨ at_ b j := by
  unfold at_ eith
  rw [List.getD_eq_getElem?_getD, List.getD_eq_getElem?_getD, List.getD_eq_getElem?_getD, List.getElem?_zipWith]
  by_cases hj : j < a.length
  · rw [List.getElem?_eq_getElem hj, List.getElem?_eq_getElem (by omega)]; simp
  · rw [List.getElem?_eq_none (by omega), List.getElem?_eq_none (by omega)]; simp
theorem eith_len {a b : List Bool} (h : a.length = b.length) : (eith a b).length = a.length := by
  unfold eith; rw [List.length_zipWith]; omega
theorem Rch.or {A B : Lg} {w : W} {a b c : List Bool} (h : Rch A w a b) (g : Rch B w a c) : Rch (Or A B) w a (eith b c) := by
  have hl : b.length = c.length := h.1.trans g.1.symm
  refine ⟨(eith_len hl).trans h.1, fun j hj => (eith_at hl j).trans ?_⟩
  rw [h.2 j hj, g.2 j hj]
  constructor
  · rintro (⟨i, h1, h2, h3⟩ | ⟨i, h1, h2, h3⟩)
    · exact ⟨i, h1, h2, .inl h3⟩
    · exact ⟨i, h1, h2, .inr h3⟩
  · rintro ⟨i, h1, h2, h3 | h3⟩
    · exact .inl ⟨i, h1, h2, h3⟩
    · exact .inr ⟨i, h1, h2, h3⟩
end Go.Proofs.Ytjmhihadgpdiaaa.Expr
end
section
namespace Go.Proofs.Ytjmhihadgpdiaaa.Expr
open Go.RowKit Go.Proofs.Ytjmhihadgpdiaaa.X Go.Proofs.YtjmhihadgpdiaaaW.PrintWords Go.Proofs.YtjmhihadgpdiaaaW.PrintLast Go.Proofs.Ytjmhihadgpdiaaa.Base
set_option linter.unusedVariables false
set_option linter.unusedSimpArgs false
theorem mem_flat {kd : Int} {q : S} : ∀ {l : List S}, q ∈ flat kd l → ∃ p ∈ l, (p.f0 = kd ∧ q ∈ p.f2) ∨ (p.f0 ≠ kd ∧ q = p)
  | p :: l, h => by
    rw [flat] at h
    rcases List.mem_append.1 h with h | h
    · by_cases e : p.f0 = kd
      · rw [if_pos e] at h; exact ⟨p, List.mem_cons_self, .inl ⟨e, h⟩⟩
      · rw [if_neg e] at h; exact ⟨p, List.mem_cons_self, .inr ⟨e, by simpa using h⟩⟩
    · obtain ⟨r, hr, h2⟩ := mem_flat h
      exact ⟨r, List.mem_cons_of_mem _ hr, h2⟩
theorem tog_ok {kd : Int} {l : List S} (hl : ∀ p ∈ l, Ok p) (hk : kd = 2 ∨ kd = 3 ∧ l ≠ []) : Ok (tog kd l) := by
  have hf : ∀ q ∈ flat kd l, Ok q ∧ q.f0 ≠ kd := by
    intro q hq
    obtain ⟨p, hp, ⟨h1, h2⟩ | ⟨h1, rfl⟩⟩ := mem_flat hq
    · refine ⟨(hl p hp).parts q h2, ?_⟩
      rcases (hl p hp).loc with h3 | h3 | h3 | h3
      · rw [h3.2.1] at h2; cases h2
      · rw [← h1, h3.1]; exact h3.2.2.2 q h2
      · rw [← h1, h3.1]; exact h3.2.2.2 q h2
      · omega
    · exact ⟨hl q hp, h1⟩
  unfold tog
  split
  · rename_i h; obtain ⟨x, rfl⟩ := len1 h; exact hl x List.mem_cons_self
  · rename_i h0
    unfold one
    split
    · rename_i h; obtain ⟨x, e⟩ := len1 h; rw [e]; exact (hf x (by rw [e]; exact List.mem_cons_self)).1
    · rename_i h1
      refine Ok.mk ?_ (fun p hp => (hf p hp).1)
      rcases hk with rfl | ⟨rfl, hk⟩
      · exact .inr (.inl ⟨rfl, rfl, h1, fun p hp => (hf p hp).2⟩)
      · refine .inr (.inr (.inl ⟨rfl, rfl, ?_, fun p hp => (hf p hp).2⟩))
        show 2 ≤ (flat 3 l).length
        have : (flat 3 l).length ≠ 0 := by
          cases l with
          | nil => exact absurd rfl hk
          | cons p l =>
            rw [flat, List.length_append]
            split
            · rename_i e
              rcases (hl p List.mem_cons_self).loc with h3 | h3 | h3 | h3 <;> omega
            · simp
        omega
def sgn (kd : Int) : T := if kd = 4 then [42] else if kd = 5 then [43] else [63]
def jn : List T → T
  | [] => []
  | t :: ts => t ++ tail ts
def wrp (kd q : Int) (t : T) : T := if q = 3 ∧ kd ≠ 3 ∨ q = 2 ∧ 4 ≤ kd then 40 :: t ++ [41] else t
def body (kd ty : Int) (ls : List T) : T := if kd = 1 then [(97 + ty).toNat.toUInt8] else if kd = 2 then ls.flatten else if kd = 3 then jn ls else ls.headD [] ++ sgn kd
def txl (kd : Int) : List S → List T
  | [] => []
  | p :: l => wrp kd p.f0 (body p.f0 p.f1 (txl p.f0 p.f2)) :: txl kd l
termination_by l => SizeOf.sizeOf l
decreasing_by all_goals (cases p; simp; omega)
def txt (x : S) : T := body x.f0 x.f1 (txl x.f0 x.f2)
theorem txl_eq (kd : Int) : ∀ l : List S, txl kd l = l.map fun p => wrp kd p.f0 (txt p)
  | [] => by rw [txl]; rfl
  | p :: l => by rw [txl, txl_eq kd l]; rfl
theorem txt_eq (x : S) : txt x = body x.f0 x.f1 (x.f2.map fun p => wrp x.f0 p.f0 (txt p)) := by rw [txt, txl_eq]
/-- how long a text is where it stands as an item -/
def pl (x : S) : Nat := (txt x).length + if x.f0 = 2 ∨ x.f0 = 3 then 2 else 0
def pls (l : List S) : Nat := (l.map pl).sum
theorem wrp_len (kd q : Int) (t : T) : (wrp kd q t).length ≤ t.length + if q = 2 ∨ q = 3 then 2 else 0 := by
  unfold wrp
  by_cases h : q = 3 ∧ kd ≠ 3 ∨ q = 2 ∧ 4 ≤ kd
  · rw [if_pos h, if_pos (by omega)]; simp
  · rw [if_neg h]; omega
theorem len_le_wrp (kd q : Int) (t : T) : t.length ≤ (wrp kd q t).length := by
  unfold wrp
  split
  · simp; omega
  · exact Nat.le_refl _
theorem tail_len (ts : List T) : (tail ts).length = (ts.map List.length).sum + ts.length := by
  induction ts with
  | nil => rfl
  | cons t ts ih => rw [tail, List.length_append, List.length_cons, ih, List.map_cons, List.sum_cons, List.length_cons]; omega
theorem jn_len {ts : List T} (h : ts ≠ []) : (jn ts).length + 1 = (ts.map List.length).sum + ts.length := by
  cases ts with
  | nil => exact absurd rfl h
  | cons t ts => rw [jn, List.length_append, tail_len, List.map_cons, List.sum_cons, List.length_cons]; omega
theorem flatten_len (ls : List T) : ls.flatten.length = (ls.map List.length).sum := List.length_flatten
theorem txt2 (t : Int) (l : List S) : txt ⟨2, t, l⟩ = (l.map fun p => wrp 2 p.f0 (txt p)).flatten := by
  rw [txt_eq]; rfl
theorem txt3 (t : Int) (l : List S) : txt ⟨3, t, l⟩ = jn (l.map fun p => wrp 3 p.f0 (txt p)) := by
  rw [txt_eq]; rfl
theorem wrp3 (q : Int) (t : T) : wrp 3 q t = t := by
  unfold wrp; rw [if_neg (by omega)]
theorem txt2_len (t : Int) (l : List S) : (txt ⟨2, t, l⟩).length = (l.map fun p => (wrp 2 p.f0 (txt p)).length).sum := by
  rw [txt2, flatten_len, List.map_map]; rfl
theorem txt3_len (t : Int) (l : List S) (h : l ≠ []) : (txt ⟨3, t, l⟩).length + 1 = (l.map fun p => (txt p).length + 1).sum := by
  rw [txt3, jn_len (by simpa using h), List.map_map, List.length_map]
  have e : (List.length ∘ fun p : S => wrp 3 p.f0 (txt p)) = fun p => (txt p).length := by funext p; simp [wrp3]
  rw [e]
  clear h e
  induction l with
  | nil => rfl
  | cons p l ih => rw [List.map_cons, List.map_cons, List.sum_cons, List.sum_cons, List.length_cons, ← ih]; omega
theorem pls_app (a b : List S) : pls (a ++ b) = pls a + pls b := by
  unfold pls; rw [List.map_append, List.sum_append]
theorem pls_cons (p : S) (l : List S) : pls (p :: l) = pl p + pls l := rfl
/-- the text of a sequence that is put together -/
theorem flat2_len : ∀ {l : List S}, (∀ p ∈ l, Ok p) → ((flat 2 l).map fun p => (wrp 2 p.f0 (txt p)).length).sum ≤ pls l
  | [], _ => Nat.le_refl _
  | p :: l, h => by
    have ih := flat2_len (fun q hq => h q (List.mem_cons_of_mem _ hq))
    rw [flat, List.map_append, List.sum_append, pls_cons]
    by_cases e : p.f0 = 2
    · rw [if_pos e]
      obtain ⟨k, t, ps⟩ := p
      obtain rfl : k = 2 := e
      have h1 := txt2_len t ps
      have h2 : pl ⟨2, t, ps⟩ = (txt ⟨2, t, ps⟩).length + 2 := rfl
      show (List.map _ ps).sum + _ ≤ _
      omega
    · rw [if_neg e]
      have h1 := wrp_len 2 p.f0 (txt p)
      have h2 : pl p = (txt p).length + if p.f0 = 2 ∨ p.f0 = 3 then 2 else 0 := rfl
      rw [List.map_cons, List.map_nil, List.sum_cons, List.sum_nil]
      omega
theorem tog2_len {l : List S} (h : ∀ p ∈ l, Ok p) : (txt (tog 2 l)).length ≤ pls l := by
  have h0 := flat2_len h
  unfold tog
  split
  · rename_i e; obtain ⟨x, rfl⟩ := len1 e
    rw [rdT_zero, pls_cons]
    have h2 : pl x = (txt x).length + if x.f0 = 2 ∨ x.f0 = 3 then 2 else 0 := rfl
    omega
  · unfold one
    split
    · rename_i e; obtain ⟨x, e⟩ := len1 e
      rw [e] at h0 ⊢
      rw [rdT_zero]
      rw [List.map_cons, List.map_nil, List.sum_cons, List.sum_nil] at h0
      have := len_le_wrp 2 x.f0 (txt x)
      omega
    · rw [txt2_len]; exact h0
def alen (l : List S) : Nat := (l.map fun p => (txt p).length + 1).sum
theorem alen_cons (p : S) (l : List S) : alen (p :: l) = (txt p).length + 1 + alen l := rfl
theorem alen_app (a b : List S) : alen (a ++ b) = alen a + alen b := by unfold alen; rw [List.map_append, List.sum_append]
theorem flat3_len : ∀ {l : List S}, (∀ p ∈ l, Ok p) → alen (flat 3 l) ≤ alen l
  | [], _ => Nat.le_refl _
  | p :: l, h => by
    have ih := flat3_len (fun q hq => h q (List.mem_cons_of_mem _ hq))
    rw [flat, alen_app, alen_cons]
    by_cases e : p.f0 = 3
    · rw [if_pos e]
      have hl := (h p List.mem_cons_self).loc
      obtain ⟨k, t, ps⟩ := p
      obtain rfl : k = 3 := e
      have hne : ps ≠ [] := by
        rintro rfl
        rcases hl with h3 | h3 | h3 | h3
        · exact absurd h3.1 (by simp)
        · exact absurd h3.1 (by simp)
        · have := h3.2.2.1; simp at this
        · obtain ⟨q, hq⟩ := h3.2.2.2; cases hq
      have h1 := txt3_len t ps hne
      show alen ps + _ ≤ _
      unfold alen at ih ⊢
      omega
    · rw [if_neg e, alen_cons]
      show _ + 0 + _ ≤ _
      omega
theorem tog3_len {l : List S} (h : ∀ p ∈ l, Ok p) (hne : l ≠ []) : (txt (tog 3 l)).length + 1 ≤ alen l := by
  have h0 := flat3_len h
  have hok := tog_ok (kd := 3) h (.inr ⟨rfl, hne⟩)
  unfold tog at hok ⊢
  split
  · rename_i e; obtain ⟨x, rfl⟩ := len1 e
    rw [rdT_zero, alen_cons]; omega
  · rename_i e1
    rw [if_neg e1] at hok
    unfold one at hok ⊢
    split
    · rename_i e; obtain ⟨x, e⟩ := len1 e
      rw [e] at h0 ⊢
      rw [rdT_zero]
      rw [alen_cons] at h0
      omega
    · rename_i e2
      rw [if_neg e2] at hok
      have hne2 : flat 3 l ≠ [] := by
        intro h3
        rw [h3] at hok
        rcases hok.loc with h3 | h3 | h3 | h3
        · exact absurd h3.1 (by simp)
        · exact absurd h3.1 (by simp)
        · have := h3.2.2.1; simp at this
        · obtain ⟨q, hq⟩ := h3.2.2.2; cases hq
      rw [txt3_len _ _ hne2]; exact h0
theorem sgn_sign {c : UInt8} {j : Int} (h : expr_Parse.sign c = some j) : 0 ≤ j ∧ j ≤ 2 := by
  unfold expr_Parse.sign at h
  repeat' split at h
  all_goals cases h
  all_goals omega
theorem sgn_len (kd : Int) : (sgn kd).length = 1 := by unfold sgn; repeat' split
                                                       all_goals rfl
theorem star_ok {x : S} (h : Ok x) {j : Int} (hj : 0 ≤ j ∧ j ≤ 2) : Ok ⟨4 + j, 0, [x]⟩ ∧ pl ⟨4 + j, 0, [x]⟩ ≤ pl x + 1 := by
  refine ⟨Ok.mk (.inr (.inr (.inr ⟨?_, ?_, rfl, x, rfl⟩))) (fun p hp => ?_), ?_⟩
  · show 4 ≤ 4 + j; omega
  · show 4 + j ≤ 6; omega
  · obtain rfl : p = x := by simpa using hp
    exact h
  · have h1 : pl ⟨4 + j, 0, [x]⟩ = (txt ⟨4 + j, 0, [x]⟩).length + if 4 + j = 2 ∨ 4 + j = 3 then 2 else 0 := rfl
    have h2 : pl x = (txt x).length + if x.f0 = 2 ∨ x.f0 = 3 then 2 else 0 := rfl
    have h3 := wrp_len (4 + j) x.f0 (txt x)
    have h4 : txt ⟨4 + j, 0, [x]⟩ = wrp (4 + j) x.f0 (txt x) ++ sgn (4 + j) := by
      rw [txt_eq]
      unfold body
      rw [if_neg (by show ¬ 4 + j = 1; omega), if_neg (by show ¬ 4 + j = 2; omega), if_neg (by show ¬ 4 + j = 3; omega)]
      rfl
    have h5 := sgn_len (4 + j)
    rw [h1, h4, if_neg (by omega), List.length_append]
    omega
end Go.Proofs.Ytjmhihadgpdiaaa.Expr
end
section
namespace Go.Proofs.Ytjmhihadgpdiaaa.Expr
open Go.RowKit Go.Proofs.Ytjmhihadgpdiaaa.X Go.Proofs.YtjmhihadgpdiaaaW.PrintWords Go.Proofs.YtjmhihadgpdiaaaW.PrintLast Go.Proofs.Ytjmhihadgpdiaaa.Base
set_option linter.unusedVariables false
set_option linter.unusedSimpArgs false
def BQ (t : T) (x : S) : Prop := BP t x ∧ Ok x ∧ pl x ≤ t.length
def SQ (t : T) (xs : List S) : Prop := SP t xs ∧ (∀ p ∈ xs, Ok p) ∧ pls xs ≤ t.length
def QQ (t : T) (y : S) : Prop := QP t y ∧ Ok y ∧ (txt y).length ≤ t.length
def AQ (t : T) (y : S) : Prop := AP t y ∧ Ok y ∧ (txt y).length ≤ t.length
theorem BQ.letter (c : UInt8) (h : 97 ≤ c.toNat ∧ c.toNat ≤ 104) : BQ [c] ⟨1, (c.toNat : Int) - 97, []⟩ :=
  ⟨BP.letter c h, Ok.mk (.inl ⟨rfl, rfl, by show 0 ≤ (c.toNat : Int) - 97; omega, by show (c.toNat : Int) - 97 < 8; omega⟩) (fun p hp => by cases hp), by unfold pl; rw [txt_eq]; simp [body]⟩
theorem BQ.sign {t : T} {x : S} {c : UInt8} {j : Int} (h : BQ t x) (hc : expr_Parse.sign c = some j) : BQ (t ++ [c]) ⟨4 + j, 0, [x]⟩ := by
  obtain ⟨h1, h2⟩ := star_ok h.2.1 (sgn_sign hc)
  have := h.2.2
  exact ⟨h.1.sign hc, h1, by rw [List.length_append, List.length_singleton]; omega⟩
theorem BQ.paren {t : T} {x : S} (h : AQ t x) : BQ (40 :: t ++ [41]) x := by
  have := h.2.2
  refine ⟨BP.paren h.1, h.2.1, ?_⟩
  rw [List.cons_append, List.length_cons, List.length_append, List.length_singleton]
  unfold pl
  split <;> omega
theorem BQ.sq {t : T} {x : S} (h : BQ t x) : SQ t [x] := by
  refine ⟨h.1.sp, fun p hp => ?_, h.2.2⟩
  obtain rfl : p = x := List.mem_singleton.1 hp
  exact h.2.1
theorem SQ.nil : SQ [] [] := ⟨SP.nil, fun p hp => (by cases hp), Nat.le_refl _⟩
theorem SQ.app {a b : T} {xs ys : List S} (h : SQ a xs) (g : SQ b ys) : SQ (a ++ b) (xs ++ ys) := by
  refine ⟨h.1.app g.1, fun p hp => (List.mem_append.1 hp).elim (h.2.1 p) (g.2.1 p), ?_⟩
  have := h.2.2
  have := g.2.2
  rw [pls_app, List.length_append]; omega
theorem SQ.qq {t : T} {xs : List S} (h : SQ t xs) : QQ t (tog 2 xs) := ⟨h.1.qp, tog_ok h.2.1 (.inl rfl), Nat.le_trans (tog2_len h.2.1) h.2.2⟩
inductive QQs : List T → List S → Prop
  | nil : QQs [] []
  | cons {t y ts ys} : QQ t y → QQs ts ys → QQs (t :: ts) (y :: ys)
theorem QQs.qs {ts : List T} {ys : List S} (h : QQs ts ys) : QS ts ys ∧ (∀ p ∈ ys, Ok p) ∧ alen ys ≤ (tail ts).length := by
  induction h with
  | nil => exact ⟨QS.nil, fun p hp => (by cases hp), Nat.le_refl _⟩
  | cons h _ ih =>
    refine ⟨QS.cons h.1 ih.1, fun p hp => ?_, ?_⟩
    · rcases List.mem_cons.1 hp with rfl | hp
      · exact h.2.1
      · exact ih.2.1 p hp
    · have := ih.2.2
      have := h.2.2
      rw [alen_cons, tail, List.length_append, List.length_cons]; omega
theorem AQ.list {t : T} {y : S} {ts : List T} {ys : List S} (h : QQ t y) (hs : QQs ts ys) : AQ (t ++ tail ts) (tog 3 (y :: ys)) := by
  obtain ⟨h1, h2, h3⟩ := hs.qs
  have h4 : ∀ p ∈ y :: ys, Ok p := fun p hp => by
    rcases List.mem_cons.1 hp with rfl | hp
    · exact h.2.1
    · exact h2 p hp
  refine ⟨AP.list h.1 h1, tog_ok h4 (.inr ⟨rfl, by simp⟩), ?_⟩
  have h5 := tog3_len h4 (by simp)
  have h6 := h.2.2
  rw [alen_cons] at h5
  rw [List.length_append]; omega
theorem QQ.aq {t : T} {y : S} (h : QQ t y) : AQ t y := by
  have := AQ.list h QQs.nil
  rw [tail, List.append_nil] at this
  exact this
theorem AQ.two {t u : T} {y z : S} (h : QQ t y) (g : QQ u z) : AQ (t ++ 124 :: u) (tog 3 [y, z]) := by
  have := AQ.list h (QQs.cons g QQs.nil)
  rw [tail, tail, List.append_nil] at this
  exact this
theorem flat_id {kd : Int} : ∀ {l : List S}, (∀ p ∈ l, p.f0 ≠ kd) → flat kd l = l
  | [], _ => rfl
  | p :: l, h => by rw [flat, if_neg (h p List.mem_cons_self), flat_id (fun q hq => h q (List.mem_cons_of_mem _ hq))]; rfl
theorem tog_id {kd : Int} {l : List S} (h : ∀ p ∈ l, p.f0 ≠ kd) (h1 : l.length ≠ 1) : tog kd l = ⟨kd, 0, l⟩ := by
  unfold tog one
  rw [if_neg h1, flat_id h, if_neg h1]
theorem SP.list (f : S → T) : ∀ {l : List S}, (∀ p ∈ l, BP (f p) p) → SP (l.map f).flatten l
  | [], _ => SP.nil
  | p :: l, h => by
    rw [List.map_cons, List.flatten_cons]
    exact (h p List.mem_cons_self).sp.app (SP.list f (fun q hq => h q (List.mem_cons_of_mem _ hq)))
theorem QS.list (f : S → T) : ∀ {l : List S}, (∀ p ∈ l, QP (f p) p) → QS (l.map f) l
  | [], _ => QS.nil
  | p :: l, h => QS.cons (h p List.mem_cons_self) (QS.list f (fun q hq => h q (List.mem_cons_of_mem _ hq)))
theorem sgn_is {kd : Int} (h : 4 ≤ kd ∧ kd ≤ 6) : ∃ c j, sgn kd = [c] ∧ expr_Parse.sign c = some j ∧ kd = 4 + j := by
  obtain rfl | rfl | rfl : kd = 4 ∨ kd = 5 ∨ kd = 6 := by omega
  · exact ⟨42, 0, rfl, rfl, rfl⟩
  · exact ⟨43, 1, rfl, rfl, rfl⟩
  · exact ⟨63, 2, rfl, rfl, rfl⟩
/-- what comes back of the text -/
theorem back {x : S} (h : Ok x) : (x.f0 ≠ 2 → x.f0 ≠ 3 → BP (txt x) x) ∧ (x.f0 ≠ 3 → QP (txt x) x) ∧ AP (txt x) x := by
  induction h with
  | @mk x hl hp ih =>
  have up : (x.f0 ≠ 2 → x.f0 ≠ 3 → BP (txt x) x) → x.f0 ≠ 2 → x.f0 ≠ 3 → (x.f0 ≠ 2 → x.f0 ≠ 3 → BP (txt x) x) ∧ (x.f0 ≠ 3 → QP (txt x) x) ∧ AP (txt x) x := by
    intro h1 h2 h3
    have q : QP (txt x) x := (h1 h2 h3).sp.qp
    exact ⟨h1, fun _ => q, AP.one q⟩
  -- an item of a sequence, or what a sign is put behind
  have item : ∀ kd, ∀ p ∈ x.f2, (p.f0 = 2 → 4 ≤ kd) → kd ≠ 3 → BP (wrp kd p.f0 (txt p)) p := by
    intro kd p hpm h2 h3
    unfold wrp
    by_cases h : p.f0 = 3 ∧ kd ≠ 3 ∨ p.f0 = 2 ∧ 4 ≤ kd
    · rw [if_pos h]; exact BP.paren (ih p hpm).2.2
    · rw [if_neg h]
      refine (ih p hpm).1 (fun e => h (.inr ⟨e, h2 e⟩)) (fun e => h (.inl ⟨e, h3⟩))
  obtain ⟨kd, t, ps⟩ := x
  rcases hl with ⟨h1, h2, h3, h4⟩ | ⟨h1, h2, h3, h4⟩ | ⟨h1, h2, h3, h4⟩ | ⟨h1, h2, h3, p, h4⟩
  · replace h1 : kd = 1 := h1
    replace h2 : ps = [] := h2
    replace h3 : 0 ≤ t := h3
    replace h4 : t < 8 := h4
    subst h1 h2
    refine up (fun _ _ => ?_) (by simp) (by simp)
    have e : txt ⟨1, t, []⟩ = [(97 + t).toNat.toUInt8] := by rw [txt_eq]; rfl
    have e2 : ((97 + t).toNat.toUInt8).toNat = (97 + t).toNat := by
      rw [Nat.toUInt8, UInt8.toNat_ofNat']; omega
    have h5 := BP.letter ((97 + t).toNat.toUInt8) (by omega)
    rw [e2, show ((97 + t).toNat : Int) - 97 = t by omega] at h5
    rw [e]; exact h5
  · replace h1 : kd = 2 := h1
    replace h2 : t = 0 := h2
    subst h1 h2
    have h5 := SP.list (fun p => wrp 2 p.f0 (txt p)) (fun p hpm => item 2 p hpm (fun e => absurd e (h4 p hpm)) (by simp))
    have q : QP (txt ⟨2, 0, ps⟩) ⟨2, 0, ps⟩ := by
      rw [txt2]
      have := h5.qp
      rw [tog_id h4 h3] at this
      exact this
    exact ⟨fun h => absurd rfl h, fun _ => q, AP.one q⟩
  · replace h1 : kd = 3 := h1
    replace h2 : t = 0 := h2
    replace h3 : 2 ≤ ps.length := h3
    replace h4 : ∀ p ∈ ps, p.f0 ≠ 3 := h4
    replace ih : ∀ p ∈ ps, (p.f0 ≠ 2 → p.f0 ≠ 3 → BP (txt p) p) ∧ (p.f0 ≠ 3 → QP (txt p) p) ∧ AP (txt p) p := ih
    subst h1 h2
    refine ⟨fun _ h => absurd rfl h, fun h => absurd rfl h, ?_⟩
    cases ps with
    | nil => simp at h3
    | cons p ps =>
      have h5 : QP (txt p) p := (ih p List.mem_cons_self).2.1 (h4 p List.mem_cons_self)
      have h6 := QS.list txt (l := ps) (fun q hq => (ih q (List.mem_cons_of_mem _ hq)).2.1 (h4 q (List.mem_cons_of_mem _ hq)))
      have h7 := AP.list h5 h6
      have e : (p :: ps).map (fun p => wrp 3 p.f0 (txt p)) = txt p :: ps.map txt := by
        rw [List.map_cons, wrp3]; congr 1; apply List.map_congr_left; intro q _; exact wrp3 _ _
      rw [tog_id h4 (by rw [List.length_cons] at h3 ⊢; omega)] at h7
      rw [txt3, e]
      exact h7
  · replace h1 : 4 ≤ kd := h1
    replace h2 : kd ≤ 6 := h2
    replace h3 : t = 0 := h3
    replace h4 : ps = [p] := h4
    subst h3 h4
    refine up (fun _ _ => ?_) (by show kd ≠ 2; omega) (by show kd ≠ 3; omega)
    obtain ⟨c, j, e1, e2, e3⟩ := sgn_is ⟨h1, h2⟩
    have h5 : BP (wrp kd p.f0 (txt p)) p := item kd p List.mem_cons_self (fun _ => h1) (by omega)
    have h6 := h5.sign e2
    rw [← e3] at h6
    have e : txt ⟨kd, 0, [p]⟩ = wrp kd p.f0 (txt p) ++ [c] := by
      rw [txt_eq]
      unfold body
      rw [if_neg (by show ¬ kd = 1; omega), if_neg (by show ¬ kd = 2; omega), if_neg (by show ¬ kd = 3; omega)]
      show _ ++ sgn kd = _
      rw [e1]; rfl
    rw [e]; exact h6
theorem Ev.shift {α : Type} {g : Nat → Option α} {r : α} (n : Nat) (h : Ev (fun k => g (k + n)) r) : Ev g r := by
  obtain ⟨K, hK⟩ := h
  refine ⟨K + n, fun k hk => ?_⟩
  have := hK (k - n) (by omega)
  rw [show k = k - n + n by omega]; exact this
theorem fault_loc {x : S} (h : Loc x) (k : Nat) : expr_fault.f (k + 8) x.f0 x.f1 x.f2 = expr_fault.l0 k x.f2 (x.f2.length : Int) 0 := by
  obtain ⟨kd, t, ps⟩ := x
  rcases h with ⟨h1, h2, h3, h4⟩ | ⟨h1, h2, h3, h4⟩ | ⟨h1, h2, h3, h4⟩ | ⟨h1, h2, h3, p, h4⟩
  · replace h1 : kd = 1 := h1
    replace h2 : ps = [] := h2
    replace h3 : 0 ≤ t := h3
    replace h4 : t < 8 := h4
    subst h1 h2
    have a1 : ¬ t < 0 := by omega
    have a2 : ¬ 8 ≤ t := by omega
    simp [expr_fault.f, expr_fault.j0, expr_fault.j1, expr_fault.j2, expr_fault.j3, expr_fault.j4, expr_fault.j5, expr_fault.j6, a1, a2]
  · replace h1 : kd = 2 := h1
    replace h2 : t = 0 := h2
    replace h3 : ps.length ≠ 1 := h3
    replace h4 : ∀ p ∈ ps, p.f0 ≠ 2 := h4
    subst h1 h2
    have a1 : ((ps.length : Int) == 1) = false := by simpa using fun h => h3 (by omega)
    have a2 : (ps.any fun x => x.f0 == 2) = false := by simpa using h4
    simp [expr_fault.f, expr_fault.j0, expr_fault.j1, expr_fault.j2, expr_fault.j3, expr_fault.j4, expr_fault.j5, expr_fault.j6, cf_exprFault.f, a1, a2]
  · replace h1 : kd = 3 := h1
    replace h2 : t = 0 := h2
    replace h3 : 2 ≤ ps.length := h3
    replace h4 : ∀ p ∈ ps, p.f0 ≠ 3 := h4
    subst h1 h2
    have a1 : ((ps.length : Int) == 1) = false := by simpa using fun h => (by omega : False)
    have a0 : ¬ (ps.length : Int) = 0 := by omega
    have a3 : ps ≠ [] := by rintro rfl; simp at h3
    have a2 : (ps.any fun x => x.f0 == 3) = false := by simpa using h4
    simp [expr_fault.f, expr_fault.j0, expr_fault.j1, expr_fault.j2, expr_fault.j3, expr_fault.j4, expr_fault.j5, expr_fault.j6, cf_exprFault.f, a1, a2, a3]
  · replace h1 : 4 ≤ kd := h1
    replace h2 : kd ≤ 6 := h2
    replace h3 : t = 0 := h3
    replace h4 : ps = [p] := h4
    subst h3 h4
    obtain rfl | rfl | rfl : kd = 4 ∨ kd = 5 ∨ kd = 6 := by omega
    all_goals simp [expr_fault.f, expr_fault.j0, expr_fault.j1, expr_fault.j2, expr_fault.j3, expr_fault.j4, expr_fault.j5, expr_fault.j6, cf_exprFault.f]
theorem fault_l0 (ps : List S) (hl : ps.length < 1000000) (hp : ∀ p ∈ ps, Ev (fun k => expr_fault.f k p.f0 p.f1 p.f2) 0) : ∀ (d i : Nat), ps.length - i = d → i ≤ ps.length → Ev (fun k => expr_fault.l0 k ps (ps.length : Int) (i : Int)) 0 := by
  intro d
  induction d with
  | zero =>
    intro i hd hi
    exact Ev.one (f := fun k => _) (fun k => by rw [expr_fault.l0]) (Ev.ite_neg (by omega) (Ev.some _))
  | succ d ih =>
    intro i hd hi
    have hlt : i < ps.length := by omega
    have hw : wrap64 ((i : Int) + 1) = ((i + 1 : Nat) : Int) := wrap_succ hlt (by omega)
    refine Ev.one (f := fun k => _) (fun k => by rw [expr_fault.l0, hw, rdT_at ps i hlt]) ?_
    exact Ev.ite_pos (by omega) (Ev.ite_pos (by omega) (Ev.ite_pos (by omega) (Ev.bnd (hp ps[i] (List.getElem_mem hlt)) (Ev.ite_pos rfl (ih (i + 1) (by omega) (by omega))))))
theorem fault_ev {x : S} (h : Ok x) : tl x.f2 < 1000000 → Ev (fun k => expr_fault.f k x.f0 x.f1 x.f2) 0 := by
  induction h with
  | @mk x hl hp ih =>
  intro ht
  have h1 := tl_len' x.f2
  refine Ev.shift 8 (Ev.eqv (fun k => fault_loc hl k) ?_)
  exact fault_l0 x.f2 (by omega) (fun p hpm => ih p hpm (by have := tl_mem' hpm; omega)) x.f2.length 0 (by omega) (by omega)
where
  tl_len' : ∀ l : List S, l.length ≤ tl l := tl_len
  tl_mem' {p : S} : ∀ {l : List S}, p ∈ l → 1 + tl p.f2 ≤ tl l
  | q :: l, h => by
    rw [tl_cons]
    rcases List.mem_cons.1 h with rfl | h
    · omega
    · have := tl_mem' h; omega
end Go.Proofs.Ytjmhihadgpdiaaa.Expr
end
section
namespace Go.Proofs.Ytjmhihadgpdiaaa.Expr
open Go.RowKit Go.Proofs.Ytjmhihadgpdiaaa.X Go.Proofs.YtjmhihadgpdiaaaW.PrintWords Go.Proofs.YtjmhihadgpdiaaaW.PrintLast Go.Proofs.Ytjmhihadgpdiaaa.Base
set_option linter.unusedVariables false
set_option linter.unusedSimpArgs false
abbrev B (l : T) : ByteArray := expr_Parse.B l
theorem B_len (l : T) : (B l).size = l.length := rfl
theorem B_data (l : T) : (B l).data.toList = l := rfl
theorem B_app (a b : T) : B a ++ B b = B (a ++ b) := by
  apply ByteArray.ext
  rw [ByteArray.data_append]
  simp [B, expr_Parse.B]
theorem part_len {x : S} (h : Ok x) {p : S} (hp : p ∈ x.f2) : (wrp x.f0 p.f0 (txt p)).length ≤ (txt x).length := by
  have mem : ∀ (f : S → T) (l : List S), p ∈ l → (f p).length ≤ (l.map f).flatten.length := by
    intro f l
    induction l with
    | nil => intro h; cases h
    | cons q l ih =>
      intro h
      rw [List.map_cons, List.flatten_cons, List.length_append]
      rcases List.mem_cons.1 h with rfl | h
      · omega
      · have := ih h; omega
  have memt : ∀ (f : S → T) (l : List S), p ∈ l → (f p).length ≤ (tail (l.map f)).length := by
    intro f l
    induction l with
    | nil => intro h; cases h
    | cons q l ih =>
      intro h
      rw [List.map_cons, tail, List.length_append, List.length_cons]
      rcases List.mem_cons.1 h with rfl | h
      · omega
      · have := ih h; omega
  obtain ⟨kd, t, ps⟩ := x
  rcases h.loc with ⟨h1, h2, h3, h4⟩ | ⟨h1, h2, h3, h4⟩ | ⟨h1, h2, h3, h4⟩ | ⟨h1, h2, h3, q, h4⟩
  · replace h2 : ps = [] := h2
    subst h2; cases hp
  · replace h1 : kd = 2 := h1
    subst h1
    rw [txt2]
    exact mem (fun p => wrp 2 p.f0 (txt p)) ps hp
  · replace h1 : kd = 3 := h1
    subst h1
    rw [txt3]
    show (wrp 3 p.f0 (txt p)).length ≤ _
    match ps, hp with
    | q :: l, hp =>
      rw [List.map_cons, jn, List.length_append]
      rcases List.mem_cons.1 hp with rfl | hp
      · omega
      · have : (wrp 3 p.f0 (txt p)).length ≤ _ := memt (fun p => wrp 3 p.f0 (txt p)) l hp
        omega
  · replace h1 : 4 ≤ kd := h1
    replace h4 : ps = [q] := h4
    subst h4
    obtain rfl : p = q := List.mem_singleton.1 hp
    rw [txt_eq ⟨kd, t, [p]⟩]
    unfold body
    rw [if_neg (by show ¬ kd = 1; omega), if_neg (by show ¬ kd = 2; omega), if_neg (by show ¬ kd = 3; omega)]
    show _ ≤ (wrp kd p.f0 (txt p) ++ sgn kd).length
    rw [List.length_append]; show (wrp kd p.f0 (txt p)).length ≤ _; omega
theorem join0 (ls : List T) : Lib.join ls [] = ls.flatten := by
  unfold Lib.join
  induction ls with
  | nil => rfl
  | cons t ls ih =>
    cases ls with
    | nil => simp [List.intercalate]
    | cons u ls => simp [List.intercalate] at ih ⊢; exact ih
theorem join1 (ls : List T) : Lib.join ls [124] = jn ls := by
  unfold Lib.join
  cases ls with
  | nil => rfl
  | cons t ls =>
    rw [jn]
    induction ls generalizing t with
    | nil => simp [List.intercalate, tail]
    | cons u ls ih =>
      have := ih u
      rw [tail]
      simp [List.intercalate] at this ⊢
      rw [this]
theorem join_f (ls : List T) (sep : T) (h1 : ls.length ≤ 1000000000) (h2 : (Lib.join ls sep).length ≤ 1000000000) : strings_Join.f (ls.map B) (B sep) = some (B (Lib.join ls sep)) := by
  have e : (ls.map B).map (·.data.toList) = ls := by
    rw [List.map_map]
    have : ((fun (x : ByteArray) => x.data.toList) ∘ B) = id := by funext l; rfl
    rw [this, List.map_id]
  unfold strings_Join.f
  rw [e, B_data, List.length_map, if_pos ⟨h1, h2⟩]
  rfl
/-- what stands when all parts' texts are there -/
theorem text_end {x : S} (h : Ok x) (hl : (txt x).length < 1000000) (ht : x.f2.length < 1000000) : Ev (fun k => expr_text.l0 k ((x.f2.map fun p => wrp x.f0 p.f0 (txt p)).map B) x.f2 (x.f2.length : Int) (x.f2.length : Int) x.f0 x.f1 x.f2) (B (txt x)) := by
  obtain ⟨kd, t, ps⟩ := x
  refine Ev.one (f := fun k => _) (fun k => by rw [expr_text.l0]) ?_
  refine Ev.ite_neg (by omega) ?_
  rcases h.loc with ⟨h1, h2, h3, h4⟩ | ⟨h1, h2, h3, h4⟩ | ⟨h1, h2, h3, h4⟩ | ⟨h1, h2, h3, p, h4⟩
  · replace h1 : kd = 1 := h1
    replace h2 : ps = [] := h2
    replace h3 : 0 ≤ t := h3
    replace h4 : t < 8 := h4
    subst h1 h2
    have hw : wrap64 (t + 1) = t + 1 := wrap_id (by omega) (by omega)
    refine Ev.ite_pos rfl (Ev.ite_pos h3 ?_)
    show Ev (fun k => if t ≤ wrap64 (t + 1) then (if wrap64 (t + 1) ≤ 8 then some (ByteArray.extract _ t.toNat (wrap64 (t + 1)).toNat) else none) else none) _
    rw [hw]
    refine Ev.ite_pos (by omega) (Ev.ite_pos (by omega) ?_)
    have e : (⟨#[97, 98, 99, 100, 101, 102, 103, 104]⟩ : ByteArray).extract t.toNat (t + 1).toNat = B (txt ⟨1, t, []⟩) := by
      rw [txt_eq]
      obtain rfl | rfl | rfl | rfl | rfl | rfl | rfl | rfl : t = 0 ∨ t = 1 ∨ t = 2 ∨ t = 3 ∨ t = 4 ∨ t = 5 ∨ t = 6 ∨ t = 7 := by omega
      all_goals decide +kernel
    rw [e]; exact Ev.some _
  · replace h1 : kd = 2 := h1
    subst h1
    have h5 := join_f (ps.map fun p => wrp 2 p.f0 (txt p)) [] (by rw [List.length_map]; exact Nat.le_trans (Nat.le_of_lt ht) (by omega)) (by rw [join0, ← txt2 t]; omega)
    rw [join0, ← txt2 t] at h5
    exact Ev.ite_neg (by simp) (Ev.ite_pos rfl (Ev.bnd0 h5 (Ev.some _)))
  · replace h1 : kd = 3 := h1
    subst h1
    have h5 := join_f (ps.map fun p => wrp 3 p.f0 (txt p)) [124] (by rw [List.length_map]; exact Nat.le_trans (Nat.le_of_lt ht) (by omega)) (by rw [join1, ← txt3 t]; omega)
    rw [join1, ← txt3 t] at h5
    exact Ev.ite_neg (by simp) (Ev.ite_neg (by simp) (Ev.ite_pos rfl (Ev.bnd0 h5 (Ev.some _))))
  · replace h1 : 4 ≤ kd := h1
    replace h2 : kd ≤ 6 := h2
    replace h4 : ps = [p] := h4
    subst h4
    refine Ev.ite_neg (by show ¬ kd = 1; omega) (Ev.ite_neg (by show ¬ kd = 2; omega) (Ev.ite_neg (by show ¬ kd = 3; omega) (Ev.ite_pos (by simp) ?_)))
    have e : txt ⟨kd, t, [p]⟩ = wrp kd p.f0 (txt p) ++ sgn kd := by
      rw [txt_eq]
      unfold body
      rw [if_neg (by show ¬ kd = 1; omega), if_neg (by show ¬ kd = 2; omega), if_neg (by show ¬ kd = 3; omega)]
      rfl
    have e2 : (wrp kd p.f0 (txt p)).length + 1 < 1000000 := by rw [e, List.length_append, sgn_len] at hl; exact hl
    rw [e, ← B_app]
    have hr : rdOf ByteArray.empty ((([p] : List S).map fun q => wrp kd q.f0 (txt q)).map B) 0 = B (wrp kd p.f0 (txt p)) := rfl
    show Ev (fun k => if 0 ≤ wrap64 (kd - 4) then (if wrap64 (kd - 4) ≤ wrap64 (wrap64 (kd - 4) + 1) then (if wrap64 (wrap64 (kd - 4) + 1) ≤ 3 then (if (rdOf ByteArray.empty ((([p] : List S).map fun q => wrp kd q.f0 (txt q)).map B) 0).size + (ByteArray.extract _ (wrap64 (kd - 4)).toNat (wrap64 (wrap64 (kd - 4) + 1)).toNat).size ≤ 9223372036854775807 then some (rdOf ByteArray.empty ((([p] : List S).map fun q => wrp kd q.f0 (txt q)).map B) 0 ++ ByteArray.extract _ (wrap64 (kd - 4)).toNat (wrap64 (wrap64 (kd - 4) + 1)).toNat) else none) else none) else none) else none) _
    rw [hr, wrap_id (i := kd - 4) (by omega) (by omega), wrap_id (i := kd - 4 + 1) (by omega) (by omega)]
    have e3 : (⟨#[42, 43, 63]⟩ : ByteArray).extract (kd - 4).toNat (kd - 4 + 1).toNat = B (sgn kd) := by
      obtain rfl | rfl | rfl : kd = 4 ∨ kd = 5 ∨ kd = 6 := by omega
      all_goals decide +kernel
    rw [e3]
    refine Ev.ite_pos (by omega) (Ev.ite_pos (by omega) (Ev.ite_pos (by omega) (Ev.ite_pos ?_ (Ev.some _))))
    rw [B_len, B_len, sgn_len]; omega
theorem text_ev {x : S} (h : Ok x) : tl x.f2 < 1000000 → (txt x).length < 1000000 → Ev (fun k => expr_text.f k x.f0 x.f1 x.f2) (B (txt x)) := by
  have h0 := h
  induction h with
  | @mk x hl hp ih =>
  intro ht hlen
  have h1 := tl_len x.f2
  have hend := text_end h0 hlen (by omega)
  have hparts : ∀ p ∈ x.f2, Ev (fun k => expr_text.f k p.f0 p.f1 p.f2) (B (txt p)) ∧ (wrp x.f0 p.f0 (txt p)).length < 1000000 ∧ (txt p).length ≤ (wrp x.f0 p.f0 (txt p)).length := by
    intro p hpm
    have h2 := part_len h0 hpm
    have h3 := len_le_wrp x.f0 p.f0 (txt p)
    have h4 := mem_tl hpm
    exact ⟨ih p hpm (hp p hpm) (by omega) (by omega), by omega, h3⟩
  clear ih
  have loop : ∀ (d i : Nat), x.f2.length - i = d → i ≤ x.f2.length → Ev (fun k => expr_text.l0 k (((x.f2.map fun p => wrp x.f0 p.f0 (txt p)).map B).take i) x.f2 (x.f2.length : Int) (i : Int) x.f0 x.f1 x.f2) (B (txt x)) := by
    intro d
    induction d with
    | zero =>
      intro i hd hi
      obtain rfl : i = x.f2.length := by omega
      rw [List.take_of_length_le (by simp)]
      exact hend
    | succ d ihd =>
      intro i hd hi
      have hlt : i < x.f2.length := by omega
      have hw : wrap64 ((i : Int) + 1) = ((i + 1 : Nat) : Int) := wrap_succ hlt (by omega)
      obtain ⟨hev, hb1, hb2⟩ := hparts x.f2[i] (List.getElem_mem hlt)
      have hnext := ihd (i + 1) (by omega) (by omega)
      rw [List.take_succ_eq_append_getElem (by simpa using hlt)] at hnext
      have e : ((x.f2.map fun p => wrp x.f0 p.f0 (txt p)).map B)[i]'(by simpa using hlt) = B (wrp x.f0 x.f2[i].f0 (txt x.f2[i])) := by simp
      rw [e] at hnext
      generalize hacc : ((x.f2.map fun p => wrp x.f0 p.f0 (txt p)).map B).take i = acc at hnext ⊢
      have hal : acc.length < 1000000 := by rw [← hacc]; simp; omega
      refine Ev.one (f := fun k => _) (fun k => by rw [expr_text.l0, hw, rdT_at x.f2 i hlt]) ?_
      refine Ev.ite_pos (by omega) (Ev.ite_pos (by omega) (Ev.ite_pos (by omega) (Ev.bnd hev ?_)))
      generalize hp' : x.f2[i] = p at hnext hb1 hb2 ⊢
      have plain : ¬ (p.f0 = 3 ∧ x.f0 ≠ 3 ∨ p.f0 = 2 ∧ 4 ≤ x.f0) → Ev (fun k => if acc.length < 8796093022208 then expr_text.l0 k (acc ++ [B (txt p)]) x.f2 (x.f2.length : Int) ((i + 1 : Nat) : Int) x.f0 x.f1 x.f2 else none) (B (txt x)) := by
        intro hn
        refine Ev.ite_pos (by omega) ?_
        unfold wrp at hnext
        rw [if_neg hn] at hnext
        exact hnext
      have paren : (p.f0 = 3 ∧ x.f0 ≠ 3 ∨ p.f0 = 2 ∧ 4 ≤ x.f0) → Ev (fun k => if 1 + (B (txt p)).size ≤ 9223372036854775807 then (if ((⟨#[40]⟩ : ByteArray) ++ B (txt p)).size + 1 ≤ 9223372036854775807 then (if acc.length < 8796093022208 then expr_text.l0 k (acc ++ [((⟨#[40]⟩ : ByteArray) ++ B (txt p)) ++ (⟨#[41]⟩ : ByteArray)]) x.f2 (x.f2.length : Int) ((i + 1 : Nat) : Int) x.f0 x.f1 x.f2 else none) else none) else none) (B (txt x)) := by
        intro hn
        have e1 : (⟨#[40]⟩ : ByteArray) ++ B (txt p) = B (40 :: txt p) := B_app [40] (txt p)
        have e2 : B (40 :: txt p) ++ (⟨#[41]⟩ : ByteArray) = B (40 :: txt p ++ [41]) := B_app (40 :: txt p) [41]
        rw [e1, e2]
        refine Ev.ite_pos (by rw [B_len]; omega) (Ev.ite_pos (by rw [B_len, List.length_cons]; omega) (Ev.ite_pos (by omega) ?_))
        unfold wrp at hnext
        rw [if_pos hn] at hnext
        exact hnext
      by_cases c1 : p.f0 = 3
      · refine Ev.ite_pos c1 ?_
        by_cases c2 : x.f0 = 3
        · refine Ev.ite_pos c2 (Ev.ite_neg (by omega) ?_)
          exact plain (by omega)
        · exact Ev.ite_neg c2 (paren (.inl ⟨c1, c2⟩))
      · refine Ev.ite_neg c1 ?_
        by_cases c3 : p.f0 = 2
        · refine Ev.ite_pos c3 ?_
          by_cases c4 : x.f0 ≥ 4
          · exact Ev.ite_pos c4 (paren (.inr ⟨c3, c4⟩))
          · exact Ev.ite_neg c4 (plain (by omega))
        · exact Ev.ite_neg c3 (plain (by omega))
  refine Ev.one (f := fun k => _) (fun k => by rw [expr_text.f]) ?_
  exact loop x.f2.length 0 (by omega) (by omega)
where
  mem_tl {p : S} : ∀ {l : List S}, p ∈ l → 1 + tl p.f2 ≤ tl l
  | q :: l, h => by
    rw [tl_cons]
    rcases List.mem_cons.1 h with rfl | h
    · omega
    · have := mem_tl h; omega
theorem check_ev {x : S} (h : Ok x) (ht : tl x.f2 < 1000000) (hl : (txt x).length ≤ 40) : Ev (fun k => expr_Check.f k x.f0 x.f1 x.f2) 0 := by
  unfold expr_Check.f
  refine Ev.bnd (fault_ev h ht) (Ev.ite_pos rfl (Ev.bnd (text_ev h ht (by omega)) (Ev.ite_neg ?_ (Ev.some _))))
  rw [B_len]; omega
/-- a text is parsed -/
theorem parse_ev {t : T} {x : S} (h : AP t x) (ho : Ok x) (hx : (txt x).length ≤ 40) (hl : t.length ≤ 40) : Ev (fun k => expr_Parse.f k (B t)) (x.f0, x.f1, x.f2, 0) := by
  unfold expr_Parse.f
  have h1 := h.1
  have h2 := h.all (by omega)
  refine Ev.ite_pos (by rw [B_len]; exact hl) ?_
  rw [B_data]
  exact Ev.bnd h2 (Ev.bnd (check_ev ho (show tl x.f2 < 1000000 by omega) hx) (Ev.ite_pos rfl (Ev.some _)))
end Go.Proofs.Ytjmhihadgpdiaaa.Expr
end
section
namespace Go.Proofs.Ytjmhihadgpdiaaa.Expr
open Go.RowKit Go.Proofs.Ytjmhihadgpdiaaa.X Go.Proofs.YtjmhihadgpdiaaaW.PrintWords Go.Proofs.YtjmhihadgpdiaaaW.PrintLast Go.Proofs.Ytjmhihadgpdiaaa.Base
set_option linter.unusedVariables false
set_option linter.unusedSimpArgs false
theorem pick_ev (xa : Int) (n : Int) (h0 : 0 < n) (hn : n ≤ 4294967296) : bobbinetkeep_Picked.f xa n = some (xa % n) := by
  unfold bobbinetkeep_Picked.f
  rw [if_neg (by omega), ← picked_eq xa n h0 hn]
  split <;> rfl
def renl (k : Int) : List S → List S
  | [] => []
  | p :: l => ⟨p.f0, if p.f0 = 1 then p.f1 + k else p.f1, renl k p.f2⟩ :: renl k l
termination_by l => SizeOf.sizeOf l
decreasing_by all_goals (cases p; simp; omega)
def ren (k : Int) (p : S) : S := ⟨p.f0, if p.f0 = 1 then p.f1 + k else p.f1, renl k p.f2⟩
theorem renl_eq (k : Int) : ∀ l : List S, renl k l = l.map (ren k)
  | [] => by rw [renl]; rfl
  | p :: l => by rw [renl, renl_eq k l]; rfl
theorem ren_eq (k : Int) (p : S) : ren k p = ⟨p.f0, if p.f0 = 1 then p.f1 + k else p.f1, p.f2.map (ren k)⟩ := by rw [ren, renl_eq]
theorem ren_f0 (k : Int) (p : S) : (ren k p).f0 = p.f0 := rfl
theorem rdT_map (f : S → S) (l : List S) (h : l.length = 1) : rd_T28 (l.map f) 0 = f (rd_T28 l 0) := by
  obtain ⟨x, rfl⟩ := len1 h; rfl
theorem flat_ren (k kd : Int) (l : List S) : flat kd (l.map (ren k)) = (flat kd l).map (ren k) := by
  induction l with
  | nil => rfl
  | cons p l ih =>
    rw [List.map_cons, flat, flat, List.map_append, ih, ren_f0]
    split
    · rw [ren_eq]
    · rfl
theorem tog_ren (k kd : Int) (h1 : kd ≠ 1) (l : List S) : tog kd (l.map (ren k)) = ren k (tog kd l) := by
  unfold tog
  rw [List.length_map]
  split
  · rename_i h; exact rdT_map _ _ h
  · unfold one
    rw [flat_ren, List.length_map]
    split
    · rename_i h; exact rdT_map _ _ h
    · rw [ren_eq, if_neg h1]
/-- a letter's other name -/
def rn (k : Nat) (c : UInt8) : UInt8 := if 97 ≤ c.toNat ∧ c.toNat ≤ 99 then c + k.toUInt8 else c
theorem rn_small (k : Nat) {c : UInt8} (h : c.toNat < 97 ∨ 99 < c.toNat) : rn k c = c := by unfold rn; rw [if_neg (by omega)]
theorem rn_nat {k : Nat} (hk : k ≤ 5) {c : UInt8} (h : 97 ≤ c.toNat ∧ c.toNat ≤ 99) : (rn k c).toNat = c.toNat + k := by
  unfold rn
  rw [if_pos h, UInt8.toNat_add, Nat.toUInt8, UInt8.toNat_ofNat']
  omega
/-- a text and its items, and those with other letters -/
def RQ (k : Nat) (s : T) (xs : List S) : Prop := SQ s xs ∧ SQ (s.map (rn k)) (xs.map (ren k))
def RB (k : Nat) (s : T) (x : S) : Prop := BQ s x ∧ BQ (s.map (rn k)) (ren k x)
theorem RQ.app {k : Nat} {a b : T} {xs ys : List S} (h : RQ k a xs) (g : RQ k b ys) : RQ k (a ++ b) (xs ++ ys) := by
  refine ⟨h.1.app g.1, ?_⟩
  rw [List.map_append, List.map_append]
  exact h.2.app g.2
theorem RB.rq {k : Nat} {s : T} {x : S} (h : RB k s x) : RQ k s [x] := ⟨h.1.sq, h.2.sq⟩
theorem RB.letter {k : Nat} (hk : k ≤ 5) (c : UInt8) (h : 97 ≤ c.toNat ∧ c.toNat ≤ 99) : RB k [c] ⟨1, (c.toNat : Int) - 97, []⟩ := by
  refine ⟨BQ.letter c (by omega), ?_⟩
  have h1 := rn_nat hk h
  have h2 := BQ.letter (rn k c) (by omega)
  rw [h1, show ((c.toNat + k : Nat) : Int) - 97 = (c.toNat : Int) - 97 + k by omega] at h2
  rw [ren_eq]
  exact h2
theorem sign_small {c : UInt8} {j : Int} (h : expr_Parse.sign c = some j) : c.toNat < 97 := by
  unfold expr_Parse.sign at h
  repeat' split at h
  all_goals cases h
  all_goals omega
theorem RB.sign {k : Nat} {s : T} {x : S} {c : UInt8} {j : Int} (h : RB k s x) (hc : expr_Parse.sign c = some j) : RB k (s ++ [c]) ⟨4 + j, 0, [x]⟩ := by
  refine ⟨h.1.sign hc, ?_⟩
  have h2 := h.2.sign hc
  rw [List.map_append, List.map_cons, List.map_nil, rn_small k (.inl (sign_small hc)), ren_eq, if_neg (by have := sgn_sign hc; show ¬ 4 + j = 1; omega)]
  exact h2
theorem RB.seq {k : Nat} {s : T} {xs : List S} (h : RQ k s xs) : RB k (40 :: s ++ [41]) (tog 2 xs) := by
  refine ⟨BQ.paren h.1.qq.aq, ?_⟩
  have h2 := BQ.paren h.2.qq.aq
  rw [tog_ren k 2 (by decide)] at h2
  rw [List.map_append, List.map_cons, List.map_cons, List.map_nil]
  exact h2
theorem RB.alt {k : Nat} {s u : T} {xs ys : List S} (h : RQ k s xs) (g : RQ k u ys) : RB k (40 :: (s ++ 124 :: u) ++ [41]) (tog 3 [tog 2 xs, tog 2 ys]) := by
  refine ⟨BQ.paren (AQ.two h.1.qq g.1.qq), ?_⟩
  have h2 := BQ.paren (AQ.two h.2.qq g.2.qq)
  have e : [tog 2 (xs.map (ren k)), tog 2 (ys.map (ren k))] = [tog 2 xs, tog 2 ys].map (ren k) := by
    rw [tog_ren k 2 (by decide), tog_ren k 2 (by decide)]; rfl
  rw [e, tog_ren k 3 (by decide)] at h2
  rw [List.map_append, List.map_cons, List.map_append, List.map_cons, List.map_cons, List.map_nil]
  exact h2
def bnd : Nat → Nat
  | 0 => 2
  | d + 1 => if d = 0 then 2 else 2 * bnd d + 4
def Gd (d : Nat) (s : T) : Prop := s.length ≤ bnd d ∧ s ≠ [] ∧ (∀ c ∈ s, c.toNat ≤ 99 ∨ c.toNat = 124) ∧ ∃ xs, ∀ k, k ≤ 5 → RQ k s xs
theorem letter_b {t : Int} (h : 0 ≤ t ∧ t < 3) : ((⟨#[97, 98, 99]⟩ : ByteArray).extract t.toNat (⟨#[97, 98, 99]⟩ : ByteArray).size).extract 0 1 = B [(97 + t).toNat.toUInt8] := by
  obtain rfl | rfl | rfl : t = 0 ∨ t = 1 ∨ t = 2 := by omega
  all_goals decide +kernel
theorem letter_n {t : Int} (h : 0 ≤ t ∧ t < 3) : ((97 + t).toNat.toUInt8).toNat = 97 + t.toNat := by
  rw [Nat.toUInt8, UInt8.toNat_ofNat']; omega
theorem Gd.of {d : Nat} {s : T} (h1 : s.length ≤ bnd d) (h2 : s ≠ []) (h3 : ∀ c ∈ s, c.toNat ≤ 99 ∨ c.toNat = 124) {xs : List S} (h4 : ∀ k, k ≤ 5 → RQ k s xs) : Gd d s := ⟨h1, h2, h3, xs, h4⟩
theorem atom_ev (d : Nat) (x0 : List Int) (a1 n t7 : Int) : ∃ s, Gd d s ∧ Ev (fun k => bobbinetkeep_ExprText.j1 k x0 a1 n t7 true) (B s, x0) := by
  have h1 := pick_ev (wrap64 (Int.tdiv n 9)) 3 (by decide) (by decide)
  have h2 := pick_ev (wrap64 (Int.tdiv n 27)) 4 (by decide) (by decide)
  have b1 : 0 ≤ wrap64 (Int.tdiv n 9) % 3 ∧ wrap64 (Int.tdiv n 9) % 3 < 3 := by omega
  have b2 : 0 ≤ wrap64 (Int.tdiv n 27) % 4 ∧ wrap64 (Int.tdiv n 27) % 4 < 4 := by omega
  generalize wrap64 (Int.tdiv n 9) % 3 = t at h1 b1
  generalize wrap64 (Int.tdiv n 27) % 4 = u at h2 b2
  have hlet := letter_b b1
  have hn := letter_n b1
  generalize hc : (97 + t).toNat.toUInt8 = c at hlet hn
  have base : ∀ k, k ≤ 5 → RB k [c] ⟨1, (c.toNat : Int) - 97, []⟩ := fun k hk => RB.letter hk c (by omega)
  have hsz : (1 : Int) ≤ (((⟨#[97, 98, 99]⟩ : ByteArray).extract t.toNat (⟨#[97, 98, 99]⟩ : ByteArray).size).size : Int) := by
    rw [ByteArray.size_extract, show (⟨#[97, 98, 99]⟩ : ByteArray).size = 3 from rfl]; omega
  have hd : 2 ≤ bnd d := by
    cases d with
    | zero => exact Nat.le_refl _
    | succ d => unfold bnd; split <;> omega
  have fin : ∀ v : T, v.length ≤ 1 → rdOf ByteArray.empty ([(⟨#[]⟩ : ByteArray), (⟨#[]⟩ : ByteArray), (⟨#[42]⟩ : ByteArray), (⟨#[63]⟩ : ByteArray)] : List ByteArray) u = B v → Ev (fun k => bobbinetkeep_ExprText.j1 k x0 a1 n t7 true) (B ([c] ++ v), x0) := by
    intro v hv e
    refine Ev.one (f := fun k => _) (fun k => by rw [bobbinetkeep_ExprText.j1]) ?_
    refine Ev.ite_pos rfl (Ev.bnd0 h1 (Ev.ite_pos b1.1 (Ev.ite_pos (by omega) (Ev.ite_pos (by decide) (Ev.ite_pos hsz (Ev.bnd0 rfl (Ev.bnd0 h2 (Ev.ite_pos b2.1 (Ev.ite_pos (by simp; omega) ?_)))))))))
    rw [hlet, e, B_app]
    refine Ev.ite_pos ?_ (Ev.some _)
    rw [B_len, B_len]; simp; omega
  have hu : u = 0 ∨ u = 1 ∨ u = 2 ∨ u = 3 := by omega
  have hmem : ∀ e ∈ [c], e.toNat ≤ 99 ∨ e.toNat = 124 := fun e he => by rw [List.mem_singleton.1 he]; omega
  rcases hu with rfl | rfl | rfl | rfl
  · exact ⟨[c] ++ [], Gd.of (by simp; omega) (by simp) hmem (fun k hk => (base k hk).rq), fin [] (by simp) rfl⟩
  · exact ⟨[c] ++ [], Gd.of (by simp; omega) (by simp) hmem (fun k hk => (base k hk).rq), fin [] (by simp) rfl⟩
  · refine ⟨[c] ++ [42], Gd.of (by simp; omega) (by simp) (fun e he => ?_) (fun k hk => ((base k hk).sign (c := 42) (j := 0) rfl).rq), fin [42] (by simp) rfl⟩
    rcases List.mem_append.1 he with he | he
    · exact hmem e he
    · rw [List.mem_singleton.1 he]; decide
  · refine ⟨[c] ++ [63], Gd.of (by simp; omega) (by simp) (fun e he => ?_) (fun k hk => ((base k hk).sign (c := 63) (j := 2) rfl).rq), fin [63] (by simp) rfl⟩
    rcases List.mem_append.1 he with he | he
    · exact hmem e he
    · rw [List.mem_singleton.1 he]; decide
theorem bnd_le : ∀ d, d ≤ 3 → bnd d ≤ 20 := by
  intro d hd
  obtain rfl | rfl | rfl | rfl : d = 0 ∨ d = 1 ∨ d = 2 ∨ d = 3 := by omega
  all_goals decide
/-- what two texts become -/
theorem two_ev (d : Nat) (hd : d ≤ 2) (hd1 : 1 ≤ d) (x0 : List Int) (n t7 : Int) (h7 : 3 ≤ t7 ∧ t7 < 9) {a b : T} {r1 r2 : List Int} (ga : Gd d a) (gb : Gd d b)
    (ha : Ev (fun k => bobbinetkeep_ExprText.f k x0 (d : Int)) (B a, r1)) (hb : Ev (fun k => bobbinetkeep_ExprText.f k r1 (d : Int)) (B b, r2)) :
    ∃ s, Gd (d + 1) s ∧ Ev (fun k => bobbinetkeep_ExprText.j1 k x0 ((d + 1 : Nat) : Int) n t7 false) (B s, r2) := by
  obtain ⟨a1, a2, a3, xs, a4⟩ := ga
  obtain ⟨b1, b2, b3, ys, b4⟩ := gb
  have hbd := bnd_le d (by omega)
  have e : bnd (d + 1) = 2 * bnd d + 4 := by
    rw [bnd, if_neg (by omega)]
  have hw : wrap64 (((d + 1 : Nat) : Int) - 1) = (d : Int) := by rw [wrap_id (by omega) (by omega)]; omega
  have key : ∀ s, Ev (fun k => (bobbinetkeep_ExprText.f k x0 (d : Int)).bind fun bt114 => ((bobbinetkeep_ExprText.f k bt114.2 (d : Int)).bind fun bt118 => (if t7 < 6 then (if bt114.1.size + bt118.1.size ≤ 9223372036854775807 then (some (bt114.1 ++ bt118.1, bt118.2)) else (none)) else (if t7 = 6 then (if 1 + bt114.1.size ≤ 9223372036854775807 then (if ((⟨#[40]⟩ : ByteArray) ++ bt114.1).size + 1 ≤ 9223372036854775807 then (if (((⟨#[40]⟩ : ByteArray) ++ bt114.1) ++ (⟨#[124]⟩ : ByteArray)).size + bt118.1.size ≤ 9223372036854775807 then (if ((((⟨#[40]⟩ : ByteArray) ++ bt114.1) ++ (⟨#[124]⟩ : ByteArray)) ++ bt118.1).size + 1 ≤ 9223372036854775807 then (some (((((⟨#[40]⟩ : ByteArray) ++ bt114.1) ++ (⟨#[124]⟩ : ByteArray)) ++ bt118.1) ++ (⟨#[41]⟩ : ByteArray), bt118.2)) else (none)) else (none)) else (none)) else (none)) else (if t7 = 7 then (if 1 + bt114.1.size ≤ 9223372036854775807 then (if ((⟨#[40]⟩ : ByteArray) ++ bt114.1).size + 1 ≤ 9223372036854775807 then (if (((⟨#[40]⟩ : ByteArray) ++ bt114.1) ++ (⟨#[124]⟩ : ByteArray)).size + bt118.1.size ≤ 9223372036854775807 then (if ((((⟨#[40]⟩ : ByteArray) ++ bt114.1) ++ (⟨#[124]⟩ : ByteArray)) ++ bt118.1).size + 2 ≤ 9223372036854775807 then (some (((((⟨#[40]⟩ : ByteArray) ++ bt114.1) ++ (⟨#[124]⟩ : ByteArray)) ++ bt118.1) ++ (⟨#[41, 42]⟩ : ByteArray), bt118.2)) else (none)) else (none)) else (none)) else (none)) else (if 1 + bt114.1.size ≤ 9223372036854775807 then (if ((⟨#[40]⟩ : ByteArray) ++ bt114.1).size + bt118.1.size ≤ 9223372036854775807 then (if (((⟨#[40]⟩ : ByteArray) ++ bt114.1) ++ bt118.1).size + 1 ≤ 9223372036854775807 then ((some (([(⟨#[43]⟩ : ByteArray), (⟨#[63]⟩ : ByteArray)] : List ByteArray) : List ByteArray)).bind fun y122 => ((bobbinetkeep_Picked.f (wrap64 (Int.tdiv n 9)) 2).bind fun t125 => (if 0 ≤ t125 then (if t125 < (y122.length : Int) then (if ((((⟨#[40]⟩ : ByteArray) ++ bt114.1) ++ bt118.1) ++ (⟨#[41]⟩ : ByteArray)).size + (rdOf ByteArray.empty y122 t125).size ≤ 9223372036854775807 then (some (((((⟨#[40]⟩ : ByteArray) ++ bt114.1) ++ bt118.1) ++ (⟨#[41]⟩ : ByteArray)) ++ (rdOf ByteArray.empty y122 t125), bt118.2)) else (none)) else (none)) else (none)))) else (none)) else (none)) else (none))))))) s → Ev (fun k => bobbinetkeep_ExprText.j1 k x0 ((d + 1 : Nat) : Int) n t7 false) s := by
    intro s hs
    exact Ev.one (f := fun k => _) (fun k => by rw [bobbinetkeep_ExprText.j1, hw, if_neg (by decide)]) hs
  have p1 : ∀ s : T, (⟨#[40]⟩ : ByteArray) ++ B s = B (40 :: s) := fun s => B_app [40] s
  have p2 : ∀ s : T, B s ++ (⟨#[124]⟩ : ByteArray) = B (s ++ [124]) := fun s => B_app s [124]
  have p3 : ∀ s : T, B s ++ (⟨#[41]⟩ : ByteArray) = B (s ++ [41]) := fun s => B_app s [41]
  have p4 : ∀ s : T, B s ++ (⟨#[41, 42]⟩ : ByteArray) = B (s ++ [41, 42]) := fun s => B_app s [41, 42]
  have hA : ∀ v : T, (∀ c ∈ v, c.toNat ≤ 99 ∨ c.toNat = 124) → ∀ c ∈ 40 :: (a ++ b) ++ [41] ++ v, c.toNat ≤ 99 ∨ c.toNat = 124 := by
    intro v hv c hc
    simp only [List.mem_append, List.mem_cons, List.mem_singleton, List.cons_append] at hc
    rcases hc with rfl | ((hc | hc) | rfl | hc) | hc
    · decide
    · exact a3 c hc
    · exact b3 c hc
    · decide
    · cases hc
    · exact hv c hc
  have hB : ∀ v : T, (∀ c ∈ v, c.toNat ≤ 99 ∨ c.toNat = 124) → ∀ c ∈ 40 :: (a ++ 124 :: b) ++ [41] ++ v, c.toNat ≤ 99 ∨ c.toNat = 124 := by
    intro v hv c hc
    simp only [List.mem_append, List.mem_cons, List.mem_singleton, List.cons_append] at hc
    rcases hc with rfl | ((hc | rfl | hc) | rfl | hc) | hc
    · decide
    · exact a3 c hc
    · decide
    · exact b3 c hc
    · decide
    · cases hc
    · exact hv c hc
  by_cases c1 : t7 < 6
  · refine ⟨a ++ b, Gd.of (by rw [List.length_append]; omega) (by simp [a2]) (fun c hc => (List.mem_append.1 hc).elim (a3 c) (b3 c)) (fun k hk => (a4 k hk).app (b4 k hk)), key _ (Ev.bnd ha (Ev.bnd hb (Ev.ite_pos c1 (Ev.ite_pos ?_ ?_))))⟩
    · dsimp only; rw [B_len, B_len]; omega
    · dsimp only; rw [B_app]; exact Ev.some _
  by_cases c2 : t7 = 6
  · refine ⟨40 :: (a ++ 124 :: b) ++ [41], Gd.of (by simp; omega) (by simp) (by have := hB [] (fun c hc => by cases hc); rwa [List.append_nil] at this) (fun k hk => (RB.alt (a4 k hk) (b4 k hk)).rq), key _ (Ev.bnd ha (Ev.bnd hb (Ev.ite_neg c1 (Ev.ite_pos c2 ?_))))⟩
    dsimp only
    rw [p1, p2, B_app, p3]
    simp only [B_len]
    refine Ev.ite_pos (by omega) (Ev.ite_pos (by simp; omega) (Ev.ite_pos (by simp; omega) (Ev.ite_pos (by simp; omega) ⟨0, fun _ _ => by simp⟩)))
  by_cases c3 : t7 = 7
  · refine ⟨40 :: (a ++ 124 :: b) ++ [41] ++ [42], Gd.of (by simp; omega) (by simp) (hB [42] (fun c hc => by rw [List.mem_singleton.1 hc]; decide)) (fun k hk => ((RB.alt (a4 k hk) (b4 k hk)).sign (c := 42) (j := 0) rfl).rq), key _ (Ev.bnd ha (Ev.bnd hb (Ev.ite_neg c1 (Ev.ite_neg c2 (Ev.ite_pos c3 ?_)))))⟩
    dsimp only
    rw [p1, p2, B_app, p4]
    simp only [B_len]
    refine Ev.ite_pos (by omega) (Ev.ite_pos (by simp; omega) (Ev.ite_pos (by simp; omega) (Ev.ite_pos (by simp; omega) ⟨0, fun _ _ => by simp⟩)))
  have h2 := pick_ev (wrap64 (Int.tdiv n 9)) 2 (by decide) (by decide)
  have b2' : 0 ≤ wrap64 (Int.tdiv n 9) % 2 ∧ wrap64 (Int.tdiv n 9) % 2 < 2 := by omega
  generalize wrap64 (Int.tdiv n 9) % 2 = u at h2 b2'
  have fin : ∀ (c : UInt8) (j : Int), expr_Parse.sign c = some j → rdOf ByteArray.empty ([(⟨#[43]⟩ : ByteArray), (⟨#[63]⟩ : ByteArray)] : List ByteArray) u = B [c] → ∃ s, Gd (d + 1) s ∧ Ev (fun k => bobbinetkeep_ExprText.j1 k x0 ((d + 1 : Nat) : Int) n t7 false) (B s, r2) := by
    intro c j hc e2
    refine ⟨40 :: (a ++ b) ++ [41] ++ [c], Gd.of (by simp; omega) (by simp) (hA [c] (fun q hq => by rw [List.mem_singleton.1 hq]; have := sign_small hc; omega)) (fun k hk => ((RB.seq ((a4 k hk).app (b4 k hk))).sign hc).rq), key _ (Ev.bnd ha (Ev.bnd hb (Ev.ite_neg c1 (Ev.ite_neg c2 (Ev.ite_neg c3 ?_)))))⟩
    dsimp only
    rw [p1, B_app, p3]
    simp only [B_len]
    refine Ev.ite_pos (by omega) (Ev.ite_pos (by simp; omega) (Ev.ite_pos (by simp; omega) (Ev.bnd0 rfl (Ev.bnd0 h2 (Ev.ite_pos b2'.1 (Ev.ite_pos (by simp; omega) ?_))))))
    rw [e2, B_app, B_len]
    refine Ev.ite_pos (by simp; omega) ⟨0, fun _ _ => by simp⟩
  obtain rfl | rfl : u = 0 ∨ u = 1 := by omega
  · exact fin 43 1 rfl rfl
  · exact fin 63 2 rfl rfl
/-- a text of the laws -/
theorem gen_ev : ∀ (d : Nat), d ≤ 3 → ∀ l : List Int, ∃ s rest, Gd d s ∧ Ev (fun k => bobbinetkeep_ExprText.f k l (d : Int)) (B s, rest) := by
  intro d
  induction d with
  | zero => 
    intro _ l
    obtain ⟨n, l', h⟩ := gen_f 0 l
    have h1 := pick_ev n 9 (by decide) (by decide)
    obtain ⟨s, h2, h3⟩ := atom_ev 0 l' ((0 : Nat) : Int) n (n % 9)
    refine ⟨s, l', h2, h _ ?_⟩
    exact Ev.one (f := fun k => _) (fun k => by rw [bobbinetkeep_ExprText.j0]) (Ev.bnd0 h1 (Ev.ite_pos (show ((0 : Nat) : Int) ≤ 1 by omega) h3))
  | succ d ih =>
    intro hd l
    obtain ⟨n, l', h⟩ := gen_f (d + 1) l
    have h1 := pick_ev n 9 (by decide) (by decide)
    have hb : 0 ≤ n % 9 ∧ n % 9 < 9 := by omega
    generalize n % 9 = t7 at h1 hb
    obtain ⟨s, h2, h3⟩ := atom_ev (d + 1) l' ((d + 1 : Nat) : Int) n t7
    by_cases hd1 : d = 0
    · subst hd1
      refine ⟨s, l', h2, h _ ?_⟩
      exact Ev.one (f := fun k => _) (fun k => by rw [bobbinetkeep_ExprText.j0]) (Ev.bnd0 h1 (Ev.ite_pos (show ((0 + 1 : Nat) : Int) ≤ 1 by omega) h3))
    · by_cases ht : t7 < 3
      · refine ⟨s, l', h2, h _ ?_⟩
        refine Ev.one (f := fun k => _) (fun k => by rw [bobbinetkeep_ExprText.j0]) (Ev.bnd0 h1 (Ev.ite_neg (show ¬ ((d + 1 : Nat) : Int) ≤ 1 by omega) ?_))
        rw [decide_eq_true ht]
        exact h3
      · obtain ⟨a, r1, ga, ha⟩ := ih (by omega) l'
        obtain ⟨b, r2, gb, hb2⟩ := ih (by omega) r1
        obtain ⟨s, h2, h3⟩ := two_ev d (by omega) (by omega) l' n t7 (by omega) ga gb ha hb2
        refine ⟨s, r2, h2, h _ ?_⟩
        refine Ev.one (f := fun k => _) (fun k => by rw [bobbinetkeep_ExprText.j0]) (Ev.bnd0 h1 (Ev.ite_neg (show ¬ ((d + 1 : Nat) : Int) ≤ 1 by omega) ?_))
        rw [decide_eq_false ht]
        exact h3
where
  gen_f (d : Nat) (l : List Int) : ∃ n l', ∀ R, Ev (fun k => bobbinetkeep_ExprText.j0 k l' (d : Int) n) R → Ev (fun k => bobbinetkeep_ExprText.f k l (d : Int)) R := by
    cases l with
    | nil => exact ⟨0, [], fun R h => Ev.one (f := fun k => _) (fun k => by rw [bobbinetkeep_ExprText.f]) (Ev.ite_neg (by simp) h)⟩
    | cons n l =>
      refine ⟨n, l, fun R h => Ev.one (f := fun k => _) (fun k => by rw [bobbinetkeep_ExprText.f]) (Ev.ite_pos (by simp) (Ev.ite_pos (by simp) (Ev.ite_pos (by simp; omega) ?_)))⟩
      exact h
theorem exprOf_ev {t : T} {x : S} (h : AQ t x) (hl : t.length ≤ 40) : Ev (fun k => bobbinetkeep_exprOf.f k (B t)) (x.f0, x.f1, x.f2, true) := by
  unfold bobbinetkeep_exprOf.f
  have h1 := parse_ev h.1 h.2.1 (Nat.le_trans h.2.2 hl) hl
  have h2 : AQ [97] ⟨1, 0, []⟩ := (BQ.letter 97 (by decide)).sq.qq.aq
  have h3 := parse_ev h2.1 h2.2.1 (Nat.le_trans h2.2.2 (by decide)) (by decide)
  exact Ev.bnd h1 (Ev.bnd h3 (Ev.ite_pos rfl (Ev.ite_pos rfl (Ev.some _))))
theorem same_ev (x : S) : tl x.f2 < 1000000 → Ev (fun k => bobbinetkeep_sameExpr.f k x.f0 x.f1 x.f2 x.f0 x.f1 x.f2) true := by
  have main : ∀ (n : Nat) (x : S), tl x.f2 ≤ n → tl x.f2 < 1000000 → Ev (fun k => bobbinetkeep_sameExpr.f k x.f0 x.f1 x.f2 x.f0 x.f1 x.f2) true := by
    intro n
    induction n with
    | zero =>
      intro x hx _
      have h0 := tl_len x.f2
      refine Ev.one (f := fun k => _) (fun k => by rw [bobbinetkeep_sameExpr.f]) (Ev.ite_pos rfl (Ev.ite_pos rfl ?_))
      refine Ev.one (f := fun k => _) (fun k => by rw [bobbinetkeep_sameExpr.j0]) (Ev.ite_neg (by simp) ?_)
      exact Ev.one (f := fun k => _) (fun k => by rw [bobbinetkeep_sameExpr.l0]) (Ev.ite_neg (by omega) (Ev.some _))
    | succ n ih =>
      intro x hx hb
      have h0 := tl_len x.f2
      refine Ev.one (f := fun k => _) (fun k => by rw [bobbinetkeep_sameExpr.f]) (Ev.ite_pos rfl (Ev.ite_pos rfl ?_))
      refine Ev.one (f := fun k => _) (fun k => by rw [bobbinetkeep_sameExpr.j0]) (Ev.ite_neg (by simp) ?_)
      have loop : ∀ (d i : Nat), x.f2.length - i = d → i ≤ x.f2.length → Ev (fun k => bobbinetkeep_sameExpr.l0 k (i : Int) x.f0 x.f1 x.f2 x.f0 x.f1 x.f2) true := by
        intro d
        induction d with
        | zero =>
          intro i hd hi
          exact Ev.one (f := fun k => _) (fun k => by rw [bobbinetkeep_sameExpr.l0]) (Ev.ite_neg (by omega) (Ev.some _))
        | succ d ihd =>
          intro i hd hi
          have hlt : i < x.f2.length := by omega
          have hw : wrap64 ((i : Int) + 1) = ((i + 1 : Nat) : Int) := wrap_succ hlt (by omega)
          have hm : 1 + tl x.f2[i].f2 ≤ tl x.f2 := text_ev.mem_tl (List.getElem_mem hlt)
          have h1 := ih x.f2[i] (by omega) (by omega)
          refine Ev.one (f := fun k => _) (fun k => by rw [bobbinetkeep_sameExpr.l0, hw, rdT_at x.f2 i hlt]) ?_
          exact Ev.ite_pos (by omega) (Ev.ite_pos (by omega) (Ev.ite_pos (by omega) (Ev.bnd h1 (Ev.ite_pos rfl (ihd (i + 1) (by omega) (by omega))))))
      exact loop x.f2.length 0 (by omega) (by omega)
  exact fun h => main _ x (Nat.le_refl _) h
end Go.Proofs.Ytjmhihadgpdiaaa.Expr
end
section
namespace Go.Proofs.Ytjmhihadgpdiaaa.Pure
open Go.RowKit Go.Proofs.Ytjmhihadgpdiaaa.X Go.Proofs.YtjmhihadgpdiaaaW.PrintWords Go.Proofs.YtjmhihadgpdiaaaW.PrintLast Go.Proofs.Ytjmhihadgpdiaaa.Base Go.Proofs.Ytjmhihadgpdiaaa.Expr
set_option linter.unusedVariables false
set_option linter.unusedSimpArgs false
theorem ExprBack : bobbinetkeep_ExprBack.Pure := by
  intro l0 a1 _ _ _ hw
  have h1 := pick_ev a1 3 (by decide) (by decide)
  have hb : 0 ≤ a1 % 3 ∧ a1 % 3 < 3 := by omega
  obtain ⟨d, hd⟩ : ∃ d : Nat, a1 % 3 = (d : Int) := ⟨_, (Int.toNat_of_nonneg hb.1).symm⟩
  rw [hd] at h1 hb
  have hwr : wrap64 (1 + (d : Int)) = ((d + 1 : Nat) : Int) := by rw [wrap_id (by omega) (by omega)]; omega
  obtain ⟨s, rest, ⟨g1, g2, g3, xs, g4⟩, hs⟩ := gen_ev (d + 1) (by omega) l0
  have hlen := Nat.le_trans g1 (bnd_le (d + 1) (by omega))
  have aq := ((g4 0 (by omega)).1).qq.aq
  generalize hx : tog 2 xs = x at aq
  have aq2 : AQ (40 :: s ++ [41]) x := by
    have := (BQ.paren aq).sq.qq.aq
    exact this
  have aq3 : AQ (txt x) x := ⟨(back aq.2.1).2.2, aq.2.1, Nat.le_refl _⟩
  have hx40 : (txt x).length ≤ s.length := aq.2.2
  have ht : tl x.f2 ≤ 2 * s.length + 1 := aq.1.1
  have e1 := exprOf_ev aq (by omega)
  have e2 := exprOf_ev aq2 (by simp; omega)
  have e3 := exprOf_ev aq3 (by omega)
  have ep : Ev (fun k => expr_Print.f k x.f0 x.f1 x.f2) (B (txt x), 0) := by
    unfold expr_Print.f
    exact Ev.bnd (check_ev aq.2.1 (by omega) (by omega)) (Ev.ite_pos rfl (Ev.bnd (text_ev aq.2.1 (by omega) (by omega)) (Ev.some _)))
  have esame := same_ev x (by omega)
  have p1 : (⟨#[40]⟩ : ByteArray) ++ B s = B (40 :: s) := B_app [40] s
  have p3 : B (40 :: s) ++ (⟨#[41]⟩ : ByteArray) = B (40 :: s ++ [41]) := B_app (40 :: s) [41]
  have main : Ev (fun k => bobbinetkeep_ExprBack.f k l0 a1) true := by
    unfold bobbinetkeep_ExprBack.f
    refine Ev.bnd0 h1 ?_
    rw [hwr]
    refine Ev.bnd hs (Ev.ite_neg ?_ (Ev.bnd e1 (Ev.ite_pos ?_ ?_)))
    · show ¬ wrap64 (((B s).size : Int) + 2) > 40
      rw [B_len, wrap_id (by omega) (by omega)]; omega
    · show 1 + (B s).size ≤ _
      rw [B_len]; omega
    · dsimp only
      rw [p1, p3, B_len]
      exact Ev.ite_pos (by simp; omega) (Ev.bnd e2 (Ev.bnd ep (Ev.bnd e3 (Ev.ite_pos rfl (Ev.ite_pos rfl (Ev.ite_pos rfl (Ev.ite_pos rfl (Ev.ite_pos (by dsimp only; rw [B_len, B_len]; omega) (Ev.bnd esame (Ev.ite_pos rfl (Ev.bnd esame (Ev.some _)))))))))))) 
  obtain ⟨K, hK⟩ := main
  exact ⟨K, hK K (Nat.le_refl _)⟩
end Go.Proofs.Ytjmhihadgpdiaaa.Pure
end
