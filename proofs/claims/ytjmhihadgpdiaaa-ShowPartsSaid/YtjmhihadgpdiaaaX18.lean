-- Written by xprint.py (a program of this repo) for seat Ytjmhihadgpdiaaa.
import Derived.Test.YtjmhihadgpdiaaaX0
import Derived.Test.YtjmhihadgpdiaaaX7
import Derived.Test.YtjmhihadgpdiaaaX13
import Derived.Test.YtjmhihadgpdiaaaX16
import Derived.Test.YtjmhihadgpdiaaaX17
namespace Go.Proofs.Ytjmhihadgpdiaaa.X
open Go.RowKit Go.Proofs.YtjmhihadgpdiaaaW.PrintWords Go.Proofs.YtjmhihadgpdiaaaW.PrintLast Go.Proofs.YtjmhihadgpdiaaaW.PrintMore
attribute [local go_sem] max2_int min2_int max_two min_two max_three min_three max_four min_four   -- for this text's walks alone
set_option linter.unusedVariables false
set_option linter.unusedSimpArgs false

/-! ### show_fault: function 33 -/
mutual
def show_fault.l0 : Nat → List (S53) → Int → List (S53) → Int → Int → Option (Int)
 | 0, _, _, _, _, _ => none
 | k + 1, x0, x1, x9, x10, x11 => if x11 < x10 then (if 0 ≤ x11 then (if x11 < (x9.length : Int) then (if x1 ≥ 10 then (some 6) else (if ((rd_T53 x9 x11).f0).toList = ([] : List UInt8) then (if (((rd_T53 x9 x11).f1).length : Int) > 0 then (some 4) else (if (((rd_T53 x9 x11).f3).length : Int) > 0 then (some 4) else (if ((rd_T53 x9 x11).f2).toList = ([] : List UInt8) then (some 4) else (if x11 > 0 then (if 0 ≤ (wrap64 (x11 - 1)) then (if (wrap64 (x11 - 1)) < (x0.length : Int) then (if ((rd_T53 x0 (wrap64 (x11 - 1))).f0).toList = ([] : List UInt8) then (some 4) else (show_fault.l0 k x0 x1 x9 x10 (wrap64 (x11 + 1)))) else (none)) else (none)) else (show_fault.l0 k x0 x1 x9 x10 (wrap64 (x11 + 1))))))) else ((emit_Name.f ((rd_T53 x9 x11).f0)).bind fun t189 => (if t189 = true then ((emit_Attrs.f k ((rd_T53 x9 x11).f1)).bind fun t190 => (if t190 = 0 then (if ((rd_T53 x9 x11).f2).toList = ([] : List UInt8) then ((show_Void.f k ((rd_T53 x9 x11).f0)).bind fun t191 => (if t191 = true then (if (((rd_T53 x9 x11).f3).length : Int) > 0 then (show_fault.j1 k x0 x1 x9 x10 x11 true ((rd_T53 x9 x11).f0) ((rd_T53 x9 x11).f1) ((rd_T53 x9 x11).f2) ((rd_T53 x9 x11).f3)) else ((show_shut.f k ((rd_T53 x9 x11).f0)).bind fun t192 => (show_fault.j1 k x0 x1 x9 x10 x11 t192 ((rd_T53 x9 x11).f0) ((rd_T53 x9 x11).f1) ((rd_T53 x9 x11).f2) ((rd_T53 x9 x11).f3)))) else ((show_shut.f k ((rd_T53 x9 x11).f0)).bind fun t193 => (show_fault.j1 k x0 x1 x9 x10 x11 t193 ((rd_T53 x9 x11).f0) ((rd_T53 x9 x11).f1) ((rd_T53 x9 x11).f2) ((rd_T53 x9 x11).f3))))) else (show_fault.j1 k x0 x1 x9 x10 x11 true ((rd_T53 x9 x11).f0) ((rd_T53 x9 x11).f1) ((rd_T53 x9 x11).f2) ((rd_T53 x9 x11).f3))) else (some t190))) else (some 5))))) else (none)) else (none)) else (some 0)
def show_fault.j1 : Nat → List (S53) → Int → List (S53) → Int → Int → Bool → ByteArray → List (S63) → ByteArray → List (S53) → Option (Int)
 | 0, _, _, _, _, _, _, _, _, _, _ => none
 | k + 1, x0, x1, x9, x10, x11, x77, x188000, x188001, x188002, x188003 => if x77 = true then (some 4) else ((show_fault.f k x188003 (wrap64 (x1 + 1))).bind fun t194 => (if t194 = 0 then (show_fault.l0 k x0 x1 x9 x10 (wrap64 (x11 + 1))) else (some t194)))
def show_fault.f : Nat → List (S53) → Int → Option (Int)
 | 0, _, _ => none
 | k + 1, l0, a1 => show_fault.l0 k l0 a1 l0 (l0.length : Int) 0
end
theorem show_fault.mono_l : ∀ k, (∀ y0 y1, LeO (show_fault.f k y0 y1) (show_fault.f (k + 1) y0 y1)) ∧ (∀ y0 y1 y2 y3 y4, LeO (show_fault.l0 k y0 y1 y2 y3 y4) (show_fault.l0 (k + 1) y0 y1 y2 y3 y4)) ∧ (∀ y0 y1 y2 y3 y4 y5 y6 y7 y8 y9, LeO (show_fault.j1 k y0 y1 y2 y3 y4 y5 y6 y7 y8 y9) (show_fault.j1 (k + 1) y0 y1 y2 y3 y4 y5 y6 y7 y8 y9))
 | 0 => ⟨fun _ _ r h => by simp [show_fault.f] at h, fun _ _ _ _ _ r h => by simp [show_fault.l0] at h, fun _ _ _ _ _ _ _ _ _ _ r h => by simp [show_fault.j1] at h⟩
 | k + 1 => by
  obtain ⟨ih0, ih1, ih2⟩ := show_fault.mono_l k
  refine ⟨?_, ?_, ?_⟩
  ·
   intro y0 y1
   unfold show_fault.f
   repeat' first
   | (with_reducible exact ih0 _ _)
   | (with_reducible exact ih1 _ _ _ _ _)
   | (with_reducible exact ih2 _ _ _ _ _ _ _ _ _ _)
   | (with_reducible exact emit_Attrs.mono _ _)
   | (with_reducible exact show_Void.mono _ _)
   | (with_reducible exact show_shut.mono _ _)
   | (with_reducible exact LeO.refl _)
   | (with_reducible exact LeO.none _)
   | (with_reducible refine LeO.ite ?_ ?_)
   | (with_reducible refine LeO.bind ?_ (fun _ => ?_))
   | exact ih0 _ _
   | exact ih1 _ _ _ _ _
   | exact ih2 _ _ _ _ _ _ _ _ _ _
   | exact emit_Attrs.mono _ _
   | exact show_Void.mono _ _
   | exact show_shut.mono _ _
   | exact LeO.none _
   | refine LeO.ite ?_ ?_
   | refine LeO.bind ?_ (fun _ => ?_)
  ·
   intro y0 y1 y2 y3 y4
   unfold show_fault.l0
   repeat' first
   | (with_reducible exact ih0 _ _)
   | (with_reducible exact ih1 _ _ _ _ _)
   | (with_reducible exact ih2 _ _ _ _ _ _ _ _ _ _)
   | (with_reducible exact emit_Attrs.mono _ _)
   | (with_reducible exact show_Void.mono _ _)
   | (with_reducible exact show_shut.mono _ _)
   | (with_reducible exact LeO.refl _)
   | (with_reducible exact LeO.none _)
   | (with_reducible refine LeO.ite ?_ ?_)
   | (with_reducible refine LeO.bind ?_ (fun _ => ?_))
   | exact ih0 _ _
   | exact ih1 _ _ _ _ _
   | exact ih2 _ _ _ _ _ _ _ _ _ _
   | exact emit_Attrs.mono _ _
   | exact show_Void.mono _ _
   | exact show_shut.mono _ _
   | exact LeO.none _
   | refine LeO.ite ?_ ?_
   | refine LeO.bind ?_ (fun _ => ?_)
  ·
   intro y0 y1 y2 y3 y4 y5 y6 y7 y8 y9
   unfold show_fault.j1
   repeat' first
   | (with_reducible exact ih0 _ _)
   | (with_reducible exact ih1 _ _ _ _ _)
   | (with_reducible exact ih2 _ _ _ _ _ _ _ _ _ _)
   | (with_reducible exact emit_Attrs.mono _ _)
   | (with_reducible exact show_Void.mono _ _)
   | (with_reducible exact show_shut.mono _ _)
   | (with_reducible exact LeO.refl _)
   | (with_reducible exact LeO.none _)
   | (with_reducible refine LeO.ite ?_ ?_)
   | (with_reducible refine LeO.bind ?_ (fun _ => ?_))
   | exact ih0 _ _
   | exact ih1 _ _ _ _ _
   | exact ih2 _ _ _ _ _ _ _ _ _ _
   | exact emit_Attrs.mono _ _
   | exact show_Void.mono _ _
   | exact show_shut.mono _ _
   | exact LeO.none _
   | refine LeO.ite ?_ ?_
   | refine LeO.bind ?_ (fun _ => ?_)
theorem show_fault.mono : ∀ a0 a1 k, LeO (show_fault.f k a0 a1) (show_fault.f (k + 1) a0 a1) := by
 intro a0 a1 k
 obtain ⟨ih0, ih1, ih2⟩ := show_fault.mono_l k
 exact ih0 a0 a1
set_option maxHeartbeats 8000000 in
set_option maxRecDepth 100000 in
theorem show_fault.calls (k : Nat) : ∀ (A0 : Option Addr) (c0 : Nat) (l0 : List (S53)) (a1 : Int) (r : Int) (w : World) (hr0 : Kd.C k53 w A0 l0.length l0) (hc0 : l0.length ≤ c0) (h : show_fault.f k l0 a1 = some r),
  Calls Try.prog 33 #[.slice A0 l0.length c0, .int .i64 a1] w fun e w' => e = .returned (.int .i64 r) ∧ Below w.heap.size w w' := by
 induction k using Nat.strongRecOn with
 | _ k ih =>
 intro A0 c0 l0 a1 r w hr0 hc0 h
 cases k with
 | zero => exact absurd h (by simp [show_fault.f])
 | succ k =>
 simp only [show_fault.f] at h
 have hu53 := Try.underlying53
 have HR0 := Aside0.mk hr0
 have HC0 := Aside0.mk hc0
 clear hr0 hc0
 have HB := Aside0.mk (Below.refl w.heap.size w)
 have H : (show_fault.l0 k l0 a1 l0 (l0.length : Int) 0) = some r := h
 clear h
 have H' := Aside0.mk H
 clear H
 go_enter Try.func33, Try.ntmps33
 go_wp2
 go_loopg [11] k (fun kq v11 w' => ∃ (x11_1 : Int), v11 = .int .i64 x11_1 ∧ Aside0 (show_fault.l0 kq l0 a1 l0 (l0.length : Int) x11_1 = some r) ∧ Aside0 (kq ≤ k) ∧ Aside0 (Below w.heap.size w w'))
 case atStart => exact ⟨(0), (by first | rfl | (simp; done) | (simp [*]; done) | (simp [bne]; done)), H', ⟨Nat.le_refl _⟩, ⟨by repeat (first | (with_reducible first | exact HB.out | apply below_alloc | apply pw_below_drewN | apply below_drew1) | exact HB.out)⟩⟩
 case round =>
  clear H'
  try clear p2
  obtain ⟨x11_1, rfl, HA, HK1, HB⟩ := hrel
  cases gk with
  | zero => exact absurd HA.out (by simp [show_fault.l0])
  | succ k1 =>
   have H := HA.out
   clear HA
   simp only [show_fault.l0] at H
   by_cases c3 : x11_1 < (l0.length : Int)
   ·
    rw [if_pos c3] at H
    have c3b0 : decide (x11_1 < (l0.length : Int)) = true := decide_eq_true c3
    clear c3
    by_cases c4 : 0 ≤ x11_1
    ·
     rw [if_pos c4] at H
     have c4b0 : decide (0 ≤ x11_1) = true := decide_eq_true c4
     clear c4
     by_cases c5 : x11_1 < (l0.length : Int)
     ·
      rw [if_pos c5] at H
      have c5b0 : decide (x11_1 < (l0.length : Int)) = true := decide_eq_true c5
      clear c5
      by_cases c6 : a1 ≥ 10
      ·
       rw [if_pos c6] at H
       have c6b0 : decide (10 ≤ a1) = true := decide_eq_true c6
       clear c6
       obtain rfl := Option.some.inj H
       have p186 : 0 ≤ (x11_1 : Int) := of_decide_eq_true (by first | (with_reducible assumption) | assumption)
       have q186 : x11_1 < (l0.length : Int) := of_decide_eq_true (by first | (with_reducible assumption) | assumption)
       obtain ⟨ad186, A186_1, c186_1, A186_3, c186_3, e186, hx186_0, hx186_1, hx186_2, hx186_3, hl186_1, hi186_1, hl186_3, hi186_3⟩ := at_T53 HR0.out x11_1 p186 q186
       cases e186
       replace hx186_0 := (HB.out.cell (World.block_lt_of_cell? w _ hx186_0)).trans hx186_0
       replace hx186_1 := (HB.out.cell (World.block_lt_of_cell? w _ hx186_1)).trans hx186_1
       replace hx186_2 := (HB.out.cell (World.block_lt_of_cell? w _ hx186_2)).trans hx186_2
       replace hx186_3 := (HB.out.cell (World.block_lt_of_cell? w _ hx186_3)).trans hx186_3
       have HR186_1 := Aside0.mk hi186_1
       have HC186_1 := Aside0.mk hl186_1
       clear hi186_1 hl186_1
       have HR186_3 := Aside0.mk hi186_3
       have HC186_3 := Aside0.mk hl186_3
       clear hi186_3 hl186_3
       replace p186 := eq_true p186
       replace q186 := eq_true q186
       go_wp2_with (first | ((with_reducible refine gate_dst (N := 6) rfl ?_); (try (refine gate_guard (by rfl) ?_; dsimp only)); refine box_event ?hg (N := 6) ?hd (cs := #[.string (⟨#[]⟩ : ByteArray), .slice none 0 0, .string (⟨#[]⟩ : ByteArray), .slice none 0 0]) (t := 53) ?hr ?_; (case hd => rfl); (case hg => rfl); (case hr => first | (go_simp; done) | (go_simp; rfl)); intro gb187 hg w7 hbox hb; have n0_ := Aside0.mk (below_step (by repeat (first | (with_reducible first | exact HB.out | apply below_alloc | apply pw_below_drewN | apply below_drew1) | exact HB.out)) hb); have n1_ := Aside0.mk (hbox); have n2_ := Aside0.mk ((by rw [hg]; exact (below_size (by repeat (first | (with_reducible first | exact HB.out | apply below_alloc | apply pw_below_drewN | apply below_drew1) | exact HB.out))) : w.heap.size ≤ gb187)); have n3_ := Aside0.mk ((by rw [hg]; exact (below_size (by repeat (first | (with_reducible first | exact HB.out | apply below_alloc | apply pw_below_drewN | apply below_drew1) | exact HB.out))) : w.heap.size ≤ gb187)); clear HB; have HB := n0_; have BK187 := n1_; have GW187 := n2_; have GE187 := n3_; clear n0_ n1_ n2_ n3_; clear hb hbox hg; have hcz8_0 : w7.cell? ⟨gb187, 0, none⟩ = some (.string (⟨#[]⟩ : ByteArray)) := (blk_cell BK187.out 0).trans rfl; have hcz8_1 : w7.cell? ⟨gb187, 1, none⟩ = some (.slice none 0 0) := (blk_cell BK187.out 1).trans rfl; have hcz8_2 : w7.cell? ⟨gb187, 2, none⟩ = some (.string (⟨#[]⟩ : ByteArray)) := (blk_cell BK187.out 2).trans rfl; have hcz8_3 : w7.cell? ⟨gb187, 3, none⟩ = some (.slice none 0 0) := (blk_cell BK187.out 3).trans rfl; have hfz8_0 := blk_frozen BK187.out 0; have hfz8_1 := blk_frozen BK187.out 1; have hfz8_2 := blk_frozen BK187.out 2; have hfz8_3 := blk_frozen BK187.out 3))
       go_ret
       exact ⟨by first | rfl | (simp [errW_none, errW_some] <;> rfl) | (simp [*, errW_none, errW_some] <;> rfl), by repeat (first | (with_reducible first | exact HB.out | apply below_alloc | apply pw_below_drewN | apply below_drew1 | refine below_set ?_ GE187.out) | exact HB.out)⟩
      ·
       rw [if_neg c6] at H
       have c6b0 : decide (10 ≤ a1) = false := decide_eq_false c6
       clear c6
       by_cases c9 : ((rd_T53 l0 x11_1).f0).toList = ([] : List UInt8)
       ·
        rw [if_pos c9] at H
        have c9b0 : (((rd_T53 l0 x11_1).f0).toList == ([] : List UInt8)) = true := beq_iff_eq.mpr c9
        have c9b1 : (((rd_T53 l0 x11_1).f0).toList != ([] : List UInt8)) = false := bne_eq_false_iff_eq.mpr c9
        clear c9
        by_cases c10 : (((rd_T53 l0 x11_1).f1).length : Int) > 0
        ·
         rw [if_pos c10] at H
         have c10b0 : decide (0 < (((rd_T53 l0 x11_1).f1).length : Int)) = true := decide_eq_true c10
         have c10b1 : decide (0 < ((rd_T53 l0 x11_1).f1).length) = true := decide_eq_true (by omega)
         clear c10
         obtain rfl := Option.some.inj H
         have p186 : 0 ≤ (x11_1 : Int) := of_decide_eq_true (by first | (with_reducible assumption) | assumption)
         have q186 : x11_1 < (l0.length : Int) := of_decide_eq_true (by first | (with_reducible assumption) | assumption)
         obtain ⟨ad186, A186_1, c186_1, A186_3, c186_3, e186, hx186_0, hx186_1, hx186_2, hx186_3, hl186_1, hi186_1, hl186_3, hi186_3⟩ := at_T53 HR0.out x11_1 p186 q186
         cases e186
         replace hx186_0 := (HB.out.cell (World.block_lt_of_cell? w _ hx186_0)).trans hx186_0
         replace hx186_1 := (HB.out.cell (World.block_lt_of_cell? w _ hx186_1)).trans hx186_1
         replace hx186_2 := (HB.out.cell (World.block_lt_of_cell? w _ hx186_2)).trans hx186_2
         replace hx186_3 := (HB.out.cell (World.block_lt_of_cell? w _ hx186_3)).trans hx186_3
         have HR186_1 := Aside0.mk hi186_1
         have HC186_1 := Aside0.mk hl186_1
         clear hi186_1 hl186_1
         have HR186_3 := Aside0.mk hi186_3
         have HC186_3 := Aside0.mk hl186_3
         clear hi186_3 hl186_3
         replace p186 := eq_true p186
         replace q186 := eq_true q186
         go_wp2_with (first | ((with_reducible refine gate_dst (N := 6) rfl ?_); (try (refine gate_guard (by rfl) ?_; dsimp only)); refine box_event ?hg (N := 6) ?hd (cs := #[.string (⟨#[]⟩ : ByteArray), .slice none 0 0, .string (⟨#[]⟩ : ByteArray), .slice none 0 0]) (t := 53) ?hr ?_; (case hd => rfl); (case hg => rfl); (case hr => first | (go_simp; done) | (go_simp; rfl)); intro gb187 hg w11 hbox hb; have n0_ := Aside0.mk (below_step (by repeat (first | (with_reducible first | exact HB.out | apply below_alloc | apply pw_below_drewN | apply below_drew1) | exact HB.out)) hb); have n1_ := Aside0.mk (hbox); have n2_ := Aside0.mk ((by rw [hg]; exact (below_size (by repeat (first | (with_reducible first | exact HB.out | apply below_alloc | apply pw_below_drewN | apply below_drew1) | exact HB.out))) : w.heap.size ≤ gb187)); have n3_ := Aside0.mk ((by rw [hg]; exact (below_size (by repeat (first | (with_reducible first | exact HB.out | apply below_alloc | apply pw_below_drewN | apply below_drew1) | exact HB.out))) : w.heap.size ≤ gb187)); clear HB; have HB := n0_; have BK187 := n1_; have GW187 := n2_; have GE187 := n3_; clear n0_ n1_ n2_ n3_; clear hb hbox hg; have hcz12_0 : w11.cell? ⟨gb187, 0, none⟩ = some (.string (⟨#[]⟩ : ByteArray)) := (blk_cell BK187.out 0).trans rfl; have hcz12_1 : w11.cell? ⟨gb187, 1, none⟩ = some (.slice none 0 0) := (blk_cell BK187.out 1).trans rfl; have hcz12_2 : w11.cell? ⟨gb187, 2, none⟩ = some (.string (⟨#[]⟩ : ByteArray)) := (blk_cell BK187.out 2).trans rfl; have hcz12_3 : w11.cell? ⟨gb187, 3, none⟩ = some (.slice none 0 0) := (blk_cell BK187.out 3).trans rfl; have hfz12_0 := blk_frozen BK187.out 0; have hfz12_1 := blk_frozen BK187.out 1; have hfz12_2 := blk_frozen BK187.out 2; have hfz12_3 := blk_frozen BK187.out 3))
         go_ret
         exact ⟨by first | rfl | (simp [errW_none, errW_some] <;> rfl) | (simp [*, errW_none, errW_some] <;> rfl), by repeat (first | (with_reducible first | exact HB.out | apply below_alloc | apply pw_below_drewN | apply below_drew1 | refine below_set ?_ GE187.out) | exact HB.out)⟩
        ·
         rw [if_neg c10] at H
         have c10b0 : decide (0 < (((rd_T53 l0 x11_1).f1).length : Int)) = false := decide_eq_false c10
         have c10b1 : decide (0 < ((rd_T53 l0 x11_1).f1).length) = false := decide_eq_false (by omega)
         clear c10
         by_cases c13 : (((rd_T53 l0 x11_1).f3).length : Int) > 0
         ·
          rw [if_pos c13] at H
          have c13b0 : decide (0 < (((rd_T53 l0 x11_1).f3).length : Int)) = true := decide_eq_true c13
          have c13b1 : decide (0 < ((rd_T53 l0 x11_1).f3).length) = true := decide_eq_true (by omega)
          clear c13
          obtain rfl := Option.some.inj H
          have p186 : 0 ≤ (x11_1 : Int) := of_decide_eq_true (by first | (with_reducible assumption) | assumption)
          have q186 : x11_1 < (l0.length : Int) := of_decide_eq_true (by first | (with_reducible assumption) | assumption)
          obtain ⟨ad186, A186_1, c186_1, A186_3, c186_3, e186, hx186_0, hx186_1, hx186_2, hx186_3, hl186_1, hi186_1, hl186_3, hi186_3⟩ := at_T53 HR0.out x11_1 p186 q186
          cases e186
          replace hx186_0 := (HB.out.cell (World.block_lt_of_cell? w _ hx186_0)).trans hx186_0
          replace hx186_1 := (HB.out.cell (World.block_lt_of_cell? w _ hx186_1)).trans hx186_1
          replace hx186_2 := (HB.out.cell (World.block_lt_of_cell? w _ hx186_2)).trans hx186_2
          replace hx186_3 := (HB.out.cell (World.block_lt_of_cell? w _ hx186_3)).trans hx186_3
          have HR186_1 := Aside0.mk hi186_1
          have HC186_1 := Aside0.mk hl186_1
          clear hi186_1 hl186_1
          have HR186_3 := Aside0.mk hi186_3
          have HC186_3 := Aside0.mk hl186_3
          clear hi186_3 hl186_3
          replace p186 := eq_true p186
          replace q186 := eq_true q186
          go_wp2_with (first | ((with_reducible refine gate_dst (N := 6) rfl ?_); (try (refine gate_guard (by rfl) ?_; dsimp only)); refine box_event ?hg (N := 6) ?hd (cs := #[.string (⟨#[]⟩ : ByteArray), .slice none 0 0, .string (⟨#[]⟩ : ByteArray), .slice none 0 0]) (t := 53) ?hr ?_; (case hd => rfl); (case hg => rfl); (case hr => first | (go_simp; done) | (go_simp; rfl)); intro gb187 hg w14 hbox hb; have n0_ := Aside0.mk (below_step (by repeat (first | (with_reducible first | exact HB.out | apply below_alloc | apply pw_below_drewN | apply below_drew1) | exact HB.out)) hb); have n1_ := Aside0.mk (hbox); have n2_ := Aside0.mk ((by rw [hg]; exact (below_size (by repeat (first | (with_reducible first | exact HB.out | apply below_alloc | apply pw_below_drewN | apply below_drew1) | exact HB.out))) : w.heap.size ≤ gb187)); have n3_ := Aside0.mk ((by rw [hg]; exact (below_size (by repeat (first | (with_reducible first | exact HB.out | apply below_alloc | apply pw_below_drewN | apply below_drew1) | exact HB.out))) : w.heap.size ≤ gb187)); clear HB; have HB := n0_; have BK187 := n1_; have GW187 := n2_; have GE187 := n3_; clear n0_ n1_ n2_ n3_; clear hb hbox hg; have hcz15_0 : w14.cell? ⟨gb187, 0, none⟩ = some (.string (⟨#[]⟩ : ByteArray)) := (blk_cell BK187.out 0).trans rfl; have hcz15_1 : w14.cell? ⟨gb187, 1, none⟩ = some (.slice none 0 0) := (blk_cell BK187.out 1).trans rfl; have hcz15_2 : w14.cell? ⟨gb187, 2, none⟩ = some (.string (⟨#[]⟩ : ByteArray)) := (blk_cell BK187.out 2).trans rfl; have hcz15_3 : w14.cell? ⟨gb187, 3, none⟩ = some (.slice none 0 0) := (blk_cell BK187.out 3).trans rfl; have hfz15_0 := blk_frozen BK187.out 0; have hfz15_1 := blk_frozen BK187.out 1; have hfz15_2 := blk_frozen BK187.out 2; have hfz15_3 := blk_frozen BK187.out 3))
          go_ret
          exact ⟨by first | rfl | (simp [errW_none, errW_some] <;> rfl) | (simp [*, errW_none, errW_some] <;> rfl), by repeat (first | (with_reducible first | exact HB.out | apply below_alloc | apply pw_below_drewN | apply below_drew1 | refine below_set ?_ GE187.out) | exact HB.out)⟩
         ·
          rw [if_neg c13] at H
          have c13b0 : decide (0 < (((rd_T53 l0 x11_1).f3).length : Int)) = false := decide_eq_false c13
          have c13b1 : decide (0 < ((rd_T53 l0 x11_1).f3).length) = false := decide_eq_false (by omega)
          clear c13
          by_cases c16 : ((rd_T53 l0 x11_1).f2).toList = ([] : List UInt8)
          ·
           rw [if_pos c16] at H
           have c16b0 : (((rd_T53 l0 x11_1).f2).toList == ([] : List UInt8)) = true := beq_iff_eq.mpr c16
           have c16b1 : (((rd_T53 l0 x11_1).f2).toList != ([] : List UInt8)) = false := bne_eq_false_iff_eq.mpr c16
           clear c16
           obtain rfl := Option.some.inj H
           have p186 : 0 ≤ (x11_1 : Int) := of_decide_eq_true (by first | (with_reducible assumption) | assumption)
           have q186 : x11_1 < (l0.length : Int) := of_decide_eq_true (by first | (with_reducible assumption) | assumption)
           obtain ⟨ad186, A186_1, c186_1, A186_3, c186_3, e186, hx186_0, hx186_1, hx186_2, hx186_3, hl186_1, hi186_1, hl186_3, hi186_3⟩ := at_T53 HR0.out x11_1 p186 q186
           cases e186
           replace hx186_0 := (HB.out.cell (World.block_lt_of_cell? w _ hx186_0)).trans hx186_0
           replace hx186_1 := (HB.out.cell (World.block_lt_of_cell? w _ hx186_1)).trans hx186_1
           replace hx186_2 := (HB.out.cell (World.block_lt_of_cell? w _ hx186_2)).trans hx186_2
           replace hx186_3 := (HB.out.cell (World.block_lt_of_cell? w _ hx186_3)).trans hx186_3
           have HR186_1 := Aside0.mk hi186_1
           have HC186_1 := Aside0.mk hl186_1
           clear hi186_1 hl186_1
           have HR186_3 := Aside0.mk hi186_3
           have HC186_3 := Aside0.mk hl186_3
           clear hi186_3 hl186_3
           replace p186 := eq_true p186
           replace q186 := eq_true q186
           go_wp2_with (first | ((with_reducible refine gate_dst (N := 6) rfl ?_); (try (refine gate_guard (by rfl) ?_; dsimp only)); refine box_event ?hg (N := 6) ?hd (cs := #[.string (⟨#[]⟩ : ByteArray), .slice none 0 0, .string (⟨#[]⟩ : ByteArray), .slice none 0 0]) (t := 53) ?hr ?_; (case hd => rfl); (case hg => rfl); (case hr => first | (go_simp; done) | (go_simp; rfl)); intro gb187 hg w17 hbox hb; have n0_ := Aside0.mk (below_step (by repeat (first | (with_reducible first | exact HB.out | apply below_alloc | apply pw_below_drewN | apply below_drew1) | exact HB.out)) hb); have n1_ := Aside0.mk (hbox); have n2_ := Aside0.mk ((by rw [hg]; exact (below_size (by repeat (first | (with_reducible first | exact HB.out | apply below_alloc | apply pw_below_drewN | apply below_drew1) | exact HB.out))) : w.heap.size ≤ gb187)); have n3_ := Aside0.mk ((by rw [hg]; exact (below_size (by repeat (first | (with_reducible first | exact HB.out | apply below_alloc | apply pw_below_drewN | apply below_drew1) | exact HB.out))) : w.heap.size ≤ gb187)); clear HB; have HB := n0_; have BK187 := n1_; have GW187 := n2_; have GE187 := n3_; clear n0_ n1_ n2_ n3_; clear hb hbox hg; have hcz18_0 : w17.cell? ⟨gb187, 0, none⟩ = some (.string (⟨#[]⟩ : ByteArray)) := (blk_cell BK187.out 0).trans rfl; have hcz18_1 : w17.cell? ⟨gb187, 1, none⟩ = some (.slice none 0 0) := (blk_cell BK187.out 1).trans rfl; have hcz18_2 : w17.cell? ⟨gb187, 2, none⟩ = some (.string (⟨#[]⟩ : ByteArray)) := (blk_cell BK187.out 2).trans rfl; have hcz18_3 : w17.cell? ⟨gb187, 3, none⟩ = some (.slice none 0 0) := (blk_cell BK187.out 3).trans rfl; have hfz18_0 := blk_frozen BK187.out 0; have hfz18_1 := blk_frozen BK187.out 1; have hfz18_2 := blk_frozen BK187.out 2; have hfz18_3 := blk_frozen BK187.out 3))
           go_ret
           exact ⟨by first | rfl | (simp [errW_none, errW_some] <;> rfl) | (simp [*, errW_none, errW_some] <;> rfl), by repeat (first | (with_reducible first | exact HB.out | apply below_alloc | apply pw_below_drewN | apply below_drew1 | refine below_set ?_ GE187.out) | exact HB.out)⟩
          ·
           rw [if_neg c16] at H
           have c16b0 : (((rd_T53 l0 x11_1).f2).toList == ([] : List UInt8)) = false := beq_eq_false_iff_ne.mpr c16
           have c16b1 : (((rd_T53 l0 x11_1).f2).toList != ([] : List UInt8)) = true := bne_iff_ne.mpr c16
           by_cases c19 : x11_1 > 0
           ·
            rw [if_pos c19] at H
            have c19b0 : decide (0 < x11_1) = true := decide_eq_true c19
            clear c19
            obtain ⟨ji20, hji20⟩ : ∃ j_ : Int, (wrap64 (x11_1 - 1)) = j_ := ⟨_, rfl⟩
            replace H : (if 0 ≤ (ji20) then (if (ji20) < (l0.length : Int) then (if ((rd_T53 l0 (ji20)).f0).toList = ([] : List UInt8) then (some 4) else (show_fault.l0 k1 l0 a1 l0 (l0.length : Int) (wrap64 (x11_1 + 1)))) else (none)) else (none)) = some r := by first | (rw [hji20] at H; exact H) | (simp only [hji20] at H ⊢; exact H)
            have hji20w : (IntKind.i64.wrap (x11_1 - 1)) = ji20 := (i64_w _).trans hji20
            by_cases c21 : 0 ≤ (ji20)
            ·
             rw [if_pos c21] at H
             have c21b0 : decide (0 ≤ (ji20)) = true := decide_eq_true c21
             clear c21
             by_cases c22 : (ji20) < (l0.length : Int)
             ·
              rw [if_pos c22] at H
              have c22b0 : decide ((ji20) < (l0.length : Int)) = true := decide_eq_true c22
              clear c22
              by_cases c23 : ((rd_T53 l0 (ji20)).f0).toList = ([] : List UInt8)
              ·
               rw [if_pos c23] at H
               have c23b0 : (((rd_T53 l0 (ji20)).f0).toList == ([] : List UInt8)) = true := beq_iff_eq.mpr c23
               have c23b1 : (((rd_T53 l0 (ji20)).f0).toList != ([] : List UInt8)) = false := bne_eq_false_iff_eq.mpr c23
               clear c23
               obtain rfl := Option.some.inj H
               have p186 : 0 ≤ (x11_1 : Int) := of_decide_eq_true (by first | (with_reducible assumption) | assumption)
               have q186 : x11_1 < (l0.length : Int) := of_decide_eq_true (by first | (with_reducible assumption) | assumption)
               obtain ⟨ad186, A186_1, c186_1, A186_3, c186_3, e186, hx186_0, hx186_1, hx186_2, hx186_3, hl186_1, hi186_1, hl186_3, hi186_3⟩ := at_T53 HR0.out x11_1 p186 q186
               cases e186
               replace hx186_0 := (HB.out.cell (World.block_lt_of_cell? w _ hx186_0)).trans hx186_0
               replace hx186_1 := (HB.out.cell (World.block_lt_of_cell? w _ hx186_1)).trans hx186_1
               replace hx186_2 := (HB.out.cell (World.block_lt_of_cell? w _ hx186_2)).trans hx186_2
               replace hx186_3 := (HB.out.cell (World.block_lt_of_cell? w _ hx186_3)).trans hx186_3
               have HR186_1 := Aside0.mk hi186_1
               have HC186_1 := Aside0.mk hl186_1
               clear hi186_1 hl186_1
               have HR186_3 := Aside0.mk hi186_3
               have HC186_3 := Aside0.mk hl186_3
               clear hi186_3 hl186_3
               replace p186 := eq_true p186
               replace q186 := eq_true q186
               go_wp2_with (first | ((with_reducible refine gate_dst (N := 6) rfl ?_); (try (refine gate_guard (by rfl) ?_; dsimp only)); refine box_event ?hg (N := 6) ?hd (cs := #[.string (⟨#[]⟩ : ByteArray), .slice none 0 0, .string (⟨#[]⟩ : ByteArray), .slice none 0 0]) (t := 53) ?hr ?_; (case hd => rfl); (case hg => rfl); (case hr => first | (go_simp; done) | (go_simp; rfl)); intro gb187 hg w24 hbox hb; have n0_ := Aside0.mk (below_step (by repeat (first | (with_reducible first | exact HB.out | apply below_alloc | apply pw_below_drewN | apply below_drew1) | exact HB.out)) hb); have n1_ := Aside0.mk (hbox); have n2_ := Aside0.mk ((by rw [hg]; exact (below_size (by repeat (first | (with_reducible first | exact HB.out | apply below_alloc | apply pw_below_drewN | apply below_drew1) | exact HB.out))) : w.heap.size ≤ gb187)); have n3_ := Aside0.mk ((by rw [hg]; exact (below_size (by repeat (first | (with_reducible first | exact HB.out | apply below_alloc | apply pw_below_drewN | apply below_drew1) | exact HB.out))) : w.heap.size ≤ gb187)); clear HB; have HB := n0_; have BK187 := n1_; have GW187 := n2_; have GE187 := n3_; clear n0_ n1_ n2_ n3_; clear hb hbox hg; have hcz25_0 : w24.cell? ⟨gb187, 0, none⟩ = some (.string (⟨#[]⟩ : ByteArray)) := (blk_cell BK187.out 0).trans rfl; have hcz25_1 : w24.cell? ⟨gb187, 1, none⟩ = some (.slice none 0 0) := (blk_cell BK187.out 1).trans rfl; have hcz25_2 : w24.cell? ⟨gb187, 2, none⟩ = some (.string (⟨#[]⟩ : ByteArray)) := (blk_cell BK187.out 2).trans rfl; have hcz25_3 : w24.cell? ⟨gb187, 3, none⟩ = some (.slice none 0 0) := (blk_cell BK187.out 3).trans rfl; have hfz25_0 := blk_frozen BK187.out 0; have hfz25_1 := blk_frozen BK187.out 1; have hfz25_2 := blk_frozen BK187.out 2; have hfz25_3 := blk_frozen BK187.out 3; have p188 : 0 ≤ ((ji20) : Int) := of_decide_eq_true (by first | (with_reducible assumption) | assumption); have q188 : (ji20) < (l0.length : Int) := of_decide_eq_true (by first | (with_reducible assumption) | assumption); obtain ⟨ad188, A188_1, c188_1, A188_3, c188_3, e188, hx188_0, hx188_1, hx188_2, hx188_3, hl188_1, hi188_1, hl188_3, hi188_3⟩ := at_T53 HR0.out (ji20) p188 q188; obtain rfl : ad186 = ad188 := (by injection e188); have hn188_0 : ad186.block ≠ gb187 := Nat.ne_of_lt (Nat.lt_of_lt_of_le (by have := World.block_lt_of_cell? _ _ hx188_0; first | rwa [add_block] at this | exact this) GW187.out); have hn188_1 : ad186.block ≠ gb187 := Nat.ne_of_lt (Nat.lt_of_lt_of_le (by have := World.block_lt_of_cell? _ _ hx188_0; first | rwa [add_block] at this | exact this) GW187.out); have hn188_2 : ad186.block ≠ gb187 := Nat.ne_of_lt (Nat.lt_of_lt_of_le (by have := World.block_lt_of_cell? _ _ hx188_0; first | rwa [add_block] at this | exact this) GW187.out); have hn188_3 : ad186.block ≠ gb187 := Nat.ne_of_lt (Nat.lt_of_lt_of_le (by have := World.block_lt_of_cell? _ _ hx188_0; first | rwa [add_block] at this | exact this) GW187.out); replace hx188_0 := (HB.out.cell (World.block_lt_of_cell? w _ hx188_0)).trans hx188_0; replace hx188_1 := (HB.out.cell (World.block_lt_of_cell? w _ hx188_1)).trans hx188_1; replace hx188_2 := (HB.out.cell (World.block_lt_of_cell? w _ hx188_2)).trans hx188_2; replace hx188_3 := (HB.out.cell (World.block_lt_of_cell? w _ hx188_3)).trans hx188_3; have HR188_1 := Aside0.mk hi188_1; have HC188_1 := Aside0.mk hl188_1; clear hi188_1 hl188_1; have HR188_3 := Aside0.mk hi188_3; have HC188_3 := Aside0.mk hl188_3; clear hi188_3 hl188_3; replace hx188_0 := (cell_far (p := ⟨gb187, 0, none⟩) (by first | (rw [add_block]; exact hn188_0) | (show (Addr.add _ _).block ≠ _; rw [add_block]; exact hn188_0) | exact hn188_0) (.string ((rd_T53 l0 x11_1).f0))).trans hx188_0; replace hx188_1 := (cell_far (p := ⟨gb187, 0, none⟩) (by first | (rw [add_block]; exact hn188_0) | (show (Addr.add _ _).block ≠ _; rw [add_block]; exact hn188_0) | exact hn188_0) (.string ((rd_T53 l0 x11_1).f0))).trans hx188_1; replace hx188_2 := (cell_far (p := ⟨gb187, 0, none⟩) (by first | (rw [add_block]; exact hn188_0) | (show (Addr.add _ _).block ≠ _; rw [add_block]; exact hn188_0) | exact hn188_0) (.string ((rd_T53 l0 x11_1).f0))).trans hx188_2; replace hx188_3 := (cell_far (p := ⟨gb187, 0, none⟩) (by first | (rw [add_block]; exact hn188_0) | (show (Addr.add _ _).block ≠ _; rw [add_block]; exact hn188_0) | exact hn188_0) (.string ((rd_T53 l0 x11_1).f0))).trans hx188_3; replace hx188_0 := (cell_far (p := ⟨gb187, 1, none⟩) (by first | (rw [add_block]; exact hn188_1) | (show (Addr.add _ _).block ≠ _; rw [add_block]; exact hn188_1) | exact hn188_1) (.slice A186_1 ((rd_T53 l0 x11_1).f1).length c186_1)).trans hx188_0; replace hx188_1 := (cell_far (p := ⟨gb187, 1, none⟩) (by first | (rw [add_block]; exact hn188_1) | (show (Addr.add _ _).block ≠ _; rw [add_block]; exact hn188_1) | exact hn188_1) (.slice A186_1 ((rd_T53 l0 x11_1).f1).length c186_1)).trans hx188_1; replace hx188_2 := (cell_far (p := ⟨gb187, 1, none⟩) (by first | (rw [add_block]; exact hn188_1) | (show (Addr.add _ _).block ≠ _; rw [add_block]; exact hn188_1) | exact hn188_1) (.slice A186_1 ((rd_T53 l0 x11_1).f1).length c186_1)).trans hx188_2; replace hx188_3 := (cell_far (p := ⟨gb187, 1, none⟩) (by first | (rw [add_block]; exact hn188_1) | (show (Addr.add _ _).block ≠ _; rw [add_block]; exact hn188_1) | exact hn188_1) (.slice A186_1 ((rd_T53 l0 x11_1).f1).length c186_1)).trans hx188_3; replace hx188_0 := (cell_far (p := ⟨gb187, 2, none⟩) (by first | (rw [add_block]; exact hn188_2) | (show (Addr.add _ _).block ≠ _; rw [add_block]; exact hn188_2) | exact hn188_2) (.string ((rd_T53 l0 x11_1).f2))).trans hx188_0; replace hx188_1 := (cell_far (p := ⟨gb187, 2, none⟩) (by first | (rw [add_block]; exact hn188_2) | (show (Addr.add _ _).block ≠ _; rw [add_block]; exact hn188_2) | exact hn188_2) (.string ((rd_T53 l0 x11_1).f2))).trans hx188_1; replace hx188_2 := (cell_far (p := ⟨gb187, 2, none⟩) (by first | (rw [add_block]; exact hn188_2) | (show (Addr.add _ _).block ≠ _; rw [add_block]; exact hn188_2) | exact hn188_2) (.string ((rd_T53 l0 x11_1).f2))).trans hx188_2; replace hx188_3 := (cell_far (p := ⟨gb187, 2, none⟩) (by first | (rw [add_block]; exact hn188_2) | (show (Addr.add _ _).block ≠ _; rw [add_block]; exact hn188_2) | exact hn188_2) (.string ((rd_T53 l0 x11_1).f2))).trans hx188_3; replace hx188_0 := (cell_far (p := ⟨gb187, 3, none⟩) (by first | (rw [add_block]; exact hn188_3) | (show (Addr.add _ _).block ≠ _; rw [add_block]; exact hn188_3) | exact hn188_3) (.slice A186_3 ((rd_T53 l0 x11_1).f3).length c186_3)).trans hx188_0; replace hx188_1 := (cell_far (p := ⟨gb187, 3, none⟩) (by first | (rw [add_block]; exact hn188_3) | (show (Addr.add _ _).block ≠ _; rw [add_block]; exact hn188_3) | exact hn188_3) (.slice A186_3 ((rd_T53 l0 x11_1).f3).length c186_3)).trans hx188_1; replace hx188_2 := (cell_far (p := ⟨gb187, 3, none⟩) (by first | (rw [add_block]; exact hn188_3) | (show (Addr.add _ _).block ≠ _; rw [add_block]; exact hn188_3) | exact hn188_3) (.slice A186_3 ((rd_T53 l0 x11_1).f3).length c186_3)).trans hx188_2; replace hx188_3 := (cell_far (p := ⟨gb187, 3, none⟩) (by first | (rw [add_block]; exact hn188_3) | (show (Addr.add _ _).block ≠ _; rw [add_block]; exact hn188_3) | exact hn188_3) (.slice A186_3 ((rd_T53 l0 x11_1).f3).length c186_3)).trans hx188_3; clear hn188_0; clear hn188_1; clear hn188_2; clear hn188_3; replace p188 := eq_true p188; replace q188 := eq_true q188))
               go_ret
               exact ⟨by first | rfl | (simp [errW_none, errW_some] <;> rfl) | (simp only [← hji20]; first | rfl | (simp [errW_none, errW_some] <;> rfl)) | (simp [*, errW_none, errW_some] <;> rfl), by repeat (first | (with_reducible first | exact HB.out | apply below_alloc | apply pw_below_drewN | apply below_drew1 | refine below_set ?_ GE187.out) | exact HB.out)⟩
              ·
               rw [if_neg c23] at H
               have c23b0 : (((rd_T53 l0 (ji20)).f0).toList == ([] : List UInt8)) = false := beq_eq_false_iff_ne.mpr c23
               have c23b1 : (((rd_T53 l0 (ji20)).f0).toList != ([] : List UInt8)) = true := bne_iff_ne.mpr c23
               have H' := Aside0.mk H
               clear H
               have p186 : 0 ≤ (x11_1 : Int) := of_decide_eq_true (by first | (with_reducible assumption) | assumption)
               have q186 : x11_1 < (l0.length : Int) := of_decide_eq_true (by first | (with_reducible assumption) | assumption)
               obtain ⟨ad186, A186_1, c186_1, A186_3, c186_3, e186, hx186_0, hx186_1, hx186_2, hx186_3, hl186_1, hi186_1, hl186_3, hi186_3⟩ := at_T53 HR0.out x11_1 p186 q186
               cases e186
               replace hx186_0 := (HB.out.cell (World.block_lt_of_cell? w _ hx186_0)).trans hx186_0
               replace hx186_1 := (HB.out.cell (World.block_lt_of_cell? w _ hx186_1)).trans hx186_1
               replace hx186_2 := (HB.out.cell (World.block_lt_of_cell? w _ hx186_2)).trans hx186_2
               replace hx186_3 := (HB.out.cell (World.block_lt_of_cell? w _ hx186_3)).trans hx186_3
               have HR186_1 := Aside0.mk hi186_1
               have HC186_1 := Aside0.mk hl186_1
               clear hi186_1 hl186_1
               have HR186_3 := Aside0.mk hi186_3
               have HC186_3 := Aside0.mk hl186_3
               clear hi186_3 hl186_3
               replace p186 := eq_true p186
               replace q186 := eq_true q186
               go_wp2_with (first | ((with_reducible refine gate_dst (N := 6) rfl ?_); (try (refine gate_guard (by rfl) ?_; dsimp only)); refine box_event ?hg (N := 6) ?hd (cs := #[.string (⟨#[]⟩ : ByteArray), .slice none 0 0, .string (⟨#[]⟩ : ByteArray), .slice none 0 0]) (t := 53) ?hr ?_; (case hd => rfl); (case hg => rfl); (case hr => first | (go_simp; done) | (go_simp; rfl)); intro gb187 hg w26 hbox hb; have n0_ := Aside0.mk (below_step (by repeat (first | (with_reducible first | exact HB.out | apply below_alloc | apply pw_below_drewN | apply below_drew1) | exact HB.out)) hb); have n1_ := Aside0.mk (hbox); have n2_ := Aside0.mk ((by rw [hg]; exact (below_size (by repeat (first | (with_reducible first | exact HB.out | apply below_alloc | apply pw_below_drewN | apply below_drew1) | exact HB.out))) : w.heap.size ≤ gb187)); have n3_ := Aside0.mk ((by rw [hg]; exact (below_size (by repeat (first | (with_reducible first | exact HB.out | apply below_alloc | apply pw_below_drewN | apply below_drew1) | exact HB.out))) : w.heap.size ≤ gb187)); clear HB; have HB := n0_; have BK187 := n1_; have GW187 := n2_; have GE187 := n3_; clear n0_ n1_ n2_ n3_; clear hb hbox hg; have hcz27_0 : w26.cell? ⟨gb187, 0, none⟩ = some (.string (⟨#[]⟩ : ByteArray)) := (blk_cell BK187.out 0).trans rfl; have hcz27_1 : w26.cell? ⟨gb187, 1, none⟩ = some (.slice none 0 0) := (blk_cell BK187.out 1).trans rfl; have hcz27_2 : w26.cell? ⟨gb187, 2, none⟩ = some (.string (⟨#[]⟩ : ByteArray)) := (blk_cell BK187.out 2).trans rfl; have hcz27_3 : w26.cell? ⟨gb187, 3, none⟩ = some (.slice none 0 0) := (blk_cell BK187.out 3).trans rfl; have hfz27_0 := blk_frozen BK187.out 0; have hfz27_1 := blk_frozen BK187.out 1; have hfz27_2 := blk_frozen BK187.out 2; have hfz27_3 := blk_frozen BK187.out 3; have p188 : 0 ≤ ((ji20) : Int) := of_decide_eq_true (by first | (with_reducible assumption) | assumption); have q188 : (ji20) < (l0.length : Int) := of_decide_eq_true (by first | (with_reducible assumption) | assumption); obtain ⟨ad188, A188_1, c188_1, A188_3, c188_3, e188, hx188_0, hx188_1, hx188_2, hx188_3, hl188_1, hi188_1, hl188_3, hi188_3⟩ := at_T53 HR0.out (ji20) p188 q188; obtain rfl : ad186 = ad188 := (by injection e188); have hn188_0 : ad186.block ≠ gb187 := Nat.ne_of_lt (Nat.lt_of_lt_of_le (by have := World.block_lt_of_cell? _ _ hx188_0; first | rwa [add_block] at this | exact this) GW187.out); have hn188_1 : ad186.block ≠ gb187 := Nat.ne_of_lt (Nat.lt_of_lt_of_le (by have := World.block_lt_of_cell? _ _ hx188_0; first | rwa [add_block] at this | exact this) GW187.out); have hn188_2 : ad186.block ≠ gb187 := Nat.ne_of_lt (Nat.lt_of_lt_of_le (by have := World.block_lt_of_cell? _ _ hx188_0; first | rwa [add_block] at this | exact this) GW187.out); have hn188_3 : ad186.block ≠ gb187 := Nat.ne_of_lt (Nat.lt_of_lt_of_le (by have := World.block_lt_of_cell? _ _ hx188_0; first | rwa [add_block] at this | exact this) GW187.out); replace hx188_0 := (HB.out.cell (World.block_lt_of_cell? w _ hx188_0)).trans hx188_0; replace hx188_1 := (HB.out.cell (World.block_lt_of_cell? w _ hx188_1)).trans hx188_1; replace hx188_2 := (HB.out.cell (World.block_lt_of_cell? w _ hx188_2)).trans hx188_2; replace hx188_3 := (HB.out.cell (World.block_lt_of_cell? w _ hx188_3)).trans hx188_3; have HR188_1 := Aside0.mk hi188_1; have HC188_1 := Aside0.mk hl188_1; clear hi188_1 hl188_1; have HR188_3 := Aside0.mk hi188_3; have HC188_3 := Aside0.mk hl188_3; clear hi188_3 hl188_3; replace hx188_0 := (cell_far (p := ⟨gb187, 0, none⟩) (by first | (rw [add_block]; exact hn188_0) | (show (Addr.add _ _).block ≠ _; rw [add_block]; exact hn188_0) | exact hn188_0) (.string ((rd_T53 l0 x11_1).f0))).trans hx188_0; replace hx188_1 := (cell_far (p := ⟨gb187, 0, none⟩) (by first | (rw [add_block]; exact hn188_0) | (show (Addr.add _ _).block ≠ _; rw [add_block]; exact hn188_0) | exact hn188_0) (.string ((rd_T53 l0 x11_1).f0))).trans hx188_1; replace hx188_2 := (cell_far (p := ⟨gb187, 0, none⟩) (by first | (rw [add_block]; exact hn188_0) | (show (Addr.add _ _).block ≠ _; rw [add_block]; exact hn188_0) | exact hn188_0) (.string ((rd_T53 l0 x11_1).f0))).trans hx188_2; replace hx188_3 := (cell_far (p := ⟨gb187, 0, none⟩) (by first | (rw [add_block]; exact hn188_0) | (show (Addr.add _ _).block ≠ _; rw [add_block]; exact hn188_0) | exact hn188_0) (.string ((rd_T53 l0 x11_1).f0))).trans hx188_3; replace hx188_0 := (cell_far (p := ⟨gb187, 1, none⟩) (by first | (rw [add_block]; exact hn188_1) | (show (Addr.add _ _).block ≠ _; rw [add_block]; exact hn188_1) | exact hn188_1) (.slice A186_1 ((rd_T53 l0 x11_1).f1).length c186_1)).trans hx188_0; replace hx188_1 := (cell_far (p := ⟨gb187, 1, none⟩) (by first | (rw [add_block]; exact hn188_1) | (show (Addr.add _ _).block ≠ _; rw [add_block]; exact hn188_1) | exact hn188_1) (.slice A186_1 ((rd_T53 l0 x11_1).f1).length c186_1)).trans hx188_1; replace hx188_2 := (cell_far (p := ⟨gb187, 1, none⟩) (by first | (rw [add_block]; exact hn188_1) | (show (Addr.add _ _).block ≠ _; rw [add_block]; exact hn188_1) | exact hn188_1) (.slice A186_1 ((rd_T53 l0 x11_1).f1).length c186_1)).trans hx188_2; replace hx188_3 := (cell_far (p := ⟨gb187, 1, none⟩) (by first | (rw [add_block]; exact hn188_1) | (show (Addr.add _ _).block ≠ _; rw [add_block]; exact hn188_1) | exact hn188_1) (.slice A186_1 ((rd_T53 l0 x11_1).f1).length c186_1)).trans hx188_3; replace hx188_0 := (cell_far (p := ⟨gb187, 2, none⟩) (by first | (rw [add_block]; exact hn188_2) | (show (Addr.add _ _).block ≠ _; rw [add_block]; exact hn188_2) | exact hn188_2) (.string ((rd_T53 l0 x11_1).f2))).trans hx188_0; replace hx188_1 := (cell_far (p := ⟨gb187, 2, none⟩) (by first | (rw [add_block]; exact hn188_2) | (show (Addr.add _ _).block ≠ _; rw [add_block]; exact hn188_2) | exact hn188_2) (.string ((rd_T53 l0 x11_1).f2))).trans hx188_1; replace hx188_2 := (cell_far (p := ⟨gb187, 2, none⟩) (by first | (rw [add_block]; exact hn188_2) | (show (Addr.add _ _).block ≠ _; rw [add_block]; exact hn188_2) | exact hn188_2) (.string ((rd_T53 l0 x11_1).f2))).trans hx188_2; replace hx188_3 := (cell_far (p := ⟨gb187, 2, none⟩) (by first | (rw [add_block]; exact hn188_2) | (show (Addr.add _ _).block ≠ _; rw [add_block]; exact hn188_2) | exact hn188_2) (.string ((rd_T53 l0 x11_1).f2))).trans hx188_3; replace hx188_0 := (cell_far (p := ⟨gb187, 3, none⟩) (by first | (rw [add_block]; exact hn188_3) | (show (Addr.add _ _).block ≠ _; rw [add_block]; exact hn188_3) | exact hn188_3) (.slice A186_3 ((rd_T53 l0 x11_1).f3).length c186_3)).trans hx188_0; replace hx188_1 := (cell_far (p := ⟨gb187, 3, none⟩) (by first | (rw [add_block]; exact hn188_3) | (show (Addr.add _ _).block ≠ _; rw [add_block]; exact hn188_3) | exact hn188_3) (.slice A186_3 ((rd_T53 l0 x11_1).f3).length c186_3)).trans hx188_1; replace hx188_2 := (cell_far (p := ⟨gb187, 3, none⟩) (by first | (rw [add_block]; exact hn188_3) | (show (Addr.add _ _).block ≠ _; rw [add_block]; exact hn188_3) | exact hn188_3) (.slice A186_3 ((rd_T53 l0 x11_1).f3).length c186_3)).trans hx188_2; replace hx188_3 := (cell_far (p := ⟨gb187, 3, none⟩) (by first | (rw [add_block]; exact hn188_3) | (show (Addr.add _ _).block ≠ _; rw [add_block]; exact hn188_3) | exact hn188_3) (.slice A186_3 ((rd_T53 l0 x11_1).f3).length c186_3)).trans hx188_3; clear hn188_0; clear hn188_1; clear hn188_2; clear hn188_3; replace p188 := eq_true p188; replace q188 := eq_true q188))
               go_roundg k1
               case measure => have := HK1.out; omega
               case rel => exact ⟨(wrap64 (x11_1 + 1)), (by first | rfl | (simp; done) | (simp [*]; done) | (simp [bne]; done)), H', ⟨by have := HK1.out; omega⟩, ⟨by repeat (first | (with_reducible first | exact HB.out | apply below_alloc | apply pw_below_drewN | apply below_drew1 | refine below_set ?_ GE187.out) | exact HB.out)⟩⟩
             ·
              rw [if_neg c22] at H
              exact absurd H (by simp)
            ·
             rw [if_neg c21] at H
             exact absurd H (by simp)
           ·
            rw [if_neg c19] at H
            have c19b0 : decide (0 < x11_1) = false := decide_eq_false c19
            clear c19
            have H' := Aside0.mk H
            clear H
            have p186 : 0 ≤ (x11_1 : Int) := of_decide_eq_true (by first | (with_reducible assumption) | assumption)
            have q186 : x11_1 < (l0.length : Int) := of_decide_eq_true (by first | (with_reducible assumption) | assumption)
            obtain ⟨ad186, A186_1, c186_1, A186_3, c186_3, e186, hx186_0, hx186_1, hx186_2, hx186_3, hl186_1, hi186_1, hl186_3, hi186_3⟩ := at_T53 HR0.out x11_1 p186 q186
            cases e186
            replace hx186_0 := (HB.out.cell (World.block_lt_of_cell? w _ hx186_0)).trans hx186_0
            replace hx186_1 := (HB.out.cell (World.block_lt_of_cell? w _ hx186_1)).trans hx186_1
            replace hx186_2 := (HB.out.cell (World.block_lt_of_cell? w _ hx186_2)).trans hx186_2
            replace hx186_3 := (HB.out.cell (World.block_lt_of_cell? w _ hx186_3)).trans hx186_3
            have HR186_1 := Aside0.mk hi186_1
            have HC186_1 := Aside0.mk hl186_1
            clear hi186_1 hl186_1
            have HR186_3 := Aside0.mk hi186_3
            have HC186_3 := Aside0.mk hl186_3
            clear hi186_3 hl186_3
            replace p186 := eq_true p186
            replace q186 := eq_true q186
            go_wp2_with (first | ((with_reducible refine gate_dst (N := 6) rfl ?_); (try (refine gate_guard (by rfl) ?_; dsimp only)); refine box_event ?hg (N := 6) ?hd (cs := #[.string (⟨#[]⟩ : ByteArray), .slice none 0 0, .string (⟨#[]⟩ : ByteArray), .slice none 0 0]) (t := 53) ?hr ?_; (case hd => rfl); (case hg => rfl); (case hr => first | (go_simp; done) | (go_simp; rfl)); intro gb187 hg w28 hbox hb; have n0_ := Aside0.mk (below_step (by repeat (first | (with_reducible first | exact HB.out | apply below_alloc | apply pw_below_drewN | apply below_drew1) | exact HB.out)) hb); have n1_ := Aside0.mk (hbox); have n2_ := Aside0.mk ((by rw [hg]; exact (below_size (by repeat (first | (with_reducible first | exact HB.out | apply below_alloc | apply pw_below_drewN | apply below_drew1) | exact HB.out))) : w.heap.size ≤ gb187)); have n3_ := Aside0.mk ((by rw [hg]; exact (below_size (by repeat (first | (with_reducible first | exact HB.out | apply below_alloc | apply pw_below_drewN | apply below_drew1) | exact HB.out))) : w.heap.size ≤ gb187)); clear HB; have HB := n0_; have BK187 := n1_; have GW187 := n2_; have GE187 := n3_; clear n0_ n1_ n2_ n3_; clear hb hbox hg; have hcz29_0 : w28.cell? ⟨gb187, 0, none⟩ = some (.string (⟨#[]⟩ : ByteArray)) := (blk_cell BK187.out 0).trans rfl; have hcz29_1 : w28.cell? ⟨gb187, 1, none⟩ = some (.slice none 0 0) := (blk_cell BK187.out 1).trans rfl; have hcz29_2 : w28.cell? ⟨gb187, 2, none⟩ = some (.string (⟨#[]⟩ : ByteArray)) := (blk_cell BK187.out 2).trans rfl; have hcz29_3 : w28.cell? ⟨gb187, 3, none⟩ = some (.slice none 0 0) := (blk_cell BK187.out 3).trans rfl; have hfz29_0 := blk_frozen BK187.out 0; have hfz29_1 := blk_frozen BK187.out 1; have hfz29_2 := blk_frozen BK187.out 2; have hfz29_3 := blk_frozen BK187.out 3))
            go_roundg k1
            case measure => have := HK1.out; omega
            case rel => exact ⟨(wrap64 (x11_1 + 1)), (by first | rfl | (simp; done) | (simp [*]; done) | (simp [bne]; done)), H', ⟨by have := HK1.out; omega⟩, ⟨by repeat (first | (with_reducible first | exact HB.out | apply below_alloc | apply pw_below_drewN | apply below_drew1 | refine below_set ?_ GE187.out) | exact HB.out)⟩⟩
       ·
        rw [if_neg c9] at H
        have c9b0 : (((rd_T53 l0 x11_1).f0).toList == ([] : List UInt8)) = false := beq_eq_false_iff_ne.mpr c9
        have c9b1 : (((rd_T53 l0 x11_1).f0).toList != ([] : List UInt8)) = true := bne_iff_ne.mpr c9
        replace H := Option.bind_eq_some_iff.mp H
        obtain ⟨t189, A300, H⟩ := H
        replace H : (if t189 = true then ((emit_Attrs.f k1 ((rd_T53 l0 x11_1).f1)).bind fun t190 => (if t190 = 0 then (if ((rd_T53 l0 x11_1).f2).toList = ([] : List UInt8) then ((show_Void.f k1 ((rd_T53 l0 x11_1).f0)).bind fun t191 => (if t191 = true then (if (((rd_T53 l0 x11_1).f3).length : Int) > 0 then (show_fault.j1 k1 l0 a1 l0 (l0.length : Int) x11_1 true ((rd_T53 l0 x11_1).f0) ((rd_T53 l0 x11_1).f1) ((rd_T53 l0 x11_1).f2) ((rd_T53 l0 x11_1).f3)) else ((show_shut.f k1 ((rd_T53 l0 x11_1).f0)).bind fun t192 => (show_fault.j1 k1 l0 a1 l0 (l0.length : Int) x11_1 t192 ((rd_T53 l0 x11_1).f0) ((rd_T53 l0 x11_1).f1) ((rd_T53 l0 x11_1).f2) ((rd_T53 l0 x11_1).f3)))) else ((show_shut.f k1 ((rd_T53 l0 x11_1).f0)).bind fun t193 => (show_fault.j1 k1 l0 a1 l0 (l0.length : Int) x11_1 t193 ((rd_T53 l0 x11_1).f0) ((rd_T53 l0 x11_1).f1) ((rd_T53 l0 x11_1).f2) ((rd_T53 l0 x11_1).f3))))) else (show_fault.j1 k1 l0 a1 l0 (l0.length : Int) x11_1 true ((rd_T53 l0 x11_1).f0) ((rd_T53 l0 x11_1).f1) ((rd_T53 l0 x11_1).f2) ((rd_T53 l0 x11_1).f3))) else (some t190))) else (some 5)) = some r := H
        have A30 := Aside0.mk A300
        clear A300
        by_cases c31 : t189 = true
        ·
         subst c31
         have H1 : ((emit_Attrs.f k1 ((rd_T53 l0 x11_1).f1)).bind fun t190 => (if t190 = 0 then (if ((rd_T53 l0 x11_1).f2).toList = ([] : List UInt8) then ((show_Void.f k1 ((rd_T53 l0 x11_1).f0)).bind fun t191 => (if t191 = true then (if (((rd_T53 l0 x11_1).f3).length : Int) > 0 then (show_fault.j1 k1 l0 a1 l0 (l0.length : Int) x11_1 true ((rd_T53 l0 x11_1).f0) ((rd_T53 l0 x11_1).f1) ((rd_T53 l0 x11_1).f2) ((rd_T53 l0 x11_1).f3)) else ((show_shut.f k1 ((rd_T53 l0 x11_1).f0)).bind fun t192 => (show_fault.j1 k1 l0 a1 l0 (l0.length : Int) x11_1 t192 ((rd_T53 l0 x11_1).f0) ((rd_T53 l0 x11_1).f1) ((rd_T53 l0 x11_1).f2) ((rd_T53 l0 x11_1).f3)))) else ((show_shut.f k1 ((rd_T53 l0 x11_1).f0)).bind fun t193 => (show_fault.j1 k1 l0 a1 l0 (l0.length : Int) x11_1 t193 ((rd_T53 l0 x11_1).f0) ((rd_T53 l0 x11_1).f1) ((rd_T53 l0 x11_1).f2) ((rd_T53 l0 x11_1).f3))))) else (show_fault.j1 k1 l0 a1 l0 (l0.length : Int) x11_1 true ((rd_T53 l0 x11_1).f0) ((rd_T53 l0 x11_1).f1) ((rd_T53 l0 x11_1).f2) ((rd_T53 l0 x11_1).f3))) else (some t190))) = some r := by rw [if_pos rfl] at H; exact H
         clear H
         have H := H1
         clear H1
         replace H := Option.bind_eq_some_iff.mp H
         obtain ⟨t190, A320, H⟩ := H
         replace H : (if t190 = 0 then (if ((rd_T53 l0 x11_1).f2).toList = ([] : List UInt8) then ((show_Void.f k1 ((rd_T53 l0 x11_1).f0)).bind fun t191 => (if t191 = true then (if (((rd_T53 l0 x11_1).f3).length : Int) > 0 then (show_fault.j1 k1 l0 a1 l0 (l0.length : Int) x11_1 true ((rd_T53 l0 x11_1).f0) ((rd_T53 l0 x11_1).f1) ((rd_T53 l0 x11_1).f2) ((rd_T53 l0 x11_1).f3)) else ((show_shut.f k1 ((rd_T53 l0 x11_1).f0)).bind fun t192 => (show_fault.j1 k1 l0 a1 l0 (l0.length : Int) x11_1 t192 ((rd_T53 l0 x11_1).f0) ((rd_T53 l0 x11_1).f1) ((rd_T53 l0 x11_1).f2) ((rd_T53 l0 x11_1).f3)))) else ((show_shut.f k1 ((rd_T53 l0 x11_1).f0)).bind fun t193 => (show_fault.j1 k1 l0 a1 l0 (l0.length : Int) x11_1 t193 ((rd_T53 l0 x11_1).f0) ((rd_T53 l0 x11_1).f1) ((rd_T53 l0 x11_1).f2) ((rd_T53 l0 x11_1).f3))))) else (show_fault.j1 k1 l0 a1 l0 (l0.length : Int) x11_1 true ((rd_T53 l0 x11_1).f0) ((rd_T53 l0 x11_1).f1) ((rd_T53 l0 x11_1).f2) ((rd_T53 l0 x11_1).f3))) else (some t190)) = some r := H
         have A32 := Aside0.mk A320
         clear A320
         by_cases c33 : t190 = 0
         ·
          rw [if_pos c33] at H
          have c33b0 : (t190 == 0) = true := beq_iff_eq.mpr c33
          have c33b1 : (t190 != 0) = false := bne_eq_false_iff_eq.mpr c33
          clear c33
          have HC34 := Aside0.mk H
          clear H
          have p186 : 0 ≤ (x11_1 : Int) := of_decide_eq_true (by first | (with_reducible assumption) | assumption)
          have q186 : x11_1 < (l0.length : Int) := of_decide_eq_true (by first | (with_reducible assumption) | assumption)
          obtain ⟨ad186, A186_1, c186_1, A186_3, c186_3, e186, hx186_0, hx186_1, hx186_2, hx186_3, hl186_1, hi186_1, hl186_3, hi186_3⟩ := at_T53 HR0.out x11_1 p186 q186
          cases e186
          replace hx186_0 := (HB.out.cell (World.block_lt_of_cell? w _ hx186_0)).trans hx186_0
          replace hx186_1 := (HB.out.cell (World.block_lt_of_cell? w _ hx186_1)).trans hx186_1
          replace hx186_2 := (HB.out.cell (World.block_lt_of_cell? w _ hx186_2)).trans hx186_2
          replace hx186_3 := (HB.out.cell (World.block_lt_of_cell? w _ hx186_3)).trans hx186_3
          have HR186_1 := Aside0.mk hi186_1
          have HC186_1 := Aside0.mk hl186_1
          clear hi186_1 hl186_1
          have HR186_3 := Aside0.mk hi186_3
          have HC186_3 := Aside0.mk hl186_3
          clear hi186_3 hl186_3
          replace p186 := eq_true p186
          replace q186 := eq_true q186
          go_upto_region 14 with (first | ((with_reducible refine gate_dst (N := 6) rfl ?_); (try (refine gate_guard (by rfl) ?_; dsimp only)); refine box_event ?hg (N := 6) ?hd (cs := #[.string (⟨#[]⟩ : ByteArray), .slice none 0 0, .string (⟨#[]⟩ : ByteArray), .slice none 0 0]) (t := 53) ?hr ?_; (case hd => rfl); (case hg => rfl); (case hr => first | (go_simp; done) | (go_simp; rfl)); intro gb187 hg w35 hbox hb; have n0_ := Aside0.mk (below_step (by repeat (first | (with_reducible first | exact HB.out | apply below_alloc | apply pw_below_drewN | apply below_drew1) | exact HB.out)) hb); have n1_ := Aside0.mk (hbox); have n2_ := Aside0.mk ((by rw [hg]; exact (below_size (by repeat (first | (with_reducible first | exact HB.out | apply below_alloc | apply pw_below_drewN | apply below_drew1) | exact HB.out))) : w.heap.size ≤ gb187)); have n3_ := Aside0.mk ((by rw [hg]; exact (below_size (by repeat (first | (with_reducible first | exact HB.out | apply below_alloc | apply pw_below_drewN | apply below_drew1) | exact HB.out))) : w.heap.size ≤ gb187)); clear HB; have HB := n0_; have BK187 := n1_; have GW187 := n2_; have GE187 := n3_; clear n0_ n1_ n2_ n3_; clear hb hbox hg; have hcz36_0 : w35.cell? ⟨gb187, 0, none⟩ = some (.string (⟨#[]⟩ : ByteArray)) := (blk_cell BK187.out 0).trans rfl; have hcz36_1 : w35.cell? ⟨gb187, 1, none⟩ = some (.slice none 0 0) := (blk_cell BK187.out 1).trans rfl; have hcz36_2 : w35.cell? ⟨gb187, 2, none⟩ = some (.string (⟨#[]⟩ : ByteArray)) := (blk_cell BK187.out 2).trans rfl; have hcz36_3 : w35.cell? ⟨gb187, 3, none⟩ = some (.slice none 0 0) := (blk_cell BK187.out 3).trans rfl; have hfz36_0 := blk_frozen BK187.out 0; have hfz36_1 := blk_frozen BK187.out 1; have hfz36_2 := blk_frozen BK187.out 2; have hfz36_3 := blk_frozen BK187.out 3) | ((with_reducible refine gate_callee (f := 41) rfl ?_); refine goesL_ (some 51) rfl rfl Try.func41 (by kernel_rfl) rfl #[.string ((rd_T53 l0 x11_1).f0)] rfl (by (try simp only [List.map_toArray, List.map_cons, List.map_nil]); first | done | rfl | (simp only [List.length_drop, List.length_take]; rfl)) ?_; (with_reducible refine (emit_Name.calls ((rd_T53 l0 x11_1).f0) true _ A30.out).mono ?_); rintro e w37 ⟨rfl, hb⟩; refine ⟨_, rfl, ?_⟩; have n0_ := Aside0.mk (blk_below (g := gb187) (o := .cells #[.string ((rd_T53 l0 x11_1).f0), .slice A186_1 ((rd_T53 l0 x11_1).f1).length c186_1, .string ((rd_T53 l0 x11_1).f2), .slice A186_3 ((rd_T53 l0 x11_1).f3).length c186_3] 53 (0, 0)) (by (with_reducible repeat (first | refine blk_drewN ?_ _ | refine blk_drew ?_ | refine blk_alloc ?_ _)); refine blk_put (cs := #[.string ((rd_T53 l0 x11_1).f0), .slice A186_1 ((rd_T53 l0 x11_1).f1).length c186_1, .string ((rd_T53 l0 x11_1).f2), .slice none 0 0]) ?_ 3 _ rfl; (with_reducible repeat (first | refine blk_drewN ?_ _ | refine blk_drew ?_ | refine blk_alloc ?_ _)); refine blk_put (cs := #[.string ((rd_T53 l0 x11_1).f0), .slice A186_1 ((rd_T53 l0 x11_1).f1).length c186_1, .string (⟨#[]⟩ : ByteArray), .slice none 0 0]) ?_ 2 _ rfl; (with_reducible repeat (first | refine blk_drewN ?_ _ | refine blk_drew ?_ | refine blk_alloc ?_ _)); refine blk_put (cs := #[.string ((rd_T53 l0 x11_1).f0), .slice none 0 0, .string (⟨#[]⟩ : ByteArray), .slice none 0 0]) ?_ 1 _ rfl; (with_reducible repeat (first | refine blk_drewN ?_ _ | refine blk_drew ?_ | refine blk_alloc ?_ _)); refine blk_put (cs := #[.string (⟨#[]⟩ : ByteArray), .slice none 0 0, .string (⟨#[]⟩ : ByteArray), .slice none 0 0]) ?_ 0 _ rfl; (with_reducible repeat (first | refine blk_drewN ?_ _ | refine blk_drew ?_ | refine blk_alloc ?_ _)); exact BK187.out) hb); have n1_ := Aside0.mk (below_step (by repeat (first | (with_reducible first | exact HB.out | apply below_alloc | apply pw_below_drewN | apply below_drew1 | refine below_set ?_ GE187.out) | exact HB.out)) hb); clear BK187; clear HB; have BK187 := n0_; have HB := n1_; clear n0_ n1_; (try clear hb); (try clear hb2); (try clear hk); (try clear hi); have hcz38_0 : w37.cell? ⟨gb187, 0, none⟩ = some (.string ((rd_T53 l0 x11_1).f0)) := (blk_cell BK187.out 0).trans rfl; have hcz38_1 : w37.cell? ⟨gb187, 1, none⟩ = some (.slice A186_1 ((rd_T53 l0 x11_1).f1).length c186_1) := (blk_cell BK187.out 1).trans rfl; have hcz38_2 : w37.cell? ⟨gb187, 2, none⟩ = some (.string ((rd_T53 l0 x11_1).f2)) := (blk_cell BK187.out 2).trans rfl; have hcz38_3 : w37.cell? ⟨gb187, 3, none⟩ = some (.slice A186_3 ((rd_T53 l0 x11_1).f3).length c186_3) := (blk_cell BK187.out 3).trans rfl; have hfz38_0 := blk_frozen BK187.out 0; have hfz38_1 := blk_frozen BK187.out 1; have hfz38_2 := blk_frozen BK187.out 2; have hfz38_3 := blk_frozen BK187.out 3) | ((with_reducible refine gate_callee (f := 42) rfl ?_); refine goesL_ (some 55) rfl rfl Try.func42 (by kernel_rfl) rfl #[.slice A186_1 ((rd_T53 l0 x11_1).f1).length c186_1] rfl (by (try simp only [List.map_toArray, List.map_cons, List.map_nil]); first | done | rfl | (simp only [List.length_drop, List.length_take]; rfl)) ?_; (with_reducible refine (emit_Attrs.calls k1 _ _ ((rd_T53 l0 x11_1).f1) t190 _ ?side1 ?side2 A32.out).mono ?_); (case side1 => repeat (first | exact (Kd.C_below HR186_1.out HB.out) | (with_reducible refine Kd.C_alloc ?_ _) | (with_reducible refine Kd.C_drewN ?_ _) | (with_reducible refine Kd.C_drew ?_))); (case side2 => exact HC186_1.out); rintro e w39 ⟨rfl, hb⟩; refine ⟨_, rfl, ?_⟩; have n0_ := Aside0.mk (blk_below (g := gb187) (o := .cells #[.string ((rd_T53 l0 x11_1).f0), .slice A186_1 ((rd_T53 l0 x11_1).f1).length c186_1, .string ((rd_T53 l0 x11_1).f2), .slice A186_3 ((rd_T53 l0 x11_1).f3).length c186_3] 53 (0, 0)) (by (with_reducible repeat (first | refine blk_drewN ?_ _ | refine blk_drew ?_ | refine blk_alloc ?_ _)); exact BK187.out) hb); have n1_ := Aside0.mk (below_step (by repeat (first | (with_reducible first | exact HB.out | apply below_alloc | apply pw_below_drewN | apply below_drew1 | refine below_set ?_ GE187.out) | exact HB.out)) hb); clear BK187; clear HB; have BK187 := n0_; have HB := n1_; clear n0_ n1_; (try clear hb); (try clear hb2); (try clear hk); (try clear hi)))
          (try simp only [Act.put, List.setIfInBounds_toArray, List.set_cons_zero, List.set_cons_succ])
          go_cut [77] (fun v77 wc => ∃ (kq : Nat) (x77_33 : Bool), v77 = .bool x77_33 ∧ Aside0 (show_fault.j1 kq l0 a1 l0 (l0.length : Int) x11_1 x77_33 ((rd_T53 l0 x11_1).f0) ((rd_T53 l0 x11_1).f1) ((rd_T53 l0 x11_1).f2) ((rd_T53 l0 x11_1).f3) = some r) ∧ Aside0 (kq ≤ k1) ∧ Aside0 (wc.heap[gb187]? = some (.cells #[.string ((rd_T53 l0 x11_1).f0), (.slice A186_1 ((rd_T53 l0 x11_1).f1).length c186_1), .string ((rd_T53 l0 x11_1).f2), (.slice A186_3 ((rd_T53 l0 x11_1).f3).length c186_3)] 53 (0, 0))) ∧ Aside0 (Below w.heap.size w wc))
          case first =>
           have H := HC34.out
           clear HC34
           by_cases c40 : ((rd_T53 l0 x11_1).f2).toList = ([] : List UInt8)
           ·
            rw [if_pos c40] at H
            have c40b0 : (((rd_T53 l0 x11_1).f2).toList == ([] : List UInt8)) = true := beq_iff_eq.mpr c40
            have c40b1 : (((rd_T53 l0 x11_1).f2).toList != ([] : List UInt8)) = false := bne_eq_false_iff_eq.mpr c40
            clear c40
            (first | rw [c40b0] | (simp only [i64_w, i32_w]; rw [c40b0]) | rw [c40b1] | skip)
            replace H := Option.bind_eq_some_iff.mp H
            obtain ⟨t191, A410, H⟩ := H
            replace H : (if t191 = true then (if (((rd_T53 l0 x11_1).f3).length : Int) > 0 then (show_fault.j1 k1 l0 a1 l0 (l0.length : Int) x11_1 true ((rd_T53 l0 x11_1).f0) ((rd_T53 l0 x11_1).f1) ((rd_T53 l0 x11_1).f2) ((rd_T53 l0 x11_1).f3)) else ((show_shut.f k1 ((rd_T53 l0 x11_1).f0)).bind fun t192 => (show_fault.j1 k1 l0 a1 l0 (l0.length : Int) x11_1 t192 ((rd_T53 l0 x11_1).f0) ((rd_T53 l0 x11_1).f1) ((rd_T53 l0 x11_1).f2) ((rd_T53 l0 x11_1).f3)))) else ((show_shut.f k1 ((rd_T53 l0 x11_1).f0)).bind fun t193 => (show_fault.j1 k1 l0 a1 l0 (l0.length : Int) x11_1 t193 ((rd_T53 l0 x11_1).f0) ((rd_T53 l0 x11_1).f1) ((rd_T53 l0 x11_1).f2) ((rd_T53 l0 x11_1).f3)))) = some r := H
            have A41 := Aside0.mk A410
            clear A410
            by_cases c42 : t191 = true
            ·
             subst c42
             have H1 : (if (((rd_T53 l0 x11_1).f3).length : Int) > 0 then (show_fault.j1 k1 l0 a1 l0 (l0.length : Int) x11_1 true ((rd_T53 l0 x11_1).f0) ((rd_T53 l0 x11_1).f1) ((rd_T53 l0 x11_1).f2) ((rd_T53 l0 x11_1).f3)) else ((show_shut.f k1 ((rd_T53 l0 x11_1).f0)).bind fun t192 => (show_fault.j1 k1 l0 a1 l0 (l0.length : Int) x11_1 t192 ((rd_T53 l0 x11_1).f0) ((rd_T53 l0 x11_1).f1) ((rd_T53 l0 x11_1).f2) ((rd_T53 l0 x11_1).f3)))) = some r := by rw [if_pos rfl] at H; exact H
             clear H
             have H := H1
             clear H1
             by_cases c43 : (((rd_T53 l0 x11_1).f3).length : Int) > 0
             ·
              rw [if_pos c43] at H
              have c43b0 : decide (0 < (((rd_T53 l0 x11_1).f3).length : Int)) = true := decide_eq_true c43
              have c43b1 : decide (0 < ((rd_T53 l0 x11_1).f3).length) = true := decide_eq_true (by omega)
              clear c43
              have H' := Aside0.mk H
              clear H
              have hcz44_0 : w39.cell? ⟨gb187, 0, none⟩ = some (.string ((rd_T53 l0 x11_1).f0)) := (blk_cell BK187.out 0).trans rfl
              have hcz44_1 : w39.cell? ⟨gb187, 1, none⟩ = some (.slice A186_1 ((rd_T53 l0 x11_1).f1).length c186_1) := (blk_cell BK187.out 1).trans rfl
              have hcz44_2 : w39.cell? ⟨gb187, 2, none⟩ = some (.string ((rd_T53 l0 x11_1).f2)) := (blk_cell BK187.out 2).trans rfl
              have hcz44_3 : w39.cell? ⟨gb187, 3, none⟩ = some (.slice A186_3 ((rd_T53 l0 x11_1).f3).length c186_3) := (blk_cell BK187.out 3).trans rfl
              have hfz44_0 := blk_frozen BK187.out 0
              have hfz44_1 := blk_frozen BK187.out 1
              have hfz44_2 := blk_frozen BK187.out 2
              have hfz44_3 := blk_frozen BK187.out 3
              go_wp2_with (first | (go_at_call 46; (with_reducible refine (show_Void.calls k1 ((rd_T53 l0 x11_1).f0) true _ A41.out).mono ?_); rintro e w45 ⟨rfl, hb⟩; have n0_ := Aside0.mk (blk_below (g := gb187) (o := .cells #[.string ((rd_T53 l0 x11_1).f0), .slice A186_1 ((rd_T53 l0 x11_1).f1).length c186_1, .string ((rd_T53 l0 x11_1).f2), .slice A186_3 ((rd_T53 l0 x11_1).f3).length c186_3] 53 (0, 0)) (by (with_reducible repeat (first | refine blk_drewN ?_ _ | refine blk_drew ?_ | refine blk_alloc ?_ _)); exact BK187.out) hb); have n1_ := Aside0.mk (below_step (by repeat (first | (with_reducible first | exact HB.out | apply below_alloc | apply pw_below_drewN | apply below_drew1 | refine below_set ?_ GE187.out) | exact HB.out)) hb); clear BK187; clear HB; have BK187 := n0_; have HB := n1_; clear n0_ n1_; (try clear hb); (try clear hb2); (try clear hk); (try clear hi); have hcz46_0 : w45.cell? ⟨gb187, 0, none⟩ = some (.string ((rd_T53 l0 x11_1).f0)) := (blk_cell BK187.out 0).trans rfl; have hcz46_1 : w45.cell? ⟨gb187, 1, none⟩ = some (.slice A186_1 ((rd_T53 l0 x11_1).f1).length c186_1) := (blk_cell BK187.out 1).trans rfl; have hcz46_2 : w45.cell? ⟨gb187, 2, none⟩ = some (.string ((rd_T53 l0 x11_1).f2)) := (blk_cell BK187.out 2).trans rfl; have hcz46_3 : w45.cell? ⟨gb187, 3, none⟩ = some (.slice A186_3 ((rd_T53 l0 x11_1).f3).length c186_3) := (blk_cell BK187.out 3).trans rfl; have hfz46_0 := blk_frozen BK187.out 0; have hfz46_1 := blk_frozen BK187.out 1; have hfz46_2 := blk_frozen BK187.out 2; have hfz46_3 := blk_frozen BK187.out 3))
              go_meet
              case rel => exact ⟨_, (true), (by first | rfl | (simp; done) | (simp [*]; done) | (simp [bne]; done)), H', ⟨by have := HK1.out; first | omega | exact Nat.le_refl _⟩, ⟨by (with_reducible repeat (first | refine blk_drewN ?_ _ | refine blk_drew ?_ | refine blk_alloc ?_ _)); exact BK187.out⟩, ⟨by repeat (first | (with_reducible first | exact HB.out | apply below_alloc | apply pw_below_drewN | apply below_drew1 | refine below_set ?_ GE187.out) | exact HB.out)⟩⟩
             ·
              rw [if_neg c43] at H
              have c43b0 : decide (0 < (((rd_T53 l0 x11_1).f3).length : Int)) = false := decide_eq_false c43
              have c43b1 : decide (0 < ((rd_T53 l0 x11_1).f3).length) = false := decide_eq_false (by omega)
              clear c43
              replace H := Option.bind_eq_some_iff.mp H
              obtain ⟨t192, A470, H⟩ := H
              replace H : (show_fault.j1 k1 l0 a1 l0 (l0.length : Int) x11_1 t192 ((rd_T53 l0 x11_1).f0) ((rd_T53 l0 x11_1).f1) ((rd_T53 l0 x11_1).f2) ((rd_T53 l0 x11_1).f3)) = some r := H
              have A47 := Aside0.mk A470
              clear A470
              have H' := Aside0.mk H
              clear H
              have hcz48_0 : w39.cell? ⟨gb187, 0, none⟩ = some (.string ((rd_T53 l0 x11_1).f0)) := (blk_cell BK187.out 0).trans rfl
              have hcz48_1 : w39.cell? ⟨gb187, 1, none⟩ = some (.slice A186_1 ((rd_T53 l0 x11_1).f1).length c186_1) := (blk_cell BK187.out 1).trans rfl
              have hcz48_2 : w39.cell? ⟨gb187, 2, none⟩ = some (.string ((rd_T53 l0 x11_1).f2)) := (blk_cell BK187.out 2).trans rfl
              have hcz48_3 : w39.cell? ⟨gb187, 3, none⟩ = some (.slice A186_3 ((rd_T53 l0 x11_1).f3).length c186_3) := (blk_cell BK187.out 3).trans rfl
              have hfz48_0 := blk_frozen BK187.out 0
              have hfz48_1 := blk_frozen BK187.out 1
              have hfz48_2 := blk_frozen BK187.out 2
              have hfz48_3 := blk_frozen BK187.out 3
              go_wp2_with (first | (go_at_call 46; (with_reducible refine (show_Void.calls k1 ((rd_T53 l0 x11_1).f0) true _ A41.out).mono ?_); rintro e w49 ⟨rfl, hb⟩; have n0_ := Aside0.mk (blk_below (g := gb187) (o := .cells #[.string ((rd_T53 l0 x11_1).f0), .slice A186_1 ((rd_T53 l0 x11_1).f1).length c186_1, .string ((rd_T53 l0 x11_1).f2), .slice A186_3 ((rd_T53 l0 x11_1).f3).length c186_3] 53 (0, 0)) (by (with_reducible repeat (first | refine blk_drewN ?_ _ | refine blk_drew ?_ | refine blk_alloc ?_ _)); exact BK187.out) hb); have n1_ := Aside0.mk (below_step (by repeat (first | (with_reducible first | exact HB.out | apply below_alloc | apply pw_below_drewN | apply below_drew1 | refine below_set ?_ GE187.out) | exact HB.out)) hb); clear BK187; clear HB; have BK187 := n0_; have HB := n1_; clear n0_ n1_; (try clear hb); (try clear hb2); (try clear hk); (try clear hi); have hcz50_0 : w49.cell? ⟨gb187, 0, none⟩ = some (.string ((rd_T53 l0 x11_1).f0)) := (blk_cell BK187.out 0).trans rfl; have hcz50_1 : w49.cell? ⟨gb187, 1, none⟩ = some (.slice A186_1 ((rd_T53 l0 x11_1).f1).length c186_1) := (blk_cell BK187.out 1).trans rfl; have hcz50_2 : w49.cell? ⟨gb187, 2, none⟩ = some (.string ((rd_T53 l0 x11_1).f2)) := (blk_cell BK187.out 2).trans rfl; have hcz50_3 : w49.cell? ⟨gb187, 3, none⟩ = some (.slice A186_3 ((rd_T53 l0 x11_1).f3).length c186_3) := (blk_cell BK187.out 3).trans rfl; have hfz50_0 := blk_frozen BK187.out 0; have hfz50_1 := blk_frozen BK187.out 1; have hfz50_2 := blk_frozen BK187.out 2; have hfz50_3 := blk_frozen BK187.out 3) | (go_at_call 47; (with_reducible refine (show_shut.calls k1 ((rd_T53 l0 x11_1).f0) t192 _ A47.out).mono ?_); rintro e w51 ⟨rfl, hb⟩; have n0_ := Aside0.mk (blk_below (g := gb187) (o := .cells #[.string ((rd_T53 l0 x11_1).f0), .slice A186_1 ((rd_T53 l0 x11_1).f1).length c186_1, .string ((rd_T53 l0 x11_1).f2), .slice A186_3 ((rd_T53 l0 x11_1).f3).length c186_3] 53 (0, 0)) (by (with_reducible repeat (first | refine blk_drewN ?_ _ | refine blk_drew ?_ | refine blk_alloc ?_ _)); exact BK187.out) hb); have n1_ := Aside0.mk (below_step (by repeat (first | (with_reducible first | exact HB.out | apply below_alloc | apply pw_below_drewN | apply below_drew1 | refine below_set ?_ GE187.out) | exact HB.out)) hb); clear BK187; clear HB; have BK187 := n0_; have HB := n1_; clear n0_ n1_; (try clear hb); (try clear hb2); (try clear hk); (try clear hi)))
              go_meet
              case rel => exact ⟨_, (t192), (by first | rfl | (simp; done) | (simp [*]; done) | (simp [bne]; done)), H', ⟨by have := HK1.out; first | omega | exact Nat.le_refl _⟩, ⟨by (with_reducible repeat (first | refine blk_drewN ?_ _ | refine blk_drew ?_ | refine blk_alloc ?_ _)); exact BK187.out⟩, ⟨by repeat (first | (with_reducible first | exact HB.out | apply below_alloc | apply pw_below_drewN | apply below_drew1 | refine below_set ?_ GE187.out) | exact HB.out)⟩⟩
            ·
             replace c42 := Bool.eq_false_iff.mpr c42
             subst c42
             have H1 : ((show_shut.f k1 ((rd_T53 l0 x11_1).f0)).bind fun t193 => (show_fault.j1 k1 l0 a1 l0 (l0.length : Int) x11_1 t193 ((rd_T53 l0 x11_1).f0) ((rd_T53 l0 x11_1).f1) ((rd_T53 l0 x11_1).f2) ((rd_T53 l0 x11_1).f3))) = some r := by rw [if_neg (show ¬ (false = true) by decide)] at H; exact H
             clear H
             have H := H1
             clear H1
             replace H := Option.bind_eq_some_iff.mp H
             obtain ⟨t193, A520, H⟩ := H
             replace H : (show_fault.j1 k1 l0 a1 l0 (l0.length : Int) x11_1 t193 ((rd_T53 l0 x11_1).f0) ((rd_T53 l0 x11_1).f1) ((rd_T53 l0 x11_1).f2) ((rd_T53 l0 x11_1).f3)) = some r := H
             have A52 := Aside0.mk A520
             clear A520
             have H' := Aside0.mk H
             clear H
             have hcz53_0 : w39.cell? ⟨gb187, 0, none⟩ = some (.string ((rd_T53 l0 x11_1).f0)) := (blk_cell BK187.out 0).trans rfl
             have hcz53_1 : w39.cell? ⟨gb187, 1, none⟩ = some (.slice A186_1 ((rd_T53 l0 x11_1).f1).length c186_1) := (blk_cell BK187.out 1).trans rfl
             have hcz53_2 : w39.cell? ⟨gb187, 2, none⟩ = some (.string ((rd_T53 l0 x11_1).f2)) := (blk_cell BK187.out 2).trans rfl
             have hcz53_3 : w39.cell? ⟨gb187, 3, none⟩ = some (.slice A186_3 ((rd_T53 l0 x11_1).f3).length c186_3) := (blk_cell BK187.out 3).trans rfl
             have hfz53_0 := blk_frozen BK187.out 0
             have hfz53_1 := blk_frozen BK187.out 1
             have hfz53_2 := blk_frozen BK187.out 2
             have hfz53_3 := blk_frozen BK187.out 3
             go_wp2_with (first | (go_at_call 46; (with_reducible refine (show_Void.calls k1 ((rd_T53 l0 x11_1).f0) false _ A41.out).mono ?_); rintro e w54 ⟨rfl, hb⟩; have n0_ := Aside0.mk (blk_below (g := gb187) (o := .cells #[.string ((rd_T53 l0 x11_1).f0), .slice A186_1 ((rd_T53 l0 x11_1).f1).length c186_1, .string ((rd_T53 l0 x11_1).f2), .slice A186_3 ((rd_T53 l0 x11_1).f3).length c186_3] 53 (0, 0)) (by (with_reducible repeat (first | refine blk_drewN ?_ _ | refine blk_drew ?_ | refine blk_alloc ?_ _)); exact BK187.out) hb); have n1_ := Aside0.mk (below_step (by repeat (first | (with_reducible first | exact HB.out | apply below_alloc | apply pw_below_drewN | apply below_drew1 | refine below_set ?_ GE187.out) | exact HB.out)) hb); clear BK187; clear HB; have BK187 := n0_; have HB := n1_; clear n0_ n1_; (try clear hb); (try clear hb2); (try clear hk); (try clear hi); have hcz55_0 : w54.cell? ⟨gb187, 0, none⟩ = some (.string ((rd_T53 l0 x11_1).f0)) := (blk_cell BK187.out 0).trans rfl; have hcz55_1 : w54.cell? ⟨gb187, 1, none⟩ = some (.slice A186_1 ((rd_T53 l0 x11_1).f1).length c186_1) := (blk_cell BK187.out 1).trans rfl; have hcz55_2 : w54.cell? ⟨gb187, 2, none⟩ = some (.string ((rd_T53 l0 x11_1).f2)) := (blk_cell BK187.out 2).trans rfl; have hcz55_3 : w54.cell? ⟨gb187, 3, none⟩ = some (.slice A186_3 ((rd_T53 l0 x11_1).f3).length c186_3) := (blk_cell BK187.out 3).trans rfl; have hfz55_0 := blk_frozen BK187.out 0; have hfz55_1 := blk_frozen BK187.out 1; have hfz55_2 := blk_frozen BK187.out 2; have hfz55_3 := blk_frozen BK187.out 3) | (go_at_call 47; (with_reducible refine (show_shut.calls k1 ((rd_T53 l0 x11_1).f0) t193 _ A52.out).mono ?_); rintro e w56 ⟨rfl, hb⟩; have n0_ := Aside0.mk (blk_below (g := gb187) (o := .cells #[.string ((rd_T53 l0 x11_1).f0), .slice A186_1 ((rd_T53 l0 x11_1).f1).length c186_1, .string ((rd_T53 l0 x11_1).f2), .slice A186_3 ((rd_T53 l0 x11_1).f3).length c186_3] 53 (0, 0)) (by (with_reducible repeat (first | refine blk_drewN ?_ _ | refine blk_drew ?_ | refine blk_alloc ?_ _)); exact BK187.out) hb); have n1_ := Aside0.mk (below_step (by repeat (first | (with_reducible first | exact HB.out | apply below_alloc | apply pw_below_drewN | apply below_drew1 | refine below_set ?_ GE187.out) | exact HB.out)) hb); clear BK187; clear HB; have BK187 := n0_; have HB := n1_; clear n0_ n1_; (try clear hb); (try clear hb2); (try clear hk); (try clear hi)))
             go_meet
             case rel => exact ⟨_, (t193), (by first | rfl | (simp; done) | (simp [*]; done) | (simp [bne]; done)), H', ⟨by have := HK1.out; first | omega | exact Nat.le_refl _⟩, ⟨by (with_reducible repeat (first | refine blk_drewN ?_ _ | refine blk_drew ?_ | refine blk_alloc ?_ _)); exact BK187.out⟩, ⟨by repeat (first | (with_reducible first | exact HB.out | apply below_alloc | apply pw_below_drewN | apply below_drew1 | refine below_set ?_ GE187.out) | exact HB.out)⟩⟩
           ·
            rw [if_neg c40] at H
            have c40b0 : (((rd_T53 l0 x11_1).f2).toList == ([] : List UInt8)) = false := beq_eq_false_iff_ne.mpr c40
            have c40b1 : (((rd_T53 l0 x11_1).f2).toList != ([] : List UInt8)) = true := bne_iff_ne.mpr c40
            (first | rw [c40b0] | (simp only [i64_w, i32_w]; rw [c40b0]) | rw [c40b1] | skip)
            have H' := Aside0.mk H
            clear H
            have hcz57_0 : w39.cell? ⟨gb187, 0, none⟩ = some (.string ((rd_T53 l0 x11_1).f0)) := (blk_cell BK187.out 0).trans rfl
            have hcz57_1 : w39.cell? ⟨gb187, 1, none⟩ = some (.slice A186_1 ((rd_T53 l0 x11_1).f1).length c186_1) := (blk_cell BK187.out 1).trans rfl
            have hcz57_2 : w39.cell? ⟨gb187, 2, none⟩ = some (.string ((rd_T53 l0 x11_1).f2)) := (blk_cell BK187.out 2).trans rfl
            have hcz57_3 : w39.cell? ⟨gb187, 3, none⟩ = some (.slice A186_3 ((rd_T53 l0 x11_1).f3).length c186_3) := (blk_cell BK187.out 3).trans rfl
            have hfz57_0 := blk_frozen BK187.out 0
            have hfz57_1 := blk_frozen BK187.out 1
            have hfz57_2 := blk_frozen BK187.out 2
            have hfz57_3 := blk_frozen BK187.out 3
            go_wp2
            go_meet
            case rel => exact ⟨_, (true), (by first | rfl | (simp; done) | (simp [*]; done) | (simp [bne]; done)), H', ⟨by have := HK1.out; first | omega | exact Nat.le_refl _⟩, ⟨by (with_reducible repeat (first | refine blk_drewN ?_ _ | refine blk_drew ?_ | refine blk_alloc ?_ _)); exact BK187.out⟩, ⟨by repeat (first | (with_reducible first | exact HB.out | apply below_alloc | apply pw_below_drewN | apply below_drew1 | refine below_set ?_ GE187.out) | exact HB.out)⟩⟩
          case rest =>
           clear HC34
           try clear c1
           try clear p1
           try clear q1
           try clear hx1
           try clear c2
           try clear p2
           try clear c3
           try clear c3b0
           try clear c4
           try clear c4b0
           try clear c5
           try clear c5b0
           try clear c6
           try clear c6b0
           try clear p6
           try clear c9
           try clear c9b0
           try clear c9b1
           try clear c10
           try clear c10b0
           try clear c10b1
           try clear c13
           try clear c13b0
           try clear c13b1
           try clear c16
           try clear c16b0
           try clear c16b1
           try clear c18
           try clear p18
           try clear q18
           try clear hx18
           try clear c19
           try clear c19b0
           try clear c21
           try clear c21b0
           try clear c22
           try clear c22b0
           try clear c23
           try clear c23b0
           try clear c23b1
           try clear c31
           try clear c33
           try clear c33b0
           try clear c33b1
           try clear c40
           try clear c40b0
           try clear c40b1
           try clear c41
           try clear c42
           try clear c43
           try clear c43b0
           try clear c43b1
           try clear hcz12_0
           try clear hcz12_1
           try clear hcz12_2
           try clear hcz12_3
           try clear hcz15_0
           try clear hcz15_1
           try clear hcz15_2
           try clear hcz15_3
           try clear hcz18_0
           try clear hcz18_1
           try clear hcz18_2
           try clear hcz18_3
           try clear hcz25_0
           try clear hcz25_1
           try clear hcz25_2
           try clear hcz25_3
           try clear hcz27_0
           try clear hcz27_1
           try clear hcz27_2
           try clear hcz27_3
           try clear hcz29_0
           try clear hcz29_1
           try clear hcz29_2
           try clear hcz29_3
           try clear hcz36_0
           try clear hcz36_1
           try clear hcz36_2
           try clear hcz36_3
           try clear hcz38_0
           try clear hcz38_1
           try clear hcz38_2
           try clear hcz38_3
           try clear hcz44_0
           try clear hcz44_1
           try clear hcz44_2
           try clear hcz44_3
           try clear hcz46_0
           try clear hcz46_1
           try clear hcz46_2
           try clear hcz46_3
           try clear hcz48_0
           try clear hcz48_1
           try clear hcz48_2
           try clear hcz48_3
           try clear hcz50_0
           try clear hcz50_1
           try clear hcz50_2
           try clear hcz50_3
           try clear hcz53_0
           try clear hcz53_1
           try clear hcz53_2
           try clear hcz53_3
           try clear hcz55_0
           try clear hcz55_1
           try clear hcz55_2
           try clear hcz55_3
           try clear hcz57_0
           try clear hcz57_1
           try clear hcz57_2
           try clear hcz57_3
           try clear hcz8_0
           try clear hcz8_1
           try clear hcz8_2
           try clear hcz8_3
           try clear hfz12_0
           try clear hfz12_1
           try clear hfz12_2
           try clear hfz12_3
           try clear hfz15_0
           try clear hfz15_1
           try clear hfz15_2
           try clear hfz15_3
           try clear hfz18_0
           try clear hfz18_1
           try clear hfz18_2
           try clear hfz18_3
           try clear hfz25_0
           try clear hfz25_1
           try clear hfz25_2
           try clear hfz25_3
           try clear hfz27_0
           try clear hfz27_1
           try clear hfz27_2
           try clear hfz27_3
           try clear hfz29_0
           try clear hfz29_1
           try clear hfz29_2
           try clear hfz29_3
           try clear hfz36_0
           try clear hfz36_1
           try clear hfz36_2
           try clear hfz36_3
           try clear hfz38_0
           try clear hfz38_1
           try clear hfz38_2
           try clear hfz38_3
           try clear hfz44_0
           try clear hfz44_1
           try clear hfz44_2
           try clear hfz44_3
           try clear hfz46_0
           try clear hfz46_1
           try clear hfz46_2
           try clear hfz46_3
           try clear hfz48_0
           try clear hfz48_1
           try clear hfz48_2
           try clear hfz48_3
           try clear hfz50_0
           try clear hfz50_1
           try clear hfz50_2
           try clear hfz50_3
           try clear hfz53_0
           try clear hfz53_1
           try clear hfz53_2
           try clear hfz53_3
           try clear hfz55_0
           try clear hfz55_1
           try clear hfz55_2
           try clear hfz55_3
           try clear hfz57_0
           try clear hfz57_1
           try clear hfz57_2
           try clear hfz57_3
           try clear hfz8_0
           try clear hfz8_1
           try clear hfz8_2
           try clear hfz8_3
           try clear hx186_0
           try clear hx186_1
           try clear hx186_2
           try clear hx186_3
           try clear hx188_0
           try clear hx188_1
           try clear hx188_2
           try clear hx188_3
           try clear p186
           try clear p188
           try clear p2
           try clear q186
           try clear q188
           obtain ⟨kq, x77_33, rfl, HA, HJ33, BK187, HB⟩ := hcut
           cases kq with
           | zero => exact absurd HA.out (by simp [show_fault.j1])
           | succ kj33 =>
            have H := HA.out
            clear HA
            simp only [show_fault.j1] at H
            by_cases c58 : x77_33 = true
            ·
             subst c58
             have H1 : (some 4) = some r := by rw [if_pos rfl] at H; exact H
             clear H
             have H := H1
             clear H1
             obtain rfl := Option.some.inj H
             go_wp2
             go_ret
             exact ⟨by first | rfl | (simp [errW_none, errW_some] <;> rfl) | (simp [*, errW_none, errW_some] <;> rfl), by repeat (first | (with_reducible first | exact HB.out | apply below_alloc | apply pw_below_drewN | apply below_drew1 | refine below_set ?_ GE187.out) | exact HB.out)⟩
            ·
             replace c58 := Bool.eq_false_iff.mpr c58
             subst c58
             have H1 : ((show_fault.f kj33 ((rd_T53 l0 x11_1).f3) (wrap64 (a1 + 1))).bind fun t194 => (if t194 = 0 then (show_fault.l0 kj33 l0 a1 l0 (l0.length : Int) (wrap64 (x11_1 + 1))) else (some t194))) = some r := by rw [if_neg (show ¬ (false = true) by decide)] at H; exact H
             clear H
             have H := H1
             clear H1
             replace H := Option.bind_eq_some_iff.mp H
             obtain ⟨t194, A590, H⟩ := H
             replace H : (if t194 = 0 then (show_fault.l0 kj33 l0 a1 l0 (l0.length : Int) (wrap64 (x11_1 + 1))) else (some t194)) = some r := H
             have A59 := Aside0.mk A590
             clear A590
             by_cases c60 : t194 = 0
             ·
              rw [if_pos c60] at H
              have c60b0 : (t194 == 0) = true := beq_iff_eq.mpr c60
              have c60b1 : (t194 != 0) = false := bne_eq_false_iff_eq.mpr c60
              clear c60
              have H' := Aside0.mk H
              clear H
              have hcz61_0 : wc.cell? ⟨gb187, 0, none⟩ = some (.string ((rd_T53 l0 x11_1).f0)) := (blk_cell BK187.out 0).trans rfl
              have hcz61_1 : wc.cell? ⟨gb187, 1, none⟩ = some (.slice A186_1 ((rd_T53 l0 x11_1).f1).length c186_1) := (blk_cell BK187.out 1).trans rfl
              have hcz61_2 : wc.cell? ⟨gb187, 2, none⟩ = some (.string ((rd_T53 l0 x11_1).f2)) := (blk_cell BK187.out 2).trans rfl
              have hcz61_3 : wc.cell? ⟨gb187, 3, none⟩ = some (.slice A186_3 ((rd_T53 l0 x11_1).f3).length c186_3) := (blk_cell BK187.out 3).trans rfl
              have hfz61_0 := blk_frozen BK187.out 0
              have hfz61_1 := blk_frozen BK187.out 1
              have hfz61_2 := blk_frozen BK187.out 2
              have hfz61_3 := blk_frozen BK187.out 3
              go_wp2_with (first | ((with_reducible refine gate_callee (f := 33) rfl ?_); refine goesL_ (some 82) rfl rfl Try.func33 (by kernel_rfl) rfl #[.slice A186_3 ((rd_T53 l0 x11_1).f3).length c186_3, .int .i64 (wrap64 (a1 + 1))] rfl (by (try simp only [List.map_toArray, List.map_cons, List.map_nil]); first | done | rfl | (simp only [List.length_drop, List.length_take]; rfl)) ?_; (with_reducible refine (ih kj33 (by have := HK1.out; have := HJ33.out; omega) _ _ ((rd_T53 l0 x11_1).f3) (wrap64 (a1 + 1)) t194 _ ?side1 ?side2 A59.out).mono ?_); (case side1 => repeat (first | exact (Kd.C_below HR186_3.out HB.out) | (with_reducible refine Kd.C_alloc ?_ _) | (with_reducible refine Kd.C_drewN ?_ _) | (with_reducible refine Kd.C_drew ?_))); (case side2 => exact HC186_3.out); rintro e w62 ⟨rfl, hb⟩; refine ⟨_, rfl, ?_⟩; have n0_ := Aside0.mk (blk_below (g := gb187) (o := .cells #[.string ((rd_T53 l0 x11_1).f0), .slice A186_1 ((rd_T53 l0 x11_1).f1).length c186_1, .string ((rd_T53 l0 x11_1).f2), .slice A186_3 ((rd_T53 l0 x11_1).f3).length c186_3] 53 (0, 0)) (by (with_reducible repeat (first | refine blk_drewN ?_ _ | refine blk_drew ?_ | refine blk_alloc ?_ _)); exact BK187.out) hb); have n1_ := Aside0.mk (below_step (by repeat (first | (with_reducible first | exact HB.out | apply below_alloc | apply pw_below_drewN | apply below_drew1 | refine below_set ?_ GE187.out) | exact HB.out)) hb); clear BK187; clear HB; have BK187 := n0_; have HB := n1_; clear n0_ n1_; (try clear hb); (try clear hb2); (try clear hk); (try clear hi)))
              go_roundg kj33
              case measure => have := HK1.out; have := HJ33.out; omega
              case rel => exact ⟨(wrap64 (x11_1 + 1)), (by first | rfl | (simp; done) | (simp [*]; done) | (simp [bne]; done)), H', ⟨by have := HK1.out; have := HJ33.out; omega⟩, ⟨by repeat (first | (with_reducible first | exact HB.out | apply below_alloc | apply pw_below_drewN | apply below_drew1 | refine below_set ?_ GE187.out) | exact HB.out)⟩⟩
             ·
              rw [if_neg c60] at H
              have c60b0 : (t194 == 0) = false := beq_eq_false_iff_ne.mpr c60
              have c60b1 : (t194 != 0) = true := bne_iff_ne.mpr c60
              obtain rfl := Option.some.inj H
              have hcz63_0 : wc.cell? ⟨gb187, 0, none⟩ = some (.string ((rd_T53 l0 x11_1).f0)) := (blk_cell BK187.out 0).trans rfl
              have hcz63_1 : wc.cell? ⟨gb187, 1, none⟩ = some (.slice A186_1 ((rd_T53 l0 x11_1).f1).length c186_1) := (blk_cell BK187.out 1).trans rfl
              have hcz63_2 : wc.cell? ⟨gb187, 2, none⟩ = some (.string ((rd_T53 l0 x11_1).f2)) := (blk_cell BK187.out 2).trans rfl
              have hcz63_3 : wc.cell? ⟨gb187, 3, none⟩ = some (.slice A186_3 ((rd_T53 l0 x11_1).f3).length c186_3) := (blk_cell BK187.out 3).trans rfl
              have hfz63_0 := blk_frozen BK187.out 0
              have hfz63_1 := blk_frozen BK187.out 1
              have hfz63_2 := blk_frozen BK187.out 2
              have hfz63_3 := blk_frozen BK187.out 3
              go_wp2_with (first | ((with_reducible refine gate_callee (f := 33) rfl ?_); refine goesL_ (some 82) rfl rfl Try.func33 (by kernel_rfl) rfl #[.slice A186_3 ((rd_T53 l0 x11_1).f3).length c186_3, .int .i64 (wrap64 (a1 + 1))] rfl (by (try simp only [List.map_toArray, List.map_cons, List.map_nil]); first | done | rfl | (simp only [List.length_drop, List.length_take]; rfl)) ?_; (with_reducible refine (ih kj33 (by have := HK1.out; have := HJ33.out; omega) _ _ ((rd_T53 l0 x11_1).f3) (wrap64 (a1 + 1)) t194 _ ?side1 ?side2 A59.out).mono ?_); (case side1 => repeat (first | exact (Kd.C_below HR186_3.out HB.out) | (with_reducible refine Kd.C_alloc ?_ _) | (with_reducible refine Kd.C_drewN ?_ _) | (with_reducible refine Kd.C_drew ?_))); (case side2 => exact HC186_3.out); rintro e w64 ⟨rfl, hb⟩; refine ⟨_, rfl, ?_⟩; have n0_ := Aside0.mk (blk_below (g := gb187) (o := .cells #[.string ((rd_T53 l0 x11_1).f0), .slice A186_1 ((rd_T53 l0 x11_1).f1).length c186_1, .string ((rd_T53 l0 x11_1).f2), .slice A186_3 ((rd_T53 l0 x11_1).f3).length c186_3] 53 (0, 0)) (by (with_reducible repeat (first | refine blk_drewN ?_ _ | refine blk_drew ?_ | refine blk_alloc ?_ _)); exact BK187.out) hb); have n1_ := Aside0.mk (below_step (by repeat (first | (with_reducible first | exact HB.out | apply below_alloc | apply pw_below_drewN | apply below_drew1 | refine below_set ?_ GE187.out) | exact HB.out)) hb); clear BK187; clear HB; have BK187 := n0_; have HB := n1_; clear n0_ n1_; (try clear hb); (try clear hb2); (try clear hk); (try clear hi)))
              go_ret
              exact ⟨by first | rfl | (simp [errW_none, errW_some] <;> rfl) | (simp [*, errW_none, errW_some] <;> rfl), by repeat (first | (with_reducible first | exact HB.out | apply below_alloc | apply pw_below_drewN | apply below_drew1 | refine below_set ?_ GE187.out) | exact HB.out)⟩
         ·
          rw [if_neg c33] at H
          have c33b0 : (t190 == 0) = false := beq_eq_false_iff_ne.mpr c33
          have c33b1 : (t190 != 0) = true := bne_iff_ne.mpr c33
          obtain rfl := Option.some.inj H
          have p186 : 0 ≤ (x11_1 : Int) := of_decide_eq_true (by first | (with_reducible assumption) | assumption)
          have q186 : x11_1 < (l0.length : Int) := of_decide_eq_true (by first | (with_reducible assumption) | assumption)
          obtain ⟨ad186, A186_1, c186_1, A186_3, c186_3, e186, hx186_0, hx186_1, hx186_2, hx186_3, hl186_1, hi186_1, hl186_3, hi186_3⟩ := at_T53 HR0.out x11_1 p186 q186
          cases e186
          replace hx186_0 := (HB.out.cell (World.block_lt_of_cell? w _ hx186_0)).trans hx186_0
          replace hx186_1 := (HB.out.cell (World.block_lt_of_cell? w _ hx186_1)).trans hx186_1
          replace hx186_2 := (HB.out.cell (World.block_lt_of_cell? w _ hx186_2)).trans hx186_2
          replace hx186_3 := (HB.out.cell (World.block_lt_of_cell? w _ hx186_3)).trans hx186_3
          have HR186_1 := Aside0.mk hi186_1
          have HC186_1 := Aside0.mk hl186_1
          clear hi186_1 hl186_1
          have HR186_3 := Aside0.mk hi186_3
          have HC186_3 := Aside0.mk hl186_3
          clear hi186_3 hl186_3
          replace p186 := eq_true p186
          replace q186 := eq_true q186
          go_wp2_with (first | ((with_reducible refine gate_dst (N := 6) rfl ?_); (try (refine gate_guard (by rfl) ?_; dsimp only)); refine box_event ?hg (N := 6) ?hd (cs := #[.string (⟨#[]⟩ : ByteArray), .slice none 0 0, .string (⟨#[]⟩ : ByteArray), .slice none 0 0]) (t := 53) ?hr ?_; (case hd => rfl); (case hg => rfl); (case hr => first | (go_simp; done) | (go_simp; rfl)); intro gb187 hg w65 hbox hb; have n0_ := Aside0.mk (below_step (by repeat (first | (with_reducible first | exact HB.out | apply below_alloc | apply pw_below_drewN | apply below_drew1) | exact HB.out)) hb); have n1_ := Aside0.mk (hbox); have n2_ := Aside0.mk ((by rw [hg]; exact (below_size (by repeat (first | (with_reducible first | exact HB.out | apply below_alloc | apply pw_below_drewN | apply below_drew1) | exact HB.out))) : w.heap.size ≤ gb187)); have n3_ := Aside0.mk ((by rw [hg]; exact (below_size (by repeat (first | (with_reducible first | exact HB.out | apply below_alloc | apply pw_below_drewN | apply below_drew1) | exact HB.out))) : w.heap.size ≤ gb187)); clear HB; have HB := n0_; have BK187 := n1_; have GW187 := n2_; have GE187 := n3_; clear n0_ n1_ n2_ n3_; clear hb hbox hg; have hcz66_0 : w65.cell? ⟨gb187, 0, none⟩ = some (.string (⟨#[]⟩ : ByteArray)) := (blk_cell BK187.out 0).trans rfl; have hcz66_1 : w65.cell? ⟨gb187, 1, none⟩ = some (.slice none 0 0) := (blk_cell BK187.out 1).trans rfl; have hcz66_2 : w65.cell? ⟨gb187, 2, none⟩ = some (.string (⟨#[]⟩ : ByteArray)) := (blk_cell BK187.out 2).trans rfl; have hcz66_3 : w65.cell? ⟨gb187, 3, none⟩ = some (.slice none 0 0) := (blk_cell BK187.out 3).trans rfl; have hfz66_0 := blk_frozen BK187.out 0; have hfz66_1 := blk_frozen BK187.out 1; have hfz66_2 := blk_frozen BK187.out 2; have hfz66_3 := blk_frozen BK187.out 3) | ((with_reducible refine gate_callee (f := 41) rfl ?_); refine goesL_ (some 51) rfl rfl Try.func41 (by kernel_rfl) rfl #[.string ((rd_T53 l0 x11_1).f0)] rfl (by (try simp only [List.map_toArray, List.map_cons, List.map_nil]); first | done | rfl | (simp only [List.length_drop, List.length_take]; rfl)) ?_; (with_reducible refine (emit_Name.calls ((rd_T53 l0 x11_1).f0) true _ A30.out).mono ?_); rintro e w67 ⟨rfl, hb⟩; refine ⟨_, rfl, ?_⟩; have n0_ := Aside0.mk (blk_below (g := gb187) (o := .cells #[.string ((rd_T53 l0 x11_1).f0), .slice A186_1 ((rd_T53 l0 x11_1).f1).length c186_1, .string ((rd_T53 l0 x11_1).f2), .slice A186_3 ((rd_T53 l0 x11_1).f3).length c186_3] 53 (0, 0)) (by (with_reducible repeat (first | refine blk_drewN ?_ _ | refine blk_drew ?_ | refine blk_alloc ?_ _)); refine blk_put (cs := #[.string ((rd_T53 l0 x11_1).f0), .slice A186_1 ((rd_T53 l0 x11_1).f1).length c186_1, .string ((rd_T53 l0 x11_1).f2), .slice none 0 0]) ?_ 3 _ rfl; (with_reducible repeat (first | refine blk_drewN ?_ _ | refine blk_drew ?_ | refine blk_alloc ?_ _)); refine blk_put (cs := #[.string ((rd_T53 l0 x11_1).f0), .slice A186_1 ((rd_T53 l0 x11_1).f1).length c186_1, .string (⟨#[]⟩ : ByteArray), .slice none 0 0]) ?_ 2 _ rfl; (with_reducible repeat (first | refine blk_drewN ?_ _ | refine blk_drew ?_ | refine blk_alloc ?_ _)); refine blk_put (cs := #[.string ((rd_T53 l0 x11_1).f0), .slice none 0 0, .string (⟨#[]⟩ : ByteArray), .slice none 0 0]) ?_ 1 _ rfl; (with_reducible repeat (first | refine blk_drewN ?_ _ | refine blk_drew ?_ | refine blk_alloc ?_ _)); refine blk_put (cs := #[.string (⟨#[]⟩ : ByteArray), .slice none 0 0, .string (⟨#[]⟩ : ByteArray), .slice none 0 0]) ?_ 0 _ rfl; (with_reducible repeat (first | refine blk_drewN ?_ _ | refine blk_drew ?_ | refine blk_alloc ?_ _)); exact BK187.out) hb); have n1_ := Aside0.mk (below_step (by repeat (first | (with_reducible first | exact HB.out | apply below_alloc | apply pw_below_drewN | apply below_drew1 | refine below_set ?_ GE187.out) | exact HB.out)) hb); clear BK187; clear HB; have BK187 := n0_; have HB := n1_; clear n0_ n1_; (try clear hb); (try clear hb2); (try clear hk); (try clear hi); have hcz68_0 : w67.cell? ⟨gb187, 0, none⟩ = some (.string ((rd_T53 l0 x11_1).f0)) := (blk_cell BK187.out 0).trans rfl; have hcz68_1 : w67.cell? ⟨gb187, 1, none⟩ = some (.slice A186_1 ((rd_T53 l0 x11_1).f1).length c186_1) := (blk_cell BK187.out 1).trans rfl; have hcz68_2 : w67.cell? ⟨gb187, 2, none⟩ = some (.string ((rd_T53 l0 x11_1).f2)) := (blk_cell BK187.out 2).trans rfl; have hcz68_3 : w67.cell? ⟨gb187, 3, none⟩ = some (.slice A186_3 ((rd_T53 l0 x11_1).f3).length c186_3) := (blk_cell BK187.out 3).trans rfl; have hfz68_0 := blk_frozen BK187.out 0; have hfz68_1 := blk_frozen BK187.out 1; have hfz68_2 := blk_frozen BK187.out 2; have hfz68_3 := blk_frozen BK187.out 3) | ((with_reducible refine gate_callee (f := 42) rfl ?_); refine goesL_ (some 55) rfl rfl Try.func42 (by kernel_rfl) rfl #[.slice A186_1 ((rd_T53 l0 x11_1).f1).length c186_1] rfl (by (try simp only [List.map_toArray, List.map_cons, List.map_nil]); first | done | rfl | (simp only [List.length_drop, List.length_take]; rfl)) ?_; (with_reducible refine (emit_Attrs.calls k1 _ _ ((rd_T53 l0 x11_1).f1) t190 _ ?side1 ?side2 A32.out).mono ?_); (case side1 => repeat (first | exact (Kd.C_below HR186_1.out HB.out) | (with_reducible refine Kd.C_alloc ?_ _) | (with_reducible refine Kd.C_drewN ?_ _) | (with_reducible refine Kd.C_drew ?_))); (case side2 => exact HC186_1.out); rintro e w69 ⟨rfl, hb⟩; refine ⟨_, rfl, ?_⟩; have n0_ := Aside0.mk (blk_below (g := gb187) (o := .cells #[.string ((rd_T53 l0 x11_1).f0), .slice A186_1 ((rd_T53 l0 x11_1).f1).length c186_1, .string ((rd_T53 l0 x11_1).f2), .slice A186_3 ((rd_T53 l0 x11_1).f3).length c186_3] 53 (0, 0)) (by (with_reducible repeat (first | refine blk_drewN ?_ _ | refine blk_drew ?_ | refine blk_alloc ?_ _)); exact BK187.out) hb); have n1_ := Aside0.mk (below_step (by repeat (first | (with_reducible first | exact HB.out | apply below_alloc | apply pw_below_drewN | apply below_drew1 | refine below_set ?_ GE187.out) | exact HB.out)) hb); clear BK187; clear HB; have BK187 := n0_; have HB := n1_; clear n0_ n1_; (try clear hb); (try clear hb2); (try clear hk); (try clear hi)))
          go_ret
          exact ⟨by first | rfl | (simp [errW_none, errW_some] <;> rfl) | (simp [*, errW_none, errW_some] <;> rfl), by repeat (first | (with_reducible first | exact HB.out | apply below_alloc | apply pw_below_drewN | apply below_drew1 | refine below_set ?_ GE187.out) | exact HB.out)⟩
        ·
         replace c31 := Bool.eq_false_iff.mpr c31
         subst c31
         have H1 : (some 5) = some r := by rw [if_neg (show ¬ (false = true) by decide)] at H; exact H
         clear H
         have H := H1
         clear H1
         obtain rfl := Option.some.inj H
         have p186 : 0 ≤ (x11_1 : Int) := of_decide_eq_true (by first | (with_reducible assumption) | assumption)
         have q186 : x11_1 < (l0.length : Int) := of_decide_eq_true (by first | (with_reducible assumption) | assumption)
         obtain ⟨ad186, A186_1, c186_1, A186_3, c186_3, e186, hx186_0, hx186_1, hx186_2, hx186_3, hl186_1, hi186_1, hl186_3, hi186_3⟩ := at_T53 HR0.out x11_1 p186 q186
         cases e186
         replace hx186_0 := (HB.out.cell (World.block_lt_of_cell? w _ hx186_0)).trans hx186_0
         replace hx186_1 := (HB.out.cell (World.block_lt_of_cell? w _ hx186_1)).trans hx186_1
         replace hx186_2 := (HB.out.cell (World.block_lt_of_cell? w _ hx186_2)).trans hx186_2
         replace hx186_3 := (HB.out.cell (World.block_lt_of_cell? w _ hx186_3)).trans hx186_3
         have HR186_1 := Aside0.mk hi186_1
         have HC186_1 := Aside0.mk hl186_1
         clear hi186_1 hl186_1
         have HR186_3 := Aside0.mk hi186_3
         have HC186_3 := Aside0.mk hl186_3
         clear hi186_3 hl186_3
         replace p186 := eq_true p186
         replace q186 := eq_true q186
         go_wp2_with (first | ((with_reducible refine gate_dst (N := 6) rfl ?_); (try (refine gate_guard (by rfl) ?_; dsimp only)); refine box_event ?hg (N := 6) ?hd (cs := #[.string (⟨#[]⟩ : ByteArray), .slice none 0 0, .string (⟨#[]⟩ : ByteArray), .slice none 0 0]) (t := 53) ?hr ?_; (case hd => rfl); (case hg => rfl); (case hr => first | (go_simp; done) | (go_simp; rfl)); intro gb187 hg w70 hbox hb; have n0_ := Aside0.mk (below_step (by repeat (first | (with_reducible first | exact HB.out | apply below_alloc | apply pw_below_drewN | apply below_drew1) | exact HB.out)) hb); have n1_ := Aside0.mk (hbox); have n2_ := Aside0.mk ((by rw [hg]; exact (below_size (by repeat (first | (with_reducible first | exact HB.out | apply below_alloc | apply pw_below_drewN | apply below_drew1) | exact HB.out))) : w.heap.size ≤ gb187)); have n3_ := Aside0.mk ((by rw [hg]; exact (below_size (by repeat (first | (with_reducible first | exact HB.out | apply below_alloc | apply pw_below_drewN | apply below_drew1) | exact HB.out))) : w.heap.size ≤ gb187)); clear HB; have HB := n0_; have BK187 := n1_; have GW187 := n2_; have GE187 := n3_; clear n0_ n1_ n2_ n3_; clear hb hbox hg; have hcz71_0 : w70.cell? ⟨gb187, 0, none⟩ = some (.string (⟨#[]⟩ : ByteArray)) := (blk_cell BK187.out 0).trans rfl; have hcz71_1 : w70.cell? ⟨gb187, 1, none⟩ = some (.slice none 0 0) := (blk_cell BK187.out 1).trans rfl; have hcz71_2 : w70.cell? ⟨gb187, 2, none⟩ = some (.string (⟨#[]⟩ : ByteArray)) := (blk_cell BK187.out 2).trans rfl; have hcz71_3 : w70.cell? ⟨gb187, 3, none⟩ = some (.slice none 0 0) := (blk_cell BK187.out 3).trans rfl; have hfz71_0 := blk_frozen BK187.out 0; have hfz71_1 := blk_frozen BK187.out 1; have hfz71_2 := blk_frozen BK187.out 2; have hfz71_3 := blk_frozen BK187.out 3) | ((with_reducible refine gate_callee (f := 41) rfl ?_); refine goesL_ (some 51) rfl rfl Try.func41 (by kernel_rfl) rfl #[.string ((rd_T53 l0 x11_1).f0)] rfl (by (try simp only [List.map_toArray, List.map_cons, List.map_nil]); first | done | rfl | (simp only [List.length_drop, List.length_take]; rfl)) ?_; (with_reducible refine (emit_Name.calls ((rd_T53 l0 x11_1).f0) false _ A30.out).mono ?_); rintro e w72 ⟨rfl, hb⟩; refine ⟨_, rfl, ?_⟩; have n0_ := Aside0.mk (blk_below (g := gb187) (o := .cells #[.string ((rd_T53 l0 x11_1).f0), .slice A186_1 ((rd_T53 l0 x11_1).f1).length c186_1, .string ((rd_T53 l0 x11_1).f2), .slice A186_3 ((rd_T53 l0 x11_1).f3).length c186_3] 53 (0, 0)) (by (with_reducible repeat (first | refine blk_drewN ?_ _ | refine blk_drew ?_ | refine blk_alloc ?_ _)); refine blk_put (cs := #[.string ((rd_T53 l0 x11_1).f0), .slice A186_1 ((rd_T53 l0 x11_1).f1).length c186_1, .string ((rd_T53 l0 x11_1).f2), .slice none 0 0]) ?_ 3 _ rfl; (with_reducible repeat (first | refine blk_drewN ?_ _ | refine blk_drew ?_ | refine blk_alloc ?_ _)); refine blk_put (cs := #[.string ((rd_T53 l0 x11_1).f0), .slice A186_1 ((rd_T53 l0 x11_1).f1).length c186_1, .string (⟨#[]⟩ : ByteArray), .slice none 0 0]) ?_ 2 _ rfl; (with_reducible repeat (first | refine blk_drewN ?_ _ | refine blk_drew ?_ | refine blk_alloc ?_ _)); refine blk_put (cs := #[.string ((rd_T53 l0 x11_1).f0), .slice none 0 0, .string (⟨#[]⟩ : ByteArray), .slice none 0 0]) ?_ 1 _ rfl; (with_reducible repeat (first | refine blk_drewN ?_ _ | refine blk_drew ?_ | refine blk_alloc ?_ _)); refine blk_put (cs := #[.string (⟨#[]⟩ : ByteArray), .slice none 0 0, .string (⟨#[]⟩ : ByteArray), .slice none 0 0]) ?_ 0 _ rfl; (with_reducible repeat (first | refine blk_drewN ?_ _ | refine blk_drew ?_ | refine blk_alloc ?_ _)); exact BK187.out) hb); have n1_ := Aside0.mk (below_step (by repeat (first | (with_reducible first | exact HB.out | apply below_alloc | apply pw_below_drewN | apply below_drew1 | refine below_set ?_ GE187.out) | exact HB.out)) hb); clear BK187; clear HB; have BK187 := n0_; have HB := n1_; clear n0_ n1_; (try clear hb); (try clear hb2); (try clear hk); (try clear hi)))
         go_ret
         exact ⟨by first | rfl | (simp [errW_none, errW_some] <;> rfl) | (simp [*, errW_none, errW_some] <;> rfl), by repeat (first | (with_reducible first | exact HB.out | apply below_alloc | apply pw_below_drewN | apply below_drew1 | refine below_set ?_ GE187.out) | exact HB.out)⟩
     ·
      rw [if_neg c5] at H
      exact absurd H (by simp)
    ·
     rw [if_neg c4] at H
     exact absurd H (by simp)
   ·
    rw [if_neg c3] at H
    have c3b0 : decide (x11_1 < (l0.length : Int)) = false := decide_eq_false c3
    clear c3
    obtain rfl := Option.some.inj H
    go_wp2
    go_ret
    exact ⟨by first | rfl | (simp [errW_none, errW_some] <;> rfl) | (simp [*, errW_none, errW_some] <;> rfl), by repeat (first | (with_reducible first | exact HB.out | apply below_alloc | apply pw_below_drewN | apply below_drew1) | exact HB.out)⟩

end Go.Proofs.Ytjmhihadgpdiaaa.X
