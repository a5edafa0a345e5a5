/- Parts of the proof of PickLast that are needed, put together by pack.py. -/
import Derived.Test.YtaibikajpacemaaQPickLastaf
import Derived.Test.YtaibikajpacemaaQPickLastag
import Derived.Test.YtaibikajpacemaaQPickLastah
import Derived.Test.YtaibikajpacemaaQPickLastal
import Derived.Test.YtaibikajpacemaaQPickLastaa
section
namespace Go.Proofs.Ytaibikajpacemaa.X
open Go.RowKit Go.Proofs.YtaibikajpacemaaW.PrintWords Go.Proofs.YtaibikajpacemaaW.PrintLast Go.Proofs.YtaibikajpacemaaW.PrintMore
attribute [local go_sem] max2_int min2_int max_two min_two max_three min_three max_four min_four   -- for this text's walks alone
set_option linter.unusedVariables false
set_option linter.unusedSimpArgs false
mutual
def bobbinetkeep_PickLast.j0 : Nat → List (S28) → List (List Int) → List (List Int) → Bool → ByteArray → ByteArray → Bool → Option (Bool)
 | 0, _, _, _, _, _, _, _ => none
 | k + 1, x6, x8, x11, x48, x300000, x300001, x300002 => if x48 = true then (none) else (bobbinetkeep_PickLast.l0 k x6 x8 x11 0 x300000 x300001 x300002)
def bobbinetkeep_PickLast.l0 : Nat → List (S28) → List (List Int) → List (List Int) → Int → ByteArray → ByteArray → Bool → Option (Bool)
 | 0, _, _, _, _, _, _, _ => none
 | k + 1, x6, x8, x11, x13, x300000, x300001, x300002 => if x13 < (x8.length : Int) then (if 0 ≤ x13 then ((bobbinetkeep_nodeAt.f k x6 (rd_L7 x8 x13)).bind fun bt308 => (if bt308.2.2.2.2 = true then (if bt308.1.toList = ([] : List UInt8) then (bobbinetkeep_PickLast.j2 k x6 x8 x11 x13 true x300000 x300001 x300002) else (if x300000.toList = ([] : List UInt8) then ((bobbinetkeep_hasPath.f k x11 (rd_L7 x8 x13)).bind fun t319 => (bobbinetkeep_PickLast.j2 k x6 x8 x11 x13 (!t319) x300000 x300001 x300002)) else (if bt308.1.toList = x300000.toList then ((bobbinetkeep_hasPath.f k x11 (rd_L7 x8 x13)).bind fun t321 => (bobbinetkeep_PickLast.j2 k x6 x8 x11 x13 (!t321) x300000 x300001 x300002)) else (bobbinetkeep_PickLast.j2 k x6 x8 x11 x13 true x300000 x300001 x300002)))) else (bobbinetkeep_PickLast.j2 k x6 x8 x11 x13 true x300000 x300001 x300002))) else (none)) else (some true)
def bobbinetkeep_PickLast.j2 : Nat → List (S28) → List (List Int) → List (List Int) → Int → Bool → ByteArray → ByteArray → Bool → Option (Bool)
 | 0, _, _, _, _, _, _, _, _ => none
 | k + 1, x6, x8, x11, x13, x91, x300000, x300001, x300002 => if x91 = true then (none) else (if x13 > 0 then (if 0 ≤ (wrap64 (x13 - 1)) then (if (wrap64 (x13 - 1)) < (x8.length : Int) then (if 0 ≤ x13 then (if x13 < (x8.length : Int) then ((bobbinetkeep_beforePath.f k (rd_L7 x8 (wrap64 (x13 - 1))) (rd_L7 x8 x13)).bind fun t324 => (if t324 = true then (bobbinetkeep_PickLast.l0 k x6 x8 x11 (wrap64 (x13 + 1)) x300000 x300001 x300002) else (none))) else (none)) else (none)) else (none)) else (none)) else (bobbinetkeep_PickLast.l0 k x6 x8 x11 (wrap64 (x13 + 1)) x300000 x300001 x300002))
end
def bobbinetkeep_PickLast.f (k : Nat) (l0 : List Int) (l1 : List Int) : Option (Bool) := (bobbinetkeep_Picks.f l0 4).bind fun t285 => ((bobbinetkeep_Nodes.f k l1 5 6).bind fun bt288 => ((bobbinetkeep_paths.f k t285 bt288.1).bind fun bt294 => (if 0 ≤ (wrap64 ((t285.length : Int) - 1)) then (if (wrap64 ((t285.length : Int) - 1)) < (t285.length : Int) then ((bobbinetkeep_paths.f k (([(⟨(rd_T61 t285 (wrap64 ((t285.length : Int) - 1))).f0, (rd_T61 t285 (wrap64 ((t285.length : Int) - 1))).f1, true⟩ : S61)] : List (S61))) bt288.1).bind fun bt303 => (if bt294.2 = true then (bobbinetkeep_PickLast.j0 k bt288.1 bt294.1 bt303.1 (!bt303.2) ((rd_T61 t285 (wrap64 ((t285.length : Int) - 1))).f0) ((rd_T61 t285 (wrap64 ((t285.length : Int) - 1))).f1) true) else (bobbinetkeep_PickLast.j0 k bt288.1 bt294.1 bt303.1 true ((rd_T61 t285 (wrap64 ((t285.length : Int) - 1))).f0) ((rd_T61 t285 (wrap64 ((t285.length : Int) - 1))).f1) true))) else (none)) else (none))))
set_option maxHeartbeats 8000000 in
set_option maxRecDepth 100000 in
theorem bobbinetkeep_PickLast.calls (k : Nat) (A0 : Option Addr) (c0 : Nat) (l0 : List Int) (A1 : Option Addr) (c1 : Nat) (l1 : List Int) (r : Bool) (w : World) (hr0 : Kd.C (Kd.int .i64) w A0 l0.length l0) (hc0 : l0.length ≤ c0) (hr1 : Kd.C (Kd.int .i64) w A1 l1.length l1) (hc1 : l1.length ≤ c1) (h : bobbinetkeep_PickLast.f k l0 l1 = some r) :
  Calls Try.prog 8 #[.slice A0 l0.length c0, .slice A1 l1.length c1] w fun e w' => e = .returned (.bool r) ∧ Below w.heap.size w w' := by
 have hu61 := Try.underlying61
 have hu28 := Try.underlying28
 have HR0 := Aside0.mk hr0
 have HC0 := Aside0.mk hc0
 clear hr0 hc0
 have HR1 := Aside0.mk hr1
 have HC1 := Aside0.mk hc1
 clear hr1 hc1
 have HB := Aside0.mk (Below.refl w.heap.size w)
 have H : ((bobbinetkeep_Picks.f l0 4).bind fun t285 => ((bobbinetkeep_Nodes.f k l1 5 6).bind fun bt288 => ((bobbinetkeep_paths.f k t285 bt288.1).bind fun bt294 => (if 0 ≤ (wrap64 ((t285.length : Int) - 1)) then (if (wrap64 ((t285.length : Int) - 1)) < (t285.length : Int) then ((bobbinetkeep_paths.f k (([(⟨(rd_T61 t285 (wrap64 ((t285.length : Int) - 1))).f0, (rd_T61 t285 (wrap64 ((t285.length : Int) - 1))).f1, true⟩ : S61)] : List (S61))) bt288.1).bind fun bt303 => (if bt294.2 = true then (bobbinetkeep_PickLast.j0 k bt288.1 bt294.1 bt303.1 (!bt303.2) ((rd_T61 t285 (wrap64 ((t285.length : Int) - 1))).f0) ((rd_T61 t285 (wrap64 ((t285.length : Int) - 1))).f1) true) else (bobbinetkeep_PickLast.j0 k bt288.1 bt294.1 bt303.1 true ((rd_T61 t285 (wrap64 ((t285.length : Int) - 1))).f0) ((rd_T61 t285 (wrap64 ((t285.length : Int) - 1))).f1) true))) else (none)) else (none))))) = some r := h
 clear h
 replace H := Option.bind_eq_some_iff.mp H
 obtain ⟨t285, A30, H⟩ := H
 replace H : ((bobbinetkeep_Nodes.f k l1 5 6).bind fun bt288 => ((bobbinetkeep_paths.f k t285 bt288.1).bind fun bt294 => (if 0 ≤ (wrap64 ((t285.length : Int) - 1)) then (if (wrap64 ((t285.length : Int) - 1)) < (t285.length : Int) then ((bobbinetkeep_paths.f k (([(⟨(rd_T61 t285 (wrap64 ((t285.length : Int) - 1))).f0, (rd_T61 t285 (wrap64 ((t285.length : Int) - 1))).f1, true⟩ : S61)] : List (S61))) bt288.1).bind fun bt303 => (if bt294.2 = true then (bobbinetkeep_PickLast.j0 k bt288.1 bt294.1 bt303.1 (!bt303.2) ((rd_T61 t285 (wrap64 ((t285.length : Int) - 1))).f0) ((rd_T61 t285 (wrap64 ((t285.length : Int) - 1))).f1) true) else (bobbinetkeep_PickLast.j0 k bt288.1 bt294.1 bt303.1 true ((rd_T61 t285 (wrap64 ((t285.length : Int) - 1))).f0) ((rd_T61 t285 (wrap64 ((t285.length : Int) - 1))).f1) true))) else (none)) else (none)))) = some r := H
 have A3 := Aside0.mk A30
 clear A30
 replace H := Option.bind_eq_some_iff.mp H
 obtain ⟨⟨t288, t291⟩, A40, H⟩ := H
 replace H : ((bobbinetkeep_paths.f k t285 t288).bind fun bt294 => (if 0 ≤ (wrap64 ((t285.length : Int) - 1)) then (if (wrap64 ((t285.length : Int) - 1)) < (t285.length : Int) then ((bobbinetkeep_paths.f k (([(⟨(rd_T61 t285 (wrap64 ((t285.length : Int) - 1))).f0, (rd_T61 t285 (wrap64 ((t285.length : Int) - 1))).f1, true⟩ : S61)] : List (S61))) t288).bind fun bt303 => (if bt294.2 = true then (bobbinetkeep_PickLast.j0 k t288 bt294.1 bt303.1 (!bt303.2) ((rd_T61 t285 (wrap64 ((t285.length : Int) - 1))).f0) ((rd_T61 t285 (wrap64 ((t285.length : Int) - 1))).f1) true) else (bobbinetkeep_PickLast.j0 k t288 bt294.1 bt303.1 true ((rd_T61 t285 (wrap64 ((t285.length : Int) - 1))).f0) ((rd_T61 t285 (wrap64 ((t285.length : Int) - 1))).f1) true))) else (none)) else (none))) = some r := H
 have A4 := Aside0.mk A40
 clear A40
 replace H := Option.bind_eq_some_iff.mp H
 obtain ⟨⟨t294, t295⟩, A50, H⟩ := H
 replace H : (if 0 ≤ (wrap64 ((t285.length : Int) - 1)) then (if (wrap64 ((t285.length : Int) - 1)) < (t285.length : Int) then ((bobbinetkeep_paths.f k (([(⟨(rd_T61 t285 (wrap64 ((t285.length : Int) - 1))).f0, (rd_T61 t285 (wrap64 ((t285.length : Int) - 1))).f1, true⟩ : S61)] : List (S61))) t288).bind fun bt303 => (if t295 = true then (bobbinetkeep_PickLast.j0 k t288 t294 bt303.1 (!bt303.2) ((rd_T61 t285 (wrap64 ((t285.length : Int) - 1))).f0) ((rd_T61 t285 (wrap64 ((t285.length : Int) - 1))).f1) true) else (bobbinetkeep_PickLast.j0 k t288 t294 bt303.1 true ((rd_T61 t285 (wrap64 ((t285.length : Int) - 1))).f0) ((rd_T61 t285 (wrap64 ((t285.length : Int) - 1))).f1) true))) else (none)) else (none)) = some r := H
 have A5 := Aside0.mk A50
 clear A50
 obtain ⟨ji6, hji6⟩ : ∃ j_ : Int, (wrap64 ((t285.length : Int) - 1)) = j_ := ⟨_, rfl⟩
 replace H : (if 0 ≤ (ji6) then (if (ji6) < (t285.length : Int) then ((bobbinetkeep_paths.f k (([(⟨(rd_T61 t285 (ji6)).f0, (rd_T61 t285 (ji6)).f1, true⟩ : S61)] : List (S61))) t288).bind fun bt303 => (if t295 = true then (bobbinetkeep_PickLast.j0 k t288 t294 bt303.1 (!bt303.2) ((rd_T61 t285 (ji6)).f0) ((rd_T61 t285 (ji6)).f1) true) else (bobbinetkeep_PickLast.j0 k t288 t294 bt303.1 true ((rd_T61 t285 (ji6)).f0) ((rd_T61 t285 (ji6)).f1) true))) else (none)) else (none)) = some r := by first | (rw [hji6] at H; exact H) | (simp only [hji6] at H ⊢; exact H)
 (try rw [hji6] at A3)
 (try rw [hji6] at A4)
 (try rw [hji6] at A5)
 have hji6w : (IntKind.i64.wrap ((t285.length : Int) - 1)) = ji6 := (i64_w _).trans hji6
 by_cases c7 : 0 ≤ (ji6)
 ·
  rw [if_pos c7] at H
  have c7b0 : decide (0 ≤ (ji6)) = true := decide_eq_true c7
  clear c7
  by_cases c8 : (ji6) < (t285.length : Int)
  ·
   rw [if_pos c8] at H
   have c8b0 : decide ((ji6) < (t285.length : Int)) = true := decide_eq_true c8
   clear c8
   obtain ⟨y300, hy300⟩ : ∃ y_ : List (S61), y_ = (([(⟨(rd_T61 t285 (ji6)).f0, (rd_T61 t285 (ji6)).f1, true⟩ : S61)] : List (S61))) := ⟨_, rfl⟩
   replace H : ((bobbinetkeep_paths.f k y300 t288).bind fun bt303 => (if t295 = true then (bobbinetkeep_PickLast.j0 k t288 t294 bt303.1 (!bt303.2) ((rd_T61 t285 (ji6)).f0) ((rd_T61 t285 (ji6)).f1) true) else (bobbinetkeep_PickLast.j0 k t288 t294 bt303.1 true ((rd_T61 t285 (ji6)).f0) ((rd_T61 t285 (ji6)).f1) true))) = some r := by first | (rw [hy300]; with_reducible exact H) | (have H2_ := (Option.bind_some _ _).symm.trans H; rw [hy300]; with_reducible exact H2_) | (have H2_ := (Option.bind_some _ _).symm.trans H; with_reducible exact H2_) | with_reducible exact H | (rw [hy300]; exact H) | exact H
   have Ny300 := Aside0.mk hy300
   clear hy300
   replace H := Option.bind_eq_some_iff.mp H
   obtain ⟨⟨t303, t304⟩, A90, H⟩ := H
   replace H : (if t295 = true then (bobbinetkeep_PickLast.j0 k t288 t294 t303 (!t304) ((rd_T61 t285 (ji6)).f0) ((rd_T61 t285 (ji6)).f1) true) else (bobbinetkeep_PickLast.j0 k t288 t294 t303 true ((rd_T61 t285 (ji6)).f0) ((rd_T61 t285 (ji6)).f1) true)) = some r := H
   have A9 := Aside0.mk A90
   clear A90
   have HC10 := Aside0.mk H
   clear H
   go_enter Try.func8, Try.ntmps8
   go_upto_region 7 with (first | (go_at_call 26; (with_reducible refine (bobbinetkeep_Picks.calls _ _ l0 4 t285 _ ?side1 ?side2 A3.out).mono ?_); (case side1 => repeat (first | exact HR0.out | (with_reducible refine Kd.C_alloc ?_ _) | (with_reducible refine Kd.C_drewN ?_ _) | (with_reducible refine Kd.C_drew ?_))); (case side2 => exact HC0.out); rintro e w11 ⟨v286, rfl, ho0, hb⟩; have n0_ := Aside0.mk (Kd.R_lower ho0 (below_size (by repeat (first | (with_reducible first | exact HB.out | apply below_alloc | apply pw_below_drewN | apply below_drew1) | exact HB.out)))); have n1_ := Aside0.mk (below_step (by repeat (first | (with_reducible first | exact HB.out | apply below_alloc | apply pw_below_drewN | apply below_drew1) | exact HB.out)) hb); clear HB; have HO287 := n0_; have HB := n1_; clear n0_ n1_; (try clear hb); (try clear hb2); (try clear hk); (try clear hi); (try clear ho0)) | (go_at_call 12; (with_reducible refine (bobbinetkeep_Nodes.calls k (fun k_ => k_ < w.heap.size) _ _ l1 5 6 t288 t291 _ ?side1 A4.out).mono ?_); (case side1 => exact Kd.V_mk HC1.out (Kd.F_below (Kd.C_F (Kd.heap_int .i64) HR1.out) (by repeat (first | (with_reducible first | exact HB.out | apply below_alloc | apply pw_below_drewN | apply below_drew1) | exact HB.out)))); rintro e w12 ⟨v289, v292, rfl, ho0, ho1, hb⟩; have n0_ := Aside0.mk (Kd.R_below (by (with_reducible repeat (first | apply Kd.R_alloc | apply Kd.R_drewN | apply Kd.R_drew)); exact HO287.out) hb); have n1_ := Aside0.mk (Kd.R_lower (Kd.R_mono (ok' := fun k_ => True) ho0 (fun _ hk_ => trivial)) (below_size (by repeat (first | (with_reducible first | exact HB.out | apply below_alloc | apply pw_below_drewN | apply below_drew1) | exact HB.out)))); have n2_ := Aside0.mk (Kd.V_lower (Kd.V_mono (ok' := fun k_ => some k_ ≠ (v289 : Value).ownBlock ∧ some k_ ≠ (v286 : Value).ownBlock) ho1 (fun k_ hk_ => ⟨hk_.2, Or.elim hk_.1 (fun hs_ => fun e_ => Nat.not_le.2 hs_ (Kd.R_base HO287.out k_ e_.symm)) (fun hn_ => (Kd.fresh' (Kd.R_lt (by (with_reducible repeat (first | apply Kd.R_alloc | apply Kd.R_drewN | apply Kd.R_drew)); exact HO287.out)) k_ hn_))⟩)) (below_size (by repeat (first | (with_reducible first | exact HB.out | apply below_alloc | apply pw_below_drewN | apply below_drew1) | exact HB.out)))); have n3_ := Aside0.mk (below_step (by repeat (first | (with_reducible first | exact HB.out | apply below_alloc | apply pw_below_drewN | apply below_drew1) | exact HB.out)) hb); clear HO287; clear HB; have HO287 := n0_; have HO290 := n1_; have HO293 := n2_; have HB := n3_; clear n0_ n1_ n2_ n3_; (try clear hb); (try clear hb2); (try clear hk); (try clear hi); (try clear ho0); (try clear ho1); obtain ⟨Ao13, co13, eo13⟩ := Kd.R_slice HO287.out; subst eo13; obtain ⟨Ao14, co14, eo14⟩ := Kd.R_slice HO290.out; subst eo14) | (go_at_call 27; (with_reducible refine (bobbinetkeep_paths.calls k _ _ t285 _ _ t288 t294 t295 _ ?side1 ?side2 ?side3 ?side4 A5.out).mono ?_); (case side1 => repeat (first | exact (Kd.R_reads' HO287.out).2.2 | (with_reducible refine Kd.C_alloc ?_ _) | (with_reducible refine Kd.C_drewN ?_ _) | (with_reducible refine Kd.C_drew ?_))); (case side2 => exact (Kd.R_reads' HO287.out).2.1); (case side3 => repeat (first | exact (Kd.R_reads' HO290.out).2.2 | (with_reducible refine Kd.C_alloc ?_ _) | (with_reducible refine Kd.C_drewN ?_ _) | (with_reducible refine Kd.C_drew ?_))); (case side4 => exact (Kd.R_reads' HO290.out).2.1); rintro e w15 ⟨v296, rfl, ho0, hb⟩; have n0_ := Aside0.mk (Kd.R_below (by (with_reducible repeat (first | apply Kd.R_alloc | apply Kd.R_drewN | apply Kd.R_drew)); exact HO287.out) hb); have n1_ := Aside0.mk (Kd.R_below (by (with_reducible repeat (first | apply Kd.R_alloc | apply Kd.R_drewN | apply Kd.R_drew)); exact HO290.out) hb); have n2_ := Aside0.mk (Kd.V_elder' (by (with_reducible repeat (first | apply Kd.V_alloc | apply Kd.V_drewN | apply Kd.V_drew)); exact HO293.out) (Kd.S_base ho0) hb); have n3_ := Aside0.mk (Kd.S_lower ho0 (below_size (by repeat (first | (with_reducible first | exact HB.out | apply below_alloc | apply pw_below_drewN | apply below_drew1) | exact HB.out)))); have n4_ := Aside0.mk (below_step (by repeat (first | (with_reducible first | exact HB.out | apply below_alloc | apply pw_below_drewN | apply below_drew1) | exact HB.out)) hb); clear HO287; clear HO290; clear HO293; clear HB; have HO287 := n0_; have HO290 := n1_; have HO293 := n2_; have HO297 := n3_; have HB := n4_; clear n0_ n1_ n2_ n3_ n4_; (try clear hb); (try clear hb2); (try clear hk); (try clear hi); (try clear ho0); have p298 : 0 ≤ ((ji6) : Int) := of_decide_eq_true (by first | (with_reducible assumption) | assumption); have q298 : (ji6) < (t285.length : Int) := of_decide_eq_true (by first | (with_reducible assumption) | assumption); obtain ⟨ad298, e298, hx298_0, hx298_1, hx298_2⟩ := at_T61 (Kd.R_reads' HO287.out).2.2 (ji6) p298 q298; cases e298; replace p298 := eq_true p298; replace q298 := eq_true q298) | ((with_reducible refine gate_dst (N := 10) rfl ?_); refine box_event ?hg (N := 10) ?hd (cs := #[.string (⟨#[]⟩ : ByteArray), .string (⟨#[]⟩ : ByteArray), .bool false]) (t := 61) ?hr ?_; (case hd => rfl); (case hg => rfl); (case hr => first | (go_simp; done) | (go_simp; rfl)); intro gb299 hg w16 hbox hb; have n0_ := Aside0.mk (Kd.R_below (Kd.R_elderB (by (with_reducible repeat (first | apply Kd.R_alloc | apply Kd.R_drewN | apply Kd.R_drew)); exact HO287.out) gb299 (Nat.le_of_eq hg.symm)) hb); have n1_ := Aside0.mk (Kd.R_below (by (with_reducible repeat (first | apply Kd.R_alloc | apply Kd.R_drewN | apply Kd.R_drew)); exact HO290.out) hb); have n2_ := Aside0.mk (Kd.V_below (Kd.V_elderB (by (with_reducible repeat (first | apply Kd.V_alloc | apply Kd.V_drewN | apply Kd.V_drew)); exact HO293.out) gb299 (Nat.le_of_eq hg.symm)) hb); have n3_ := Aside0.mk (Kd.S_below (by (with_reducible repeat (first | apply Kd.S_alloc | apply Kd.S_drewN | apply Kd.S_drew)); exact HO297.out) hb); have n4_ := Aside0.mk (below_step (by repeat (first | (with_reducible first | exact HB.out | apply below_alloc | apply pw_below_drewN | apply below_drew1) | exact HB.out)) hb); have n5_ := Aside0.mk (hbox); have n6_ := Aside0.mk ((by rw [hg]; exact (below_size (by repeat (first | (with_reducible first | exact HB.out | apply below_alloc | apply pw_below_drewN | apply below_drew1) | exact HB.out))) : w.heap.size ≤ gb299)); have n7_ := Aside0.mk ((by rw [hg]; exact (below_size (by repeat (first | (with_reducible first | exact HB.out | apply below_alloc | apply pw_below_drewN | apply below_drew1) | exact HB.out))) : w.heap.size ≤ gb299)); clear HO287; clear HO290; clear HO293; clear HO297; clear HB; have HO287 := n0_; have HO290 := n1_; have HO293 := n2_; have HO297 := n3_; have HB := n4_; have BK299 := n5_; have GW299 := n6_; have GE299 := n7_; clear n0_ n1_ n2_ n3_ n4_ n5_ n6_ n7_; clear hb hbox hg; have hcz17_0 : w16.cell? ⟨gb299, 0, none⟩ = some (.string (⟨#[]⟩ : ByteArray)) := (blk_cell BK299.out 0).trans rfl; have hcz17_1 : w16.cell? ⟨gb299, 1, none⟩ = some (.string (⟨#[]⟩ : ByteArray)) := (blk_cell BK299.out 1).trans rfl; have hcz17_2 : w16.cell? ⟨gb299, 2, none⟩ = some (.bool false) := (blk_cell BK299.out 2).trans rfl; have hfz17_0 := blk_frozen BK299.out 0; have hfz17_1 := blk_frozen BK299.out 1; have hfz17_2 := blk_frozen BK299.out 2) | ((with_reducible refine gate_store (t := 61) (p := 10) rfl ?_); (try (rw [drewN_self w16]; generalize hq_ : World.drewN w16 _ = w16; have n0_ := Aside0.mk (Kd.R_at hq_ HO287.out); have n1_ := Aside0.mk (Kd.R_at hq_ HO290.out); have n2_ := Aside0.mk (Kd.V_at hq_ HO293.out); have n3_ := Aside0.mk (Kd.S_at hq_ HO297.out); have n4_ := Aside0.mk (blk_at hq_ BK299.out); have n5_ := Aside0.mk (below_at hq_ HB.out); clear hq_ HO287 HO290 HO293 HO297 BK299 HB; have HO287 := n0_; have HO290 := n1_; have HO293 := n2_; have HO297 := n3_; have BK299 := n4_; have HB := n5_; clear n0_ n1_ n2_ n3_ n4_ n5_)); refine store_event (t := 61) (p := 10) (v := ?vo_w18) (w1 := (((w16.setCell ⟨gb299, 0, none⟩ (.string ((rd_T61 t285 (ji6)).f0))).setCell ⟨gb299, 1, none⟩ (.string ((rd_T61 t285 (ji6)).f1))).setCell ⟨gb299, 2, none⟩ (.bool ((rd_T61 t285 (ji6)).f2)))) ?hg ?ho ?hn ?hr ?_; (case ho => rfl); (case hg => rfl); (case hn => rfl); (case hr => first | (go_simp; done) | (go_simp; rfl)); intro w18 hw; have n0_ : Aside0 (Kd.R k61 61 w18 w.heap.size (fun k_ => k_ ≠ gb299) (.slice (some ad298) t285.length co13) t285) := ⟨(by rw [hw]; exact (by (with_reducible repeat (first | apply Kd.R_alloc | apply Kd.R_drewN | apply Kd.R_drew)); exact Kd.R_mono (Kd.R_far (p := ⟨gb299, 2, none⟩) (Kd.R_far (p := ⟨gb299, 1, none⟩) (Kd.R_far (p := ⟨gb299, 0, none⟩) (Kd.R_mono HO287.out (fun k_ hk => (⟨hk, hk.2⟩ : _ ∧ k_ ≠ gb299))) (fun _ hk => hk.2) (.string ((rd_T61 t285 (ji6)).f0))) (fun _ hk => hk.2) (.string ((rd_T61 t285 (ji6)).f1))) (fun _ hk => hk.2) (.bool ((rd_T61 t285 (ji6)).f2))) (fun _ hk => hk.1.2)))⟩; have n1_ : Aside0 (Kd.R k28 28 w18 w.heap.size (fun _ => True) (.slice Ao14 t288.length co14) t288) := ⟨(by rw [hw]; exact (by (with_reducible repeat (first | apply Kd.R_alloc | apply Kd.R_drewN | apply Kd.R_drew)); exact Kd.R_mono (Kd.R_far (p := ⟨gb299, 2, none⟩) (Kd.R_far (p := ⟨gb299, 1, none⟩) (Kd.R_far (p := ⟨gb299, 0, none⟩) (Kd.R_types HO290.out BK299.out (by decide)) (fun _ hk => hk.2) (.string ((rd_T61 t285 (ji6)).f0))) (fun _ hk => hk.2) (.string ((rd_T61 t285 (ji6)).f1))) (fun _ hk => hk.2) (.bool ((rd_T61 t285 (ji6)).f2))) (fun _ hk => trivial)))⟩; have n2_ : Aside0 (Kd.V (Kd.int .i64) 3 w18 w.heap.size (fun k_ => some k_ ≠ (.slice (some ad298) t285.length co13 : Value).ownBlock ∧ some k_ ≠ (.slice Ao14 t288.length co14 : Value).ownBlock ∧ some k_ ≠ (v296 : Value).ownBlock ∧ k_ ≠ gb299) v292 t291) := ⟨(by rw [hw]; exact (by (with_reducible repeat (first | apply Kd.V_alloc | apply Kd.V_drewN | apply Kd.V_drew)); exact Kd.V_mono (Kd.V_far (p := ⟨gb299, 2, none⟩) (Kd.V_far (p := ⟨gb299, 1, none⟩) (Kd.V_far (p := ⟨gb299, 0, none⟩) (Kd.V_mono HO293.out (fun k_ hk => (⟨hk, hk.2⟩ : _ ∧ k_ ≠ gb299))) (fun _ hk => hk.2) (.string ((rd_T61 t285 (ji6)).f0))) (fun _ hk => hk.2) (.string ((rd_T61 t285 (ji6)).f1))) (fun _ hk => hk.2) (.bool ((rd_T61 t285 (ji6)).f2))) (fun _ hk => ⟨hk.1.1.1.2, ⟨hk.1.1.1.1, ⟨hk.1.1.2, hk.1.2⟩⟩⟩)))⟩; have n3_ : Aside0 (Kd.S (Kd.slice 3 (Kd.int .i64)) 22 w18 w.heap.size (fun _ => True) v296 t294) := ⟨(by rw [hw]; exact (by (with_reducible repeat (first | apply Kd.S_alloc | apply Kd.S_drewN | apply Kd.S_drew)); exact Kd.S_mono (Kd.S_far (p := ⟨gb299, 2, none⟩) (Kd.S_far (p := ⟨gb299, 1, none⟩) (Kd.S_far (p := ⟨gb299, 0, none⟩) (Kd.S_types HO297.out BK299.out (by decide)) (fun _ hk => hk.2) (.string ((rd_T61 t285 (ji6)).f0))) (fun _ hk => hk.2) (.string ((rd_T61 t285 (ji6)).f1))) (fun _ hk => hk.2) (.bool ((rd_T61 t285 (ji6)).f2))) (fun _ hk => trivial)))⟩; have n4_ : Aside0 (w18.heap[gb299]? = some (.cells #[.string ((rd_T61 t285 (ji6)).f0), .string ((rd_T61 t285 (ji6)).f1), .bool ((rd_T61 t285 (ji6)).f2)] 61 (0, 0))) := ⟨(by rw [hw]; exact (by (with_reducible repeat (first | refine blk_drewN ?_ _ | refine blk_drew ?_ | refine blk_alloc ?_ _)); refine blk_put (cs := #[.string ((rd_T61 t285 (ji6)).f0), .string ((rd_T61 t285 (ji6)).f1), .bool false]) ?_ 2 _ rfl; (with_reducible repeat (first | refine blk_drewN ?_ _ | refine blk_drew ?_ | refine blk_alloc ?_ _)); refine blk_put (cs := #[.string ((rd_T61 t285 (ji6)).f0), .string (⟨#[]⟩ : ByteArray), .bool false]) ?_ 1 _ rfl; (with_reducible repeat (first | refine blk_drewN ?_ _ | refine blk_drew ?_ | refine blk_alloc ?_ _)); refine blk_put (cs := #[.string (⟨#[]⟩ : ByteArray), .string (⟨#[]⟩ : ByteArray), .bool false]) ?_ 0 _ rfl; (with_reducible repeat (first | refine blk_drewN ?_ _ | refine blk_drew ?_ | refine blk_alloc ?_ _)); exact BK299.out))⟩; have n5_ : Aside0 (Below w.heap.size w w18) := ⟨(by rw [hw]; exact (by repeat (first | (with_reducible first | exact HB.out | apply below_alloc | apply pw_below_drewN | apply below_drew1 | refine below_set ?_ GE299.out) | exact HB.out)))⟩; clear hw; clear HO287; clear HO290; clear HO293; clear HO297; clear BK299; clear HB; have HO287 := n0_; have HO290 := n1_; have HO293 := n2_; have HO297 := n3_; have BK299 := n4_; have HB := n5_; clear n0_ n1_ n2_ n3_ n4_ n5_; have hcz19_0 : w18.cell? ⟨gb299, 0, none⟩ = some (.string ((rd_T61 t285 (ji6)).f0)) := (blk_cell BK299.out 0).trans rfl; have hcz19_1 : w18.cell? ⟨gb299, 1, none⟩ = some (.string ((rd_T61 t285 (ji6)).f1)) := (blk_cell BK299.out 1).trans rfl; have hcz19_2 : w18.cell? ⟨gb299, 2, none⟩ = some (.bool ((rd_T61 t285 (ji6)).f2)) := (blk_cell BK299.out 2).trans rfl; have hfz19_0 := blk_frozen BK299.out 0; have hfz19_1 := blk_frozen BK299.out 1; have hfz19_2 := blk_frozen BK299.out 2) | ((with_reducible refine gate_store (t := 4) (p := 35) rfl ?_); (try (rw [drewN_self w18]; generalize hq_ : World.drewN w18 _ = w18; have n0_ := Aside0.mk (Kd.R_at hq_ HO287.out); have n1_ := Aside0.mk (Kd.R_at hq_ HO290.out); have n2_ := Aside0.mk (Kd.V_at hq_ HO293.out); have n3_ := Aside0.mk (Kd.S_at hq_ HO297.out); have n4_ := Aside0.mk (blk_at hq_ BK299.out); have n5_ := Aside0.mk (below_at hq_ HB.out); clear hq_ HO287 HO290 HO293 HO297 BK299 HB; have HO287 := n0_; have HO290 := n1_; have HO293 := n2_; have HO297 := n3_; have BK299 := n4_; have HB := n5_; clear n0_ n1_ n2_ n3_ n4_ n5_)); refine store_event (t := 4) (p := 35) (v := ?vo_w20) (w1 := (w18.setCell ⟨gb299, 2, none⟩ (.bool true))) ?hg ?ho ?hn ?hr ?_; (case ho => rfl); (case hg => rfl); (case hn => rfl); (case hr => first | (go_simp; done) | (go_simp; rfl)); intro w20 hw; have n0_ : Aside0 (Kd.R k61 61 w20 w.heap.size (fun k_ => k_ ≠ gb299) (.slice (some ad298) t285.length co13) t285) := ⟨(by rw [hw]; exact (by (with_reducible repeat (first | apply Kd.R_alloc | apply Kd.R_drewN | apply Kd.R_drew)); exact Kd.R_mono (Kd.R_far (p := ⟨gb299, 2, none⟩) (Kd.R_mono HO287.out (fun k_ hk => (⟨hk, hk⟩ : _ ∧ k_ ≠ gb299))) (fun _ hk => hk.2) (.bool true)) (fun _ hk => hk.1)))⟩; have n1_ : Aside0 (Kd.R k28 28 w20 w.heap.size (fun _ => True) (.slice Ao14 t288.length co14) t288) := ⟨(by rw [hw]; exact (by (with_reducible repeat (first | apply Kd.R_alloc | apply Kd.R_drewN | apply Kd.R_drew)); exact Kd.R_mono (Kd.R_far (p := ⟨gb299, 2, none⟩) (Kd.R_types HO290.out BK299.out (by decide)) (fun _ hk => hk.2) (.bool true)) (fun _ hk => trivial)))⟩; have n2_ : Aside0 (Kd.V (Kd.int .i64) 3 w20 w.heap.size (fun k_ => some k_ ≠ (.slice (some ad298) t285.length co13 : Value).ownBlock ∧ some k_ ≠ (.slice Ao14 t288.length co14 : Value).ownBlock ∧ some k_ ≠ (v296 : Value).ownBlock ∧ k_ ≠ gb299) v292 t291) := ⟨(by rw [hw]; exact (by (with_reducible repeat (first | apply Kd.V_alloc | apply Kd.V_drewN | apply Kd.V_drew)); exact Kd.V_mono (Kd.V_far (p := ⟨gb299, 2, none⟩) (Kd.V_mono HO293.out (fun k_ hk => (⟨hk, hk.2.2.2⟩ : _ ∧ k_ ≠ gb299))) (fun _ hk => hk.2) (.bool true)) (fun _ hk => ⟨hk.1.1, ⟨hk.1.2.1, ⟨hk.1.2.2.1, hk.1.2.2.2⟩⟩⟩)))⟩; have n3_ : Aside0 (Kd.S (Kd.slice 3 (Kd.int .i64)) 22 w20 w.heap.size (fun _ => True) v296 t294) := ⟨(by rw [hw]; exact (by (with_reducible repeat (first | apply Kd.S_alloc | apply Kd.S_drewN | apply Kd.S_drew)); exact Kd.S_mono (Kd.S_far (p := ⟨gb299, 2, none⟩) (Kd.S_types HO297.out BK299.out (by decide)) (fun _ hk => hk.2) (.bool true)) (fun _ hk => trivial)))⟩; have n4_ : Aside0 (w20.heap[gb299]? = some (.cells #[.string ((rd_T61 t285 (ji6)).f0), .string ((rd_T61 t285 (ji6)).f1), .bool true] 61 (0, 0))) := ⟨(by rw [hw]; exact (by (with_reducible repeat (first | refine blk_drewN ?_ _ | refine blk_drew ?_ | refine blk_alloc ?_ _)); refine blk_put (cs := #[.string ((rd_T61 t285 (ji6)).f0), .string ((rd_T61 t285 (ji6)).f1), .bool ((rd_T61 t285 (ji6)).f2)]) ?_ 2 _ rfl; (with_reducible repeat (first | refine blk_drewN ?_ _ | refine blk_drew ?_ | refine blk_alloc ?_ _)); exact BK299.out))⟩; have n5_ : Aside0 (Below w.heap.size w w20) := ⟨(by rw [hw]; exact (by repeat (first | (with_reducible first | exact HB.out | apply below_alloc | apply pw_below_drewN | apply below_drew1 | refine below_set ?_ GE299.out) | exact HB.out)))⟩; clear hw; clear HO287; clear HO290; clear HO293; clear HO297; clear BK299; clear HB; have HO287 := n0_; have HO290 := n1_; have HO293 := n2_; have HO297 := n3_; have BK299 := n4_; have HB := n5_; clear n0_ n1_ n2_ n3_ n4_ n5_; have hcz21_0 : w20.cell? ⟨gb299, 0, none⟩ = some (.string ((rd_T61 t285 (ji6)).f0)) := (blk_cell BK299.out 0).trans rfl; have hcz21_1 : w20.cell? ⟨gb299, 1, none⟩ = some (.string ((rd_T61 t285 (ji6)).f1)) := (blk_cell BK299.out 1).trans rfl; have hcz21_2 : w20.cell? ⟨gb299, 2, none⟩ = some (.bool true) := (blk_cell BK299.out 2).trans rfl; have hfz21_0 := blk_frozen BK299.out 0; have hfz21_1 := blk_frozen BK299.out 1; have hfz21_2 := blk_frozen BK299.out 2) | ((with_reducible refine gate_dst (N := 38) rfl ?_); refine Kd.R_lit k61 _ 61 ?hg (N := 38) ?hd (xs := ([(⟨(rd_T61 t285 (ji6)).f0, (rd_T61 t285 (ji6)).f1, true⟩ : S61)] : List (S61))) (inner := [.string ((rd_T61 t285 (ji6)).f0), .string ((rd_T61 t285 (ji6)).f1), .bool true]) (ok := fun _ => True) (okp := fun _ => True) ?hr ?hp (fun _ hk => hk) trivial (Below.refl _ _) (Nat.le_refl _) (by simp) ?_; (case hd => rfl); (case hg => rfl); (case hr => first | (go_simp; done) | (go_simp; rfl)); (case hp => exact (Reps.c3 (show Kd.M k61 _ _ _ (⟨(rd_T61 t285 (ji6)).f0, (rd_T61 t285 (ji6)).f1, true⟩ : S61) [.string ((rd_T61 t285 (ji6)).f0), .string ((rd_T61 t285 (ji6)).f1), .bool true] from (k61_mkM _ _ _ (⟨(rd_T61 t285 (ji6)).f0, (rd_T61 t285 (ji6)).f1, true⟩ : S61) )) (Reps.none _ _))); intro v301 w22 ho23 hb hg_ hnew_; clear hg_ hnew_; (first | rw [← Ny300.out] at ho23 | (simp only [Int.reduceToNat] at ho23; rw [← Ny300.out] at ho23)); have n0_ := Aside0.mk (Kd.R_elder' (by (with_reducible repeat (first | apply Kd.R_alloc | apply Kd.R_drewN | apply Kd.R_drew)); exact HO287.out) (Kd.R_base ho23) hb); have n1_ := Aside0.mk (Kd.R_below (by (with_reducible repeat (first | apply Kd.R_alloc | apply Kd.R_drewN | apply Kd.R_drew)); exact HO290.out) hb); have n2_ := Aside0.mk (Kd.V_elder' (by (with_reducible repeat (first | apply Kd.V_alloc | apply Kd.V_drewN | apply Kd.V_drew)); exact HO293.out) (Kd.R_base ho23) hb); have n3_ := Aside0.mk (Kd.S_below (by (with_reducible repeat (first | apply Kd.S_alloc | apply Kd.S_drewN | apply Kd.S_drew)); exact HO297.out) hb); have n4_ := Aside0.mk (Kd.R_lower (Kd.R_newB (Kd.R_new' ho23 (Kd.R_lt (by (with_reducible repeat (first | apply Kd.R_alloc | apply Kd.R_drewN | apply Kd.R_drew)); exact HO287.out))) (g := gb299) (o := .cells #[.string ((rd_T61 t285 (ji6)).f0), .string ((rd_T61 t285 (ji6)).f1), .bool true] 61 (0, 0)) (by (with_reducible repeat (first | refine blk_drewN ?_ _ | refine blk_drew ?_ | refine blk_alloc ?_ _)); exact BK299.out)) (below_size (by repeat (first | (with_reducible first | exact HB.out | apply below_alloc | apply pw_below_drewN | apply below_drew1 | refine below_set ?_ GE299.out) | exact HB.out)))); have n5_ := Aside0.mk (blk_below (g := gb299) (o := .cells #[.string ((rd_T61 t285 (ji6)).f0), .string ((rd_T61 t285 (ji6)).f1), .bool true] 61 (0, 0)) (by (with_reducible repeat (first | refine blk_drewN ?_ _ | refine blk_drew ?_ | refine blk_alloc ?_ _)); exact BK299.out) hb); have n6_ := Aside0.mk (below_step (by repeat (first | (with_reducible first | exact HB.out | apply below_alloc | apply pw_below_drewN | apply below_drew1 | refine below_set ?_ GE299.out) | exact HB.out)) hb); clear HO287; clear HO290; clear HO293; clear HO297; clear BK299; clear HB; have HO287 := n0_; have HO290 := n1_; have HO293 := n2_; have HO297 := n3_; have HO302 := n4_; have BK299 := n5_; have HB := n6_; clear n0_ n1_ n2_ n3_ n4_ n5_ n6_; clear hb ho23; obtain ⟨Ao24, co24, eo24⟩ := Kd.R_slice HO302.out; subst eo24) | (go_at_call 27; (with_reducible refine (bobbinetkeep_paths.calls k _ _ y300 _ _ t288 t303 t304 _ ?side1 ?side2 ?side3 ?side4 A9.out).mono ?_); (case side1 => repeat (first | exact (Kd.R_reads' HO302.out).2.2 | (with_reducible refine Kd.C_alloc ?_ _) | (with_reducible refine Kd.C_drewN ?_ _) | (with_reducible refine Kd.C_drew ?_))); (case side2 => exact (Kd.R_reads' HO302.out).2.1); (case side3 => repeat (first | exact (Kd.R_reads' HO290.out).2.2 | (with_reducible refine Kd.C_alloc ?_ _) | (with_reducible refine Kd.C_drewN ?_ _) | (with_reducible refine Kd.C_drew ?_))); (case side4 => exact (Kd.R_reads' HO290.out).2.1); rintro e w25 ⟨v305, rfl, ho0, hb⟩; have n0_ := Aside0.mk (Kd.R_below (by (with_reducible repeat (first | apply Kd.R_alloc | apply Kd.R_drewN | apply Kd.R_drew)); exact HO287.out) hb); have n1_ := Aside0.mk (Kd.R_below (by (with_reducible repeat (first | apply Kd.R_alloc | apply Kd.R_drewN | apply Kd.R_drew)); exact HO290.out) hb); have n2_ := Aside0.mk (Kd.V_elder' (by (with_reducible repeat (first | apply Kd.V_alloc | apply Kd.V_drewN | apply Kd.V_drew)); exact HO293.out) (Kd.S_base ho0) hb); have n3_ := Aside0.mk (Kd.S_elder' (by (with_reducible repeat (first | apply Kd.S_alloc | apply Kd.S_drewN | apply Kd.S_drew)); exact HO297.out) (Kd.S_base ho0) hb); have n4_ := Aside0.mk (Kd.R_below (by (with_reducible repeat (first | apply Kd.R_alloc | apply Kd.R_drewN | apply Kd.R_drew)); exact HO302.out) hb); have n5_ := Aside0.mk (Kd.S_lower (Kd.S_new' ho0 (Kd.S_lt (by (with_reducible repeat (first | apply Kd.S_alloc | apply Kd.S_drewN | apply Kd.S_drew)); exact HO297.out))) (below_size (by repeat (first | (with_reducible first | exact HB.out | apply below_alloc | apply pw_below_drewN | apply below_drew1 | refine below_set ?_ GE299.out) | exact HB.out)))); have n6_ := Aside0.mk (blk_below (g := gb299) (o := .cells #[.string ((rd_T61 t285 (ji6)).f0), .string ((rd_T61 t285 (ji6)).f1), .bool true] 61 (0, 0)) (by (with_reducible repeat (first | refine blk_drewN ?_ _ | refine blk_drew ?_ | refine blk_alloc ?_ _)); exact BK299.out) hb); have n7_ := Aside0.mk (below_step (by repeat (first | (with_reducible first | exact HB.out | apply below_alloc | apply pw_below_drewN | apply below_drew1 | refine below_set ?_ GE299.out) | exact HB.out)) hb); clear HO287; clear HO290; clear HO293; clear HO297; clear HO302; clear BK299; clear HB; have HO287 := n0_; have HO290 := n1_; have HO293 := n2_; have HO297 := n3_; have HO302 := n4_; have HO306 := n5_; have BK299 := n6_; have HB := n7_; clear n0_ n1_ n2_ n3_ n4_ n5_ n6_ n7_; (try clear hb); (try clear hb2); (try clear hk); (try clear hi); (try clear ho0)))
   repeat (go_quiet (first | (go_at_call 26; (with_reducible refine (bobbinetkeep_Picks.calls _ _ l0 4 t285 _ ?side1 ?side2 A3.out).mono ?_); (case side1 => repeat (first | exact HR0.out | (with_reducible refine Kd.C_alloc ?_ _) | (with_reducible refine Kd.C_drewN ?_ _) | (with_reducible refine Kd.C_drew ?_))); (case side2 => exact HC0.out); rintro e w11 ⟨v286, rfl, ho0, hb⟩; have n0_ := Aside0.mk (Kd.R_lower ho0 (below_size (by repeat (first | (with_reducible first | exact HB.out | apply below_alloc | apply pw_below_drewN | apply below_drew1) | exact HB.out)))); have n1_ := Aside0.mk (below_step (by repeat (first | (with_reducible first | exact HB.out | apply below_alloc | apply pw_below_drewN | apply below_drew1) | exact HB.out)) hb); clear HB; have HO287 := n0_; have HB := n1_; clear n0_ n1_; (try clear hb); (try clear hb2); (try clear hk); (try clear hi); (try clear ho0)) | (go_at_call 12; (with_reducible refine (bobbinetkeep_Nodes.calls k (fun k_ => k_ < w.heap.size) _ _ l1 5 6 t288 t291 _ ?side1 A4.out).mono ?_); (case side1 => exact Kd.V_mk HC1.out (Kd.F_below (Kd.C_F (Kd.heap_int .i64) HR1.out) (by repeat (first | (with_reducible first | exact HB.out | apply below_alloc | apply pw_below_drewN | apply below_drew1) | exact HB.out)))); rintro e w12 ⟨v289, v292, rfl, ho0, ho1, hb⟩; have n0_ := Aside0.mk (Kd.R_below (by (with_reducible repeat (first | apply Kd.R_alloc | apply Kd.R_drewN | apply Kd.R_drew)); exact HO287.out) hb); have n1_ := Aside0.mk (Kd.R_lower (Kd.R_mono (ok' := fun k_ => True) ho0 (fun _ hk_ => trivial)) (below_size (by repeat (first | (with_reducible first | exact HB.out | apply below_alloc | apply pw_below_drewN | apply below_drew1) | exact HB.out)))); have n2_ := Aside0.mk (Kd.V_lower (Kd.V_mono (ok' := fun k_ => some k_ ≠ (v289 : Value).ownBlock ∧ some k_ ≠ (v286 : Value).ownBlock) ho1 (fun k_ hk_ => ⟨hk_.2, Or.elim hk_.1 (fun hs_ => fun e_ => Nat.not_le.2 hs_ (Kd.R_base HO287.out k_ e_.symm)) (fun hn_ => (Kd.fresh' (Kd.R_lt (by (with_reducible repeat (first | apply Kd.R_alloc | apply Kd.R_drewN | apply Kd.R_drew)); exact HO287.out)) k_ hn_))⟩)) (below_size (by repeat (first | (with_reducible first | exact HB.out | apply below_alloc | apply pw_below_drewN | apply below_drew1) | exact HB.out)))); have n3_ := Aside0.mk (below_step (by repeat (first | (with_reducible first | exact HB.out | apply below_alloc | apply pw_below_drewN | apply below_drew1) | exact HB.out)) hb); clear HO287; clear HB; have HO287 := n0_; have HO290 := n1_; have HO293 := n2_; have HB := n3_; clear n0_ n1_ n2_ n3_; (try clear hb); (try clear hb2); (try clear hk); (try clear hi); (try clear ho0); (try clear ho1); obtain ⟨Ao13, co13, eo13⟩ := Kd.R_slice HO287.out; subst eo13; obtain ⟨Ao14, co14, eo14⟩ := Kd.R_slice HO290.out; subst eo14) | (go_at_call 27; (with_reducible refine (bobbinetkeep_paths.calls k _ _ t285 _ _ t288 t294 t295 _ ?side1 ?side2 ?side3 ?side4 A5.out).mono ?_); (case side1 => repeat (first | exact (Kd.R_reads' HO287.out).2.2 | (with_reducible refine Kd.C_alloc ?_ _) | (with_reducible refine Kd.C_drewN ?_ _) | (with_reducible refine Kd.C_drew ?_))); (case side2 => exact (Kd.R_reads' HO287.out).2.1); (case side3 => repeat (first | exact (Kd.R_reads' HO290.out).2.2 | (with_reducible refine Kd.C_alloc ?_ _) | (with_reducible refine Kd.C_drewN ?_ _) | (with_reducible refine Kd.C_drew ?_))); (case side4 => exact (Kd.R_reads' HO290.out).2.1); rintro e w15 ⟨v296, rfl, ho0, hb⟩; have n0_ := Aside0.mk (Kd.R_below (by (with_reducible repeat (first | apply Kd.R_alloc | apply Kd.R_drewN | apply Kd.R_drew)); exact HO287.out) hb); have n1_ := Aside0.mk (Kd.R_below (by (with_reducible repeat (first | apply Kd.R_alloc | apply Kd.R_drewN | apply Kd.R_drew)); exact HO290.out) hb); have n2_ := Aside0.mk (Kd.V_elder' (by (with_reducible repeat (first | apply Kd.V_alloc | apply Kd.V_drewN | apply Kd.V_drew)); exact HO293.out) (Kd.S_base ho0) hb); have n3_ := Aside0.mk (Kd.S_lower ho0 (below_size (by repeat (first | (with_reducible first | exact HB.out | apply below_alloc | apply pw_below_drewN | apply below_drew1) | exact HB.out)))); have n4_ := Aside0.mk (below_step (by repeat (first | (with_reducible first | exact HB.out | apply below_alloc | apply pw_below_drewN | apply below_drew1) | exact HB.out)) hb); clear HO287; clear HO290; clear HO293; clear HB; have HO287 := n0_; have HO290 := n1_; have HO293 := n2_; have HO297 := n3_; have HB := n4_; clear n0_ n1_ n2_ n3_ n4_; (try clear hb); (try clear hb2); (try clear hk); (try clear hi); (try clear ho0); have p298 : 0 ≤ ((ji6) : Int) := of_decide_eq_true (by first | (with_reducible assumption) | assumption); have q298 : (ji6) < (t285.length : Int) := of_decide_eq_true (by first | (with_reducible assumption) | assumption); obtain ⟨ad298, e298, hx298_0, hx298_1, hx298_2⟩ := at_T61 (Kd.R_reads' HO287.out).2.2 (ji6) p298 q298; cases e298; replace p298 := eq_true p298; replace q298 := eq_true q298) | (go_at_call 27; (with_reducible refine (bobbinetkeep_paths.calls k _ _ y300 _ _ t288 t303 t304 _ ?side1 ?side2 ?side3 ?side4 A9.out).mono ?_); (case side1 => repeat (first | exact (Kd.R_reads' HO302.out).2.2 | (with_reducible refine Kd.C_alloc ?_ _) | (with_reducible refine Kd.C_drewN ?_ _) | (with_reducible refine Kd.C_drew ?_))); (case side2 => exact (Kd.R_reads' HO302.out).2.1); (case side3 => repeat (first | exact (Kd.R_reads' HO290.out).2.2 | (with_reducible refine Kd.C_alloc ?_ _) | (with_reducible refine Kd.C_drewN ?_ _) | (with_reducible refine Kd.C_drew ?_))); (case side4 => exact (Kd.R_reads' HO290.out).2.1); rintro e w25 ⟨v305, rfl, ho0, hb⟩; have n0_ := Aside0.mk (Kd.R_below (by (with_reducible repeat (first | apply Kd.R_alloc | apply Kd.R_drewN | apply Kd.R_drew)); exact HO287.out) hb); have n1_ := Aside0.mk (Kd.R_below (by (with_reducible repeat (first | apply Kd.R_alloc | apply Kd.R_drewN | apply Kd.R_drew)); exact HO290.out) hb); have n2_ := Aside0.mk (Kd.V_elder' (by (with_reducible repeat (first | apply Kd.V_alloc | apply Kd.V_drewN | apply Kd.V_drew)); exact HO293.out) (Kd.S_base ho0) hb); have n3_ := Aside0.mk (Kd.S_elder' (by (with_reducible repeat (first | apply Kd.S_alloc | apply Kd.S_drewN | apply Kd.S_drew)); exact HO297.out) (Kd.S_base ho0) hb); have n4_ := Aside0.mk (Kd.R_below (by (with_reducible repeat (first | apply Kd.R_alloc | apply Kd.R_drewN | apply Kd.R_drew)); exact HO302.out) hb); have n5_ := Aside0.mk (Kd.S_lower (Kd.S_new' ho0 (Kd.S_lt (by (with_reducible repeat (first | apply Kd.S_alloc | apply Kd.S_drewN | apply Kd.S_drew)); exact HO297.out))) (below_size (by repeat (first | (with_reducible first | exact HB.out | apply below_alloc | apply pw_below_drewN | apply below_drew1 | refine below_set ?_ GE299.out) | exact HB.out)))); have n6_ := Aside0.mk (blk_below (g := gb299) (o := .cells #[.string ((rd_T61 t285 (ji6)).f0), .string ((rd_T61 t285 (ji6)).f1), .bool true] 61 (0, 0)) (by (with_reducible repeat (first | refine blk_drewN ?_ _ | refine blk_drew ?_ | refine blk_alloc ?_ _)); exact BK299.out) hb); have n7_ := Aside0.mk (below_step (by repeat (first | (with_reducible first | exact HB.out | apply below_alloc | apply pw_below_drewN | apply below_drew1 | refine below_set ?_ GE299.out) | exact HB.out)) hb); clear HO287; clear HO290; clear HO293; clear HO297; clear HO302; clear BK299; clear HB; have HO287 := n0_; have HO290 := n1_; have HO293 := n2_; have HO297 := n3_; have HO302 := n4_; have HO306 := n5_; have BK299 := n6_; have HB := n7_; clear n0_ n1_ n2_ n3_ n4_ n5_ n6_ n7_; (try clear hb); (try clear hb2); (try clear hk); (try clear hi); (try clear ho0))); go_upto_region 7 with (first | (go_at_call 26; (with_reducible refine (bobbinetkeep_Picks.calls _ _ l0 4 t285 _ ?side1 ?side2 A3.out).mono ?_); (case side1 => repeat (first | exact HR0.out | (with_reducible refine Kd.C_alloc ?_ _) | (with_reducible refine Kd.C_drewN ?_ _) | (with_reducible refine Kd.C_drew ?_))); (case side2 => exact HC0.out); rintro e w11 ⟨v286, rfl, ho0, hb⟩; have n0_ := Aside0.mk (Kd.R_lower ho0 (below_size (by repeat (first | (with_reducible first | exact HB.out | apply below_alloc | apply pw_below_drewN | apply below_drew1) | exact HB.out)))); have n1_ := Aside0.mk (below_step (by repeat (first | (with_reducible first | exact HB.out | apply below_alloc | apply pw_below_drewN | apply below_drew1) | exact HB.out)) hb); clear HB; have HO287 := n0_; have HB := n1_; clear n0_ n1_; (try clear hb); (try clear hb2); (try clear hk); (try clear hi); (try clear ho0)) | (go_at_call 12; (with_reducible refine (bobbinetkeep_Nodes.calls k (fun k_ => k_ < w.heap.size) _ _ l1 5 6 t288 t291 _ ?side1 A4.out).mono ?_); (case side1 => exact Kd.V_mk HC1.out (Kd.F_below (Kd.C_F (Kd.heap_int .i64) HR1.out) (by repeat (first | (with_reducible first | exact HB.out | apply below_alloc | apply pw_below_drewN | apply below_drew1) | exact HB.out)))); rintro e w12 ⟨v289, v292, rfl, ho0, ho1, hb⟩; have n0_ := Aside0.mk (Kd.R_below (by (with_reducible repeat (first | apply Kd.R_alloc | apply Kd.R_drewN | apply Kd.R_drew)); exact HO287.out) hb); have n1_ := Aside0.mk (Kd.R_lower (Kd.R_mono (ok' := fun k_ => True) ho0 (fun _ hk_ => trivial)) (below_size (by repeat (first | (with_reducible first | exact HB.out | apply below_alloc | apply pw_below_drewN | apply below_drew1) | exact HB.out)))); have n2_ := Aside0.mk (Kd.V_lower (Kd.V_mono (ok' := fun k_ => some k_ ≠ (v289 : Value).ownBlock ∧ some k_ ≠ (v286 : Value).ownBlock) ho1 (fun k_ hk_ => ⟨hk_.2, Or.elim hk_.1 (fun hs_ => fun e_ => Nat.not_le.2 hs_ (Kd.R_base HO287.out k_ e_.symm)) (fun hn_ => (Kd.fresh' (Kd.R_lt (by (with_reducible repeat (first | apply Kd.R_alloc | apply Kd.R_drewN | apply Kd.R_drew)); exact HO287.out)) k_ hn_))⟩)) (below_size (by repeat (first | (with_reducible first | exact HB.out | apply below_alloc | apply pw_below_drewN | apply below_drew1) | exact HB.out)))); have n3_ := Aside0.mk (below_step (by repeat (first | (with_reducible first | exact HB.out | apply below_alloc | apply pw_below_drewN | apply below_drew1) | exact HB.out)) hb); clear HO287; clear HB; have HO287 := n0_; have HO290 := n1_; have HO293 := n2_; have HB := n3_; clear n0_ n1_ n2_ n3_; (try clear hb); (try clear hb2); (try clear hk); (try clear hi); (try clear ho0); (try clear ho1); obtain ⟨Ao13, co13, eo13⟩ := Kd.R_slice HO287.out; subst eo13; obtain ⟨Ao14, co14, eo14⟩ := Kd.R_slice HO290.out; subst eo14) | (go_at_call 27; (with_reducible refine (bobbinetkeep_paths.calls k _ _ t285 _ _ t288 t294 t295 _ ?side1 ?side2 ?side3 ?side4 A5.out).mono ?_); (case side1 => repeat (first | exact (Kd.R_reads' HO287.out).2.2 | (with_reducible refine Kd.C_alloc ?_ _) | (with_reducible refine Kd.C_drewN ?_ _) | (with_reducible refine Kd.C_drew ?_))); (case side2 => exact (Kd.R_reads' HO287.out).2.1); (case side3 => repeat (first | exact (Kd.R_reads' HO290.out).2.2 | (with_reducible refine Kd.C_alloc ?_ _) | (with_reducible refine Kd.C_drewN ?_ _) | (with_reducible refine Kd.C_drew ?_))); (case side4 => exact (Kd.R_reads' HO290.out).2.1); rintro e w15 ⟨v296, rfl, ho0, hb⟩; have n0_ := Aside0.mk (Kd.R_below (by (with_reducible repeat (first | apply Kd.R_alloc | apply Kd.R_drewN | apply Kd.R_drew)); exact HO287.out) hb); have n1_ := Aside0.mk (Kd.R_below (by (with_reducible repeat (first | apply Kd.R_alloc | apply Kd.R_drewN | apply Kd.R_drew)); exact HO290.out) hb); have n2_ := Aside0.mk (Kd.V_elder' (by (with_reducible repeat (first | apply Kd.V_alloc | apply Kd.V_drewN | apply Kd.V_drew)); exact HO293.out) (Kd.S_base ho0) hb); have n3_ := Aside0.mk (Kd.S_lower ho0 (below_size (by repeat (first | (with_reducible first | exact HB.out | apply below_alloc | apply pw_below_drewN | apply below_drew1) | exact HB.out)))); have n4_ := Aside0.mk (below_step (by repeat (first | (with_reducible first | exact HB.out | apply below_alloc | apply pw_below_drewN | apply below_drew1) | exact HB.out)) hb); clear HO287; clear HO290; clear HO293; clear HB; have HO287 := n0_; have HO290 := n1_; have HO293 := n2_; have HO297 := n3_; have HB := n4_; clear n0_ n1_ n2_ n3_ n4_; (try clear hb); (try clear hb2); (try clear hk); (try clear hi); (try clear ho0); have p298 : 0 ≤ ((ji6) : Int) := of_decide_eq_true (by first | (with_reducible assumption) | assumption); have q298 : (ji6) < (t285.length : Int) := of_decide_eq_true (by first | (with_reducible assumption) | assumption); obtain ⟨ad298, e298, hx298_0, hx298_1, hx298_2⟩ := at_T61 (Kd.R_reads' HO287.out).2.2 (ji6) p298 q298; cases e298; replace p298 := eq_true p298; replace q298 := eq_true q298) | (go_at_call 27; (with_reducible refine (bobbinetkeep_paths.calls k _ _ y300 _ _ t288 t303 t304 _ ?side1 ?side2 ?side3 ?side4 A9.out).mono ?_); (case side1 => repeat (first | exact (Kd.R_reads' HO302.out).2.2 | (with_reducible refine Kd.C_alloc ?_ _) | (with_reducible refine Kd.C_drewN ?_ _) | (with_reducible refine Kd.C_drew ?_))); (case side2 => exact (Kd.R_reads' HO302.out).2.1); (case side3 => repeat (first | exact (Kd.R_reads' HO290.out).2.2 | (with_reducible refine Kd.C_alloc ?_ _) | (with_reducible refine Kd.C_drewN ?_ _) | (with_reducible refine Kd.C_drew ?_))); (case side4 => exact (Kd.R_reads' HO290.out).2.1); rintro e w25 ⟨v305, rfl, ho0, hb⟩; have n0_ := Aside0.mk (Kd.R_below (by (with_reducible repeat (first | apply Kd.R_alloc | apply Kd.R_drewN | apply Kd.R_drew)); exact HO287.out) hb); have n1_ := Aside0.mk (Kd.R_below (by (with_reducible repeat (first | apply Kd.R_alloc | apply Kd.R_drewN | apply Kd.R_drew)); exact HO290.out) hb); have n2_ := Aside0.mk (Kd.V_elder' (by (with_reducible repeat (first | apply Kd.V_alloc | apply Kd.V_drewN | apply Kd.V_drew)); exact HO293.out) (Kd.S_base ho0) hb); have n3_ := Aside0.mk (Kd.S_elder' (by (with_reducible repeat (first | apply Kd.S_alloc | apply Kd.S_drewN | apply Kd.S_drew)); exact HO297.out) (Kd.S_base ho0) hb); have n4_ := Aside0.mk (Kd.R_below (by (with_reducible repeat (first | apply Kd.R_alloc | apply Kd.R_drewN | apply Kd.R_drew)); exact HO302.out) hb); have n5_ := Aside0.mk (Kd.S_lower (Kd.S_new' ho0 (Kd.S_lt (by (with_reducible repeat (first | apply Kd.S_alloc | apply Kd.S_drewN | apply Kd.S_drew)); exact HO297.out))) (below_size (by repeat (first | (with_reducible first | exact HB.out | apply below_alloc | apply pw_below_drewN | apply below_drew1 | refine below_set ?_ GE299.out) | exact HB.out)))); have n6_ := Aside0.mk (blk_below (g := gb299) (o := .cells #[.string ((rd_T61 t285 (ji6)).f0), .string ((rd_T61 t285 (ji6)).f1), .bool true] 61 (0, 0)) (by (with_reducible repeat (first | refine blk_drewN ?_ _ | refine blk_drew ?_ | refine blk_alloc ?_ _)); exact BK299.out) hb); have n7_ := Aside0.mk (below_step (by repeat (first | (with_reducible first | exact HB.out | apply below_alloc | apply pw_below_drewN | apply below_drew1 | refine below_set ?_ GE299.out) | exact HB.out)) hb); clear HO287; clear HO290; clear HO293; clear HO297; clear HO302; clear BK299; clear HB; have HO287 := n0_; have HO290 := n1_; have HO293 := n2_; have HO297 := n3_; have HO302 := n4_; have HO306 := n5_; have BK299 := n6_; have HB := n7_; clear n0_ n1_ n2_ n3_ n4_ n5_ n6_ n7_; (try clear hb); (try clear hb2); (try clear hk); (try clear hi); (try clear ho0))))
   (try simp only [Act.put, List.setIfInBounds_toArray, List.set_cons_zero, List.set_cons_succ])
   go_cut [48] (fun v48 wc => ∃ (kq : Nat) (x48_9 : Bool), v48 = .bool x48_9 ∧ Aside0 (bobbinetkeep_PickLast.j0 kq t288 t294 t303 x48_9 ((rd_T61 t285 (ji6)).f0) ((rd_T61 t285 (ji6)).f1) true = some r) ∧ Aside0 (kq ≤ k) ∧ Aside0 (Kd.R k28 28 wc w.heap.size (fun _ => True) (.slice Ao14 t288.length co14) t288) ∧ Aside0 (Kd.S (Kd.slice 3 (Kd.int .i64)) 22 wc w.heap.size (fun k_ => some k_ ≠ (v305 : Value).ownBlock) v296 t294) ∧ Aside0 (Kd.S (Kd.slice 3 (Kd.int .i64)) 22 wc w.heap.size (fun k_ => some k_ ≠ (v296 : Value).ownBlock) v305 t303) ∧ Aside0 (wc.heap[gb299]? = some (.cells #[.string ((rd_T61 t285 (ji6)).f0), .string ((rd_T61 t285 (ji6)).f1), .bool true] 61 (0, 0))) ∧ Aside0 (Below w.heap.size w wc))
   case first =>
    have H := HC10.out
    clear HC10
    by_cases c26 : t295 = true
    ·
     subst c26
     have H1 : (bobbinetkeep_PickLast.j0 k t288 t294 t303 (!t304) ((rd_T61 t285 (ji6)).f0) ((rd_T61 t285 (ji6)).f1) true) = some r := by rw [if_pos rfl] at H; exact H
     clear H
     have H := H1
     clear H1
     have H' := Aside0.mk H
     clear H
     go_wp2
     repeat (go_quiet (fail); try go_wp2)
     go_meet
     case rel => exact ⟨_, (!t304), (by first | rfl | (simp; done) | (simp [*]; done) | (simp [bne]; done)), H', ⟨by first | omega | exact Nat.le_refl _⟩, ⟨by (with_reducible repeat (first | apply Kd.R_alloc | apply Kd.R_drewN | apply Kd.R_drew)); exact HO290.out⟩, ⟨by (with_reducible repeat (first | apply Kd.S_alloc | apply Kd.S_drewN | apply Kd.S_drew)); exact Kd.S_mono HO297.out (fun _ hk => hk.2)⟩, ⟨by (with_reducible repeat (first | apply Kd.S_alloc | apply Kd.S_drewN | apply Kd.S_drew)); exact Kd.S_mono HO306.out (fun _ hk => hk.2)⟩, ⟨by (with_reducible repeat (first | refine blk_drewN ?_ _ | refine blk_drew ?_ | refine blk_alloc ?_ _)); exact BK299.out⟩, ⟨by repeat (first | (with_reducible first | exact HB.out | apply below_alloc | apply pw_below_drewN | apply below_drew1 | refine below_set ?_ GE299.out) | exact HB.out)⟩⟩
    ·
     replace c26 := Bool.eq_false_iff.mpr c26
     subst c26
     have H1 : (bobbinetkeep_PickLast.j0 k t288 t294 t303 true ((rd_T61 t285 (ji6)).f0) ((rd_T61 t285 (ji6)).f1) true) = some r := by rw [if_neg (show ¬ (false = true) by decide)] at H; exact H
     clear H
     have H := H1
     clear H1
     have H' := Aside0.mk H
     clear H
     go_wp2
     repeat (go_quiet (fail); try go_wp2)
     go_meet
     case rel => exact ⟨_, (true), (by first | rfl | (simp; done) | (simp [*]; done) | (simp [bne]; done)), H', ⟨by first | omega | exact Nat.le_refl _⟩, ⟨by (with_reducible repeat (first | apply Kd.R_alloc | apply Kd.R_drewN | apply Kd.R_drew)); exact HO290.out⟩, ⟨by (with_reducible repeat (first | apply Kd.S_alloc | apply Kd.S_drewN | apply Kd.S_drew)); exact Kd.S_mono HO297.out (fun _ hk => hk.2)⟩, ⟨by (with_reducible repeat (first | apply Kd.S_alloc | apply Kd.S_drewN | apply Kd.S_drew)); exact Kd.S_mono HO306.out (fun _ hk => hk.2)⟩, ⟨by (with_reducible repeat (first | refine blk_drewN ?_ _ | refine blk_drew ?_ | refine blk_alloc ?_ _)); exact BK299.out⟩, ⟨by repeat (first | (with_reducible first | exact HB.out | apply below_alloc | apply pw_below_drewN | apply below_drew1 | refine below_set ?_ GE299.out) | exact HB.out)⟩⟩
   case rest =>
    clear HC10
    try clear c1
    try clear c2
    try clear p2
    try clear q2
    try clear hx2
    try clear c3
    try clear p6
    try clear c7
    try clear c7b0
    try clear c8
    try clear c8b0
    try clear c26
    try clear hcz17_0
    try clear hcz17_1
    try clear hcz17_2
    try clear hcz19_0
    try clear hcz19_1
    try clear hcz19_2
    try clear hcz21_0
    try clear hcz21_1
    try clear hcz21_2
    try clear hfz17_0
    try clear hfz17_1
    try clear hfz17_2
    try clear hfz19_0
    try clear hfz19_1
    try clear hfz19_2
    try clear hfz21_0
    try clear hfz21_1
    try clear hfz21_2
    try clear hx298_0
    try clear hx298_1
    try clear hx298_2
    try clear p298
    try clear q298
    obtain ⟨kq, x48_9, rfl, HA, HJ9, HO_6, HO_8, HO_11, BK299, HB⟩ := hcut
    cases kq with
    | zero => exact absurd HA.out (by simp [bobbinetkeep_PickLast.j0])
    | succ kj9 =>
     have H := HA.out
     clear HA
     simp only [bobbinetkeep_PickLast.j0] at H
     by_cases c27 : x48_9 = true
     ·
      subst c27
      have H1 : (none) = some r := by rw [if_pos rfl] at H; exact H
      clear H
      have H := H1
      clear H1
      exact absurd H (by simp)
     ·
      replace c27 := Bool.eq_false_iff.mpr c27
      subst c27
      have H1 : (bobbinetkeep_PickLast.l0 kj9 t288 t294 t303 0 ((rd_T61 t285 (ji6)).f0) ((rd_T61 t285 (ji6)).f1) true) = some r := by rw [if_neg (show ¬ (false = true) by decide)] at H; exact H
      clear H
      have H := H1
      clear H1
      have H' := Aside0.mk H
      clear H
      go_wp2
      repeat (go_quiet (fail); try go_wp2)
      go_loopg [13] kj9 (fun kq v13 w' => ∃ (x13_2 : Int), v13 = .int .i64 x13_2 ∧ Aside0 (bobbinetkeep_PickLast.l0 kq t288 t294 t303 x13_2 ((rd_T61 t285 (ji6)).f0) ((rd_T61 t285 (ji6)).f1) true = some r) ∧ Aside0 (kq ≤ kj9) ∧ Aside0 (Kd.R k28 28 w' w.heap.size (fun _ => True) (.slice Ao14 t288.length co14) t288) ∧ Aside0 (Kd.S (Kd.slice 3 (Kd.int .i64)) 22 w' w.heap.size (fun k_ => some k_ ≠ (v305 : Value).ownBlock) v296 t294) ∧ Aside0 (Kd.S (Kd.slice 3 (Kd.int .i64)) 22 w' w.heap.size (fun k_ => some k_ ≠ (v296 : Value).ownBlock) v305 t303) ∧ Aside0 (w'.heap[gb299]? = some (.cells #[.string ((rd_T61 t285 (ji6)).f0), .string ((rd_T61 t285 (ji6)).f1), .bool true] 61 (0, 0))) ∧ Aside0 (Below w.heap.size w w'))
      case atStart => exact ⟨(0), (by first | rfl | (simp; done) | (simp [*]; done) | (simp [bne]; done)), H', ⟨Nat.le_refl _⟩, ⟨by (with_reducible repeat (first | apply Kd.R_alloc | apply Kd.R_drewN | apply Kd.R_drew)); exact HO_6.out⟩, ⟨by (with_reducible repeat (first | apply Kd.S_alloc | apply Kd.S_drewN | apply Kd.S_drew)); exact HO_8.out⟩, ⟨by (with_reducible repeat (first | apply Kd.S_alloc | apply Kd.S_drewN | apply Kd.S_drew)); exact HO_11.out⟩, ⟨by (with_reducible repeat (first | refine blk_drewN ?_ _ | refine blk_drew ?_ | refine blk_alloc ?_ _)); exact BK299.out⟩, ⟨by repeat (first | (with_reducible first | exact HB.out | apply below_alloc | apply pw_below_drewN | apply below_drew1 | refine below_set ?_ GE299.out) | exact HB.out)⟩⟩
      case round =>
       clear H'
       try clear c1
       try clear c2
       try clear p2
       try clear q2
       try clear hx2
       try clear c3
       try clear p6
       try clear c7
       try clear c7b0
       try clear c8
       try clear c8b0
       try clear c26
       try clear c27
       try clear hcz17_0
       try clear hcz17_1
       try clear hcz17_2
       try clear hcz19_0
       try clear hcz19_1
       try clear hcz19_2
       try clear hcz21_0
       try clear hcz21_1
       try clear hcz21_2
       try clear hfz17_0
       try clear hfz17_1
       try clear hfz17_2
       try clear hfz19_0
       try clear hfz19_1
       try clear hfz19_2
       try clear hfz21_0
       try clear hfz21_1
       try clear hfz21_2
       try clear hx298_0
       try clear hx298_1
       try clear hx298_2
       try clear p2
       try clear p298
       try clear p6
       try clear q2
       try clear q298
       obtain ⟨x13_2, rfl, HA, HK2, HO_6, HO_8, HO_11, BK299, HB⟩ := hrel
       cases gk with
       | zero => exact absurd HA.out (by simp [bobbinetkeep_PickLast.l0])
       | succ k2 =>
        have H := HA.out
        clear HA
        simp only [bobbinetkeep_PickLast.l0] at H
        by_cases c28 : x13_2 < (t294.length : Int)
        ·
         rw [if_pos c28] at H
         have c28b0 : decide (x13_2 < (t294.length : Int)) = true := decide_eq_true c28
         clear c28
         by_cases c29 : 0 ≤ x13_2
         ·
          rw [if_pos c29] at H
          have c29b0 : decide (0 ≤ x13_2) = true := decide_eq_true c29
          clear c29
          replace H := Option.bind_eq_some_iff.mp H
          obtain ⟨⟨t308, t309, t312, t313, t316⟩, A300, H⟩ := H
          replace H : (if t316 = true then (if t308.toList = ([] : List UInt8) then (bobbinetkeep_PickLast.j2 k2 t288 t294 t303 x13_2 true ((rd_T61 t285 (ji6)).f0) ((rd_T61 t285 (ji6)).f1) true) else (if ((rd_T61 t285 (ji6)).f0).toList = ([] : List UInt8) then ((bobbinetkeep_hasPath.f k2 t303 (rd_L7 t294 x13_2)).bind fun t319 => (bobbinetkeep_PickLast.j2 k2 t288 t294 t303 x13_2 (!t319) ((rd_T61 t285 (ji6)).f0) ((rd_T61 t285 (ji6)).f1) true)) else (if t308.toList = ((rd_T61 t285 (ji6)).f0).toList then ((bobbinetkeep_hasPath.f k2 t303 (rd_L7 t294 x13_2)).bind fun t321 => (bobbinetkeep_PickLast.j2 k2 t288 t294 t303 x13_2 (!t321) ((rd_T61 t285 (ji6)).f0) ((rd_T61 t285 (ji6)).f1) true)) else (bobbinetkeep_PickLast.j2 k2 t288 t294 t303 x13_2 true ((rd_T61 t285 (ji6)).f0) ((rd_T61 t285 (ji6)).f1) true)))) else (bobbinetkeep_PickLast.j2 k2 t288 t294 t303 x13_2 true ((rd_T61 t285 (ji6)).f0) ((rd_T61 t285 (ji6)).f1) true)) = some r := H
          have A30 := Aside0.mk A300
          clear A300
          have HC31 := Aside0.mk H
          clear H
          obtain ⟨Ao32, co32, eo32⟩ := Kd.S_slice HO_8.out
          subst eo32
          have p307 : 0 ≤ (x13_2 : Int) := of_decide_eq_true (by first | (with_reducible assumption) | assumption)
          have q307 : x13_2 < (t294.length : Int) := of_decide_eq_true (by first | (with_reducible assumption) | assumption)
          obtain ⟨ad307, A307_0, c307_0, e307, hx307_0, hl307_0, hi307_0⟩ := at_L7 (Kd.S_reads' HO_8.out).2.2 x13_2 p307 q307
          cases e307
          obtain ⟨ce307, hce307, hMe307, hcc307⟩ := Kd.S_get HO_8.out [] x13_2 p307 (by first | exact q307 | exact of_decide_eq_true (by first | (with_reducible assumption) | assumption) | (have e_ := (Kd.S_reads' HO_8.out).1; omega))
          obtain ⟨ve307_0, rfl, ge307_0⟩ := hMe307
          have hv307_0 := hcc307 0 _ rfl
          rw [Nat.add_zero, show ((Kd.slice 3 (Kd.int .i64))).sz = 1 from rfl, Nat.mul_one] at hv307_0
          replace hv307_0 := Option.some.inj (hv307_0.symm.trans hx307_0)
          rw [hv307_0] at ge307_0
          have HL307_0 := Aside0.mk (show Kd.R (Kd.int .i64) 3 _ _ _ _ (rd_L7 t294 x13_2) from ge307_0)
          clear hv307_0 ge307_0
          clear hcc307 hce307
          have HR307_0 := Aside0.mk hi307_0
          have HC307_0 := Aside0.mk hl307_0
          clear hi307_0 hl307_0
          replace p307 := eq_true p307
          replace q307 := eq_true q307
          go_upto_region 13 with (first | (go_at_call 16; (with_reducible refine (bobbinetkeep_nodeAt.calls k2 (fun k_ => ((((True ∧ some k_ ≠ (.slice (some ad307) t294.length co32 : Value).ownBlock) ∧ some k_ ≠ (v305 : Value).ownBlock) ∧ some k_ ≠ (.slice A307_0 (rd_L7 t294 x13_2).length c307_0 : Value).ownBlock) ∧ k_ ≠ gb299)) _ _ t288 _ _ (rd_L7 t294 x13_2) t308 t309 t312 t313 t316 _ ?side1 ?side2 ?side3 A30.out).mono ?_); (case side1 => exact Kd.R_V (Kd.R_types (Kd.R_apart' (Kd.R_apart' (Kd.R_apart' (HO_6.out) (Kd.S_typed HO_8.out) (by decide)) (Kd.S_typed HO_11.out) (by decide)) (Kd.R_typed HL307_0.out) (by decide)) BK299.out (by decide))); (case side2 => repeat (first | exact (by repeat (first | (with_reducible exact HR307_0.out) | (with_reducible exact (Kd.R_reads' HL307_0.out).2.2) | (with_reducible refine Kd.C_alloc ?_ _) | (with_reducible refine Kd.C_drewN ?_ _) | (with_reducible refine Kd.C_drew ?_) | exact HR307_0.out)) | (with_reducible refine Kd.C_alloc ?_ _) | (with_reducible refine Kd.C_drewN ?_ _) | (with_reducible refine Kd.C_drew ?_))); (case side3 => exact HC307_0.out); rintro e w33 ⟨v310, v314, rfl, ho0, ho1, hb⟩; have n0_ := Aside0.mk (Kd.R_below (by (with_reducible repeat (first | apply Kd.R_alloc | apply Kd.R_drewN | apply Kd.R_drew)); exact HO_6.out) hb); have n1_ := Aside0.mk (Kd.S_below (by (with_reducible repeat (first | apply Kd.S_alloc | apply Kd.S_drewN | apply Kd.S_drew)); exact HO_8.out) hb); have n2_ := Aside0.mk (Kd.S_below (by (with_reducible repeat (first | apply Kd.S_alloc | apply Kd.S_drewN | apply Kd.S_drew)); exact HO_11.out) hb); have n3_ := Aside0.mk (Kd.R_below (by (with_reducible repeat (first | apply Kd.R_alloc | apply Kd.R_drewN | apply Kd.R_drew)); exact HL307_0.out) hb); have n4_ := Aside0.mk (Kd.V_lower (Kd.V_mono (ok' := fun k_ => some k_ ≠ (.slice (some ad307) t294.length co32 : Value).ownBlock ∧ some k_ ≠ (v305 : Value).ownBlock ∧ k_ ≠ gb299) ho0 (fun k_ hk_ => ⟨Or.elim hk_ (fun hs_ => hs_.1.1.1.2) (fun hn_ => (Kd.fresh' (Kd.S_lt (by (with_reducible repeat (first | apply Kd.S_alloc | apply Kd.S_drewN | apply Kd.S_drew)); exact HO_8.out)) k_ hn_)), Or.elim hk_ (fun hs_ => hs_.1.1.2) (fun hn_ => (Kd.fresh' (Kd.S_lt (by (with_reducible repeat (first | apply Kd.S_alloc | apply Kd.S_drewN | apply Kd.S_drew)); exact HO_11.out)) k_ hn_)), Or.elim hk_ (fun hs_ => hs_.2) (fun hn_ => (Kd.freshB (g := gb299) (o := .cells #[.string ((rd_T61 t285 (ji6)).f0), .string ((rd_T61 t285 (ji6)).f1), .bool true] 61 (0, 0)) (by (with_reducible repeat (first | refine blk_drewN ?_ _ | refine blk_drew ?_ | refine blk_alloc ?_ _)); exact BK299.out) k_ hn_))⟩)) (below_size (by repeat (first | (with_reducible first | exact HB.out | apply below_alloc | apply pw_below_drewN | apply below_drew1 | refine below_set ?_ GE299.out) | exact HB.out)))); have n5_ := Aside0.mk (Kd.V_lower (Kd.V_mono (ok' := fun k_ => some k_ ≠ (.slice (some ad307) t294.length co32 : Value).ownBlock ∧ some k_ ≠ (v305 : Value).ownBlock ∧ k_ ≠ gb299) ho1 (fun k_ hk_ => ⟨Or.elim hk_ (fun hs_ => hs_.1.1.1.2) (fun hn_ => (Kd.fresh' (Kd.S_lt (by (with_reducible repeat (first | apply Kd.S_alloc | apply Kd.S_drewN | apply Kd.S_drew)); exact HO_8.out)) k_ hn_)), Or.elim hk_ (fun hs_ => hs_.1.1.2) (fun hn_ => (Kd.fresh' (Kd.S_lt (by (with_reducible repeat (first | apply Kd.S_alloc | apply Kd.S_drewN | apply Kd.S_drew)); exact HO_11.out)) k_ hn_)), Or.elim hk_ (fun hs_ => hs_.2) (fun hn_ => (Kd.freshB (g := gb299) (o := .cells #[.string ((rd_T61 t285 (ji6)).f0), .string ((rd_T61 t285 (ji6)).f1), .bool true] 61 (0, 0)) (by (with_reducible repeat (first | refine blk_drewN ?_ _ | refine blk_drew ?_ | refine blk_alloc ?_ _)); exact BK299.out) k_ hn_))⟩)) (below_size (by repeat (first | (with_reducible first | exact HB.out | apply below_alloc | apply pw_below_drewN | apply below_drew1 | refine below_set ?_ GE299.out) | exact HB.out)))); have n6_ := Aside0.mk (blk_below (g := gb299) (o := .cells #[.string ((rd_T61 t285 (ji6)).f0), .string ((rd_T61 t285 (ji6)).f1), .bool true] 61 (0, 0)) (by (with_reducible repeat (first | refine blk_drewN ?_ _ | refine blk_drew ?_ | refine blk_alloc ?_ _)); exact BK299.out) hb); (first | have n7_ := Aside0.mk (Kd.C_below (Kd.C_drewN HR307_0.out _) hb) | have n7_ := Aside0.mk (Kd.C_below HR307_0.out hb) | have n7_ := Aside0.mk (Kd.C_below (by repeat (first | (with_reducible exact HR307_0.out) | (with_reducible exact (Kd.R_reads' HL307_0.out).2.2) | (with_reducible refine Kd.C_alloc ?_ _) | (with_reducible refine Kd.C_drewN ?_ _) | (with_reducible refine Kd.C_drew ?_) | exact HR307_0.out)) hb)); have n8_ := Aside0.mk (below_step (by repeat (first | (with_reducible first | exact HB.out | apply below_alloc | apply pw_below_drewN | apply below_drew1 | refine below_set ?_ GE299.out) | exact HB.out)) hb); clear HO_6; clear HO_8; clear HO_11; clear HL307_0; clear BK299; clear HR307_0; clear HB; have HO_6 := n0_; have HO_8 := n1_; have HO_11 := n2_; have HL307_0 := n3_; have HO311 := n4_; have HO315 := n5_; have BK299 := n6_; have HR307_0 := n7_; have HB := n8_; clear n0_ n1_ n2_ n3_ n4_ n5_ n6_ n7_ n8_; (try clear hb); (try clear hb2); (try clear hk); (try clear hi); (try clear ho0); (try clear ho1)) | ((with_reducible refine gate_dst (N := 14) rfl ?_); refine box_event ?hg (N := 14) ?hd (cs := #[.string (⟨#[]⟩ : ByteArray), .slice none 0 0, .string (⟨#[]⟩ : ByteArray), .slice none 0 0]) (t := 28) ?hr ?_; (case hd => rfl); (case hg => rfl); (case hr => first | (go_simp; done) | (go_simp; rfl)); intro gb317 hg w34 hbox hb; have n0_ := Aside0.mk (Kd.R_below (Kd.R_elderB (by (with_reducible repeat (first | apply Kd.R_alloc | apply Kd.R_drewN | apply Kd.R_drew)); exact HO_6.out) gb317 (Nat.le_of_eq hg.symm)) hb); have n1_ := Aside0.mk (Kd.S_below (by (with_reducible repeat (first | apply Kd.S_alloc | apply Kd.S_drewN | apply Kd.S_drew)); exact HO_8.out) hb); have n2_ := Aside0.mk (Kd.S_below (by (with_reducible repeat (first | apply Kd.S_alloc | apply Kd.S_drewN | apply Kd.S_drew)); exact HO_11.out) hb); have n3_ := Aside0.mk (Kd.R_below (by (with_reducible repeat (first | apply Kd.R_alloc | apply Kd.R_drewN | apply Kd.R_drew)); exact HL307_0.out) hb); have n4_ := Aside0.mk (Kd.V_below (Kd.V_elderB (by (with_reducible repeat (first | apply Kd.V_alloc | apply Kd.V_drewN | apply Kd.V_drew)); exact HO311.out) gb317 (Nat.le_of_eq hg.symm)) hb); have n5_ := Aside0.mk (Kd.V_below (Kd.V_elderB (by (with_reducible repeat (first | apply Kd.V_alloc | apply Kd.V_drewN | apply Kd.V_drew)); exact HO315.out) gb317 (Nat.le_of_eq hg.symm)) hb); have n6_ := Aside0.mk (blk_below (g := gb299) (o := .cells #[.string ((rd_T61 t285 (ji6)).f0), .string ((rd_T61 t285 (ji6)).f1), .bool true] 61 (0, 0)) (by (with_reducible repeat (first | refine blk_drewN ?_ _ | refine blk_drew ?_ | refine blk_alloc ?_ _)); exact BK299.out) hb); (first | have n7_ := Aside0.mk (Kd.C_below (Kd.C_drewN HR307_0.out _) hb) | have n7_ := Aside0.mk (Kd.C_below HR307_0.out hb) | have n7_ := Aside0.mk (Kd.C_below (by repeat (first | (with_reducible exact HR307_0.out) | (with_reducible exact (Kd.R_reads' HL307_0.out).2.2) | (with_reducible refine Kd.C_alloc ?_ _) | (with_reducible refine Kd.C_drewN ?_ _) | (with_reducible refine Kd.C_drew ?_) | exact HR307_0.out)) hb)); have n8_ := Aside0.mk (below_step (by repeat (first | (with_reducible first | exact HB.out | apply below_alloc | apply pw_below_drewN | apply below_drew1 | refine below_set ?_ GE299.out) | exact HB.out)) hb); have n9_ := Aside0.mk (hbox); have n10_ := Aside0.mk ((by rw [hg]; exact (below_size (by repeat (first | (with_reducible first | exact HB.out | apply below_alloc | apply pw_below_drewN | apply below_drew1 | refine below_set ?_ GE299.out) | exact HB.out))) : w.heap.size ≤ gb317)); have n11_ := Aside0.mk ((by rw [hg]; exact (below_size (by repeat (first | (with_reducible first | exact HB.out | apply below_alloc | apply pw_below_drewN | apply below_drew1 | refine below_set ?_ GE299.out) | exact HB.out))) : w.heap.size ≤ gb317)); have n12_ := Aside0.mk ((by rw [hg]; exact Nat.ne_of_lt (blk_lt (g := gb299) (o := .cells #[.string ((rd_T61 t285 (ji6)).f0), .string ((rd_T61 t285 (ji6)).f1), .bool true] 61 (0, 0)) (by (with_reducible repeat (first | refine blk_drewN ?_ _ | refine blk_drew ?_ | refine blk_alloc ?_ _)); exact BK299.out)) : gb299 ≠ gb317)); have n13_ := Aside0.mk ((by rw [hg]; exact Nat.ne_of_gt (blk_lt (g := gb299) (o := .cells #[.string ((rd_T61 t285 (ji6)).f0), .string ((rd_T61 t285 (ji6)).f1), .bool true] 61 (0, 0)) (by (with_reducible repeat (first | refine blk_drewN ?_ _ | refine blk_drew ?_ | refine blk_alloc ?_ _)); exact BK299.out)) : gb317 ≠ gb299)); clear HO_6; clear HO_8; clear HO_11; clear HL307_0; clear HO311; clear HO315; clear BK299; clear HR307_0; clear HB; have HO_6 := n0_; have HO_8 := n1_; have HO_11 := n2_; have HL307_0 := n3_; have HO311 := n4_; have HO315 := n5_; have BK299 := n6_; have HR307_0 := n7_; have HB := n8_; have BK317 := n9_; have GW317 := n10_; have GE317 := n11_; have NB299_317 := n12_; have NB317_299 := n13_; clear n0_ n1_ n2_ n3_ n4_ n5_ n6_ n7_ n8_ n9_ n10_ n11_ n12_ n13_; clear hb hbox hg; have hnb35 := NB317_299.out; have hnc35 := NB299_317.out; have hcz36_0 : w34.cell? ⟨gb317, 0, none⟩ = some (.string (⟨#[]⟩ : ByteArray)) := (blk_cell BK317.out 0).trans rfl; have hcz36_1 : w34.cell? ⟨gb317, 1, none⟩ = some (.slice none 0 0) := (blk_cell BK317.out 1).trans rfl; have hcz36_2 : w34.cell? ⟨gb317, 2, none⟩ = some (.string (⟨#[]⟩ : ByteArray)) := (blk_cell BK317.out 2).trans rfl; have hcz36_3 : w34.cell? ⟨gb317, 3, none⟩ = some (.slice none 0 0) := (blk_cell BK317.out 3).trans rfl; have hfz36_0 := blk_frozen BK317.out 0; have hfz36_1 := blk_frozen BK317.out 1; have hfz36_2 := blk_frozen BK317.out 2; have hfz36_3 := blk_frozen BK317.out 3; obtain ⟨Ao37, co37, eo37⟩ := Kd.V_slice HO311.out; subst eo37; obtain ⟨Ao38, co38, eo38⟩ := Kd.V_slice HO315.out; subst eo38) | ((with_reducible refine gate_store (t := 28) (p := 14) rfl ?_); (try (rw [drewN_self w34]; generalize hq_ : World.drewN w34 _ = w34; have n0_ := Aside0.mk (Kd.R_at hq_ HO_6.out); have n1_ := Aside0.mk (Kd.S_at hq_ HO_8.out); have n2_ := Aside0.mk (Kd.S_at hq_ HO_11.out); have n3_ := Aside0.mk (Kd.R_at hq_ HL307_0.out); have n4_ := Aside0.mk (Kd.V_at hq_ HO311.out); have n5_ := Aside0.mk (Kd.V_at hq_ HO315.out); have n6_ := Aside0.mk (blk_at hq_ BK299.out); have n7_ := Aside0.mk (blk_at hq_ BK317.out); have n8_ := Aside0.mk (Kd.C_at hq_ HR307_0.out); have n9_ := Aside0.mk (below_at hq_ HB.out); clear hq_ HO_6 HO_8 HO_11 HL307_0 HO311 HO315 BK299 BK317 HR307_0 HB; have HO_6 := n0_; have HO_8 := n1_; have HO_11 := n2_; have HL307_0 := n3_; have HO311 := n4_; have HO315 := n5_; have BK299 := n6_; have BK317 := n7_; have HR307_0 := n8_; have HB := n9_; clear n0_ n1_ n2_ n3_ n4_ n5_ n6_ n7_ n8_ n9_)); refine store_event (t := 28) (p := 14) (v := ?vo_w39) (w1 := ((((w34.setCell ⟨gb317, 0, none⟩ (.string t308)).setCell ⟨gb317, 1, none⟩ (.slice Ao37 t309.length co37)).setCell ⟨gb317, 2, none⟩ (.string t312)).setCell ⟨gb317, 3, none⟩ (.slice Ao38 t313.length co38))) ?hg ?ho ?hn ?hr ?_; (case ho => rfl); (case hg => rfl); (case hn => rfl); (case hr => first | (go_simp; done) | (go_simp; rfl)); intro w39 hw; have n0_ : Aside0 (Kd.R k28 28 w39 w.heap.size (fun k_ => k_ ≠ gb317) (.slice Ao14 t288.length co14) t288) := ⟨(by rw [hw]; exact (by (with_reducible repeat (first | apply Kd.R_alloc | apply Kd.R_drewN | apply Kd.R_drew)); exact Kd.R_mono (Kd.R_far (p := ⟨gb317, 3, none⟩) (Kd.R_far (p := ⟨gb317, 2, none⟩) (Kd.R_far (p := ⟨gb317, 1, none⟩) (Kd.R_far (p := ⟨gb317, 0, none⟩) (Kd.R_mono HO_6.out (fun k_ hk => (⟨hk, hk.2⟩ : _ ∧ k_ ≠ gb317))) (fun _ hk => hk.2) (.string t308)) (fun _ hk => hk.2) (.slice Ao37 t309.length co37)) (fun _ hk => hk.2) (.string t312)) (fun _ hk => hk.2) (.slice Ao38 t313.length co38)) (fun _ hk => hk.1.2)))⟩; have n1_ : Aside0 (Kd.S (Kd.slice 3 (Kd.int .i64)) 22 w39 w.heap.size (fun k_ => some k_ ≠ (v305 : Value).ownBlock) (.slice (some ad307) t294.length co32) t294) := ⟨(by rw [hw]; exact (by (with_reducible repeat (first | apply Kd.S_alloc | apply Kd.S_drewN | apply Kd.S_drew)); exact Kd.S_mono (Kd.S_far (p := ⟨gb317, 3, none⟩) (Kd.S_far (p := ⟨gb317, 2, none⟩) (Kd.S_far (p := ⟨gb317, 1, none⟩) (Kd.S_far (p := ⟨gb317, 0, none⟩) (Kd.S_types HO_8.out BK317.out (by decide)) (fun _ hk => hk.2) (.string t308)) (fun _ hk => hk.2) (.slice Ao37 t309.length co37)) (fun _ hk => hk.2) (.string t312)) (fun _ hk => hk.2) (.slice Ao38 t313.length co38)) (fun _ hk => hk.1)))⟩; have n2_ : Aside0 (Kd.S (Kd.slice 3 (Kd.int .i64)) 22 w39 w.heap.size (fun k_ => some k_ ≠ (.slice (some ad307) t294.length co32 : Value).ownBlock) v305 t303) := ⟨(by rw [hw]; exact (by (with_reducible repeat (first | apply Kd.S_alloc | apply Kd.S_drewN | apply Kd.S_drew)); exact Kd.S_mono (Kd.S_far (p := ⟨gb317, 3, none⟩) (Kd.S_far (p := ⟨gb317, 2, none⟩) (Kd.S_far (p := ⟨gb317, 1, none⟩) (Kd.S_far (p := ⟨gb317, 0, none⟩) (Kd.S_types HO_11.out BK317.out (by decide)) (fun _ hk => hk.2) (.string t308)) (fun _ hk => hk.2) (.slice Ao37 t309.length co37)) (fun _ hk => hk.2) (.string t312)) (fun _ hk => hk.2) (.slice Ao38 t313.length co38)) (fun _ hk => hk.1)))⟩; have n3_ : Aside0 (Kd.R (Kd.int .i64) 3 w39 w.heap.size (fun k_ => some k_ ≠ (.slice (some ad307) t294.length co32 : Value).ownBlock ∧ some k_ ≠ (v305 : Value).ownBlock) (.slice A307_0 (rd_L7 t294 x13_2).length c307_0) (rd_L7 t294 x13_2)) := ⟨(by rw [hw]; exact (by (with_reducible repeat (first | apply Kd.R_alloc | apply Kd.R_drewN | apply Kd.R_drew)); exact Kd.R_mono (Kd.R_far (p := ⟨gb317, 3, none⟩) (Kd.R_far (p := ⟨gb317, 2, none⟩) (Kd.R_far (p := ⟨gb317, 1, none⟩) (Kd.R_far (p := ⟨gb317, 0, none⟩) (Kd.R_types HL307_0.out BK317.out (by decide)) (fun _ hk => hk.2) (.string t308)) (fun _ hk => hk.2) (.slice Ao37 t309.length co37)) (fun _ hk => hk.2) (.string t312)) (fun _ hk => hk.2) (.slice Ao38 t313.length co38)) (fun _ hk => ⟨hk.1.2, hk.1.1⟩)))⟩; have n4_ : Aside0 (Kd.V k68 68 w39 w.heap.size (fun k_ => some k_ ≠ (.slice (some ad307) t294.length co32 : Value).ownBlock ∧ some k_ ≠ (v305 : Value).ownBlock ∧ k_ ≠ gb299 ∧ k_ ≠ gb317) (.slice Ao37 t309.length co37) t309) := ⟨(by rw [hw]; exact (by (with_reducible repeat (first | apply Kd.V_alloc | apply Kd.V_drewN | apply Kd.V_drew)); exact Kd.V_mono (Kd.V_far (p := ⟨gb317, 3, none⟩) (Kd.V_far (p := ⟨gb317, 2, none⟩) (Kd.V_far (p := ⟨gb317, 1, none⟩) (Kd.V_far (p := ⟨gb317, 0, none⟩) (Kd.V_mono HO311.out (fun k_ hk => (⟨hk, hk.2⟩ : _ ∧ k_ ≠ gb317))) (fun _ hk => hk.2) (.string t308)) (fun _ hk => hk.2) (.slice Ao37 t309.length co37)) (fun _ hk => hk.2) (.string t312)) (fun _ hk => hk.2) (.slice Ao38 t313.length co38)) (fun _ hk => ⟨hk.1.1.1, ⟨hk.1.1.2.1, ⟨hk.1.1.2.2, hk.1.2⟩⟩⟩)))⟩; have n5_ : Aside0 (Kd.V k28 28 w39 w.heap.size (fun k_ => some k_ ≠ (.slice (some ad307) t294.length co32 : Value).ownBlock ∧ some k_ ≠ (v305 : Value).ownBlock ∧ k_ ≠ gb299 ∧ k_ ≠ gb317) (.slice Ao38 t313.length co38) t313) := ⟨(by rw [hw]; exact (by (with_reducible repeat (first | apply Kd.V_alloc | apply Kd.V_drewN | apply Kd.V_drew)); exact Kd.V_mono (Kd.V_far (p := ⟨gb317, 3, none⟩) (Kd.V_far (p := ⟨gb317, 2, none⟩) (Kd.V_far (p := ⟨gb317, 1, none⟩) (Kd.V_far (p := ⟨gb317, 0, none⟩) (Kd.V_mono HO315.out (fun k_ hk => (⟨hk, hk.2⟩ : _ ∧ k_ ≠ gb317))) (fun _ hk => hk.2) (.string t308)) (fun _ hk => hk.2) (.slice Ao37 t309.length co37)) (fun _ hk => hk.2) (.string t312)) (fun _ hk => hk.2) (.slice Ao38 t313.length co38)) (fun _ hk => ⟨hk.1.1.1, ⟨hk.1.1.2.1, ⟨hk.1.1.2.2, hk.1.2⟩⟩⟩)))⟩; have n6_ : Aside0 (w39.heap[gb299]? = some (.cells #[.string ((rd_T61 t285 (ji6)).f0), .string ((rd_T61 t285 (ji6)).f1), .bool true] 61 (0, 0))) := ⟨(by rw [hw]; exact (by (with_reducible repeat (first | refine blk_drewN ?_ _ | refine blk_drew ?_ | refine blk_alloc ?_ _)); refine blk_far ?_ NB299_317.out _; (with_reducible repeat (first | refine blk_drewN ?_ _ | refine blk_drew ?_ | refine blk_alloc ?_ _)); refine blk_far ?_ NB299_317.out _; (with_reducible repeat (first | refine blk_drewN ?_ _ | refine blk_drew ?_ | refine blk_alloc ?_ _)); refine blk_far ?_ NB299_317.out _; (with_reducible repeat (first | refine blk_drewN ?_ _ | refine blk_drew ?_ | refine blk_alloc ?_ _)); refine blk_far ?_ NB299_317.out _; (with_reducible repeat (first | refine blk_drewN ?_ _ | refine blk_drew ?_ | refine blk_alloc ?_ _)); exact BK299.out))⟩; have n7_ : Aside0 (w39.heap[gb317]? = some (.cells #[.string t308, .slice Ao37 t309.length co37, .string t312, .slice Ao38 t313.length co38] 28 (0, 0))) := ⟨(by rw [hw]; exact (by (with_reducible repeat (first | refine blk_drewN ?_ _ | refine blk_drew ?_ | refine blk_alloc ?_ _)); refine blk_put (cs := #[.string t308, .slice Ao37 t309.length co37, .string t312, .slice none 0 0]) ?_ 3 _ rfl; (with_reducible repeat (first | refine blk_drewN ?_ _ | refine blk_drew ?_ | refine blk_alloc ?_ _)); refine blk_put (cs := #[.string t308, .slice Ao37 t309.length co37, .string (⟨#[]⟩ : ByteArray), .slice none 0 0]) ?_ 2 _ rfl; (with_reducible repeat (first | refine blk_drewN ?_ _ | refine blk_drew ?_ | refine blk_alloc ?_ _)); refine blk_put (cs := #[.string t308, .slice none 0 0, .string (⟨#[]⟩ : ByteArray), .slice none 0 0]) ?_ 1 _ rfl; (with_reducible repeat (first | refine blk_drewN ?_ _ | refine blk_drew ?_ | refine blk_alloc ?_ _)); refine blk_put (cs := #[.string (⟨#[]⟩ : ByteArray), .slice none 0 0, .string (⟨#[]⟩ : ByteArray), .slice none 0 0]) ?_ 0 _ rfl; (with_reducible repeat (first | refine blk_drewN ?_ _ | refine blk_drew ?_ | refine blk_alloc ?_ _)); exact BK317.out))⟩; have n8_ : Aside0 (Below w.heap.size w w39) := ⟨(by rw [hw]; exact (by repeat (first | (with_reducible first | exact HB.out | apply below_alloc | apply pw_below_drewN | apply below_drew1 | refine below_set ?_ GE299.out | refine below_set ?_ GE317.out) | exact HB.out)))⟩; clear hw; clear HO_6; clear HO_8; clear HO_11; clear HL307_0; clear HO311; clear HO315; clear BK299; clear BK317; clear HB; have HO_6 := n0_; have HO_8 := n1_; have HO_11 := n2_; have HL307_0 := n3_; have HO311 := n4_; have HO315 := n5_; have BK299 := n6_; have BK317 := n7_; have HB := n8_; clear n0_ n1_ n2_ n3_ n4_ n5_ n6_ n7_ n8_))
          repeat (go_quiet (first | (go_at_call 16; (with_reducible refine (bobbinetkeep_nodeAt.calls k2 (fun k_ => ((((True ∧ some k_ ≠ (.slice (some ad307) t294.length co32 : Value).ownBlock) ∧ some k_ ≠ (v305 : Value).ownBlock) ∧ some k_ ≠ (.slice A307_0 (rd_L7 t294 x13_2).length c307_0 : Value).ownBlock) ∧ k_ ≠ gb299)) _ _ t288 _ _ (rd_L7 t294 x13_2) t308 t309 t312 t313 t316 _ ?side1 ?side2 ?side3 A30.out).mono ?_); (case side1 => exact Kd.R_V (Kd.R_types (Kd.R_apart' (Kd.R_apart' (Kd.R_apart' (HO_6.out) (Kd.S_typed HO_8.out) (by decide)) (Kd.S_typed HO_11.out) (by decide)) (Kd.R_typed HL307_0.out) (by decide)) BK299.out (by decide))); (case side2 => repeat (first | exact (by repeat (first | (with_reducible exact HR307_0.out) | (with_reducible exact (Kd.R_reads' HL307_0.out).2.2) | (with_reducible refine Kd.C_alloc ?_ _) | (with_reducible refine Kd.C_drewN ?_ _) | (with_reducible refine Kd.C_drew ?_) | exact HR307_0.out)) | (with_reducible refine Kd.C_alloc ?_ _) | (with_reducible refine Kd.C_drewN ?_ _) | (with_reducible refine Kd.C_drew ?_))); (case side3 => exact HC307_0.out); rintro e w33 ⟨v310, v314, rfl, ho0, ho1, hb⟩; have n0_ := Aside0.mk (Kd.R_below (by (with_reducible repeat (first | apply Kd.R_alloc | apply Kd.R_drewN | apply Kd.R_drew)); exact HO_6.out) hb); have n1_ := Aside0.mk (Kd.S_below (by (with_reducible repeat (first | apply Kd.S_alloc | apply Kd.S_drewN | apply Kd.S_drew)); exact HO_8.out) hb); have n2_ := Aside0.mk (Kd.S_below (by (with_reducible repeat (first | apply Kd.S_alloc | apply Kd.S_drewN | apply Kd.S_drew)); exact HO_11.out) hb); have n3_ := Aside0.mk (Kd.R_below (by (with_reducible repeat (first | apply Kd.R_alloc | apply Kd.R_drewN | apply Kd.R_drew)); exact HL307_0.out) hb); have n4_ := Aside0.mk (Kd.V_lower (Kd.V_mono (ok' := fun k_ => some k_ ≠ (.slice (some ad307) t294.length co32 : Value).ownBlock ∧ some k_ ≠ (v305 : Value).ownBlock ∧ k_ ≠ gb299) ho0 (fun k_ hk_ => ⟨Or.elim hk_ (fun hs_ => hs_.1.1.1.2) (fun hn_ => (Kd.fresh' (Kd.S_lt (by (with_reducible repeat (first | apply Kd.S_alloc | apply Kd.S_drewN | apply Kd.S_drew)); exact HO_8.out)) k_ hn_)), Or.elim hk_ (fun hs_ => hs_.1.1.2) (fun hn_ => (Kd.fresh' (Kd.S_lt (by (with_reducible repeat (first | apply Kd.S_alloc | apply Kd.S_drewN | apply Kd.S_drew)); exact HO_11.out)) k_ hn_)), Or.elim hk_ (fun hs_ => hs_.2) (fun hn_ => (Kd.freshB (g := gb299) (o := .cells #[.string ((rd_T61 t285 (ji6)).f0), .string ((rd_T61 t285 (ji6)).f1), .bool true] 61 (0, 0)) (by (with_reducible repeat (first | refine blk_drewN ?_ _ | refine blk_drew ?_ | refine blk_alloc ?_ _)); exact BK299.out) k_ hn_))⟩)) (below_size (by repeat (first | (with_reducible first | exact HB.out | apply below_alloc | apply pw_below_drewN | apply below_drew1 | refine below_set ?_ GE299.out) | exact HB.out)))); have n5_ := Aside0.mk (Kd.V_lower (Kd.V_mono (ok' := fun k_ => some k_ ≠ (.slice (some ad307) t294.length co32 : Value).ownBlock ∧ some k_ ≠ (v305 : Value).ownBlock ∧ k_ ≠ gb299) ho1 (fun k_ hk_ => ⟨Or.elim hk_ (fun hs_ => hs_.1.1.1.2) (fun hn_ => (Kd.fresh' (Kd.S_lt (by (with_reducible repeat (first | apply Kd.S_alloc | apply Kd.S_drewN | apply Kd.S_drew)); exact HO_8.out)) k_ hn_)), Or.elim hk_ (fun hs_ => hs_.1.1.2) (fun hn_ => (Kd.fresh' (Kd.S_lt (by (with_reducible repeat (first | apply Kd.S_alloc | apply Kd.S_drewN | apply Kd.S_drew)); exact HO_11.out)) k_ hn_)), Or.elim hk_ (fun hs_ => hs_.2) (fun hn_ => (Kd.freshB (g := gb299) (o := .cells #[.string ((rd_T61 t285 (ji6)).f0), .string ((rd_T61 t285 (ji6)).f1), .bool true] 61 (0, 0)) (by (with_reducible repeat (first | refine blk_drewN ?_ _ | refine blk_drew ?_ | refine blk_alloc ?_ _)); exact BK299.out) k_ hn_))⟩)) (below_size (by repeat (first | (with_reducible first | exact HB.out | apply below_alloc | apply pw_below_drewN | apply below_drew1 | refine below_set ?_ GE299.out) | exact HB.out)))); have n6_ := Aside0.mk (blk_below (g := gb299) (o := .cells #[.string ((rd_T61 t285 (ji6)).f0), .string ((rd_T61 t285 (ji6)).f1), .bool true] 61 (0, 0)) (by (with_reducible repeat (first | refine blk_drewN ?_ _ | refine blk_drew ?_ | refine blk_alloc ?_ _)); exact BK299.out) hb); (first | have n7_ := Aside0.mk (Kd.C_below (Kd.C_drewN HR307_0.out _) hb) | have n7_ := Aside0.mk (Kd.C_below HR307_0.out hb) | have n7_ := Aside0.mk (Kd.C_below (by repeat (first | (with_reducible exact HR307_0.out) | (with_reducible exact (Kd.R_reads' HL307_0.out).2.2) | (with_reducible refine Kd.C_alloc ?_ _) | (with_reducible refine Kd.C_drewN ?_ _) | (with_reducible refine Kd.C_drew ?_) | exact HR307_0.out)) hb)); have n8_ := Aside0.mk (below_step (by repeat (first | (with_reducible first | exact HB.out | apply below_alloc | apply pw_below_drewN | apply below_drew1 | refine below_set ?_ GE299.out) | exact HB.out)) hb); clear HO_6; clear HO_8; clear HO_11; clear HL307_0; clear BK299; clear HR307_0; clear HB; have HO_6 := n0_; have HO_8 := n1_; have HO_11 := n2_; have HL307_0 := n3_; have HO311 := n4_; have HO315 := n5_; have BK299 := n6_; have HR307_0 := n7_; have HB := n8_; clear n0_ n1_ n2_ n3_ n4_ n5_ n6_ n7_ n8_; (try clear hb); (try clear hb2); (try clear hk); (try clear hi); (try clear ho0); (try clear ho1)) | (go_at_call 16; (with_reducible refine (bobbinetkeep_nodeAt.calls k2 (fun k_ => ((((True ∧ some k_ ≠ (.slice (some ad307) t294.length co32 : Value).ownBlock) ∧ some k_ ≠ (v305 : Value).ownBlock) ∧ some k_ ≠ (.slice A307_0 (rd_L7 t294 x13_2).length c307_0 : Value).ownBlock) ∧ k_ ≠ gb299)) _ _ t288 _ _ (rd_L7 t294 x13_2) t308 t309 t312 t313 t316 _ ?side1 ?side2 ?side3 A30.out).mono ?_); (case side1 => exact Kd.R_V (Kd.R_types (Kd.R_apart' (Kd.R_apart' (Kd.R_apart' (HO_6.out) (Kd.S_typed HO_8.out) (by decide)) (Kd.S_typed HO_11.out) (by decide)) (Kd.R_typed HL307_0.out) (by decide)) BK299.out (by decide))); (case side2 => repeat (first | exact (by repeat (first | (with_reducible exact HR307_0.out) | (with_reducible exact (Kd.R_reads' HL307_0.out).2.2) | (with_reducible refine Kd.C_alloc ?_ _) | (with_reducible refine Kd.C_drewN ?_ _) | (with_reducible refine Kd.C_drew ?_) | exact HR307_0.out)) | (with_reducible refine Kd.C_alloc ?_ _) | (with_reducible refine Kd.C_drewN ?_ _) | (with_reducible refine Kd.C_drew ?_))); (case side3 => exact HC307_0.out); rintro e w33 ⟨v310, v314, rfl, ho0, ho1, hb⟩; have n0_ := Aside0.mk (Kd.R_below (by (with_reducible repeat (first | apply Kd.R_alloc | apply Kd.R_drewN | apply Kd.R_drew)); exact HO_6.out) hb); have n1_ := Aside0.mk (Kd.S_below (by (with_reducible repeat (first | apply Kd.S_alloc | apply Kd.S_drewN | apply Kd.S_drew)); exact HO_8.out) hb); have n2_ := Aside0.mk (Kd.S_below (by (with_reducible repeat (first | apply Kd.S_alloc | apply Kd.S_drewN | apply Kd.S_drew)); exact HO_11.out) hb); have n3_ := Aside0.mk (Kd.R_below (by (with_reducible repeat (first | apply Kd.R_alloc | apply Kd.R_drewN | apply Kd.R_drew)); exact HL307_0.out) hb); have n4_ := Aside0.mk (Kd.V_lower (Kd.V_mono (ok' := fun k_ => some k_ ≠ (.slice (some ad307) t294.length co32 : Value).ownBlock ∧ some k_ ≠ (v305 : Value).ownBlock ∧ k_ ≠ gb299) ho0 (fun k_ hk_ => ⟨Or.elim hk_ (fun hs_ => hs_.1.1.1.2) (fun hn_ => (Kd.fresh' (Kd.S_lt (by (with_reducible repeat (first | apply Kd.S_alloc | apply Kd.S_drewN | apply Kd.S_drew)); exact HO_8.out)) k_ hn_)), Or.elim hk_ (fun hs_ => hs_.1.1.2) (fun hn_ => (Kd.fresh' (Kd.S_lt (by (with_reducible repeat (first | apply Kd.S_alloc | apply Kd.S_drewN | apply Kd.S_drew)); exact HO_11.out)) k_ hn_)), Or.elim hk_ (fun hs_ => hs_.2) (fun hn_ => (Kd.freshB (g := gb299) (o := .cells #[.string ((rd_T61 t285 (ji6)).f0), .string ((rd_T61 t285 (ji6)).f1), .bool true] 61 (0, 0)) (by (with_reducible repeat (first | refine blk_drewN ?_ _ | refine blk_drew ?_ | refine blk_alloc ?_ _)); exact BK299.out) k_ hn_))⟩)) (below_size (by repeat (first | (with_reducible first | exact HB.out | apply below_alloc | apply pw_below_drewN | apply below_drew1 | refine below_set ?_ GE299.out) | exact HB.out)))); have n5_ := Aside0.mk (Kd.V_lower (Kd.V_mono (ok' := fun k_ => some k_ ≠ (.slice (some ad307) t294.length co32 : Value).ownBlock ∧ some k_ ≠ (v305 : Value).ownBlock ∧ k_ ≠ gb299) ho1 (fun k_ hk_ => ⟨Or.elim hk_ (fun hs_ => hs_.1.1.1.2) (fun hn_ => (Kd.fresh' (Kd.S_lt (by (with_reducible repeat (first | apply Kd.S_alloc | apply Kd.S_drewN | apply Kd.S_drew)); exact HO_8.out)) k_ hn_)), Or.elim hk_ (fun hs_ => hs_.1.1.2) (fun hn_ => (Kd.fresh' (Kd.S_lt (by (with_reducible repeat (first | apply Kd.S_alloc | apply Kd.S_drewN | apply Kd.S_drew)); exact HO_11.out)) k_ hn_)), Or.elim hk_ (fun hs_ => hs_.2) (fun hn_ => (Kd.freshB (g := gb299) (o := .cells #[.string ((rd_T61 t285 (ji6)).f0), .string ((rd_T61 t285 (ji6)).f1), .bool true] 61 (0, 0)) (by (with_reducible repeat (first | refine blk_drewN ?_ _ | refine blk_drew ?_ | refine blk_alloc ?_ _)); exact BK299.out) k_ hn_))⟩)) (below_size (by repeat (first | (with_reducible first | exact HB.out | apply below_alloc | apply pw_below_drewN | apply below_drew1 | refine below_set ?_ GE299.out) | exact HB.out)))); have n6_ := Aside0.mk (blk_below (g := gb299) (o := .cells #[.string ((rd_T61 t285 (ji6)).f0), .string ((rd_T61 t285 (ji6)).f1), .bool true] 61 (0, 0)) (by (with_reducible repeat (first | refine blk_drewN ?_ _ | refine blk_drew ?_ | refine blk_alloc ?_ _)); exact BK299.out) hb); (first | have n7_ := Aside0.mk (Kd.C_below (Kd.C_drewN HR307_0.out _) hb) | have n7_ := Aside0.mk (Kd.C_below HR307_0.out hb) | have n7_ := Aside0.mk (Kd.C_below (by repeat (first | (with_reducible exact HR307_0.out) | (with_reducible exact (Kd.R_reads' HL307_0.out).2.2) | (with_reducible refine Kd.C_alloc ?_ _) | (with_reducible refine Kd.C_drewN ?_ _) | (with_reducible refine Kd.C_drew ?_) | exact HR307_0.out)) hb)); have n8_ := Aside0.mk (below_step (by repeat (first | (with_reducible first | exact HB.out | apply below_alloc | apply pw_below_drewN | apply below_drew1 | refine below_set ?_ GE299.out) | exact HB.out)) hb); clear HO_6; clear HO_8; clear HO_11; clear HL307_0; clear BK299; clear HR307_0; clear HB; have HO_6 := n0_; have HO_8 := n1_; have HO_11 := n2_; have HL307_0 := n3_; have HO311 := n4_; have HO315 := n5_; have BK299 := n6_; have HR307_0 := n7_; have HB := n8_; clear n0_ n1_ n2_ n3_ n4_ n5_ n6_ n7_ n8_; (try clear hb); (try clear hb2); (try clear hk); (try clear hi); (try clear ho0); (try clear ho1))))
          (try simp only [Act.put, List.setIfInBounds_toArray, List.set_cons_zero, List.set_cons_succ])
          go_cut [91] (fun v91 wc => ∃ (kq : Nat) (x91_30 : Bool), v91 = .bool x91_30 ∧ Aside0 (bobbinetkeep_PickLast.j2 kq t288 t294 t303 x13_2 x91_30 ((rd_T61 t285 (ji6)).f0) ((rd_T61 t285 (ji6)).f1) true = some r) ∧ Aside0 (kq ≤ k2) ∧ Aside0 (Kd.R k28 28 wc w.heap.size (fun k_ => k_ ≠ gb317) (.slice Ao14 t288.length co14) t288) ∧ Aside0 (Kd.S (Kd.slice 3 (Kd.int .i64)) 22 wc w.heap.size (fun k_ => some k_ ≠ (v305 : Value).ownBlock) (.slice (some ad307) t294.length co32) t294) ∧ Aside0 (Kd.S (Kd.slice 3 (Kd.int .i64)) 22 wc w.heap.size (fun k_ => some k_ ≠ ((.slice (some ad307) t294.length co32) : Value).ownBlock) v305 t303) ∧ Aside0 (Kd.V k68 68 wc w.heap.size (fun k_ => some k_ ≠ ((.slice (some ad307) t294.length co32) : Value).ownBlock ∧ some k_ ≠ (v305 : Value).ownBlock ∧ k_ ≠ gb299 ∧ k_ ≠ gb317) (.slice Ao37 t309.length co37) t309) ∧ Aside0 (Kd.V k28 28 wc w.heap.size (fun k_ => some k_ ≠ ((.slice (some ad307) t294.length co32) : Value).ownBlock ∧ some k_ ≠ (v305 : Value).ownBlock ∧ k_ ≠ gb299 ∧ k_ ≠ gb317) (.slice Ao38 t313.length co38) t313) ∧ Aside0 (wc.heap[gb299]? = some (.cells #[.string ((rd_T61 t285 (ji6)).f0), .string ((rd_T61 t285 (ji6)).f1), .bool true] 61 (0, 0))) ∧ Aside0 (wc.heap[gb317]? = some (.cells #[.string t308, (.slice Ao37 t309.length co37), .string t312, (.slice Ao38 t313.length co38)] 28 (0, 0))) ∧ Aside0 (Kd.C (Kd.int .i64) wc A307_0 (rd_L7 t294 x13_2).length (rd_L7 t294 x13_2)) ∧ Aside0 (Below w.heap.size w wc))
          case first =>
           have H := HC31.out
           clear HC31
           by_cases c40 : t316 = true
           ·
            subst c40
            have H1 : (if t308.toList = ([] : List UInt8) then (bobbinetkeep_PickLast.j2 k2 t288 t294 t303 x13_2 true ((rd_T61 t285 (ji6)).f0) ((rd_T61 t285 (ji6)).f1) true) else (if ((rd_T61 t285 (ji6)).f0).toList = ([] : List UInt8) then ((bobbinetkeep_hasPath.f k2 t303 (rd_L7 t294 x13_2)).bind fun t319 => (bobbinetkeep_PickLast.j2 k2 t288 t294 t303 x13_2 (!t319) ((rd_T61 t285 (ji6)).f0) ((rd_T61 t285 (ji6)).f1) true)) else (if t308.toList = ((rd_T61 t285 (ji6)).f0).toList then ((bobbinetkeep_hasPath.f k2 t303 (rd_L7 t294 x13_2)).bind fun t321 => (bobbinetkeep_PickLast.j2 k2 t288 t294 t303 x13_2 (!t321) ((rd_T61 t285 (ji6)).f0) ((rd_T61 t285 (ji6)).f1) true)) else (bobbinetkeep_PickLast.j2 k2 t288 t294 t303 x13_2 true ((rd_T61 t285 (ji6)).f0) ((rd_T61 t285 (ji6)).f1) true)))) = some r := by rw [if_pos rfl] at H; exact H
            clear H
            have H := H1
            clear H1
            by_cases c41 : t308.toList = ([] : List UInt8)
            ·
             rw [if_pos c41] at H
             have c41b0 : (t308.toList == ([] : List UInt8)) = true := beq_iff_eq.mpr c41
             have c41b1 : (t308.toList != ([] : List UInt8)) = false := bne_eq_false_iff_eq.mpr c41
             clear c41
             (first | rw [c41b0] | (simp only [i64_w, i32_w]; rw [c41b0]) | rw [c41b1] | skip)
             have H' := Aside0.mk H
             clear H
             have hnb42 := NB317_299.out
             have hnc42 := NB299_317.out
             have hcz43_0 : w39.cell? ⟨gb317, 0, none⟩ = some (.string t308) := (blk_cell BK317.out 0).trans rfl
             have hcz43_1 : w39.cell? ⟨gb317, 1, none⟩ = some (.slice Ao37 t309.length co37) := (blk_cell BK317.out 1).trans rfl
             have hcz43_2 : w39.cell? ⟨gb317, 2, none⟩ = some (.string t312) := (blk_cell BK317.out 2).trans rfl
             have hcz43_3 : w39.cell? ⟨gb317, 3, none⟩ = some (.slice Ao38 t313.length co38) := (blk_cell BK317.out 3).trans rfl
             have hfz43_0 := blk_frozen BK317.out 0
             have hfz43_1 := blk_frozen BK317.out 1
             have hfz43_2 := blk_frozen BK317.out 2
             have hfz43_3 := blk_frozen BK317.out 3
             go_wp2
             repeat (go_quiet (fail); try go_wp2)
             go_meet
             case rel => exact ⟨_, (true), (by first | rfl | (simp; done) | (simp [*]; done) | (simp [bne]; done)), H', ⟨by have := HJ9.out; have := HK2.out; first | omega | exact Nat.le_refl _⟩, ⟨by (with_reducible repeat (first | apply Kd.R_alloc | apply Kd.R_drewN | apply Kd.R_drew)); exact HO_6.out⟩, ⟨by (with_reducible repeat (first | apply Kd.S_alloc | apply Kd.S_drewN | apply Kd.S_drew)); exact HO_8.out⟩, ⟨by (with_reducible repeat (first | apply Kd.S_alloc | apply Kd.S_drewN | apply Kd.S_drew)); exact HO_11.out⟩, ⟨by (with_reducible repeat (first | apply Kd.V_alloc | apply Kd.V_drewN | apply Kd.V_drew)); exact HO311.out⟩, ⟨by (with_reducible repeat (first | apply Kd.V_alloc | apply Kd.V_drewN | apply Kd.V_drew)); exact HO315.out⟩, ⟨by (with_reducible repeat (first | refine blk_drewN ?_ _ | refine blk_drew ?_ | refine blk_alloc ?_ _)); exact BK299.out⟩, ⟨by (with_reducible repeat (first | refine blk_drewN ?_ _ | refine blk_drew ?_ | refine blk_alloc ?_ _)); exact BK317.out⟩, ⟨by repeat (first | (with_reducible exact HR307_0.out) | (with_reducible exact (Kd.R_reads' HL307_0.out).2.2) | (with_reducible refine Kd.C_alloc ?_ _) | (with_reducible refine Kd.C_drewN ?_ _) | (with_reducible refine Kd.C_drew ?_) | exact HR307_0.out)⟩, ⟨by repeat (first | (with_reducible first | exact HB.out | apply below_alloc | apply pw_below_drewN | apply below_drew1 | refine below_set ?_ GE299.out | refine below_set ?_ GE317.out) | exact HB.out)⟩⟩
            ·
             rw [if_neg c41] at H
             have c41b0 : (t308.toList == ([] : List UInt8)) = false := beq_eq_false_iff_ne.mpr c41
             have c41b1 : (t308.toList != ([] : List UInt8)) = true := bne_iff_ne.mpr c41
             (first | rw [c41b0] | (simp only [i64_w, i32_w]; rw [c41b0]) | rw [c41b1] | skip)
             by_cases c44 : ((rd_T61 t285 (ji6)).f0).toList = ([] : List UInt8)
             ·
              rw [if_pos c44] at H
              have c44b0 : (((rd_T61 t285 (ji6)).f0).toList == ([] : List UInt8)) = true := beq_iff_eq.mpr c44
              have c44b1 : (((rd_T61 t285 (ji6)).f0).toList != ([] : List UInt8)) = false := bne_eq_false_iff_eq.mpr c44
              clear c44
              replace H := Option.bind_eq_some_iff.mp H
              obtain ⟨t319, A450, H⟩ := H
              replace H : (bobbinetkeep_PickLast.j2 k2 t288 t294 t303 x13_2 (!t319) ((rd_T61 t285 (ji6)).f0) ((rd_T61 t285 (ji6)).f1) true) = some r := H
              have A45 := Aside0.mk A450
              clear A450
              have H' := Aside0.mk H
              clear H
              have hnb46 := NB317_299.out
              have hnc46 := NB299_317.out
              have hcz47_0 : w39.cell? ⟨gb317, 0, none⟩ = some (.string t308) := (blk_cell BK317.out 0).trans rfl
              have hcz47_1 : w39.cell? ⟨gb317, 1, none⟩ = some (.slice Ao37 t309.length co37) := (blk_cell BK317.out 1).trans rfl
              have hcz47_2 : w39.cell? ⟨gb317, 2, none⟩ = some (.string t312) := (blk_cell BK317.out 2).trans rfl
              have hcz47_3 : w39.cell? ⟨gb317, 3, none⟩ = some (.slice Ao38 t313.length co38) := (blk_cell BK317.out 3).trans rfl
              have hfz47_0 := blk_frozen BK317.out 0
              have hfz47_1 := blk_frozen BK317.out 1
              have hfz47_2 := blk_frozen BK317.out 2
              have hfz47_3 := blk_frozen BK317.out 3
              have hcz48_0 : w39.cell? ⟨gb299, 0, none⟩ = some (.string ((rd_T61 t285 (ji6)).f0)) := (blk_cell BK299.out 0).trans rfl
              have hcz48_1 : w39.cell? ⟨gb299, 1, none⟩ = some (.string ((rd_T61 t285 (ji6)).f1)) := (blk_cell BK299.out 1).trans rfl
              have hcz48_2 : w39.cell? ⟨gb299, 2, none⟩ = some (.bool true) := (blk_cell BK299.out 2).trans rfl
              have hfz48_0 := blk_frozen BK299.out 0
              have hfz48_1 := blk_frozen BK299.out 1
              have hfz48_2 := blk_frozen BK299.out 2
              have p318 : 0 ≤ (x13_2 : Int) := of_decide_eq_true (by first | (with_reducible assumption) | assumption)
              have q318 : x13_2 < (t294.length : Int) := of_decide_eq_true (by first | (with_reducible assumption) | assumption)
              obtain ⟨ad318, A318_0, c318_0, e318, hx318_0, hl318_0, hi318_0⟩ := at_L7 (Kd.S_reads' HO_8.out).2.2 x13_2 p318 q318
              obtain rfl : ad307 = ad318 := (by injection e318)
              obtain ⟨ce318, hce318, hMe318, hcc318⟩ := Kd.S_get HO_8.out [] x13_2 p318 (by first | exact q318 | exact of_decide_eq_true (by first | (with_reducible assumption) | assumption) | (have e_ := (Kd.S_reads' HO_8.out).1; omega))
              obtain ⟨ve318_0, rfl, ge318_0⟩ := hMe318
              have hv318_0 := hcc318 0 _ rfl
              rw [Nat.add_zero, show ((Kd.slice 3 (Kd.int .i64))).sz = 1 from rfl, Nat.mul_one] at hv318_0
              replace hv318_0 := Option.some.inj (hv318_0.symm.trans hx318_0)
              rw [hv318_0] at ge318_0
              have HL318_0 := Aside0.mk (show Kd.R (Kd.int .i64) 3 _ _ _ _ (rd_L7 t294 x13_2) from ge318_0)
              clear hv318_0 ge318_0
              clear hcc318 hce318
              have HR318_0 := Aside0.mk hi318_0
              have HC318_0 := Aside0.mk hl318_0
              clear hi318_0 hl318_0
              replace p318 := eq_true p318
              replace q318 := eq_true q318
              obtain ⟨Ao49, co49, eo49⟩ := Kd.S_slice HO_11.out
              subst eo49
              go_wp2_with (first | (go_at_call 28; (with_reducible refine (bobbinetkeep_hasPath.calls k2 _ _ t303 _ _ (rd_L7 t294 x13_2) t319 _ ?side1 ?side2 ?side3 ?side4 A45.out).mono ?_); (case side1 => repeat (first | exact (Kd.S_reads' HO_11.out).2.2 | (with_reducible refine Kd.C_alloc ?_ _) | (with_reducible refine Kd.C_drewN ?_ _) | (with_reducible refine Kd.C_drew ?_))); (case side2 => exact (Kd.S_reads' HO_11.out).2.1); (case side3 => repeat (first | exact (by repeat (first | (with_reducible exact HR318_0.out) | (with_reducible exact (Kd.R_reads' HL318_0.out).2.2) | (with_reducible refine Kd.C_alloc ?_ _) | (with_reducible refine Kd.C_drewN ?_ _) | (with_reducible refine Kd.C_drew ?_) | exact HR318_0.out)) | (with_reducible refine Kd.C_alloc ?_ _) | (with_reducible refine Kd.C_drewN ?_ _) | (with_reducible refine Kd.C_drew ?_))); (case side4 => exact HC318_0.out); rintro e w' ⟨rfl, ⟨nd, rfl⟩⟩; (try first | exact ⟨rfl, _, World.drewN_drewN _ _ _⟩ | exact ⟨rfl, _, Eq.trans (World.drewN_drewN _ _ _) (congrArg (World.drewN _) (Nat.add_assoc _ _ _))⟩)))
              repeat (go_quiet (first | (go_at_call 28; (with_reducible refine (bobbinetkeep_hasPath.calls k2 _ _ t303 _ _ (rd_L7 t294 x13_2) t319 _ ?side1 ?side2 ?side3 ?side4 A45.out).mono ?_); (case side1 => repeat (first | exact (Kd.S_reads' HO_11.out).2.2 | (with_reducible refine Kd.C_alloc ?_ _) | (with_reducible refine Kd.C_drewN ?_ _) | (with_reducible refine Kd.C_drew ?_))); (case side2 => exact (Kd.S_reads' HO_11.out).2.1); (case side3 => repeat (first | exact (by repeat (first | (with_reducible exact HR318_0.out) | (with_reducible exact (Kd.R_reads' HL318_0.out).2.2) | (with_reducible refine Kd.C_alloc ?_ _) | (with_reducible refine Kd.C_drewN ?_ _) | (with_reducible refine Kd.C_drew ?_) | exact HR318_0.out)) | (with_reducible refine Kd.C_alloc ?_ _) | (with_reducible refine Kd.C_drewN ?_ _) | (with_reducible refine Kd.C_drew ?_))); (case side4 => exact HC318_0.out); rintro e w' ⟨rfl, ⟨nd, rfl⟩⟩; (try first | exact ⟨rfl, _, World.drewN_drewN _ _ _⟩ | exact ⟨rfl, _, Eq.trans (World.drewN_drewN _ _ _) (congrArg (World.drewN _) (Nat.add_assoc _ _ _))⟩))); try go_wp2_with (first | (go_at_call 28; (with_reducible refine (bobbinetkeep_hasPath.calls k2 _ _ t303 _ _ (rd_L7 t294 x13_2) t319 _ ?side1 ?side2 ?side3 ?side4 A45.out).mono ?_); (case side1 => repeat (first | exact (Kd.S_reads' HO_11.out).2.2 | (with_reducible refine Kd.C_alloc ?_ _) | (with_reducible refine Kd.C_drewN ?_ _) | (with_reducible refine Kd.C_drew ?_))); (case side2 => exact (Kd.S_reads' HO_11.out).2.1); (case side3 => repeat (first | exact (by repeat (first | (with_reducible exact HR318_0.out) | (with_reducible exact (Kd.R_reads' HL318_0.out).2.2) | (with_reducible refine Kd.C_alloc ?_ _) | (with_reducible refine Kd.C_drewN ?_ _) | (with_reducible refine Kd.C_drew ?_) | exact HR318_0.out)) | (with_reducible refine Kd.C_alloc ?_ _) | (with_reducible refine Kd.C_drewN ?_ _) | (with_reducible refine Kd.C_drew ?_))); (case side4 => exact HC318_0.out); rintro e w' ⟨rfl, ⟨nd, rfl⟩⟩; (try first | exact ⟨rfl, _, World.drewN_drewN _ _ _⟩ | exact ⟨rfl, _, Eq.trans (World.drewN_drewN _ _ _) (congrArg (World.drewN _) (Nat.add_assoc _ _ _))⟩))))
              go_meet
              case rel => exact ⟨_, (!t319), (by first | rfl | (simp; done) | (simp [*]; done) | (simp [bne]; done)), H', ⟨by have := HJ9.out; have := HK2.out; first | omega | exact Nat.le_refl _⟩, ⟨by (with_reducible repeat (first | apply Kd.R_alloc | apply Kd.R_drewN | apply Kd.R_drew)); exact HO_6.out⟩, ⟨by (with_reducible repeat (first | apply Kd.S_alloc | apply Kd.S_drewN | apply Kd.S_drew)); exact HO_8.out⟩, ⟨by (with_reducible repeat (first | apply Kd.S_alloc | apply Kd.S_drewN | apply Kd.S_drew)); exact HO_11.out⟩, ⟨by (with_reducible repeat (first | apply Kd.V_alloc | apply Kd.V_drewN | apply Kd.V_drew)); exact HO311.out⟩, ⟨by (with_reducible repeat (first | apply Kd.V_alloc | apply Kd.V_drewN | apply Kd.V_drew)); exact HO315.out⟩, ⟨by (with_reducible repeat (first | refine blk_drewN ?_ _ | refine blk_drew ?_ | refine blk_alloc ?_ _)); exact BK299.out⟩, ⟨by (with_reducible repeat (first | refine blk_drewN ?_ _ | refine blk_drew ?_ | refine blk_alloc ?_ _)); exact BK317.out⟩, ⟨by repeat (first | (with_reducible exact HR307_0.out) | (with_reducible exact (Kd.R_reads' HL307_0.out).2.2) | (with_reducible refine Kd.C_alloc ?_ _) | (with_reducible refine Kd.C_drewN ?_ _) | (with_reducible refine Kd.C_drew ?_) | exact HR307_0.out)⟩, ⟨by repeat (first | (with_reducible first | exact HB.out | apply below_alloc | apply pw_below_drewN | apply below_drew1 | refine below_set ?_ GE299.out | refine below_set ?_ GE317.out) | exact HB.out)⟩⟩
             ·
              rw [if_neg c44] at H
              have c44b0 : (((rd_T61 t285 (ji6)).f0).toList == ([] : List UInt8)) = false := beq_eq_false_iff_ne.mpr c44
              have c44b1 : (((rd_T61 t285 (ji6)).f0).toList != ([] : List UInt8)) = true := bne_iff_ne.mpr c44
              by_cases c50 : t308.toList = ((rd_T61 t285 (ji6)).f0).toList
              ·
               rw [if_pos c50] at H
               have c50b0 : (t308.toList == ((rd_T61 t285 (ji6)).f0).toList) = true := beq_iff_eq.mpr c50
               have c50b1 : (t308.toList != ((rd_T61 t285 (ji6)).f0).toList) = false := bne_eq_false_iff_eq.mpr c50
               clear c50
               replace H := Option.bind_eq_some_iff.mp H
               obtain ⟨t321, A510, H⟩ := H
               replace H : (bobbinetkeep_PickLast.j2 k2 t288 t294 t303 x13_2 (!t321) ((rd_T61 t285 (ji6)).f0) ((rd_T61 t285 (ji6)).f1) true) = some r := H
               have A51 := Aside0.mk A510
               clear A510
               have H' := Aside0.mk H
               clear H
               have hnb52 := NB317_299.out
               have hnc52 := NB299_317.out
               have hcz53_0 : w39.cell? ⟨gb317, 0, none⟩ = some (.string t308) := (blk_cell BK317.out 0).trans rfl
               have hcz53_1 : w39.cell? ⟨gb317, 1, none⟩ = some (.slice Ao37 t309.length co37) := (blk_cell BK317.out 1).trans rfl
               have hcz53_2 : w39.cell? ⟨gb317, 2, none⟩ = some (.string t312) := (blk_cell BK317.out 2).trans rfl
               have hcz53_3 : w39.cell? ⟨gb317, 3, none⟩ = some (.slice Ao38 t313.length co38) := (blk_cell BK317.out 3).trans rfl
               have hfz53_0 := blk_frozen BK317.out 0
               have hfz53_1 := blk_frozen BK317.out 1
               have hfz53_2 := blk_frozen BK317.out 2
               have hfz53_3 := blk_frozen BK317.out 3
               have hcz54_0 : w39.cell? ⟨gb299, 0, none⟩ = some (.string ((rd_T61 t285 (ji6)).f0)) := (blk_cell BK299.out 0).trans rfl
               have hcz54_1 : w39.cell? ⟨gb299, 1, none⟩ = some (.string ((rd_T61 t285 (ji6)).f1)) := (blk_cell BK299.out 1).trans rfl
               have hcz54_2 : w39.cell? ⟨gb299, 2, none⟩ = some (.bool true) := (blk_cell BK299.out 2).trans rfl
               have hfz54_0 := blk_frozen BK299.out 0
               have hfz54_1 := blk_frozen BK299.out 1
               have hfz54_2 := blk_frozen BK299.out 2
               have p320 : 0 ≤ (x13_2 : Int) := of_decide_eq_true (by first | (with_reducible assumption) | assumption)
               have q320 : x13_2 < (t294.length : Int) := of_decide_eq_true (by first | (with_reducible assumption) | assumption)
               obtain ⟨ad320, A320_0, c320_0, e320, hx320_0, hl320_0, hi320_0⟩ := at_L7 (Kd.S_reads' HO_8.out).2.2 x13_2 p320 q320
               obtain rfl : ad307 = ad320 := (by injection e320)
               obtain ⟨ce320, hce320, hMe320, hcc320⟩ := Kd.S_get HO_8.out [] x13_2 p320 (by first | exact q320 | exact of_decide_eq_true (by first | (with_reducible assumption) | assumption) | (have e_ := (Kd.S_reads' HO_8.out).1; omega))
               obtain ⟨ve320_0, rfl, ge320_0⟩ := hMe320
               have hv320_0 := hcc320 0 _ rfl
               rw [Nat.add_zero, show ((Kd.slice 3 (Kd.int .i64))).sz = 1 from rfl, Nat.mul_one] at hv320_0
               replace hv320_0 := Option.some.inj (hv320_0.symm.trans hx320_0)
               rw [hv320_0] at ge320_0
               have HL320_0 := Aside0.mk (show Kd.R (Kd.int .i64) 3 _ _ _ _ (rd_L7 t294 x13_2) from ge320_0)
               clear hv320_0 ge320_0
               clear hcc320 hce320
               have HR320_0 := Aside0.mk hi320_0
               have HC320_0 := Aside0.mk hl320_0
               clear hi320_0 hl320_0
               replace p320 := eq_true p320
               replace q320 := eq_true q320
               obtain ⟨Ao55, co55, eo55⟩ := Kd.S_slice HO_11.out
               subst eo55
               go_wp2_with (first | (go_at_call 28; (with_reducible refine (bobbinetkeep_hasPath.calls k2 _ _ t303 _ _ (rd_L7 t294 x13_2) t321 _ ?side1 ?side2 ?side3 ?side4 A51.out).mono ?_); (case side1 => repeat (first | exact (Kd.S_reads' HO_11.out).2.2 | (with_reducible refine Kd.C_alloc ?_ _) | (with_reducible refine Kd.C_drewN ?_ _) | (with_reducible refine Kd.C_drew ?_))); (case side2 => exact (Kd.S_reads' HO_11.out).2.1); (case side3 => repeat (first | exact (by repeat (first | (with_reducible exact HR320_0.out) | (with_reducible exact (Kd.R_reads' HL320_0.out).2.2) | (with_reducible refine Kd.C_alloc ?_ _) | (with_reducible refine Kd.C_drewN ?_ _) | (with_reducible refine Kd.C_drew ?_) | exact HR320_0.out)) | (with_reducible refine Kd.C_alloc ?_ _) | (with_reducible refine Kd.C_drewN ?_ _) | (with_reducible refine Kd.C_drew ?_))); (case side4 => exact HC320_0.out); rintro e w' ⟨rfl, ⟨nd, rfl⟩⟩; (try first | exact ⟨rfl, _, World.drewN_drewN _ _ _⟩ | exact ⟨rfl, _, Eq.trans (World.drewN_drewN _ _ _) (congrArg (World.drewN _) (Nat.add_assoc _ _ _))⟩)))
               repeat (go_quiet (first | (go_at_call 28; (with_reducible refine (bobbinetkeep_hasPath.calls k2 _ _ t303 _ _ (rd_L7 t294 x13_2) t321 _ ?side1 ?side2 ?side3 ?side4 A51.out).mono ?_); (case side1 => repeat (first | exact (Kd.S_reads' HO_11.out).2.2 | (with_reducible refine Kd.C_alloc ?_ _) | (with_reducible refine Kd.C_drewN ?_ _) | (with_reducible refine Kd.C_drew ?_))); (case side2 => exact (Kd.S_reads' HO_11.out).2.1); (case side3 => repeat (first | exact (by repeat (first | (with_reducible exact HR320_0.out) | (with_reducible exact (Kd.R_reads' HL320_0.out).2.2) | (with_reducible refine Kd.C_alloc ?_ _) | (with_reducible refine Kd.C_drewN ?_ _) | (with_reducible refine Kd.C_drew ?_) | exact HR320_0.out)) | (with_reducible refine Kd.C_alloc ?_ _) | (with_reducible refine Kd.C_drewN ?_ _) | (with_reducible refine Kd.C_drew ?_))); (case side4 => exact HC320_0.out); rintro e w' ⟨rfl, ⟨nd, rfl⟩⟩; (try first | exact ⟨rfl, _, World.drewN_drewN _ _ _⟩ | exact ⟨rfl, _, Eq.trans (World.drewN_drewN _ _ _) (congrArg (World.drewN _) (Nat.add_assoc _ _ _))⟩))); try go_wp2_with (first | (go_at_call 28; (with_reducible refine (bobbinetkeep_hasPath.calls k2 _ _ t303 _ _ (rd_L7 t294 x13_2) t321 _ ?side1 ?side2 ?side3 ?side4 A51.out).mono ?_); (case side1 => repeat (first | exact (Kd.S_reads' HO_11.out).2.2 | (with_reducible refine Kd.C_alloc ?_ _) | (with_reducible refine Kd.C_drewN ?_ _) | (with_reducible refine Kd.C_drew ?_))); (case side2 => exact (Kd.S_reads' HO_11.out).2.1); (case side3 => repeat (first | exact (by repeat (first | (with_reducible exact HR320_0.out) | (with_reducible exact (Kd.R_reads' HL320_0.out).2.2) | (with_reducible refine Kd.C_alloc ?_ _) | (with_reducible refine Kd.C_drewN ?_ _) | (with_reducible refine Kd.C_drew ?_) | exact HR320_0.out)) | (with_reducible refine Kd.C_alloc ?_ _) | (with_reducible refine Kd.C_drewN ?_ _) | (with_reducible refine Kd.C_drew ?_))); (case side4 => exact HC320_0.out); rintro e w' ⟨rfl, ⟨nd, rfl⟩⟩; (try first | exact ⟨rfl, _, World.drewN_drewN _ _ _⟩ | exact ⟨rfl, _, Eq.trans (World.drewN_drewN _ _ _) (congrArg (World.drewN _) (Nat.add_assoc _ _ _))⟩))))
               go_meet
               case rel => exact ⟨_, (!t321), (by first | rfl | (simp; done) | (simp [*]; done) | (simp [bne]; done)), H', ⟨by have := HJ9.out; have := HK2.out; first | omega | exact Nat.le_refl _⟩, ⟨by (with_reducible repeat (first | apply Kd.R_alloc | apply Kd.R_drewN | apply Kd.R_drew)); exact HO_6.out⟩, ⟨by (with_reducible repeat (first | apply Kd.S_alloc | apply Kd.S_drewN | apply Kd.S_drew)); exact HO_8.out⟩, ⟨by (with_reducible repeat (first | apply Kd.S_alloc | apply Kd.S_drewN | apply Kd.S_drew)); exact HO_11.out⟩, ⟨by (with_reducible repeat (first | apply Kd.V_alloc | apply Kd.V_drewN | apply Kd.V_drew)); exact HO311.out⟩, ⟨by (with_reducible repeat (first | apply Kd.V_alloc | apply Kd.V_drewN | apply Kd.V_drew)); exact HO315.out⟩, ⟨by (with_reducible repeat (first | refine blk_drewN ?_ _ | refine blk_drew ?_ | refine blk_alloc ?_ _)); exact BK299.out⟩, ⟨by (with_reducible repeat (first | refine blk_drewN ?_ _ | refine blk_drew ?_ | refine blk_alloc ?_ _)); exact BK317.out⟩, ⟨by repeat (first | (with_reducible exact HR307_0.out) | (with_reducible exact (Kd.R_reads' HL307_0.out).2.2) | (with_reducible refine Kd.C_alloc ?_ _) | (with_reducible refine Kd.C_drewN ?_ _) | (with_reducible refine Kd.C_drew ?_) | exact HR307_0.out)⟩, ⟨by repeat (first | (with_reducible first | exact HB.out | apply below_alloc | apply pw_below_drewN | apply below_drew1 | refine below_set ?_ GE299.out | refine below_set ?_ GE317.out) | exact HB.out)⟩⟩
              ·
               rw [if_neg c50] at H
               have c50b0 : (t308.toList == ((rd_T61 t285 (ji6)).f0).toList) = false := beq_eq_false_iff_ne.mpr c50
               have c50b1 : (t308.toList != ((rd_T61 t285 (ji6)).f0).toList) = true := bne_iff_ne.mpr c50
               have H' := Aside0.mk H
               clear H
               have hnb56 := NB317_299.out
               have hnc56 := NB299_317.out
               have hcz57_0 : w39.cell? ⟨gb317, 0, none⟩ = some (.string t308) := (blk_cell BK317.out 0).trans rfl
               have hcz57_1 : w39.cell? ⟨gb317, 1, none⟩ = some (.slice Ao37 t309.length co37) := (blk_cell BK317.out 1).trans rfl
               have hcz57_2 : w39.cell? ⟨gb317, 2, none⟩ = some (.string t312) := (blk_cell BK317.out 2).trans rfl
               have hcz57_3 : w39.cell? ⟨gb317, 3, none⟩ = some (.slice Ao38 t313.length co38) := (blk_cell BK317.out 3).trans rfl
               have hfz57_0 := blk_frozen BK317.out 0
               have hfz57_1 := blk_frozen BK317.out 1
               have hfz57_2 := blk_frozen BK317.out 2
               have hfz57_3 := blk_frozen BK317.out 3
               have hcz58_0 : w39.cell? ⟨gb299, 0, none⟩ = some (.string ((rd_T61 t285 (ji6)).f0)) := (blk_cell BK299.out 0).trans rfl
               have hcz58_1 : w39.cell? ⟨gb299, 1, none⟩ = some (.string ((rd_T61 t285 (ji6)).f1)) := (blk_cell BK299.out 1).trans rfl
               have hcz58_2 : w39.cell? ⟨gb299, 2, none⟩ = some (.bool true) := (blk_cell BK299.out 2).trans rfl
               have hfz58_0 := blk_frozen BK299.out 0
               have hfz58_1 := blk_frozen BK299.out 1
               have hfz58_2 := blk_frozen BK299.out 2
               go_wp2
               repeat (go_quiet (fail); try go_wp2)
               go_meet
               case rel => exact ⟨_, (true), (by first | rfl | (simp; done) | (simp [*]; done) | (simp [bne]; done)), H', ⟨by have := HJ9.out; have := HK2.out; first | omega | exact Nat.le_refl _⟩, ⟨by (with_reducible repeat (first | apply Kd.R_alloc | apply Kd.R_drewN | apply Kd.R_drew)); exact HO_6.out⟩, ⟨by (with_reducible repeat (first | apply Kd.S_alloc | apply Kd.S_drewN | apply Kd.S_drew)); exact HO_8.out⟩, ⟨by (with_reducible repeat (first | apply Kd.S_alloc | apply Kd.S_drewN | apply Kd.S_drew)); exact HO_11.out⟩, ⟨by (with_reducible repeat (first | apply Kd.V_alloc | apply Kd.V_drewN | apply Kd.V_drew)); exact HO311.out⟩, ⟨by (with_reducible repeat (first | apply Kd.V_alloc | apply Kd.V_drewN | apply Kd.V_drew)); exact HO315.out⟩, ⟨by (with_reducible repeat (first | refine blk_drewN ?_ _ | refine blk_drew ?_ | refine blk_alloc ?_ _)); exact BK299.out⟩, ⟨by (with_reducible repeat (first | refine blk_drewN ?_ _ | refine blk_drew ?_ | refine blk_alloc ?_ _)); exact BK317.out⟩, ⟨by repeat (first | (with_reducible exact HR307_0.out) | (with_reducible exact (Kd.R_reads' HL307_0.out).2.2) | (with_reducible refine Kd.C_alloc ?_ _) | (with_reducible refine Kd.C_drewN ?_ _) | (with_reducible refine Kd.C_drew ?_) | exact HR307_0.out)⟩, ⟨by repeat (first | (with_reducible first | exact HB.out | apply below_alloc | apply pw_below_drewN | apply below_drew1 | refine below_set ?_ GE299.out | refine below_set ?_ GE317.out) | exact HB.out)⟩⟩
           ·
            replace c40 := Bool.eq_false_iff.mpr c40
            subst c40
            have H1 : (bobbinetkeep_PickLast.j2 k2 t288 t294 t303 x13_2 true ((rd_T61 t285 (ji6)).f0) ((rd_T61 t285 (ji6)).f1) true) = some r := by rw [if_neg (show ¬ (false = true) by decide)] at H; exact H
            clear H
            have H := H1
            clear H1
            have H' := Aside0.mk H
            clear H
            go_wp2
            repeat (go_quiet (fail); try go_wp2)
            go_meet
            case rel => exact ⟨_, (true), (by first | rfl | (simp; done) | (simp [*]; done) | (simp [bne]; done)), H', ⟨by have := HJ9.out; have := HK2.out; first | omega | exact Nat.le_refl _⟩, ⟨by (with_reducible repeat (first | apply Kd.R_alloc | apply Kd.R_drewN | apply Kd.R_drew)); exact HO_6.out⟩, ⟨by (with_reducible repeat (first | apply Kd.S_alloc | apply Kd.S_drewN | apply Kd.S_drew)); exact HO_8.out⟩, ⟨by (with_reducible repeat (first | apply Kd.S_alloc | apply Kd.S_drewN | apply Kd.S_drew)); exact HO_11.out⟩, ⟨by (with_reducible repeat (first | apply Kd.V_alloc | apply Kd.V_drewN | apply Kd.V_drew)); exact HO311.out⟩, ⟨by (with_reducible repeat (first | apply Kd.V_alloc | apply Kd.V_drewN | apply Kd.V_drew)); exact HO315.out⟩, ⟨by (with_reducible repeat (first | refine blk_drewN ?_ _ | refine blk_drew ?_ | refine blk_alloc ?_ _)); exact BK299.out⟩, ⟨by (with_reducible repeat (first | refine blk_drewN ?_ _ | refine blk_drew ?_ | refine blk_alloc ?_ _)); exact BK317.out⟩, ⟨by repeat (first | (with_reducible exact HR307_0.out) | (with_reducible exact (Kd.R_reads' HL307_0.out).2.2) | (with_reducible refine Kd.C_alloc ?_ _) | (with_reducible refine Kd.C_drewN ?_ _) | (with_reducible refine Kd.C_drew ?_) | exact HR307_0.out)⟩, ⟨by repeat (first | (with_reducible first | exact HB.out | apply below_alloc | apply pw_below_drewN | apply below_drew1 | refine below_set ?_ GE299.out | refine below_set ?_ GE317.out) | exact HB.out)⟩⟩
          case rest =>
           clear HC31
           try clear c1
           try clear c2
           try clear p2
           try clear q2
           try clear hx2
           try clear c3
           try clear p3
           try clear q3
           try clear hx3
           try clear c4
           try clear c5
           try clear p6
           try clear c7
           try clear c7b0
           try clear c8
           try clear c8b0
           try clear c26
           try clear c27
           try clear c28
           try clear c28b0
           try clear c29
           try clear c29b0
           try clear p29
           try clear q29
           try clear hx29
           try clear c30
           try clear p30
           try clear q30
           try clear hx30
           try clear c31
           try clear p31
           try clear q31
           try clear hx31
           try clear c32
           try clear p32
           try clear q32
           try clear hx32
           try clear c35
           try clear c40
           try clear c41
           try clear c41b0
           try clear c41b1
           try clear c42
           try clear c44
           try clear c44b0
           try clear c44b1
           try clear c46
           try clear c50
           try clear c50b0
           try clear c50b1
           try clear c52
           try clear c56
           try clear hcz17_0
           try clear hcz17_1
           try clear hcz17_2
           try clear hcz19_0
           try clear hcz19_1
           try clear hcz19_2
           try clear hcz21_0
           try clear hcz21_1
           try clear hcz21_2
           try clear hcz36_0
           try clear hcz36_1
           try clear hcz36_2
           try clear hcz36_3
           try clear hcz43_0
           try clear hcz43_1
           try clear hcz43_2
           try clear hcz43_3
           try clear hcz47_0
           try clear hcz47_1
           try clear hcz47_2
           try clear hcz47_3
           try clear hcz48_0
           try clear hcz48_1
           try clear hcz48_2
           try clear hcz53_0
           try clear hcz53_1
           try clear hcz53_2
           try clear hcz53_3
           try clear hcz54_0
           try clear hcz54_1
           try clear hcz54_2
           try clear hcz57_0
           try clear hcz57_1
           try clear hcz57_2
           try clear hcz57_3
           try clear hcz58_0
           try clear hcz58_1
           try clear hcz58_2
           try clear hfz17_0
           try clear hfz17_1
           try clear hfz17_2
           try clear hfz19_0
           try clear hfz19_1
           try clear hfz19_2
           try clear hfz21_0
           try clear hfz21_1
           try clear hfz21_2
           try clear hfz36_0
           try clear hfz36_1
           try clear hfz36_2
           try clear hfz36_3
           try clear hfz43_0
           try clear hfz43_1
           try clear hfz43_2
           try clear hfz43_3
           try clear hfz47_0
           try clear hfz47_1
           try clear hfz47_2
           try clear hfz47_3
           try clear hfz48_0
           try clear hfz48_1
           try clear hfz48_2
           try clear hfz53_0
           try clear hfz53_1
           try clear hfz53_2
           try clear hfz53_3
           try clear hfz54_0
           try clear hfz54_1
           try clear hfz54_2
           try clear hfz57_0
           try clear hfz57_1
           try clear hfz57_2
           try clear hfz57_3
           try clear hfz58_0
           try clear hfz58_1
           try clear hfz58_2
           try clear hx298_0
           try clear hx298_1
           try clear hx298_2
           try clear hx307_0
           try clear hx318_0
           try clear hx320_0
           try clear p2
           try clear p298
           try clear p307
           try clear p318
           try clear p320
           try clear p6
           try clear q2
           try clear q298
           try clear q307
           try clear q318
           try clear q320
           obtain ⟨kq, x91_30, rfl, HA, HJ30, HO_6, HO_8, HO_11, HO_318001, HO_318003, BK299, BK317, HR307_0, HB⟩ := hcut
           cases kq with
           | zero => exact absurd HA.out (by simp [bobbinetkeep_PickLast.j2])
           | succ kj30 =>
            have H := HA.out
            clear HA
            simp only [bobbinetkeep_PickLast.j2] at H
            by_cases c59 : x91_30 = true
            ·
             subst c59
             have H1 : (none) = some r := by rw [if_pos rfl] at H; exact H
             clear H
             have H := H1
             clear H1
             exact absurd H (by simp)
            ·
             replace c59 := Bool.eq_false_iff.mpr c59
             subst c59
             have H1 : (if x13_2 > 0 then (if 0 ≤ (wrap64 (x13_2 - 1)) then (if (wrap64 (x13_2 - 1)) < (t294.length : Int) then (if 0 ≤ x13_2 then (if x13_2 < (t294.length : Int) then ((bobbinetkeep_beforePath.f kj30 (rd_L7 t294 (wrap64 (x13_2 - 1))) (rd_L7 t294 x13_2)).bind fun t324 => (if t324 = true then (bobbinetkeep_PickLast.l0 kj30 t288 t294 t303 (wrap64 (x13_2 + 1)) ((rd_T61 t285 (ji6)).f0) ((rd_T61 t285 (ji6)).f1) true) else (none))) else (none)) else (none)) else (none)) else (none)) else (bobbinetkeep_PickLast.l0 kj30 t288 t294 t303 (wrap64 (x13_2 + 1)) ((rd_T61 t285 (ji6)).f0) ((rd_T61 t285 (ji6)).f1) true)) = some r := by rw [if_neg (show ¬ (false = true) by decide)] at H; exact H
             clear H
             have H := H1
             clear H1
             by_cases c60 : x13_2 > 0
             ·
              rw [if_pos c60] at H
              have c60b0 : decide (0 < x13_2) = true := decide_eq_true c60
              clear c60
              obtain ⟨ji61, hji61⟩ : ∃ j_ : Int, (wrap64 (x13_2 - 1)) = j_ := ⟨_, rfl⟩
              replace H : (if 0 ≤ (ji61) then (if (ji61) < (t294.length : Int) then (if 0 ≤ x13_2 then (if x13_2 < (t294.length : Int) then ((bobbinetkeep_beforePath.f kj30 (rd_L7 t294 (ji61)) (rd_L7 t294 x13_2)).bind fun t324 => (if t324 = true then (bobbinetkeep_PickLast.l0 kj30 t288 t294 t303 (wrap64 (x13_2 + 1)) ((rd_T61 t285 (ji6)).f0) ((rd_T61 t285 (ji6)).f1) true) else (none))) else (none)) else (none)) else (none)) else (none)) = some r := by first | (rw [hji61] at H; exact H) | (simp only [hji61] at H ⊢; exact H)
              have hji61w : (IntKind.i64.wrap (x13_2 - 1)) = ji61 := (i64_w _).trans hji61
              by_cases c62 : 0 ≤ (ji61)
              ·
               rw [if_pos c62] at H
               have c62b0 : decide (0 ≤ (ji61)) = true := decide_eq_true c62
               clear c62
               by_cases c63 : (ji61) < (t294.length : Int)
               ·
                rw [if_pos c63] at H
                have c63b0 : decide ((ji61) < (t294.length : Int)) = true := decide_eq_true c63
                clear c63
                by_cases c64 : 0 ≤ x13_2
                ·
                 rw [if_pos c64] at H
                 have c64b0 : decide (0 ≤ x13_2) = true := decide_eq_true c64
                 clear c64
                 by_cases c65 : x13_2 < (t294.length : Int)
                 ·
                  rw [if_pos c65] at H
                  have c65b0 : decide (x13_2 < (t294.length : Int)) = true := decide_eq_true c65
                  clear c65
                  replace H := Option.bind_eq_some_iff.mp H
                  obtain ⟨t324, A660, H⟩ := H
                  replace H : (if t324 = true then (bobbinetkeep_PickLast.l0 kj30 t288 t294 t303 (wrap64 (x13_2 + 1)) ((rd_T61 t285 (ji6)).f0) ((rd_T61 t285 (ji6)).f1) true) else (none)) = some r := H
                  have A66 := Aside0.mk A660
                  clear A660
                  by_cases c67 : t324 = true
                  ·
                   subst c67
                   have H1 : (bobbinetkeep_PickLast.l0 kj30 t288 t294 t303 (wrap64 (x13_2 + 1)) ((rd_T61 t285 (ji6)).f0) ((rd_T61 t285 (ji6)).f1) true) = some r := by rw [if_pos rfl] at H; exact H
                   clear H
                   have H := H1
                   clear H1
                   have H' := Aside0.mk H
                   clear H
                   have p322 : 0 ≤ ((ji61) : Int) := of_decide_eq_true (by first | (with_reducible assumption) | assumption)
                   have q322 : (ji61) < (t294.length : Int) := of_decide_eq_true (by first | (with_reducible assumption) | assumption)
                   obtain ⟨ad322, A322_0, c322_0, e322, hx322_0, hl322_0, hi322_0⟩ := at_L7 (Kd.S_reads' HO_8.out).2.2 (ji61) p322 q322
                   obtain rfl : ad307 = ad322 := (by injection e322)
                   obtain ⟨ce322, hce322, hMe322, hcc322⟩ := Kd.S_get HO_8.out [] (ji61) p322 (by first | exact q322 | exact of_decide_eq_true (by first | (with_reducible assumption) | assumption) | (have e_ := (Kd.S_reads' HO_8.out).1; omega))
                   obtain ⟨ve322_0, rfl, ge322_0⟩ := hMe322
                   have hv322_0 := hcc322 0 _ rfl
                   rw [Nat.add_zero, show ((Kd.slice 3 (Kd.int .i64))).sz = 1 from rfl, Nat.mul_one] at hv322_0
                   replace hv322_0 := Option.some.inj (hv322_0.symm.trans hx322_0)
                   rw [hv322_0] at ge322_0
                   have HL322_0 := Aside0.mk (show Kd.R (Kd.int .i64) 3 _ _ _ _ (rd_L7 t294 (ji61)) from ge322_0)
                   clear hv322_0 ge322_0
                   clear hcc322 hce322
                   have HR322_0 := Aside0.mk hi322_0
                   have HC322_0 := Aside0.mk hl322_0
                   clear hi322_0 hl322_0
                   replace p322 := eq_true p322
                   replace q322 := eq_true q322
                   have p323 : 0 ≤ (x13_2 : Int) := of_decide_eq_true (by first | (with_reducible assumption) | assumption)
                   have q323 : x13_2 < (t294.length : Int) := of_decide_eq_true (by first | (with_reducible assumption) | assumption)
                   obtain ⟨ad323, A323_0, c323_0, e323, hx323_0, hl323_0, hi323_0⟩ := at_L7 (Kd.S_reads' HO_8.out).2.2 x13_2 p323 q323
                   obtain rfl : ad307 = ad323 := (by injection e323)
                   obtain ⟨ce323, hce323, hMe323, hcc323⟩ := Kd.S_get HO_8.out [] x13_2 p323 (by first | exact q323 | exact of_decide_eq_true (by first | (with_reducible assumption) | assumption) | (have e_ := (Kd.S_reads' HO_8.out).1; omega))
                   obtain ⟨ve323_0, rfl, ge323_0⟩ := hMe323
                   have hv323_0 := hcc323 0 _ rfl
                   rw [Nat.add_zero, show ((Kd.slice 3 (Kd.int .i64))).sz = 1 from rfl, Nat.mul_one] at hv323_0
                   replace hv323_0 := Option.some.inj (hv323_0.symm.trans hx323_0)
                   rw [hv323_0] at ge323_0
                   have HL323_0 := Aside0.mk (show Kd.R (Kd.int .i64) 3 _ _ _ _ (rd_L7 t294 x13_2) from ge323_0)
                   clear hv323_0 ge323_0
                   clear hcc323 hce323
                   have HR323_0 := Aside0.mk hi323_0
                   have HC323_0 := Aside0.mk hl323_0
                   clear hi323_0 hl323_0
                   replace p323 := eq_true p323
                   replace q323 := eq_true q323
                   go_wp2_with (first | (go_at_call 19; (with_reducible refine (bobbinetkeep_beforePath.calls kj30 _ _ (rd_L7 t294 (ji61)) _ _ (rd_L7 t294 x13_2) true _ ?side1 ?side2 ?side3 ?side4 A66.out).mono ?_); (case side1 => repeat (first | exact (by repeat (first | (with_reducible exact HR322_0.out) | (with_reducible exact (Kd.R_reads' HL322_0.out).2.2) | (with_reducible refine Kd.C_alloc ?_ _) | (with_reducible refine Kd.C_drewN ?_ _) | (with_reducible refine Kd.C_drew ?_) | exact HR322_0.out)) | (with_reducible refine Kd.C_alloc ?_ _) | (with_reducible refine Kd.C_drewN ?_ _) | (with_reducible refine Kd.C_drew ?_))); (case side2 => exact HC322_0.out); (case side3 => repeat (first | exact (by repeat (first | (with_reducible exact HR323_0.out) | (with_reducible exact (Kd.R_reads' HL323_0.out).2.2) | (with_reducible refine Kd.C_alloc ?_ _) | (with_reducible refine Kd.C_drewN ?_ _) | (with_reducible refine Kd.C_drew ?_) | exact HR323_0.out)) | (with_reducible refine Kd.C_alloc ?_ _) | (with_reducible refine Kd.C_drewN ?_ _) | (with_reducible refine Kd.C_drew ?_))); (case side4 => exact HC323_0.out); rintro e w' ⟨rfl, ⟨nd, rfl⟩⟩; (try first | exact ⟨rfl, _, World.drewN_drewN _ _ _⟩ | exact ⟨rfl, _, Eq.trans (World.drewN_drewN _ _ _) (congrArg (World.drewN _) (Nat.add_assoc _ _ _))⟩)))
                   repeat (go_quiet (first | (go_at_call 19; (with_reducible refine (bobbinetkeep_beforePath.calls kj30 _ _ (rd_L7 t294 (ji61)) _ _ (rd_L7 t294 x13_2) true _ ?side1 ?side2 ?side3 ?side4 A66.out).mono ?_); (case side1 => repeat (first | exact (by repeat (first | (with_reducible exact HR322_0.out) | (with_reducible exact (Kd.R_reads' HL322_0.out).2.2) | (with_reducible refine Kd.C_alloc ?_ _) | (with_reducible refine Kd.C_drewN ?_ _) | (with_reducible refine Kd.C_drew ?_) | exact HR322_0.out)) | (with_reducible refine Kd.C_alloc ?_ _) | (with_reducible refine Kd.C_drewN ?_ _) | (with_reducible refine Kd.C_drew ?_))); (case side2 => exact HC322_0.out); (case side3 => repeat (first | exact (by repeat (first | (with_reducible exact HR323_0.out) | (with_reducible exact (Kd.R_reads' HL323_0.out).2.2) | (with_reducible refine Kd.C_alloc ?_ _) | (with_reducible refine Kd.C_drewN ?_ _) | (with_reducible refine Kd.C_drew ?_) | exact HR323_0.out)) | (with_reducible refine Kd.C_alloc ?_ _) | (with_reducible refine Kd.C_drewN ?_ _) | (with_reducible refine Kd.C_drew ?_))); (case side4 => exact HC323_0.out); rintro e w' ⟨rfl, ⟨nd, rfl⟩⟩; (try first | exact ⟨rfl, _, World.drewN_drewN _ _ _⟩ | exact ⟨rfl, _, Eq.trans (World.drewN_drewN _ _ _) (congrArg (World.drewN _) (Nat.add_assoc _ _ _))⟩))); try go_wp2_with (first | (go_at_call 19; (with_reducible refine (bobbinetkeep_beforePath.calls kj30 _ _ (rd_L7 t294 (ji61)) _ _ (rd_L7 t294 x13_2) true _ ?side1 ?side2 ?side3 ?side4 A66.out).mono ?_); (case side1 => repeat (first | exact (by repeat (first | (with_reducible exact HR322_0.out) | (with_reducible exact (Kd.R_reads' HL322_0.out).2.2) | (with_reducible refine Kd.C_alloc ?_ _) | (with_reducible refine Kd.C_drewN ?_ _) | (with_reducible refine Kd.C_drew ?_) | exact HR322_0.out)) | (with_reducible refine Kd.C_alloc ?_ _) | (with_reducible refine Kd.C_drewN ?_ _) | (with_reducible refine Kd.C_drew ?_))); (case side2 => exact HC322_0.out); (case side3 => repeat (first | exact (by repeat (first | (with_reducible exact HR323_0.out) | (with_reducible exact (Kd.R_reads' HL323_0.out).2.2) | (with_reducible refine Kd.C_alloc ?_ _) | (with_reducible refine Kd.C_drewN ?_ _) | (with_reducible refine Kd.C_drew ?_) | exact HR323_0.out)) | (with_reducible refine Kd.C_alloc ?_ _) | (with_reducible refine Kd.C_drewN ?_ _) | (with_reducible refine Kd.C_drew ?_))); (case side4 => exact HC323_0.out); rintro e w' ⟨rfl, ⟨nd, rfl⟩⟩; (try first | exact ⟨rfl, _, World.drewN_drewN _ _ _⟩ | exact ⟨rfl, _, Eq.trans (World.drewN_drewN _ _ _) (congrArg (World.drewN _) (Nat.add_assoc _ _ _))⟩))))
                   go_roundg kj30
                   case measure => have := HJ9.out; have := HK2.out; have := HJ30.out; omega
                   case rel => exact ⟨(wrap64 (x13_2 + 1)), (by first | rfl | (simp; done) | (simp [*]; done) | (simp [bne]; done)), H', ⟨by have := HJ9.out; have := HK2.out; have := HJ30.out; omega⟩, ⟨by (with_reducible repeat (first | apply Kd.R_alloc | apply Kd.R_drewN | apply Kd.R_drew)); exact Kd.R_mono HO_6.out (fun _ hk => trivial)⟩, ⟨by (with_reducible repeat (first | apply Kd.S_alloc | apply Kd.S_drewN | apply Kd.S_drew)); exact HO_8.out⟩, ⟨by (with_reducible repeat (first | apply Kd.S_alloc | apply Kd.S_drewN | apply Kd.S_drew)); exact HO_11.out⟩, ⟨by (with_reducible repeat (first | refine blk_drewN ?_ _ | refine blk_drew ?_ | refine blk_alloc ?_ _)); exact BK299.out⟩, ⟨by repeat (first | (with_reducible first | exact HB.out | apply below_alloc | apply pw_below_drewN | apply below_drew1 | refine below_set ?_ GE299.out | refine below_set ?_ GE317.out) | exact HB.out)⟩⟩
                  ·
                   replace c67 := Bool.eq_false_iff.mpr c67
                   subst c67
                   have H1 : (none) = some r := by rw [if_neg (show ¬ (false = true) by decide)] at H; exact H
                   clear H
                   have H := H1
                   clear H1
                   exact absurd H (by simp)
                 ·
                  rw [if_neg c65] at H
                  exact absurd H (by simp)
                ·
                 rw [if_neg c64] at H
                 exact absurd H (by simp)
               ·
                rw [if_neg c63] at H
                exact absurd H (by simp)
              ·
               rw [if_neg c62] at H
               exact absurd H (by simp)
             ·
              rw [if_neg c60] at H
              have c60b0 : decide (0 < x13_2) = false := decide_eq_false c60
              clear c60
              have H' := Aside0.mk H
              clear H
              go_wp2
              repeat (go_quiet (fail); try go_wp2)
              go_roundg kj30
              case measure => have := HJ9.out; have := HK2.out; have := HJ30.out; omega
              case rel => exact ⟨(wrap64 (x13_2 + 1)), (by first | rfl | (simp; done) | (simp [*]; done) | (simp [bne]; done)), H', ⟨by have := HJ9.out; have := HK2.out; have := HJ30.out; omega⟩, ⟨by (with_reducible repeat (first | apply Kd.R_alloc | apply Kd.R_drewN | apply Kd.R_drew)); exact Kd.R_mono HO_6.out (fun _ hk => trivial)⟩, ⟨by (with_reducible repeat (first | apply Kd.S_alloc | apply Kd.S_drewN | apply Kd.S_drew)); exact HO_8.out⟩, ⟨by (with_reducible repeat (first | apply Kd.S_alloc | apply Kd.S_drewN | apply Kd.S_drew)); exact HO_11.out⟩, ⟨by (with_reducible repeat (first | refine blk_drewN ?_ _ | refine blk_drew ?_ | refine blk_alloc ?_ _)); exact BK299.out⟩, ⟨by repeat (first | (with_reducible first | exact HB.out | apply below_alloc | apply pw_below_drewN | apply below_drew1 | refine below_set ?_ GE299.out | refine below_set ?_ GE317.out) | exact HB.out)⟩⟩
         ·
          rw [if_neg c29] at H
          exact absurd H (by simp)
        ·
         rw [if_neg c28] at H
         have c28b0 : decide (x13_2 < (t294.length : Int)) = false := decide_eq_false c28
         clear c28
         obtain rfl := Option.some.inj H
         obtain ⟨Ao68, co68, eo68⟩ := Kd.S_slice HO_8.out
         subst eo68
         go_wp2
         repeat (go_quiet (fail); try go_wp2)
         go_ret
         exact ⟨by first | rfl | (simp [errW_none, errW_some] <;> rfl) | (simp only [← hji6]; first | rfl | (simp [errW_none, errW_some] <;> rfl)) | (simp [*, errW_none, errW_some] <;> rfl), by repeat (first | (with_reducible first | exact HB.out | apply below_alloc | apply pw_below_drewN | apply below_drew1 | refine below_set ?_ GE299.out) | exact HB.out)⟩
  ·
   rw [if_neg c8] at H
   exact absurd H (by simp)
 ·
  rw [if_neg c7] at H
  exact absurd H (by simp)
/-- THE ONE PURE STATEMENT of bobbinetkeep_PickLast: yours. -/
def bobbinetkeep_PickLast.Pure : Prop := ∀ (l0 : List Int) (l1 : List Int), l0.length ≤ maxLen → l0.length * 8 ≤ 140737488351232 → (∀ x ∈ l0, (Lit.int .i64 x).wf = true) → l1.length ≤ maxLen → l1.length * 8 ≤ 140737488351232 → (∀ x ∈ l1, (Lit.int .i64 x).wf = true) → ∃ k, bobbinetkeep_PickLast.f k l0 l1 = some true
theorem bobbinetkeep_PickLast.walk (P : bobbinetkeep_PickLast.Pure) (a0 : Option Addr) (len0 cap0 : Nat) (z0 : List Int) (a1 : Option Addr) (len1 cap1 : Nat) (z1 : List Int) (w : World) (w0 : (a0 = none ∧ len0 = 0 ∧ cap0 = 0 ∧ z0 = []) ∨ ∃ x, a0 = some x ∧ len0 ≤ cap0 ∧ cap0 ≤ maxLen ∧ z0.length = cap0 ∧ (∀ i, i < z0.length → w.cell? (x.add i) = some (.int .i64 (z0.getD i 0))) ∧ ∀ n ∈ z0, (Lit.int .i64 n).wf = true) (y0 : len0 * 8 ≤ 140737488351232) (w1 : (a1 = none ∧ len1 = 0 ∧ cap1 = 0 ∧ z1 = []) ∨ ∃ x, a1 = some x ∧ len1 ≤ cap1 ∧ cap1 ≤ maxLen ∧ z1.length = cap1 ∧ (∀ i, i < z1.length → w.cell? (x.add i) = some (.int .i64 (z1.getD i 0))) ∧ ∀ n ∈ z1, (Lit.int .i64 n).wf = true) (y1 : len1 * 8 ≤ 140737488351232) :
  Calls Try.prog 8 #[.slice a0 len0 cap0, .slice a1 len1 cap1] w fun e w' => e = .returned (.bool true) ∧ Below w.heap.size w w' := by
 obtain ⟨l0, rfl, hr0, hm0, hw0, hc0⟩ := ReadsInt.ofRowC w0
 obtain ⟨l1, rfl, hr1, hm1, hw1, hc1⟩ := ReadsInt.ofRowC w1
 obtain ⟨k, h⟩ := P l0 l1 hm0 y0 hw0 hm1 y1 hw1
 refine (bobbinetkeep_PickLast.calls k _ _ l0 _ _ l1 true w (Kd.C_of_reads (d := (0 : Int)) (h1 := fun _ => rfl) hr0) hc0 (Kd.C_of_reads (d := (0 : Int)) (h1 := fun _ => rfl) hr1) hc1 h).mono ?_
 rintro e w' ⟨rfl, hd⟩
 exact ⟨rfl, hd⟩
end Go.Proofs.Ytaibikajpacemaa.X
end
section
namespace Go.Proofs.Ytaibikajpacemaa.Base
open Go.RowKit Go.Proofs.YtaibikajpacemaaW.PrintWords
theorem toList_loop (s : ByteArray) : ∀ (n i : Nat) (r : List UInt8), s.size - i = n → ByteArray.toList.loop s i r = r.reverse ++ s.data.toList.drop i
  | 0, i, r, h => by
    unfold ByteArray.toList.loop
    have h1 : s.data.toList.drop i = [] := List.drop_eq_nil_of_le (by rw [Array.length_toList]; show s.size ≤ i; omega)
    rw [if_neg (by omega), h1, List.append_nil]
  | n + 1, i, r, h => by
    unfold ByteArray.toList.loop
    have hi : i < s.size := by omega
    have hl : i < s.data.toList.length := by rw [Array.length_toList]; exact hi
    have hg : s.get! i = s.data.toList[i] := by
      obtain ⟨d⟩ := s
      show d[i]! = _
      rw [getElem!_pos d i hi]
      simp
    rw [if_pos hi, toList_loop s n (i + 1) _ (by omega), hg, List.drop_eq_getElem_cons hl, List.reverse_cons, List.append_assoc]
    rfl
theorem toList_eq (s : ByteArray) : s.toList = s.data.toList := by
  unfold ByteArray.toList
  rw [toList_loop s _ 0 [] rfl]
  rfl
theorem toList_inj {s t : ByteArray} : s.toList = t.toList ↔ s = t := by
  rw [toList_eq, toList_eq]
  constructor
  · intro h
    exact ByteArray.ext (Array.toList_inj.1 h)
  · rintro rfl; rfl
theorem toList_beq (s t : ByteArray) : (s.toList == t.toList) = decide (s = t) := by
  rw [Bool.eq_iff_iff]
  simp [toList_inj]
theorem toList_nil {s : ByteArray} : s.toList = ([] : List UInt8) ↔ s = (⟨#[]⟩ : ByteArray) := by
  rw [toList_eq]
  constructor
  · intro h
    apply ByteArray.ext
    exact Array.toList_inj.1 h
  · rintro rfl; rfl
theorem Ev.ite_pos {α : Type} {c : Prop} [Decidable c] {g f : Nat → Option α} {r : α} (h : c) (k : Ev g r) : Ev (fun n => if c then g n else f n) r := by
  simpa only [if_pos h] using k
theorem Ev.ite_neg {α : Type} {c : Prop} [Decidable c] {g f : Nat → Option α} {r : α} (h : ¬ c) (k : Ev f r) : Ev (fun n => if c then g n else f n) r := by
  simpa only [if_neg h] using k
theorem Ev.some {α : Type} (r : α) : Ev (fun _ => Option.some r) r := ⟨0, fun _ _ => rfl⟩
/-- one round: what is told of k + 1 rounds -/
theorem Ev.one {α : Type} {g f : Nat → Option α} {r : α} (h : ∀ k, g (k + 1) = f k) (k : Ev f r) : Ev g r := by
  obtain ⟨K, hK⟩ := k
  refine ⟨K + 1, fun k hk => ?_⟩
  obtain ⟨m, rfl⟩ : ∃ m, k = m + 1 := ⟨k - 1, by omega⟩
  rw [h m]
  exact hK m (by omega)
theorem Ev.bnd {α β : Type} {g : Nat → Option α} {f : Nat → α → Option β} {a : α} {r : β} (h : Ev g a) (k : Ev (fun n => f n a) r) : Ev (fun n => (g n).bind (f n)) r := by
  obtain ⟨K, hK⟩ := h
  obtain ⟨L, hL⟩ := k
  refine ⟨K + L, fun n hn => ?_⟩
  show (g n).bind (f n) = _
  rw [hK n (by omega)]
  exact hL n (by omega)
theorem Ev.bnd0 {α β : Type} {g : Option α} {f : Nat → α → Option β} {a : α} {r : β} (h : g = Option.some a) (k : Ev (fun n => f n a) r) : Ev (fun n => g.bind (f n)) r := by
  subst h
  exact k
theorem wrap_id {i : Int} (h0 : -9223372036854775808 ≤ i) (h1 : i ≤ 9223372036854775807) : wrap64 i = i := by unfold wrap64; omega
theorem wrap_succ {i : Nat} {n : Nat} (h : i < n) (hn : n ≤ 9223372036854775807) : wrap64 ((i : Int) + 1) = ((i + 1 : Nat) : Int) := by unfold wrap64; omega
/-- Go's remainder, brought above 0 -/
theorem picked_eq (a n : Int) (h : 0 < n) (hn : n ≤ 4294967296) : (if Int.tmod a n < 0 then wrap64 (Int.tmod a n + n) else Int.tmod a n) = a % n := by
  have he := Int.tmod_eq_emod (a := a) (b := n)
  have h1 := Int.emod_nonneg a (show n ≠ 0 by omega)
  have h2 := Int.emod_lt_of_pos a h
  rw [he]
  split
  · rename_i hc
    rw [if_neg (by simp; omega)]
    simp
  · rename_i hc
    have hn2 : (n.natAbs : Int) = n := by omega
    rw [hn2, if_pos (by omega), wrap_id (by omega) (by omega)]
    omega
end Go.Proofs.Ytaibikajpacemaa.Base
end
section
namespace Go.Proofs.Ytaibikajpacemaa.Tree
open Go.RowKit Go.Proofs.Ytaibikajpacemaa.X Go.Proofs.YtaibikajpacemaaW.PrintWords Go.Proofs.YtaibikajpacemaaW.PrintLast Go.Proofs.Ytaibikajpacemaa.Base
set_option linter.unusedVariables false
set_option linter.unusedSimpArgs false
abbrev S := S28
theorem ind {P : List S → Prop} (h0 : P []) (h1 : ∀ n l, P n.f3 → P l → P (n :: l)) : ∀ l, P l
  | [] => h0
  | n :: l => h1 n l (ind h0 h1 n.f3) (ind h0 h1 l)
termination_by l => SizeOf.sizeOf l
decreasing_by all_goals (cases n; simp; omega)
/-- nodes, attributes and bytes of texts, all together -/
def tot : List S → Nat
  | [] => 0
  | n :: l => 1 + n.f1.length + n.f2.size + tot n.f3 + tot l
termination_by l => SizeOf.sizeOf l
decreasing_by all_goals (cases n; simp; omega)
theorem tot_nil : tot [] = 0 := by rw [tot]
theorem tot_cons (n : S) (l : List S) : tot (n :: l) = 1 + n.f1.length + n.f2.size + tot n.f3 + tot l := by rw [tot]
theorem tot_app (a b : List S) : tot (a ++ b) = tot a + tot b := by
  induction a with
  | nil => simp [tot_nil]
  | cons n a ih => rw [List.cons_append, tot_cons, tot_cons, ih]; omega
theorem tot_len : ∀ l : List S, l.length ≤ tot l
  | [] => by simp
  | n :: l => by have := tot_len l; rw [tot_cons]; simp; omega
theorem Ev.succ {α : Type} {g : Nat → Option α} {r : α} (h : Ev (fun k => g (k + 1)) r) : Ev g r := Ev.one (f := fun k => g (k + 1)) (fun _ => rfl) h
theorem rd_mid (pre : List S) (d : S) (suf : List S) : rd_T28 (pre ++ d :: suf) (pre.length : Int) = d := by
  simp [rd_T28, List.getD]
theorem rdI_zero (d : Int) (suf : List Int) : rd (d :: suf) 0 = d := rfl
theorem rdOf_mem {α : Type} (d : α) (l : List α) (i : Int) (h0 : 0 ≤ i) (h1 : i < l.length) : rdOf d l i ∈ l := by
  have : i.toNat < l.length := by omega
  simp [rdOf, List.getD, this]
theorem ind2 {P : List S → Prop} (h : ∀ l, (∀ n ∈ l, P n.f3) → P l) (l : List S) : P l := by
  have : ∀ n ∈ l, P n.f3 := by
    induction l using ind with
    | h0 => simp
    | h1 n l ih1 ih2 =>
      intro m hm
      rcases List.mem_cons.1 hm with rfl | hm
      · exact h _ ih1
      · exact ih2 m hm
  exact h l this
theorem tot_mem {n : S} : ∀ {l : List S}, n ∈ l → 1 + n.f1.length + n.f2.size + tot n.f3 ≤ tot l
  | m :: l, h => by
    rw [tot_cons]
    rcases List.mem_cons.1 h with rfl | h
    · omega
    · have := tot_mem h; omega
theorem wrap_pre (pre : List S) (n : S) (suf : List S) (h : tot (pre ++ n :: suf) ≤ 4611686018427387904) : wrap64 ((pre.length : Int) + 1) = ((pre ++ [n]).length : Int) := by
  have h1 := tot_len (pre ++ n :: suf)
  simp at h1
  rw [wrap_id (by omega) (by omega)]
  simp
end Go.Proofs.Ytaibikajpacemaa.Tree
end
section
namespace Go.Proofs.Ytaibikajpacemaa.Tree
open Go.RowKit Go.Proofs.Ytaibikajpacemaa.X Go.Proofs.YtaibikajpacemaaW.PrintWords Go.Proofs.YtaibikajpacemaaW.PrintLast Go.Proofs.Ytaibikajpacemaa.Base
set_option linter.unusedVariables false
set_option linter.unusedSimpArgs false
theorem rdi_at (q : List Int) (a : Int) (p : List Int) : rd (q ++ a :: p) (q.length : Int) = a := by simp [rd, List.getD]
theorem same_loop (a b : List Int) (ha : a.length ≤ 1099511627776) : ∀ (x y q1 q2 : List Int), a = q1 ++ x → b = q2 ++ y → q1.length = q2.length → x.length = y.length → Ev (fun k => bobbinetkeep_sameInts.l0 k a b (q1.length : Int)) (decide (x = y))
  | [], y, q1, q2, e1, e2, h1, h2 => by
    have hy : y = [] := List.length_eq_zero_iff.1 h2.symm
    have hl : a.length = q1.length := by rw [e1]; simp
    refine Ev.succ ?_
    simp only [bobbinetkeep_sameInts.l0]
    refine Ev.ite_neg (by omega) ?_
    rw [hy, decide_eq_true rfl]
    exact Ev.now _
  | c :: x, y, q1, q2, e1, e2, h1, h2 => by
    obtain ⟨d, y, rfl⟩ : ∃ d y', y = d :: y' := by
      cases y with
      | nil => simp at h2
      | cons d y => exact ⟨d, y, rfl⟩
    have l1 : a.length = q1.length + x.length + 1 := by rw [e1]; simp; omega
    have l2 : b.length = q2.length + y.length + 1 := by rw [e2]; simp; omega
    have r1 : rd a (q1.length : Int) = c := by rw [e1]; exact rdi_at _ _ _
    have r2 : rd b (q1.length : Int) = d := by rw [e2, h1]; exact rdi_at _ _ _
    have h3 : x.length = y.length := by simpa using h2
    have ih := same_loop a b ha x y (q1 ++ [c]) (q2 ++ [d]) (by rw [e1]; simp) (by rw [e2]; simp) (by simp [h1]) h3
    refine Ev.succ ?_
    simp only [bobbinetkeep_sameInts.l0, r1, r2]
    refine Ev.ite_pos (by omega) (Ev.ite_pos (by omega) (Ev.ite_pos (by omega) ?_))
    by_cases hcd : c = d
    · refine Ev.ite_pos hcd ?_
      rw [show wrap64 ((q1.length : Int) + 1) = ((q1 ++ [c]).length : Int) from (wrap_succ (n := a.length) (by omega) (by omega)).trans (congrArg _ (by simp))]
      have e : decide (c :: x = d :: y) = decide (x = y) := by simp [hcd]
      rw [e]
      exact ih
    · refine Ev.ite_neg hcd ?_
      rw [decide_eq_false (by simp [hcd])]
      exact Ev.now _
theorem same_ev (a b : List Int) (ha : a.length ≤ 1099511627776) : Ev (fun k => bobbinetkeep_sameInts.f k a b) (decide (a = b)) := by
  simp only [bobbinetkeep_sameInts.f]
  by_cases h : a.length = b.length
  · exact Ev.ite_pos (by omega) (same_loop a b ha a b [] [] rfl rfl rfl h)
  · refine Ev.ite_neg (by omega) ?_
    rw [decide_eq_false (fun e => h (by rw [e]))]
    exact Ev.now _
theorem rdl_at (pre : List (List Int)) (p : List Int) (suf : List (List Int)) : rd_L7 (pre ++ p :: suf) (pre.length : Int) = p := by simp [rd_L7, List.getD]
theorem has_loop (l : List (List Int)) (p : List Int) (hl : l.length ≤ 1099511627776) (hq : ∀ q ∈ l, q.length ≤ 1099511627776) : ∀ (suf pre : List (List Int)), l = pre ++ suf → Ev (fun k => bobbinetkeep_hasPath.l0 k l p (pre.length : Int)) (decide (p ∈ suf))
  | [], pre, e => by
    have h1 : l.length = pre.length := by rw [e]; simp
    refine Ev.succ ?_
    simp only [bobbinetkeep_hasPath.l0]
    refine Ev.ite_neg (by omega) ?_
    rw [decide_eq_false (by simp)]
    exact Ev.now _
  | q :: suf, pre, e => by
    have h1 : l.length = pre.length + suf.length + 1 := by rw [e]; simp; omega
    have hr : rd_L7 l (pre.length : Int) = q := by rw [e]; exact rdl_at _ _ _
    have ih := has_loop l p hl hq suf (pre ++ [q]) (by rw [e]; simp)
    have hs := same_ev q p (hq q (by rw [e]; simp))
    refine Ev.succ ?_
    simp only [bobbinetkeep_hasPath.l0, hr]
    refine Ev.ite_pos (by omega) (Ev.ite_pos (by omega) (Ev.bnd hs ?_))
    by_cases h : q = p
    · rw [decide_eq_true h, decide_eq_true (by simp [h])]
      exact Ev.ite_pos rfl (Ev.now _)
    · rw [decide_eq_false h]
      refine Ev.ite_neg (by simp) ?_
      rw [show wrap64 ((pre.length : Int) + 1) = ((pre ++ [q]).length : Int) from (wrap_succ (n := l.length) (by omega) (by omega)).trans (congrArg _ (by simp))]
      have e2 : decide (p ∈ q :: suf) = decide (p ∈ suf) := by simp [show ¬ p = q from fun h2 => h h2.symm]
      rw [e2]
      exact ih
theorem has_ev (l : List (List Int)) (p : List Int) (hl : l.length ≤ 1099511627776) (hq : ∀ q ∈ l, q.length ≤ 1099511627776) : Ev (fun k => bobbinetkeep_hasPath.f k l p) (decide (p ∈ l)) := by
  simp only [bobbinetkeep_hasPath.f]
  exact has_loop l p hl hq l [] rfl
end Go.Proofs.Ytaibikajpacemaa.Tree
end
section
namespace Go.Proofs.Ytaibikajpacemaa.Tree
open Go.RowKit Go.Proofs.Ytaibikajpacemaa.X Go.Proofs.YtaibikajpacemaaW.PrintWords Go.Proofs.YtaibikajpacemaaW.PrintLast Go.Proofs.Ytaibikajpacemaa.Base
set_option linter.unusedVariables false
set_option linter.unusedSimpArgs false
theorem copied_l0 : ∀ (suf pre acc : List S), tot (pre ++ suf) ≤ 1099511627776 → acc.length = pre.length → (∀ n ∈ suf, Ev (fun k => bobbinetkeep_copiedNodes.f k n.f3) n.f3) → Ev (fun k => bobbinetkeep_copiedNodes.l0 k (pre ++ suf) acc (pre.length : Int)) (acc ++ suf)
  | [], pre, acc, ht, ha, h => by
    refine Ev.succ ?_
    simp only [bobbinetkeep_copiedNodes.l0, List.append_nil]
    exact Ev.ite_neg (by omega) (Ev.now _)
  | n :: suf, pre, acc, ht, ha, h => by
    have h1 := tot_len (pre ++ n :: suf)
    have h2 := tot_mem (show n ∈ pre ++ n :: suf by simp)
    have h3 : (pre ++ n :: suf).length = pre.length + suf.length + 1 := by simp; omega
    have ih := copied_l0 suf (pre ++ [n]) (acc ++ [n]) (by simpa using ht) (by simp [ha]) (fun m hm => h m (List.mem_cons_of_mem _ hm))
    refine Ev.succ ?_
    simp only [bobbinetkeep_copiedNodes.l0]
    rw [rd_mid, wrap_pre pre n suf (by omega)]
    refine Ev.ite_pos (by omega) (Ev.ite_pos (by omega) (Ev.ite_pos (by simp; omega) (Ev.bnd (h n List.mem_cons_self) (Ev.ite_pos (by omega) ?_))))
    obtain ⟨n0, n1, n2, n3⟩ := n
    simpa using ih
theorem copied_f (l : List S) : tot l ≤ 1099511627776 → Ev (fun k => bobbinetkeep_copiedNodes.f k l) l := by
  induction l using ind2 with
  | h l ih =>
    intro ht
    refine Ev.succ ?_
    simp only [bobbinetkeep_copiedNodes.f]
    exact copied_l0 l [] [] ht rfl (fun n hn => ih n hn (by have := tot_mem hn; omega))
end Go.Proofs.Ytaibikajpacemaa.Tree
end
section
namespace Go.Proofs.Ytaibikajpacemaa.Tree
open Go.RowKit Go.Proofs.Ytaibikajpacemaa.X Go.Proofs.YtaibikajpacemaaW.PrintWords Go.Proofs.YtaibikajpacemaaW.PrintLast Go.Proofs.Ytaibikajpacemaa.Base
set_option linter.unusedVariables false
set_option linter.unusedSimpArgs false
theorem picked_f (a n : Int) (h : 0 < n) (hn : n ≤ 4294967296) : bobbinetkeep_Picked.f a n = some (a % n) := by
  have := picked_eq a n h hn
  unfold bobbinetkeep_Picked.f
  rw [if_neg (by omega), ← this]
  split <;> rfl
def texts : List ByteArray := [(⟨#[120]⟩ : ByteArray), (⟨#[97, 60, 98]⟩ : ByteArray), (⟨#[38, 97, 109, 112, 59]⟩ : ByteArray), (⟨#[121, 32, 122]⟩ : ByteArray), (⟨#[32]⟩ : ByteArray), (⟨#[60, 112, 62]⟩ : ByteArray)]
def voids : List ByteArray := [(⟨#[98, 114]⟩ : ByteArray), (⟨#[105, 109, 103]⟩ : ByteArray)]
def elems : List ByteArray := [(⟨#[100, 105, 118]⟩ : ByteArray), (⟨#[98]⟩ : ByteArray), (⟨#[101, 109]⟩ : ByteArray), (⟨#[112]⟩ : ByteArray), (⟨#[97]⟩ : ByteArray), (⟨#[117, 108]⟩ : ByteArray)]
def vals : List ByteArray := [(⟨#[]⟩ : ByteArray), (⟨#[120]⟩ : ByteArray), (⟨#[97, 34, 98, 38]⟩ : ByteArray), (⟨#[60]⟩ : ByteArray), (⟨#[104, 116, 116, 112, 58, 47, 47, 121]⟩ : ByteArray)]
abbrev nil : ByteArray := (⟨#[]⟩ : ByteArray)
/-- nodes, not deeper than d, at most m -/
inductive Good : Nat → Nat → List S → Prop
  | none (d m : Nat) : Good d m []
  | text {d m : Nat} {l : List S} {t : ByteArray} : Good d m l → l.length < m → (∀ p : S, l.getLast? = some p → p.f0 ≠ nil) → t ∈ texts → Good d m (l ++ [(⟨nil, [], t, []⟩ : S)])
  | void {d m : Nat} {l : List S} {t : ByteArray} : Good d m l → l.length < m → t ∈ voids → Good d m (l ++ [(⟨t, [], nil, []⟩ : S)])
  | elem {d m : Nat} {l q : List S} {t : ByteArray} {a : List S68} : Good d m l → l.length < m → 1 < d → t ∈ elems → (a = [] ∨ ∃ v ∈ vals, a = [(⟨(⟨#[104, 114, 101, 102]⟩ : ByteArray), v⟩ : S68)]) → Good (d - 1) 4 q → Good d m (l ++ [(⟨t, a, nil, q⟩ : S)])
set_option maxHeartbeats 1000000 in
theorem nodes_ev : ∀ (N : Nat) (l : List Int), l.length ≤ N → l.length ≤ 17592186044416 → ∀ (d m : Nat) (acc : List S), d ≤ 10 → m ≤ 10 → Good d m acc → acc.length ≤ m → ∃ out rest, Ev (fun k => bobbinetkeep_Nodes.l0 k l (d : Int) (m : Int) acc) (out, rest) ∧ Good d m out ∧ out.length ≤ m ∧ rest.length ≤ l.length := by
  intro N
  induction N with
  | zero =>
    intro l hl hl2 d m acc hd hm hg ha
    obtain rfl : l = [] := List.length_eq_zero_iff.1 (by omega)
    refine ⟨acc, [], ?_, hg, ha, Nat.le_refl _⟩
    refine Ev.succ ?_
    simp only [bobbinetkeep_Nodes.l0]
    refine Ev.ite_neg (by simp) (Ev.succ ?_)
    simp only [bobbinetkeep_Nodes.j1, rdI_zero]
    exact Ev.ite_neg (by simp) (Ev.now _)
  | succ N ih =>
    intro l hl hl2 d m acc hd hm hg ha
    cases l with
    | nil =>
      refine ⟨acc, [], ?_, hg, ha, Nat.le_refl _⟩
      refine Ev.succ ?_
      simp only [bobbinetkeep_Nodes.l0]
      refine Ev.ite_neg (by simp) (Ev.succ ?_)
      simp only [bobbinetkeep_Nodes.j1, rdI_zero]
      exact Ev.ite_neg (by simp) (Ev.now _)
    | cons x l =>
      simp only [List.length_cons] at hl hl2
      by_cases hc : acc.length < m
      · have key : ∀ r : List S × List Int, Ev (fun k => bobbinetkeep_Nodes.j1 k (x :: l) (d : Int) (m : Int) acc true) r → Ev (fun k => bobbinetkeep_Nodes.l0 k (x :: l) (d : Int) (m : Int) acc) r := by
          intro r hr
          refine Ev.succ ?_
          simp only [bobbinetkeep_Nodes.l0]
          rw [decide_eq_true (show (acc.length : Int) < (m : Int) by omega)]
          exact Ev.ite_pos (by simp) hr
        have go : ∀ (acc' : List S) (l' : List Int), l'.length ≤ l.length → Good d m acc' → acc'.length ≤ m → ∃ out rest, Ev (fun k => bobbinetkeep_Nodes.l0 k l' (d : Int) (m : Int) acc') (out, rest) ∧ Good d m out ∧ out.length ≤ m ∧ rest.length ≤ (x :: l).length := by
          intro acc' l' h1 h2 h3
          obtain ⟨out, rest, h4, h5, h6, h7⟩ := ih l' (by omega) (by omega) d m acc' hd hm h2 h3
          exact ⟨out, rest, h4, h5, h6, by simp; omega⟩
        have q0 := Int.emod_nonneg x (show (6 : Int) ≠ 0 by omega)
        have q1 := Int.emod_lt_of_pos x (show (0 : Int) < 6 by omega)
        have len : ((x :: l).length : Int) = (l.length : Int) + 1 := by simp
        by_cases c0 : x % 6 = 0
        · refine ⟨acc, l, key _ ?_, hg, ha, by simp⟩
          refine Ev.succ ?_
          simp only [bobbinetkeep_Nodes.j1, rdI_zero]
          refine Ev.ite_pos trivial (Ev.ite_pos (by omega) (Ev.ite_pos (by omega) (Ev.bnd0 rfl (Ev.bnd0 (picked_f _ _ (by omega) (by omega)) ?_))))
          exact Ev.ite_pos c0 (Ev.now _)
        by_cases c1 : x % 6 = 1
        · have fin : ∀ i : Int, 0 ≤ i → i < 6 → (∀ p : S, acc.getLast? = some p → p.f0 ≠ nil) → ∃ out rest, Ev (fun k => bobbinetkeep_Nodes.l0 k l (d : Int) (m : Int) (acc ++ [(⟨(⟨#[]⟩ : ByteArray), ([] : List S68), rdOf ByteArray.empty texts i, ([] : List S)⟩ : S)])) (out, rest) ∧ Good d m out ∧ out.length ≤ m ∧ rest.length ≤ (x :: l).length := by
            intro i h0 h1 h2
            exact go _ l (Nat.le_refl _) (Good.text hg hc h2 (rdOf_mem _ _ _ h0 (by simpa [texts] using h1))) (by simp; omega)
          have p2 := Int.emod_nonneg (wrap64 (Int.tdiv x 6)) (show (6 : Int) ≠ 0 by omega)
          have p3 := Int.emod_lt_of_pos (wrap64 (Int.tdiv x 6)) (show (0 : Int) < 6 by omega)
          by_cases ca : 0 < acc.length
          · obtain ⟨init, p, hp⟩ : ∃ init p, acc = init ++ [p] := by
              rcases List.eq_nil_or_concat acc with h | ⟨i, p, h⟩
              · subst h; simp at ca
              · exact ⟨i, p, by simpa using h⟩
            have hw : wrap64 ((acc.length : Int) - 1) = (acc.length : Int) - 1 := wrap_id (by omega) (by omega)
            have hrd : rd_T28 acc ((acc.length : Int) - 1) = p := by
              subst hp
              have : (((init ++ [p]).length : Int) - 1) = (init.length : Int) := by simp
              rw [this]
              exact rd_mid _ _ _
            by_cases ct : p.f0 = nil
            · obtain ⟨out, rest, h1, h2, h3, h4⟩ := go acc l (Nat.le_refl _) hg ha
              refine ⟨out, rest, key _ ?_, h2, h3, h4⟩
              refine Ev.succ ?_
              simp only [bobbinetkeep_Nodes.j1, rdI_zero]
              refine Ev.ite_pos trivial (Ev.ite_pos (by omega) (Ev.ite_pos (by omega) (Ev.bnd0 rfl (Ev.bnd0 (picked_f _ _ (by omega) (by omega)) ?_))))
              refine Ev.ite_neg c0 (Ev.ite_pos c1 (Ev.ite_pos (by omega) ?_))
              rw [hw, hrd]
              exact Ev.ite_pos (by omega) (Ev.ite_pos (by omega) (Ev.ite_pos (toList_nil.2 ct) h1))
            · obtain ⟨out, rest, h1, h2, h3, h4⟩ := fin (wrap64 (Int.tdiv x 6) % 6) p2 p3 (by
                intro p' hp'
                subst hp
                simp at hp'
                rw [← hp']; exact ct)
              refine ⟨out, rest, key _ ?_, h2, h3, h4⟩
              refine Ev.succ ?_
              simp only [bobbinetkeep_Nodes.j1, rdI_zero]
              refine Ev.ite_pos trivial (Ev.ite_pos (by omega) (Ev.ite_pos (by omega) (Ev.bnd0 rfl (Ev.bnd0 (picked_f _ _ (by omega) (by omega)) ?_))))
              refine Ev.ite_neg c0 (Ev.ite_pos c1 (Ev.ite_pos (by omega) ?_))
              rw [hw, hrd]
              exact Ev.ite_pos (by omega) (Ev.ite_pos (by omega) (Ev.ite_neg (fun h => ct (toList_nil.1 h)) (Ev.bnd0 rfl (Ev.bnd0 (picked_f _ _ (by omega) (by omega)) (Ev.ite_pos p2 (Ev.ite_pos (by simpa using p3) (Ev.ite_pos (by omega) h1)))))))
          · obtain ⟨out, rest, h1, h2, h3, h4⟩ := fin (wrap64 (Int.tdiv x 6) % 6) p2 p3 (by
              intro p' hp'
              have : acc = [] := List.length_eq_zero_iff.1 (by omega)
              subst this
              simp at hp')
            refine ⟨out, rest, key _ ?_, h2, h3, h4⟩
            refine Ev.succ ?_
            simp only [bobbinetkeep_Nodes.j1, rdI_zero]
            refine Ev.ite_pos trivial (Ev.ite_pos (by omega) (Ev.ite_pos (by omega) (Ev.bnd0 rfl (Ev.bnd0 (picked_f _ _ (by omega) (by omega)) ?_))))
            exact Ev.ite_neg c0 (Ev.ite_pos c1 (Ev.ite_neg (by omega) (Ev.bnd0 rfl (Ev.bnd0 (picked_f _ _ (by omega) (by omega)) (Ev.ite_pos p2 (Ev.ite_pos (by simpa using p3) (Ev.ite_pos (by omega) h1)))))))
        by_cases c2 : x % 6 = 2
        · have p2 := Int.emod_nonneg (wrap64 (Int.tdiv x 6)) (show (2 : Int) ≠ 0 by omega)
          have p3 := Int.emod_lt_of_pos (wrap64 (Int.tdiv x 6)) (show (0 : Int) < 2 by omega)
          obtain ⟨out, rest, h1, h2, h3, h4⟩ := go (acc ++ [(⟨rdOf ByteArray.empty voids (wrap64 (Int.tdiv x 6) % 2), ([] : List S68), (⟨#[]⟩ : ByteArray), ([] : List S)⟩ : S)]) l (Nat.le_refl _) (Good.void hg hc (rdOf_mem _ _ _ p2 (by simpa [voids] using p3))) (by simp; omega)
          refine ⟨out, rest, key _ ?_, h2, h3, h4⟩
          refine Ev.succ ?_
          simp only [bobbinetkeep_Nodes.j1, rdI_zero]
          refine Ev.ite_pos trivial (Ev.ite_pos (by omega) (Ev.ite_pos (by omega) (Ev.bnd0 rfl (Ev.bnd0 (picked_f _ _ (by omega) (by omega)) ?_))))
          exact Ev.ite_neg c0 (Ev.ite_neg c1 (Ev.ite_pos c2 (Ev.bnd0 rfl (Ev.bnd0 (picked_f _ _ (by omega) (by omega)) (Ev.ite_pos p2 (Ev.ite_pos (by simpa using p3) (Ev.ite_pos (by omega) h1)))))))
        by_cases cd : 1 < d
        · have p2 := Int.emod_nonneg (wrap64 (Int.tdiv x 6)) (show (6 : Int) ≠ 0 by omega)
          have p3 := Int.emod_lt_of_pos (wrap64 (Int.tdiv x 6)) (show (0 : Int) < 6 by omega)
          obtain ⟨parts, l', g1, g2, g3, g4⟩ := ih l (by omega) (by omega) (d - 1) 4 [] (by omega) (by omega) (Good.none _ _) (by simp)
          have g1' : Ev (fun k => bobbinetkeep_Nodes.f k l (wrap64 ((d : Int) - 1)) 4) (parts, l') := by
            have : wrap64 ((d : Int) - 1) = ((d - 1 : Nat) : Int) := by rw [wrap_id (by omega) (by omega)]; omega
            rw [this]
            refine Ev.succ ?_
            simp only [bobbinetkeep_Nodes.f]
            exact g1
          by_cases c3 : wrap64 (Int.tdiv x 36) % 3 = 0
          · have p4 := Int.emod_nonneg (wrap64 (Int.tdiv x 100)) (show (5 : Int) ≠ 0 by omega)
            have p5 := Int.emod_lt_of_pos (wrap64 (Int.tdiv x 100)) (show (0 : Int) < 5 by omega)
            obtain ⟨out, rest, h1, h2, h3, h4⟩ := go (acc ++ [(⟨rdOf ByteArray.empty elems (wrap64 (Int.tdiv x 6) % 6), [(⟨(⟨#[104, 114, 101, 102]⟩ : ByteArray), rdOf ByteArray.empty vals (wrap64 (Int.tdiv x 100) % 5)⟩ : S68)], (⟨#[]⟩ : ByteArray), parts⟩ : S)]) l' g4 (Good.elem hg hc cd (rdOf_mem _ _ _ p2 (by simpa [elems] using p3)) (.inr ⟨_, rdOf_mem _ _ _ p4 (by simpa [vals] using p5), rfl⟩) g2) (by simp; omega)
            refine ⟨out, rest, key _ ?_, h2, h3, h4⟩
            refine Ev.succ ?_
            simp only [bobbinetkeep_Nodes.j1, rdI_zero]
            refine Ev.ite_pos trivial (Ev.ite_pos (by omega) (Ev.ite_pos (by omega) (Ev.bnd0 rfl (Ev.bnd0 (picked_f _ _ (by omega) (by omega)) ?_))))
            exact Ev.ite_neg c0 (Ev.ite_neg c1 (Ev.ite_neg c2 (Ev.ite_pos (by omega) (Ev.bnd0 rfl (Ev.bnd0 (picked_f _ _ (by omega) (by omega)) (Ev.ite_pos p2 (Ev.ite_pos (by simpa using p3) (Ev.bnd0 (picked_f _ _ (by omega) (by omega)) (Ev.ite_pos c3 (Ev.bnd0 rfl (Ev.bnd0 (picked_f _ _ (by omega) (by omega)) (Ev.ite_pos p4 (Ev.ite_pos (by simpa using p5) (Ev.bnd g1' (Ev.ite_pos (by omega) h1)))))))))))))))
          · obtain ⟨out, rest, h1, h2, h3, h4⟩ := go (acc ++ [(⟨rdOf ByteArray.empty elems (wrap64 (Int.tdiv x 6) % 6), ([] : List S68), (⟨#[]⟩ : ByteArray), parts⟩ : S)]) l' g4 (Good.elem hg hc cd (rdOf_mem _ _ _ p2 (by simpa [elems] using p3)) (.inl rfl) g2) (by simp; omega)
            refine ⟨out, rest, key _ ?_, h2, h3, h4⟩
            refine Ev.succ ?_
            simp only [bobbinetkeep_Nodes.j1, rdI_zero]
            refine Ev.ite_pos trivial (Ev.ite_pos (by omega) (Ev.ite_pos (by omega) (Ev.bnd0 rfl (Ev.bnd0 (picked_f _ _ (by omega) (by omega)) ?_))))
            exact Ev.ite_neg c0 (Ev.ite_neg c1 (Ev.ite_neg c2 (Ev.ite_pos (by omega) (Ev.bnd0 rfl (Ev.bnd0 (picked_f _ _ (by omega) (by omega)) (Ev.ite_pos p2 (Ev.ite_pos (by simpa using p3) (Ev.bnd0 (picked_f _ _ (by omega) (by omega)) (Ev.ite_neg c3 (Ev.bnd g1' (Ev.ite_pos (by omega) h1)))))))))))
        · obtain ⟨out, rest, h1, h2, h3, h4⟩ := go acc l (Nat.le_refl _) hg ha
          refine ⟨out, rest, key _ ?_, h2, h3, h4⟩
          refine Ev.succ ?_
          simp only [bobbinetkeep_Nodes.j1, rdI_zero]
          refine Ev.ite_pos trivial (Ev.ite_pos (by omega) (Ev.ite_pos (by omega) (Ev.bnd0 rfl (Ev.bnd0 (picked_f _ _ (by omega) (by omega)) ?_))))
          exact Ev.ite_neg c0 (Ev.ite_neg c1 (Ev.ite_neg c2 (Ev.ite_neg (by omega) h1)))
      · refine ⟨acc, x :: l, ?_, hg, ha, Nat.le_refl _⟩
        refine Ev.succ ?_
        simp only [bobbinetkeep_Nodes.l0]
        rw [decide_eq_false (show ¬ (acc.length : Int) < (m : Int) by omega)]
        refine Ev.ite_pos (by simp) (Ev.succ ?_)
        simp only [bobbinetkeep_Nodes.j1, rdI_zero]
        exact Ev.ite_neg (by simp) (Ev.now _)
theorem nodes_f (l : List Int) (hl : l.length ≤ 17592186044416) (d m : Nat) (hd : d ≤ 10) (hm : m ≤ 10) : ∃ out rest, Ev (fun k => bobbinetkeep_Nodes.f k l (d : Int) (m : Int)) (out, rest) ∧ Good d m out := by
  obtain ⟨out, rest, h1, h2, h3, h4⟩ := nodes_ev l.length l (Nat.le_refl _) hl d m [] hd hm (Good.none _ _) (by simp)
  refine ⟨out, rest, Ev.succ ?_, h2⟩
  simp only [bobbinetkeep_Nodes.f]
  exact h1
/-- what each of them is like -/
def NodeOk (d : Nat) (n : S) : Prop := (n.f0 = nil ∧ n.f1 = [] ∧ n.f2 ∈ texts ∧ n.f3 = []) ∨ (n.f0 ∈ voids ∧ n.f1 = [] ∧ n.f2 = nil ∧ n.f3 = []) ∨ (1 < d ∧ n.f0 ∈ elems ∧ (n.f1 = [] ∨ ∃ v ∈ vals, n.f1 = [(⟨(⟨#[104, 114, 101, 102]⟩ : ByteArray), v⟩ : S68)]) ∧ n.f2 = nil ∧ Good (d - 1) 4 n.f3)
theorem Good.mem {d m : Nat} {l : List S} (h : Good d m l) : ∀ n ∈ l, NodeOk d n := by
  induction h with
  | none => simp
  | text _ _ _ ht ih =>
    intro n hn
    rcases List.mem_append.1 hn with hn | hn
    · exact ih n hn
    · rw [List.mem_singleton.1 hn]; exact .inl ⟨rfl, rfl, ht, rfl⟩
  | void _ _ ht ih =>
    intro n hn
    rcases List.mem_append.1 hn with hn | hn
    · exact ih n hn
    · rw [List.mem_singleton.1 hn]; exact .inr (.inl ⟨ht, rfl, rfl, rfl⟩)
  | elem _ _ hd ht ha hq ih _ =>
    intro n hn
    rcases List.mem_append.1 hn with hn | hn
    · exact ih n hn
    · rw [List.mem_singleton.1 hn]; exact .inr (.inr ⟨hd, ht, ha, rfl, hq⟩)
theorem Good.at_ {d m : Nat} {l : List S} (h : Good d m l) : ∀ (pre suf : List S) (n : S), l = pre ++ n :: suf → NodeOk d n ∧ (n.f0 = nil → ∀ p : S, pre.getLast? = some p → p.f0 ≠ nil) := by
  have snoc : ∀ {a b : List S} {x y : S}, a ++ [x] = b ++ [y] → a = b ∧ x = y := by
    intro a b x y h
    have := List.append_inj' h rfl
    exact ⟨this.1, by simpa using this.2⟩
  induction h with
  | none => intro pre suf n h; simp at h
  | @text d m l t hg h1 h2 ht ih =>
    intro pre suf n h
    rcases List.eq_nil_or_concat suf with h4 | ⟨i, p, h4⟩
    · subst h4
      obtain ⟨rfl, rfl⟩ := snoc h
      exact ⟨.inl ⟨rfl, rfl, ht, rfl⟩, fun _ => h2⟩
    · have h4 : suf = i ++ [p] := by simpa using h4
      subst h4
      exact ih pre i n (snoc (show _ = (pre ++ n :: i) ++ [p] by simpa using h)).1
  | @void d m l t hg h1 ht ih =>
    intro pre suf n h
    rcases List.eq_nil_or_concat suf with h4 | ⟨i, p, h4⟩
    · subst h4
      obtain ⟨rfl, rfl⟩ := snoc h
      refine ⟨.inr (.inl ⟨ht, rfl, rfl, rfl⟩), fun h0 => ?_⟩
      exfalso
      replace h0 : t = nil := h0
      simp only [voids, List.mem_cons, List.not_mem_nil, or_false] at ht
      rcases ht with rfl | rfl <;> exact absurd h0 (by decide)
    · have h4 : suf = i ++ [p] := by simpa using h4
      subst h4
      exact ih pre i n (snoc (show _ = (pre ++ n :: i) ++ [p] by simpa using h)).1
  | @elem d m l q t a hg h1 hd ht ha hq ih _ =>
    intro pre suf n h
    rcases List.eq_nil_or_concat suf with h4 | ⟨i, p, h4⟩
    · subst h4
      obtain ⟨rfl, rfl⟩ := snoc h
      refine ⟨.inr (.inr ⟨hd, ht, ha, rfl, hq⟩), fun h0 => ?_⟩
      exfalso
      replace h0 : t = nil := h0
      simp only [elems, List.mem_cons, List.not_mem_nil, or_false] at ht
      rcases ht with rfl | rfl | rfl | rfl | rfl | rfl <;> exact absurd h0 (by decide)
    · have h4 : suf = i ++ [p] := by simpa using h4
      subst h4
      exact ih pre i n (snoc (show _ = (pre ++ n :: i) ++ [p] by simpa using h)).1
theorem Good.len {d m : Nat} {l : List S} (h : Good d m l) : l.length ≤ m := by
  cases h with
  | none => simp
  | _ => simp; omega
def cap : Nat → Nat
  | 0 => 7
  | d + 1 => 7 + 4 * cap d
theorem cap_mono (d : Nat) : 7 ≤ cap d := by cases d <;> simp [cap]
theorem Good.tot {d m : Nat} {l : List S} (h : Good d m l) : Tree.tot l ≤ l.length * cap d := by
  induction h with
  | none => simp [tot_nil]
  | @text d m l t _ _ _ ht ih =>
    have h1 : t.size ≤ 5 := by
      simp [texts] at ht
      rcases ht with rfl | rfl | rfl | rfl | rfl | rfl <;> decide
    have h2 := cap_mono d
    rw [tot_app, tot_cons, tot_nil]
    simp only [List.length_append, List.length_cons, List.length_nil, Nat.add_mul]
    omega
  | @void d m l t _ _ ht ih =>
    have h2 := cap_mono d
    have h3 : nil.size = 0 := rfl
    rw [tot_app, tot_cons, tot_nil]
    simp only [List.length_append, List.length_cons, List.length_nil, Nat.add_mul, h3]
    omega
  | @elem d m l q t a _ _ hd ht ha hq ih ihq =>
    have h3 : nil.size = 0 := rfl
    obtain ⟨e, rfl⟩ : ∃ e, d = e + 1 := ⟨d - 1, by omega⟩
    have h4 : a.length ≤ 1 := by
      rcases ha with rfl | ⟨v, _, rfl⟩ <;> simp
    have h5 := hq.len
    have h6 : q.length * cap (e + 1 - 1) ≤ 4 * cap e := Nat.mul_le_mul h5 (Nat.le_refl _)
    rw [tot_app, tot_cons, tot_nil]
    simp only [List.length_append, List.length_cons, List.length_nil, Nat.add_mul, h3]
    have h7 : cap (e + 1) = 7 + 4 * cap e := rfl
    rw [Nat.add_sub_cancel] at h6 ihq
    omega
end Go.Proofs.Ytaibikajpacemaa.Tree
end
section
namespace Go.Proofs.Ytaibikajpacemaa.Tree
open Go.RowKit Go.Proofs.Ytaibikajpacemaa.X Go.Proofs.YtaibikajpacemaaW.PrintWords Go.Proofs.YtaibikajpacemaaW.PrintLast Go.Proofs.Ytaibikajpacemaa.Base
set_option linter.unusedVariables false
set_option linter.unusedSimpArgs false
abbrev Pk := S61
abbrev fitB (p : Pk) (n : S) : Bool := pick_fits.f p.f0 p.f1 p.f2 n.f0 n.f1 n.f2 n.f3 == some true
abbrev rep (ps : List Pk) : List Bool := List.replicate ps.length false
/-- what is found in nodes, the first of which is node i at a path -/
def found (ps : List Pk) : List S → Nat → List Int → List Bool → List Bool → List (List Int)
  | [], _, _, _, _ => []
  | n :: l, i, path, r, w =>
    if n.f0.toList = ([] : List UInt8) then found ps l (i + 1) path r w
    else (if (pick_Find.ends ps n r w).getD (ps.length - 1) false = true then [path ++ [(i : Int)]] else []) ++ found ps n.f3 0 (path ++ [(i : Int)]) (pick_Find.ends ps n r w) (pick_Find.far w (pick_Find.ends ps n r w)) ++ found ps l (i + 1) path r w
termination_by l => SizeOf.sizeOf l
decreasing_by all_goals (cases n; simp; omega)
theorem found_nil (ps : List Pk) (i : Nat) (path : List Int) (r w : List Bool) : found ps [] i path r w = [] := by rw [found]
theorem found_text (ps : List Pk) (n : S) (l : List S) (i : Nat) (path : List Int) (r w : List Bool) (h : n.f0.toList = ([] : List UInt8)) : found ps (n :: l) i path r w = found ps l (i + 1) path r w := by rw [found, if_pos h]
theorem found_elem (ps : List Pk) (n : S) (l : List S) (i : Nat) (path : List Int) (r w : List Bool) (h : ¬ n.f0.toList = ([] : List UInt8)) : found ps (n :: l) i path r w = (if (pick_Find.ends ps n r w).getD (ps.length - 1) false = true then [path ++ [(i : Int)]] else []) ++ found ps n.f3 0 (path ++ [(i : Int)]) (pick_Find.ends ps n r w) (pick_Find.far w (pick_Find.ends ps n r w)) ++ found ps l (i + 1) path r w := by rw [found, if_neg h]
theorem go_eq (ps : List Pk) : ∀ (l : List S) (i : Nat) (path : List Int) (r w : List Bool) (k : Nat), tot l < k → pick_Find.go ps k l i path r w = some (found ps l i path r w) := by
  intro l
  induction l using ind with
  | h0 =>
    intro i path r w k hk
    obtain ⟨m, rfl⟩ : ∃ m, k = m + 1 := ⟨k - 1, by omega⟩
    rw [pick_Find.go, found_nil]
  | h1 n l ih1 ih2 =>
    intro i path r w k hk
    obtain ⟨m, rfl⟩ : ∃ m, k = m + 1 := ⟨k - 1, by omega⟩
    rw [tot_cons] at hk
    rw [pick_Find.go]
    by_cases h : n.f0.toList = ([] : List UInt8)
    · rw [if_pos h, found_text _ _ _ _ _ _ _ h]
      exact ih2 _ _ _ _ m (by omega)
    · rw [if_neg h, found_elem _ _ _ _ _ _ _ h, ih1 _ _ _ _ m (by omega), ih2 _ _ _ _ m (by omega)]
      rfl
theorem found_len (ps : List Pk) : ∀ (l : List S) (i : Nat) (path : List Int) (r w : List Bool), (found ps l i path r w).length ≤ tot l := by
  intro l
  induction l using ind with
  | h0 => intro i path r w; rw [found_nil]; simp
  | h1 n l ih1 ih2 =>
    intro i path r w
    rw [tot_cons]
    by_cases h : n.f0.toList = ([] : List UInt8)
    · rw [found_text _ _ _ _ _ _ _ h]
      have := ih2 (i + 1) path r w
      omega
    · rw [found_elem _ _ _ _ _ _ _ h, List.length_append, List.length_append]
      have h1 := ih1 0 (path ++ [(i : Int)]) (pick_Find.ends ps n r w) (pick_Find.far w (pick_Find.ends ps n r w))
      have h2 := ih2 (i + 1) path r w
      have h3 : (if (pick_Find.ends ps n r w).getD (ps.length - 1) false = true then [path ++ [(i : Int)]] else []).length ≤ 1 := by split <;> simp
      omega
/-- paths that are found are as deep as the tree at most -/
theorem found_long (ps : List Pk) : ∀ (l : List S) (i : Nat) (path : List Int) (r w : List Bool), ∀ p ∈ found ps l i path r w, p.length ≤ path.length + tot l := by
  intro l
  induction l using ind with
  | h0 => intro i path r w p hp; rw [found_nil] at hp; cases hp
  | h1 n l ih1 ih2 =>
    intro i path r w p hp
    rw [tot_cons]
    by_cases h : n.f0.toList = ([] : List UInt8)
    · rw [found_text _ _ _ _ _ _ _ h] at hp
      have := ih2 (i + 1) path r w p hp
      omega
    · rw [found_elem _ _ _ _ _ _ _ h, List.mem_append, List.mem_append] at hp
      rcases hp with (hp | hp) | hp
      · split at hp
        · rw [List.mem_singleton.1 hp, List.length_append, List.length_singleton]; omega
        · cases hp
      · have := ih1 _ _ _ _ p hp
        rw [List.length_append, List.length_singleton] at this
        omega
      · have := ih2 (i + 1) path r w p hp
        omega
theorem find_ev (ps : List Pk) (hok : pick_check.ok ps = true) (t : List S) (ht : tot t ≤ 999990) : Ev (fun k => pick_Find.f k ps t) (found ps t 0 [] (rep ps) (rep ps), 0) := by
  refine ⟨tot t + 1, fun k hk => ?_⟩
  show pick_Find.f k ps t = _
  unfold pick_Find.f
  rw [if_pos hok, go_eq ps t 0 [] _ _ (min k 1000000) (by omega), Option.bind_some]
  have := found_len ps t 0 [] (List.replicate ps.length false) (List.replicate ps.length false)
  rw [if_pos (by omega)]
theorem same0 : Ev (fun k => bobbinetkeep_sameInts.f k ([0] : List Int) [0]) true := Ev.of (bobbinetkeep_sameInts.mono _ _) (k := 3) (by decide +kernel)
theorem one_ev : Ev (fun k => pick_Find.f k [(⟨(⟨#[]⟩ : ByteArray), (⟨#[]⟩ : ByteArray), false⟩ : Pk)] [(⟨(⟨#[98]⟩ : ByteArray), ([] : List S68), (⟨#[]⟩ : ByteArray), ([] : List S)⟩ : S)]) ([[0]], 0) := Ev.of (pick_Find.mono _ _) (k := 5) (by decide +kernel)
theorem paths_ev (ps : List Pk) (hok : pick_check.ok ps = true) (t : List S) (ht : tot t ≤ 999990) : Ev (fun k => bobbinetkeep_paths.f k ps t) (found ps t 0 [] (rep ps) (rep ps), true) := by
  have hl : ps.length ≤ 10 := by
    unfold pick_check.ok at hok
    simp only [Bool.and_eq_true, decide_eq_true_eq] at hok
    exact hok.1.2
  simp only [bobbinetkeep_paths.f, List.nil_append]
  refine Ev.ite_pos (by simp; omega) (Ev.bnd (copied_f t (by omega)) (Ev.bnd (find_ev ps hok t ht) (Ev.bnd one_ev (Ev.ite_pos rfl (Ev.ite_pos rfl (Ev.ite_pos (by simp) (Ev.ite_pos (by simp) ?_)))))))
  exact Ev.bnd (a := true) same0 (Ev.now _)
/-- whether a pick fits -/
theorem fit_eq (p : Pk) (n : S) : fitB p n = ((decide (n.f0 ≠ nil) && (decide (p.f0 = nil) || decide (p.f0 = n.f0))) && (decide (p.f1 = nil) || n.f1.any fun x => decide (x.f0 = p.f1))) := by
  unfold fitB pick_fits.f cf_pickFits.f
  simp only [Option.bind_some, toList_beq, toList_inj, show (∀ s : ByteArray, (s.toList = ([] : List UInt8)) = (s = nil)) from fun s => propext toList_nil]
  by_cases h0 : n.f0 = nil <;> by_cases h1 : p.f0 = nil <;> by_cases h2 : p.f1 = nil <;> by_cases h3 : p.f0 = n.f0 <;> simp [h0, h1, h2, h3]
end Go.Proofs.Ytaibikajpacemaa.Tree
end
section
namespace Go.Proofs.Ytaibikajpacemaa.Tree
open Go.RowKit Go.Proofs.Ytaibikajpacemaa.X Go.Proofs.YtaibikajpacemaaW.PrintWords Go.Proofs.YtaibikajpacemaaW.PrintLast Go.Proofs.Ytaibikajpacemaa.Base
set_option linter.unusedVariables false
set_option linter.unusedSimpArgs false
def PkOk (p : Pk) : Prop := pick_check.nm p.f0 = true ∧ pick_check.nm p.f1 = true
theorem ok_of (ps : List Pk) (h0 : 0 < ps.length) (h1 : ps.length ≤ 10) (h : ∀ p ∈ ps, PkOk p) : pick_check.ok ps = true := by
  unfold pick_check.ok
  simp only [Bool.and_eq_true, decide_eq_true_eq, List.all_eq_true]
  exact ⟨⟨h0, h1⟩, h⟩
theorem getD_mem2 {α : Type} (d : α) (l : List α) (i : Nat) (h : i < l.length) : l.getD i d ∈ l := by simp [List.getD, h]
theorem mod_lt2 (x : Int) (n : Nat) (h : 0 < n) : (x % (n : Int)).toNat < n := by
  have h1 := Int.emod_nonneg x (show (n : Int) ≠ 0 by omega)
  have h2 := Int.emod_lt_of_pos x (show (0 : Int) < n by omega)
  omega
theorem names_nm : ∀ s ∈ bobbinetkeep_Picks.names, pick_check.nm s = true := by decide +kernel
theorem keys_nm : ∀ s ∈ bobbinetkeep_Picks.keys, pick_check.nm s = true := by decide +kernel
theorem one_ok (i : Nat) (a : Int) : PkOk (bobbinetkeep_Picks.one i a) := ⟨names_nm _ (getD_mem2 _ _ _ (mod_lt2 a 5 (by omega))), keys_nm _ (getD_mem2 _ _ _ (mod_lt2 _ 3 (by omega)))⟩
theorem nm_nil : pick_check.nm (⟨#[]⟩ : ByteArray) = true := by decide +kernel
theorem pre_ok (l : List Int) (i : Nat) (hi : i ≤ 10) : 0 < (bobbinetkeep_Picks.pre l i).length ∧ (bobbinetkeep_Picks.pre l i).length ≤ 10 ∧ ∀ p ∈ bobbinetkeep_Picks.pre l i, PkOk p := by
  unfold bobbinetkeep_Picks.pre
  by_cases h : i = 0
  · rw [if_pos h]
    refine ⟨by simp, by simp, fun p hp => ?_⟩
    rw [List.mem_singleton.1 hp]
    exact ⟨(by decide +kernel : pick_check.nm (⟨#[98]⟩ : ByteArray) = true), nm_nil⟩
  · rw [if_neg h]
    refine ⟨by simp; omega, by simp; omega, fun p hp => ?_⟩
    obtain ⟨j, _, rfl⟩ := List.mem_map.1 hp
    exact one_ok _ _
theorem fit_deep (p : Pk) (n : S) (f2 : Bool) : fitB ⟨p.f0, p.f1, f2⟩ n = fitB p n := by rw [fit_eq, fit_eq]
end Go.Proofs.Ytaibikajpacemaa.Tree
end
section
namespace Go.Proofs.Ytaibikajpacemaa.Tree
open Go.RowKit Go.Proofs.Ytaibikajpacemaa.X Go.Proofs.YtaibikajpacemaaW.PrintWords Go.Proofs.YtaibikajpacemaaW.PrintLast Go.Proofs.Ytaibikajpacemaa.Base
set_option linter.unusedVariables false
set_option linter.unusedSimpArgs false
/-- elements with their paths, and whether one that fits p is around them (or is known to be) -/
def ring (p : Pk) : List S → Nat → List Int → Bool → List (List Int × S × Bool)
  | [], _, _, _ => []
  | n :: l, i, path, f =>
    if n.f0.toList = ([] : List UInt8) then ring p l (i + 1) path f
    else (path ++ [(i : Int)], n, f) :: (ring p n.f3 0 (path ++ [(i : Int)]) (f || fitB p n) ++ ring p l (i + 1) path f)
termination_by l => SizeOf.sizeOf l
decreasing_by all_goals (cases n; simp; omega)
theorem ring_nil (p : Pk) (i : Nat) (path : List Int) (f : Bool) : ring p [] i path f = [] := by rw [ring]
theorem ring_text (p : Pk) (n : S) (l : List S) (i : Nat) (path : List Int) (f : Bool) (h : n.f0.toList = ([] : List UInt8)) : ring p (n :: l) i path f = ring p l (i + 1) path f := by rw [ring, if_pos h]
theorem ring_elem (p : Pk) (n : S) (l : List S) (i : Nat) (path : List Int) (f : Bool) (h : ¬ n.f0.toList = ([] : List UInt8)) : ring p (n :: l) i path f = (path ++ [(i : Int)], n, f) :: (ring p n.f3 0 (path ++ [(i : Int)]) (f || fitB p n) ++ ring p l (i + 1) path f) := by rw [ring, if_neg h]
theorem ends_one (p : Pk) (n : S) (r w : List Bool) : pick_Find.ends [p] n r w = [fitB p n] := by
  simp [pick_Find.ends]
theorem found_ring1 (p q : Pk) : ∀ (l : List S) (i : Nat) (path : List Int) (f : Bool) (r w : List Bool), found [q] l i path r w = ((ring p l i path f).filter (fun e => fitB q e.2.1)).map (·.1) := by
  intro l
  induction l using ind with
  | h0 => intro i path f r w; rw [found_nil, ring_nil]; rfl
  | h1 n l ih1 ih2 =>
    intro i path f r w
    by_cases h : n.f0.toList = ([] : List UInt8)
    · rw [found_text _ _ _ _ _ _ _ h, ring_text _ _ _ _ _ _ h]
      exact ih2 _ _ _ _ _
    · rw [found_elem _ _ _ _ _ _ _ h, ring_elem _ _ _ _ _ _ h, ends_one, ih1 0 (path ++ [(i : Int)]) (f || fitB p n), ih2 (i + 1) path f r w]
      simp only [List.length_singleton, Nat.sub_self, List.getD_cons_zero]
      cases hq : fitB q n <;> simp [List.filter_cons, hq]
/-- all paths go on from the path, at node i or behind it -/
theorem ring_path (p : Pk) : ∀ (l : List S) (i : Nat) (path : List Int) (f : Bool), ∀ e ∈ ring p l i path f, ∃ (j : Nat) (s : List Int), i ≤ j ∧ e.1 = path ++ (j : Int) :: s := by
  intro l
  induction l using ind with
  | h0 => intro i path f e he; rw [ring_nil] at he; cases he
  | h1 n l ih1 ih2 =>
    intro i path f e he
    by_cases h : n.f0.toList = ([] : List UInt8)
    · rw [ring_text _ _ _ _ _ _ h] at he
      obtain ⟨j, s, h1, h2⟩ := ih2 _ _ _ e he
      exact ⟨j, s, by omega, h2⟩
    · rw [ring_elem _ _ _ _ _ _ h, List.mem_cons, List.mem_append] at he
      rcases he with rfl | he | he
      · exact ⟨i, [], Nat.le_refl _, rfl⟩
      · obtain ⟨j, s, h1, h2⟩ := ih1 _ _ _ e he
        exact ⟨i, (j : Int) :: s, Nat.le_refl _, by rw [h2]; simp⟩
      · obtain ⟨j, s, h1, h2⟩ := ih2 _ _ _ e he
        exact ⟨j, s, by omega, h2⟩
end Go.Proofs.Ytaibikajpacemaa.Tree
end
section
namespace Go.Proofs.Ytaibikajpacemaa.Tree
open Go.RowKit Go.Proofs.Ytaibikajpacemaa.X Go.Proofs.YtaibikajpacemaaW.PrintWords Go.Proofs.YtaibikajpacemaaW.PrintLast Go.Proofs.Ytaibikajpacemaa.Base
set_option linter.unusedVariables false
set_option linter.unusedSimpArgs false
/-- one path is ahead of another one -/
inductive Bf : List Int → List Int → Prop
  | nil (b : Int) (bs : List Int) : Bf [] (b :: bs)
  | lt {a b : Int} (xs ys : List Int) : a < b → Bf (a :: xs) (b :: ys)
  | cons (a : Int) {xs ys : List Int} : Bf xs ys → Bf (a :: xs) (a :: ys)
/-- a path that leads to a node -/
inductive IsPath : List S → List Int → S → Prop
  | here (pre : List S) (n : S) (suf : List S) : IsPath (pre ++ n :: suf) [(pre.length : Int)] n
  | deep (pre : List S) (n : S) (suf : List S) {p : List Int} {m : S} : n.f0 ≠ (⟨#[]⟩ : ByteArray) → IsPath n.f3 p m → IsPath (pre ++ n :: suf) ((pre.length : Int) :: p) m
theorem IsPath.tot {l : List S} {p : List Int} {m : S} (h : IsPath l p m) : p.length ≤ Tree.tot l ∧ p.length ≠ 0 := by
  induction h with
  | here pre n suf =>
    have := tot_app pre (n :: suf)
    rw [tot_cons] at this
    simp; omega
  | deep pre n suf h0 h1 ih =>
    have := tot_app pre (n :: suf)
    rw [tot_cons] at this
    simp; omega
theorem rd_at (q : List Int) (a : Int) (p : List Int) : rd (q ++ a :: p) (q.length : Int) = a := by simp [rd, List.getD]
theorem node_loop (ps : List Int) (hps : ps.length ≤ 1099511627776) : ∀ {l : List S} {p : List Int} {m : S}, IsPath l p m → ∀ (q : List Int) (n : S), ps = q ++ p → l.length ≤ 1099511627776 → Tree.tot l ≤ 1099511627776 → Ev (fun k => bobbinetkeep_nodeAt.l0 k l ps (q.length : Int) n.f0 n.f1 n.f2 n.f3) (m.f0, m.f1, m.f2, m.f3, true) := by
  intro l p m h
  induction h with
  | here pre n suf =>
    intro q x hq hl ht
    have hlen : ps.length = q.length + 1 := by rw [hq]; simp
    have hrd : rd ps (q.length : Int) = (pre.length : Int) := by rw [hq]; exact rd_at _ _ _
    have hw : wrap64 ((q.length : Int) + 1) = ((q.length + 1 : Nat) : Int) := wrap_succ (n := q.length + 1) (by omega) (by omega)
    have hll : (pre ++ n :: suf).length = pre.length + suf.length + 1 := by simp; omega
    have e : decide ((ps.length : Int) > 0) = true := decide_eq_true (by omega)
    refine Ev.succ ?_
    simp only [bobbinetkeep_nodeAt.l0, hrd, rd_mid, hw]
    refine Ev.ite_pos (by omega) (Ev.ite_pos (by omega) (Ev.ite_neg (by omega) (Ev.ite_neg (by omega) (Ev.ite_pos (by omega) (Ev.ite_pos (by omega) (Ev.succ ?_))))))
    simp only [bobbinetkeep_nodeAt.l0, e]
    exact Ev.ite_neg (by omega) (Ev.now _)
  | @deep pre n suf p m h0 h1 ih =>
    intro q x hq hl ht
    have htt := tot_app pre (n :: suf)
    rw [tot_cons] at htt
    have hlen : ps.length = q.length + p.length + 1 := by rw [hq]; simp; omega
    have hrd : rd ps (q.length : Int) = (pre.length : Int) := by rw [hq]; exact rd_at _ _ _
    have hw : wrap64 ((q.length : Int) + 1) = ((q ++ [(pre.length : Int)]).length : Int) := by rw [wrap_succ (n := q.length + 1) (by omega) (by omega)]; simp
    have hll : (pre ++ n :: suf).length = pre.length + suf.length + 1 := by simp; omega
    have hnl := tot_len n.f3
    refine Ev.succ ?_
    simp only [bobbinetkeep_nodeAt.l0, hrd, rd_mid, hw]
    exact Ev.ite_pos (by omega) (Ev.ite_pos (by omega) (Ev.ite_neg (by omega) (Ev.ite_neg (by omega) (Ev.ite_pos (by omega) (Ev.ite_pos (by omega) (ih (q ++ [(pre.length : Int)]) n (by rw [hq]; simp) (by omega) (by omega)))))))
theorem nodeAt_f {l : List S} {p : List Int} {m : S} (h : IsPath l p m) (ht : Tree.tot l ≤ 1099511627776) : Ev (fun k => bobbinetkeep_nodeAt.f k l p) (m.f0, m.f1, m.f2, m.f3, true) := by
  have := h.tot
  have hl := tot_len l
  simp only [bobbinetkeep_nodeAt.f]
  exact node_loop p (by omega) h [] ⟨(⟨#[]⟩ : ByteArray), [], (⟨#[]⟩ : ByteArray), []⟩ rfl (by omega) ht
theorem before_loop (x y : List Int) (hx : x.length ≤ 1099511627776) : ∀ {a b : List Int}, Bf a b → ∀ q : List Int, x = q ++ a → y = q ++ b → Ev (fun k => bobbinetkeep_beforePath.l0 k x y (q.length : Int)) true := by
  intro a b h
  induction h with
  | nil c bs =>
    intro q hx' hy
    have h1 : x.length = q.length := by rw [hx']; simp
    have h2 : y.length = q.length + bs.length + 1 := by rw [hy]; simp; omega
    refine Ev.succ ?_
    simp only [bobbinetkeep_beforePath.l0]
    refine Ev.ite_neg (by omega) (Ev.succ ?_)
    simp only [bobbinetkeep_beforePath.j1]
    have e : decide ((x.length : Int) < (y.length : Int)) = true := decide_eq_true (by omega)
    rw [e]
    exact Ev.ite_neg (by simp) (Ev.now _)
  | @lt c d xs bs hcd =>
    intro q hx' hy
    have h1 : x.length = q.length + xs.length + 1 := by rw [hx']; simp; omega
    have h2 : y.length = q.length + bs.length + 1 := by rw [hy]; simp; omega
    have hr1 : rd x (q.length : Int) = c := by rw [hx']; exact rd_at _ _ _
    have hr2 : rd y (q.length : Int) = d := by rw [hy]; exact rd_at _ _ _
    have e : decide ((q.length : Int) < (y.length : Int)) = true := decide_eq_true (by omega)
    have e2 : decide (c < d) = true := decide_eq_true hcd
    refine Ev.succ ?_
    simp only [bobbinetkeep_beforePath.l0, e]
    refine Ev.ite_pos (by omega) (Ev.succ ?_)
    simp only [bobbinetkeep_beforePath.j1, hr1, hr2, e2]
    exact Ev.ite_pos (by simp) (Ev.ite_pos (by omega) (Ev.ite_pos (by omega) (Ev.ite_pos (by omega) (Ev.ite_neg (by omega) (Ev.now _)))))
  | @cons c xs bs h ih =>
    intro q hx' hy
    have h1 : x.length = q.length + xs.length + 1 := by rw [hx']; simp; omega
    have h2 : y.length = q.length + bs.length + 1 := by rw [hy]; simp; omega
    have hr1 : rd x (q.length : Int) = c := by rw [hx']; exact rd_at _ _ _
    have hr2 : rd y (q.length : Int) = c := by rw [hy]; exact rd_at _ _ _
    have e : decide ((q.length : Int) < (y.length : Int)) = true := decide_eq_true (by omega)
    have hw : wrap64 ((q.length : Int) + 1) = ((q ++ [c]).length : Int) := by rw [wrap_succ (n := q.length + 1) (by omega) (by omega)]; simp
    refine Ev.succ ?_
    simp only [bobbinetkeep_beforePath.l0, e]
    refine Ev.ite_pos (by omega) (Ev.succ ?_)
    simp only [bobbinetkeep_beforePath.j1, hr1, hr2, hw]
    exact Ev.ite_pos (by simp) (Ev.ite_pos (by omega) (Ev.ite_pos (by omega) (Ev.ite_pos (by omega) (Ev.ite_pos (by first | trivial | rfl) (ih (q ++ [c]) (by rw [hx']; simp) (by rw [hy]; simp))))))
theorem before_f {a b : List Int} (h : Bf a b) (ha : a.length ≤ 1099511627776) : Ev (fun k => bobbinetkeep_beforePath.f k a b) true := by
  simp only [bobbinetkeep_beforePath.f]
  exact before_loop a b ha h [] rfl rfl
end Go.Proofs.Ytaibikajpacemaa.Tree
end
section
namespace Go.Proofs.Ytaibikajpacemaa.Tree
open Go.RowKit Go.Proofs.Ytaibikajpacemaa.X Go.Proofs.YtaibikajpacemaaW.PrintWords Go.Proofs.YtaibikajpacemaaW.PrintLast Go.Proofs.Ytaibikajpacemaa.Base
set_option linter.unusedVariables false
set_option linter.unusedSimpArgs false
theorem found_sub (ps : List Pk) (p q : Pk) (h0 : 0 < ps.length) (hq : rd_T61 ps ((ps.length - 1 : Nat) : Int) = q) : ∀ (l : List S) (i : Nat) (path : List Int) (f : Bool) (r w : List Bool), (found ps l i path r w).Sublist (((ring p l i path f).filter (fun e => fitB q e.2.1)).map (·.1)) := by
  intro l
  induction l using ind with
  | h0 => intro i path f r w; rw [found_nil, ring_nil]; exact List.Sublist.refl _
  | h1 n l ih1 ih2 =>
    intro i path f r w
    by_cases h : n.f0.toList = ([] : List UInt8)
    · rw [found_text _ _ _ _ _ _ _ h, ring_text _ _ _ _ _ _ h]
      exact ih2 _ _ _ _ _
    · have e : (((ring p (n :: l) i path f).filter (fun e => fitB q e.2.1)).map (·.1)) = (if fitB q n = true then [path ++ [(i : Int)]] else []) ++ ((ring p n.f3 0 (path ++ [(i : Int)]) (f || fitB p n)).filter (fun e => fitB q e.2.1)).map (·.1) ++ ((ring p l (i + 1) path f).filter (fun e => fitB q e.2.1)).map (·.1) := by
        rw [ring_elem _ _ _ _ _ _ h]
        cases hq2 : fitB q n <;> simp [List.filter_cons, hq2]
      rw [found_elem _ _ _ _ _ _ _ h, e]
      refine List.Sublist.append (List.Sublist.append ?_ (ih1 _ _ _ _ _)) (ih2 _ _ _ _ _)
      by_cases he : (pick_Find.ends ps n r w).getD (ps.length - 1) false = true
      · have h3 := pick_Find.ends_get ps n r w (ps.length - 1) (by omega) q hq
        rw [he] at h3
        have h4 : fitB q n = true := by have h5 := h3.symm; rw [Bool.and_eq_true] at h5; exact h5.2
        rw [if_pos he, if_pos h4]
        exact List.Sublist.refl _
      · rw [if_neg he]
        exact List.nil_sublist _
theorem ring_is (p : Pk) : ∀ (suf pre : List S) (path : List Int) (f : Bool), ∀ e ∈ ring p suf pre.length path f, ∃ s, e.1 = path ++ s ∧ IsPath (pre ++ suf) s e.2.1 ∧ e.2.1.f0 ≠ nil := by
  intro suf
  induction suf using ind with
  | h0 => intro pre path f e he; rw [ring_nil] at he; cases he
  | h1 n l ih1 ih2 =>
    intro pre path f e he
    have hrest : ∀ e ∈ ring p l (pre.length + 1) path f, ∃ s, e.1 = path ++ s ∧ IsPath (pre ++ n :: l) s e.2.1 ∧ e.2.1.f0 ≠ nil := by
      intro e he
      have := ih2 (pre ++ [n]) path f e (by simpa using he)
      simpa using this
    by_cases h : n.f0.toList = ([] : List UInt8)
    · rw [ring_text _ _ _ _ _ _ h] at he
      exact hrest e he
    · have hn : n.f0 ≠ nil := fun h2 => h (toList_nil.2 h2)
      rw [ring_elem _ _ _ _ _ _ h, List.mem_cons, List.mem_append] at he
      rcases he with rfl | he | he
      · exact ⟨[(pre.length : Int)], rfl, .here pre n l, hn⟩
      · obtain ⟨s, h1, h2, h3⟩ := ih1 [] (path ++ [(pre.length : Int)]) (f || fitB p n) e he
        exact ⟨(pre.length : Int) :: s, by rw [h1]; simp, .deep pre n l hn h2, h3⟩
      · exact hrest e he
theorem Bf.pre {a b : List Int} (h : Bf a b) : ∀ c : List Int, Bf (c ++ a) (c ++ b)
  | [] => h
  | x :: c => .cons x (Bf.pre h c)
theorem ring_order (p : Pk) : ∀ (l : List S) (i : Nat) (path : List Int) (f : Bool), ((ring p l i path f).map (·.1)).Pairwise Bf := by
  intro l
  induction l using ind with
  | h0 => intro i path f; rw [ring_nil]; exact .nil
  | h1 n l ih1 ih2 =>
    intro i path f
    by_cases h : n.f0.toList = ([] : List UInt8)
    · rw [ring_text _ _ _ _ _ _ h]
      exact ih2 _ _ _
    · have hsub := ring_path p n.f3 0 (path ++ [(i : Int)]) (f || fitB p n)
      have hrest := ring_path p l (i + 1) path f
      rw [ring_elem _ _ _ _ _ _ h, List.map_cons, List.map_append, List.pairwise_cons, List.pairwise_append]
      refine ⟨fun y hy => ?_, ih1 _ _ _, ih2 _ _ _, fun x hx y hy => ?_⟩
      · rcases List.mem_append.1 hy with hy | hy
        · obtain ⟨e, he, rfl⟩ := List.mem_map.1 hy
          obtain ⟨j, s, _, h2⟩ := hsub e he
          rw [h2]
          have := Bf.pre (.nil (j : Int) s) (path ++ [(i : Int)])
          rwa [List.append_nil] at this
        · obtain ⟨e, he, rfl⟩ := List.mem_map.1 hy
          obtain ⟨j, s, hj, h2⟩ := hrest e he
          rw [h2]
          exact Bf.pre (.lt [] s (by omega)) path
      · obtain ⟨e, he, rfl⟩ := List.mem_map.1 hx
        obtain ⟨e', he', rfl⟩ := List.mem_map.1 hy
        obtain ⟨j, s, _, h2⟩ := hsub e he
        obtain ⟨j', s', hj, h3⟩ := hrest e' he'
        rw [h2, h3, List.append_assoc]
        exact Bf.pre (.lt _ s' (by omega)) path
/-- what a round of the law needs -/
theorem last_loop (t : List S) (x y : List (List Int)) (f0 f1 : ByteArray) (f2 : Bool) (hx : x.length ≤ 1000000) (hy : y.length ≤ 1000000) (hyl : ∀ q ∈ y, q.length ≤ 1000010) (ht : tot t ≤ 700000) (hsub : x.Sublist y) (hord : y.Pairwise Bf)
    (hat : ∀ q ∈ y, ∃ m, IsPath t q m ∧ m.f0 ≠ nil ∧ (f0 = nil ∨ m.f0 = f0)) : ∀ (suf pre : List (List Int)), x = pre ++ suf → Ev (fun k => bobbinetkeep_PickLast.l0 k t x y (pre.length : Int) f0 f1 f2) true
  | [], pre, e => by
    have h1 : x.length = pre.length := by rw [e]; simp
    refine Ev.succ ?_
    simp only [bobbinetkeep_PickLast.l0]
    exact Ev.ite_neg (by omega) (Ev.now _)
  | q :: suf, pre, e => by
    have h1 : x.length = pre.length + suf.length + 1 := by rw [e]; simp; omega
    have hr : rd_L7 x (pre.length : Int) = q := by rw [e]; exact rdl_at _ _ _
    have ih := last_loop t x y f0 f1 f2 hx hy hyl ht hsub hord hat suf (pre ++ [q]) (by rw [e]; simp)
    have hqy : q ∈ y := hsub.mem (by rw [e]; simp)
    obtain ⟨m, hm, hm0, hmf⟩ := hat q hqy
    have hn := nodeAt_f hm (by omega)
    have hh := has_ev y q (by omega) (fun a ha => by have := hyl a ha; omega)
    rw [decide_eq_true hqy] at hh
    have hw : wrap64 ((pre.length : Int) + 1) = ((pre ++ [q]).length : Int) := (wrap_succ (n := x.length) (by omega) (by omega)).trans (congrArg _ (by simp))
    have hj2 : Ev (fun k => bobbinetkeep_PickLast.j2 k t x y (pre.length : Int) false f0 f1 f2) true := by
      refine Ev.succ ?_
      simp only [bobbinetkeep_PickLast.j2]
      rw [hw]
      clear hw
      refine Ev.ite_neg (by simp) ?_
      rcases List.eq_nil_or_concat pre with h4 | ⟨init, a, h4⟩
      · subst h4
        exact Ev.ite_neg (by simp) ih
      · have h4 : pre = init ++ [a] := by simpa using h4
        subst h4
        have e2 : x = init ++ a :: (q :: suf) := by rw [e]; simp
        have hr2 : rd_L7 x (init.length : Int) = a := by rw [e2]; exact rdl_at _ _ _
        have hl : ((init ++ [a]).length : Int) = (init.length : Int) + 1 := by simp
        have hx2 := hord.sublist hsub
        rw [e2, List.pairwise_append] at hx2
        have hbf : Bf a q := (List.pairwise_cons.1 hx2.2.1).1 q (by simp)
        have hal := hyl a (hsub.mem (by rw [e2]; simp))
        have hb := before_f hbf (by omega)
        have hw3 : wrap64 (((init ++ [a]).length : Int) - 1) = (init.length : Int) := by rw [hl, wrap_id (by omega) (by omega)]; omega
        rw [hw3, hr2, hr]
        clear hw3
        refine Ev.ite_pos (by omega) (Ev.ite_pos (by omega) (Ev.ite_pos (by omega) (Ev.ite_pos (by omega) (Ev.ite_pos (by omega) (Ev.bnd hb (Ev.ite_pos rfl ih))))))
    clear hw
    refine Ev.succ ?_
    simp only [bobbinetkeep_PickLast.l0, hr]
    refine Ev.ite_pos (by omega) (Ev.ite_pos (by omega) (Ev.bnd hn (Ev.ite_pos rfl (Ev.ite_neg (fun h => hm0 (toList_nil.1 h)) ?_))))
    by_cases hf : f0.toList = ([] : List UInt8)
    · exact Ev.ite_pos hf (Ev.bnd hh hj2)
    · refine Ev.ite_neg hf (Ev.ite_pos ?_ (Ev.bnd hh hj2))
      rcases hmf with h5 | h5
      · exact absurd (toList_nil.2 h5) hf
      · rw [h5]
end Go.Proofs.Ytaibikajpacemaa.Tree
namespace Go.Proofs.Ytaibikajpacemaa.Pure
open Go.RowKit Go.Proofs.Ytaibikajpacemaa.X Go.Proofs.YtaibikajpacemaaW.PrintWords Go.Proofs.YtaibikajpacemaaW.PrintLast Go.Proofs.Ytaibikajpacemaa.Base Go.Proofs.Ytaibikajpacemaa.Tree
theorem PickLast : bobbinetkeep_PickLast.Pure := by
  intro l0 l1 _ h0 _ _ h1 _
  obtain ⟨t, rest0, e1, hg⟩ := nodes_f l1 (by omega) 5 6 (by omega) (by omega)
  have hlen := hg.len
  have htot : tot t ≤ 700000 := by
    have h2 := hg.tot
    have h4 : t.length * cap 5 ≤ 6 * 100000 := Nat.mul_le_mul hlen (by decide)
    omega
  obtain ⟨ps, hps⟩ : ∃ ps, bobbinetkeep_Picks.pre l0 (min l0.length (4 : Int).toNat) = ps := ⟨_, rfl⟩
  have e0 : bobbinetkeep_Picks.f l0 4 = some ps := by rw [← hps]; exact if_pos (by omega)
  obtain ⟨n0, n1, hall⟩ := pre_ok l0 (min l0.length (4 : Int).toNat) (by omega)
  rw [hps] at n0 n1 hall
  have hw : wrap64 ((ps.length : Int) - 1) = ((ps.length - 1 : Nat) : Int) := by rw [wrap_id (by omega) (by omega)]; omega
  obtain ⟨q, hq⟩ : ∃ q, rd_T61 ps ((ps.length - 1 : Nat) : Int) = q := ⟨_, rfl⟩
  have okq : PkOk q := by
    refine hall q ?_
    rw [← hq]
    have : ps.length - 1 < ps.length := by omega
    simp [rd_T61, List.getD, this]
  have p1 := paths_ev ps (ok_of ps n0 n1 hall) t (by omega)
  have p2 := paths_ev [(⟨q.f0, q.f1, true⟩ : Pk)] (ok_of [(⟨q.f0, q.f1, true⟩ : Pk)] (by simp) (by simp) (by intro x hx; simp at hx; subst hx; exact okq)) t (by omega)
  have f1 := found_len ps t 0 [] (rep ps) (rep ps)
  have f2 := found_len [(⟨q.f0, q.f1, true⟩ : Pk)] t 0 [] (rep [(⟨q.f0, q.f1, true⟩ : Pk)]) (rep [(⟨q.f0, q.f1, true⟩ : Pk)])
  have g2 := found_long [(⟨q.f0, q.f1, true⟩ : Pk)] t 0 [] (rep [(⟨q.f0, q.f1, true⟩ : Pk)]) (rep [(⟨q.f0, q.f1, true⟩ : Pk)])
  have hy := found_ring1 q (⟨q.f0, q.f1, true⟩ : Pk) t 0 [] false (rep [(⟨q.f0, q.f1, true⟩ : Pk)]) (rep [(⟨q.f0, q.f1, true⟩ : Pk)])
  have hfe : (fun e : List Int × S × Bool => fitB (⟨q.f0, q.f1, true⟩ : Pk) e.2.1) = (fun e => fitB q e.2.1) := funext fun e => fit_deep q e.2.1 true
  rw [hfe] at hy
  have hsub := found_sub ps q q n0 hq t 0 [] false (rep ps) (rep ps)
  rw [← hy] at hsub
  have hord : (found [(⟨q.f0, q.f1, true⟩ : Pk)] t 0 [] (rep [(⟨q.f0, q.f1, true⟩ : Pk)]) (rep [(⟨q.f0, q.f1, true⟩ : Pk)])).Pairwise Bf := by
    rw [hy]
    exact (ring_order q t 0 [] false).sublist (List.Sublist.map _ List.filter_sublist)
  have hat : ∀ a ∈ found [(⟨q.f0, q.f1, true⟩ : Pk)] t 0 [] (rep [(⟨q.f0, q.f1, true⟩ : Pk)]) (rep [(⟨q.f0, q.f1, true⟩ : Pk)]), ∃ m, IsPath t a m ∧ m.f0 ≠ Tree.nil ∧ (q.f0 = Tree.nil ∨ m.f0 = q.f0) := by
    intro a ha
    rw [hy] at ha
    obtain ⟨e, he, rfl⟩ := List.mem_map.1 ha
    obtain ⟨he1, he2⟩ := List.mem_filter.1 he
    obtain ⟨s, h2, h3, h4⟩ := ring_is q t [] [] false e he1
    rw [List.nil_append] at h2
    refine ⟨e.2.1, by rw [h2]; exact h3, h4, ?_⟩
    rw [fit_eq] at he2
    simp only [Bool.and_eq_true, Bool.or_eq_true, decide_eq_true_eq] at he2
    rcases he2.1.2 with h5 | h5
    · exact .inl h5
    · exact .inr h5.symm
  have k0 := last_loop t _ _ q.f0 q.f1 true (by omega) (by omega) (fun a ha => by have := g2 a ha; simp at this; omega) htot hsub hord hat _ [] rfl
  have key : Ev (fun k => bobbinetkeep_PickLast.f k l0 l1) true := by
    simp only [bobbinetkeep_PickLast.f]
    refine Ev.bnd0 e0 (Ev.bnd e1 (Ev.bnd p1 ?_))
    simp only [hw, hq]
    clear hw
    refine Ev.ite_pos (by omega) (Ev.ite_pos (by omega) (Ev.bnd p2 (Ev.ite_pos (by first | trivial | rfl) (Ev.succ ?_))))
    simp only [bobbinetkeep_PickLast.j0]
    exact Ev.ite_neg (by simp) k0
  exact key.rounds
end Go.Proofs.Ytaibikajpacemaa.Pure
end
