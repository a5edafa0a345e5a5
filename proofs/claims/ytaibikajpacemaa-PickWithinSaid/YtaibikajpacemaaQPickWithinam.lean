/- Parts of the proof of PickWithin that are needed, put together by pack.py. -/
import Derived.Test.YtaibikajpacemaaQPickWithinaf
import Derived.Test.YtaibikajpacemaaQPickWithinag
import Derived.Test.YtaibikajpacemaaQPickWithinah
import Derived.Test.YtaibikajpacemaaQPickWithinal
import Derived.Test.YtaibikajpacemaaQPickWithinaa
section
namespace Go.Proofs.Ytaibikajpacemaa.X
open Go.RowKit Go.Proofs.YtaibikajpacemaaW.PrintWords Go.Proofs.YtaibikajpacemaaW.PrintLast Go.Proofs.YtaibikajpacemaaW.PrintMore
attribute [local go_sem] max2_int min2_int max_two min_two max_three min_three max_four min_four   -- for this text's walks alone
set_option linter.unusedVariables false
set_option linter.unusedSimpArgs false
mutual
def bobbinetkeep_PickWithin.j0 : Nat → List (List Int) → List (List Int) → List (List Int) → Bool → Option (Bool)
 | 0, _, _, _, _ => none
 | k + 1, x11, x13, x15, x68 => if x68 = true then (none) else (bobbinetkeep_PickWithin.l0 k x11 x13 x15 0 0)
def bobbinetkeep_PickWithin.l0 : Nat → List (List Int) → List (List Int) → List (List Int) → Int → Int → Option (Bool)
 | 0, _, _, _, _, _ => none
 | k + 1, x11, x13, x15, x17, x18 => if x18 < (x13.length : Int) then (bobbinetkeep_PickWithin.l1 k x11 x13 x15 x17 x18 false 0) else (some (x17 == (x15.length : Int)))
def bobbinetkeep_PickWithin.l1 : Nat → List (List Int) → List (List Int) → List (List Int) → Int → Int → Bool → Int → Option (Bool)
 | 0, _, _, _, _, _, _, _ => none
 | k + 1, x11, x13, x15, x17, x18, x19, x20 => if x20 < (x11.length : Int) then (if x19 = true then (bobbinetkeep_PickWithin.l1 k x11 x13 x15 x17 x18 true (wrap64 (x20 + 1))) else (if 0 ≤ x20 then (if 0 ≤ x18 then (if x18 < (x13.length : Int) then (if ((rd_L7 x11 x20).length : Int) < ((rd_L7 x13 x18).length : Int) then (if 0 ≤ ((rd_L7 x11 x20).length : Int) then (if ((rd_L7 x11 x20).length : Int) ≤ ((rd_L7 x13 x18).length : Int) then ((bobbinetkeep_sameInts.f k ((rd_L7 x13 x18).take (((rd_L7 x11 x20).length : Int) : Int).toNat) (rd_L7 x11 x20)).bind fun t445 => (bobbinetkeep_PickWithin.l1 k x11 x13 x15 x17 x18 t445 (wrap64 (x20 + 1)))) else (none)) else (none)) else (bobbinetkeep_PickWithin.l1 k x11 x13 x15 x17 x18 false (wrap64 (x20 + 1)))) else (none)) else (none)) else (none))) else (if x19 = true then (if 0 ≤ x18 then (if x18 < (x13.length : Int) then ((bobbinetkeep_hasPath.f k x15 (rd_L7 x13 x18)).bind fun t447 => (if (x19 != t447) = true then (none) else (bobbinetkeep_PickWithin.l0 k x11 x13 x15 (wrap64 (x17 + 1)) (wrap64 (x18 + 1))))) else (none)) else (none)) else (if 0 ≤ x18 then (if x18 < (x13.length : Int) then ((bobbinetkeep_hasPath.f k x15 (rd_L7 x13 x18)).bind fun t449 => (if (x19 != t449) = true then (none) else (bobbinetkeep_PickWithin.l0 k x11 x13 x15 x17 (wrap64 (x18 + 1))))) else (none)) else (none)))
end
def bobbinetkeep_PickWithin.f (k : Nat) (l0 : List Int) (a1 : Int) (a2 : Int) : Option (Bool) := (bobbinetkeep_Nodes.f k l0 5 6).bind fun bt393 => ((bobbinetkeep_Picks.f (([a1] : List Int)) 1).bind fun t402 => (if 0 < (t402.length : Int) then ((bobbinetkeep_Picks.f (([a2] : List Int)) 1).bind fun t410 => (if 0 < (t410.length : Int) then ((bobbinetkeep_paths.f k (([(⟨(rd_T61 t402 0).f0, (rd_T61 t402 0).f1, (rd_T61 t402 0).f2⟩ : S61)] : List (S61))) bt393.1).bind fun bt418 => ((bobbinetkeep_paths.f k (([(⟨(rd_T61 t410 0).f0, (rd_T61 t410 0).f1, (rd_T61 t410 0).f2⟩ : S61)] : List (S61))) bt393.1).bind fun bt425 => ((bobbinetkeep_paths.f k (([(⟨(rd_T61 t402 0).f0, (rd_T61 t402 0).f1, (rd_T61 t402 0).f2⟩ : S61), (⟨(rd_T61 t410 0).f0, (rd_T61 t410 0).f1, true⟩ : S61)] : List (S61))) bt393.1).bind fun bt432 => (if bt418.2 = true then (if bt425.2 = true then (bobbinetkeep_PickWithin.j0 k bt418.1 bt425.1 bt432.1 (!bt432.2)) else (bobbinetkeep_PickWithin.j0 k bt418.1 bt425.1 bt432.1 true)) else (bobbinetkeep_PickWithin.j0 k bt418.1 bt425.1 bt432.1 true))))) else (none))) else (none)))
def bobbinetkeep_PickWithin.T18 : Bool × List (List Nat × List Nat) := (true, [([], []), ([0], [0]), ([1], [1]), ([1], [1]), ([2, 3, 1], [1, 2, 3]), ([4, 1], [1, 4]), ([5, 1], [1, 5]), ([1], [1]), ([1], [1]), ([7, 8, 1], [1, 7, 8]), ([9, 1], [1, 9]), ([10, 1], [1, 10]), ([6, 11, 1], [1, 6, 11]), ([12, 1, 1], [1, 12]), ([13], [13]), ([13], [13]), ([14, 15, 13], [13, 14, 15]), ([16, 13], [13, 16]), ([13], [13]), ([13], [13]), ([18, 19, 13], [13, 18, 19]), ([20, 13], [13, 20]), ([21, 13], [13, 21]), ([17, 22, 13], [13, 17, 22]), ([13], [13]), ([13], [13]), ([24, 25, 13], [13, 24, 25]), ([26, 13], [13, 26]), ([23, 27, 13, 13], [13, 23, 27]), ([13, 28, 1], [1, 13, 28]), ([1, 29], [1, 29]), ([30, 28, 0, 1, 2, 3, 4, 5, 6, 7, 8, 9, 10, 11, 12, 13, 14, 15, 16, 17, 18, 19, 20, 21, 22, 23, 24, 25, 26, 27, 28, 29, 30], [0, 30])])
def bobbinetkeep_PickWithin.B18 : List Nat := [0, 1, 3, 3, 15, 31, 63, 3, 3, 387, 899, 1923, 4095, 8191, 16383, 16383, 65535, 131071, 16383, 16383, 802815, 1851391, 3948543, 8388607, 16383, 16383, 50348031, 117456895, 268435455, 536870911, 1073741823, 2147483647]
theorem bobbinetkeep_PickWithin.tab18 : rtab .any (opsOf Try.f11 18) = bobbinetkeep_PickWithin.T18 := by kernel_rfl
theorem bobbinetkeep_PickWithin.bits18 : waitsOk bobbinetkeep_PickWithin.T18.2 bobbinetkeep_PickWithin.B18 = true := by kernel_rfl
set_option maxHeartbeats 8000000 in
set_option maxRecDepth 100000 in
theorem bobbinetkeep_PickWithin.calls (k : Nat) (A0 : Option Addr) (c0 : Nat) (l0 : List Int) (a1 : Int) (a2 : Int) (r : Bool) (w : World) (hr0 : Kd.C (Kd.int .i64) w A0 l0.length l0) (hc0 : l0.length ≤ c0) (h : bobbinetkeep_PickWithin.f k l0 a1 a2 = some r) :
  Calls Try.prog 11 #[.slice A0 l0.length c0, .int .i64 a1, .int .i64 a2] w fun e w' => e = .returned (.bool r) ∧ Below w.heap.size w w' := by
 have hu61 := Try.underlying61
 have HR0 := Aside0.mk hr0
 have HC0 := Aside0.mk hc0
 clear hr0 hc0
 have HB := Aside0.mk (Below.refl w.heap.size w)
 have H : ((bobbinetkeep_Nodes.f k l0 5 6).bind fun bt393 => ((bobbinetkeep_Picks.f (([a1] : List Int)) 1).bind fun t402 => (if 0 < (t402.length : Int) then ((bobbinetkeep_Picks.f (([a2] : List Int)) 1).bind fun t410 => (if 0 < (t410.length : Int) then ((bobbinetkeep_paths.f k (([(⟨(rd_T61 t402 0).f0, (rd_T61 t402 0).f1, (rd_T61 t402 0).f2⟩ : S61)] : List (S61))) bt393.1).bind fun bt418 => ((bobbinetkeep_paths.f k (([(⟨(rd_T61 t410 0).f0, (rd_T61 t410 0).f1, (rd_T61 t410 0).f2⟩ : S61)] : List (S61))) bt393.1).bind fun bt425 => ((bobbinetkeep_paths.f k (([(⟨(rd_T61 t402 0).f0, (rd_T61 t402 0).f1, (rd_T61 t402 0).f2⟩ : S61), (⟨(rd_T61 t410 0).f0, (rd_T61 t410 0).f1, true⟩ : S61)] : List (S61))) bt393.1).bind fun bt432 => (if bt418.2 = true then (if bt425.2 = true then (bobbinetkeep_PickWithin.j0 k bt418.1 bt425.1 bt432.1 (!bt432.2)) else (bobbinetkeep_PickWithin.j0 k bt418.1 bt425.1 bt432.1 true)) else (bobbinetkeep_PickWithin.j0 k bt418.1 bt425.1 bt432.1 true))))) else (none))) else (none)))) = some r := h
 clear h
 replace H := Option.bind_eq_some_iff.mp H
 obtain ⟨⟨t393, t396⟩, A40, H⟩ := H
 replace H : ((bobbinetkeep_Picks.f (([a1] : List Int)) 1).bind fun t402 => (if 0 < (t402.length : Int) then ((bobbinetkeep_Picks.f (([a2] : List Int)) 1).bind fun t410 => (if 0 < (t410.length : Int) then ((bobbinetkeep_paths.f k (([(⟨(rd_T61 t402 0).f0, (rd_T61 t402 0).f1, (rd_T61 t402 0).f2⟩ : S61)] : List (S61))) t393).bind fun bt418 => ((bobbinetkeep_paths.f k (([(⟨(rd_T61 t410 0).f0, (rd_T61 t410 0).f1, (rd_T61 t410 0).f2⟩ : S61)] : List (S61))) t393).bind fun bt425 => ((bobbinetkeep_paths.f k (([(⟨(rd_T61 t402 0).f0, (rd_T61 t402 0).f1, (rd_T61 t402 0).f2⟩ : S61), (⟨(rd_T61 t410 0).f0, (rd_T61 t410 0).f1, true⟩ : S61)] : List (S61))) t393).bind fun bt432 => (if bt418.2 = true then (if bt425.2 = true then (bobbinetkeep_PickWithin.j0 k bt418.1 bt425.1 bt432.1 (!bt432.2)) else (bobbinetkeep_PickWithin.j0 k bt418.1 bt425.1 bt432.1 true)) else (bobbinetkeep_PickWithin.j0 k bt418.1 bt425.1 bt432.1 true))))) else (none))) else (none))) = some r := H
 have A4 := Aside0.mk A40
 clear A40
 obtain ⟨y399, hy399⟩ : ∃ y_ : List Int, y_ = (([a1] : List Int)) := ⟨_, rfl⟩
 replace H : ((bobbinetkeep_Picks.f y399 1).bind fun t402 => (if 0 < (t402.length : Int) then ((bobbinetkeep_Picks.f (([a2] : List Int)) 1).bind fun t410 => (if 0 < (t410.length : Int) then ((bobbinetkeep_paths.f k (([(⟨(rd_T61 t402 0).f0, (rd_T61 t402 0).f1, (rd_T61 t402 0).f2⟩ : S61)] : List (S61))) t393).bind fun bt418 => ((bobbinetkeep_paths.f k (([(⟨(rd_T61 t410 0).f0, (rd_T61 t410 0).f1, (rd_T61 t410 0).f2⟩ : S61)] : List (S61))) t393).bind fun bt425 => ((bobbinetkeep_paths.f k (([(⟨(rd_T61 t402 0).f0, (rd_T61 t402 0).f1, (rd_T61 t402 0).f2⟩ : S61), (⟨(rd_T61 t410 0).f0, (rd_T61 t410 0).f1, true⟩ : S61)] : List (S61))) t393).bind fun bt432 => (if bt418.2 = true then (if bt425.2 = true then (bobbinetkeep_PickWithin.j0 k bt418.1 bt425.1 bt432.1 (!bt432.2)) else (bobbinetkeep_PickWithin.j0 k bt418.1 bt425.1 bt432.1 true)) else (bobbinetkeep_PickWithin.j0 k bt418.1 bt425.1 bt432.1 true))))) else (none))) else (none))) = some r := by first | (rw [hy399]; with_reducible exact H) | (have H2_ := (Option.bind_some _ _).symm.trans H; rw [hy399]; with_reducible exact H2_) | (have H2_ := (Option.bind_some _ _).symm.trans H; with_reducible exact H2_) | with_reducible exact H | (rw [hy399]; exact H) | exact H
 have Ny399 := Aside0.mk hy399
 clear hy399
 replace H := Option.bind_eq_some_iff.mp H
 obtain ⟨t402, A50, H⟩ := H
 replace H : (if 0 < (t402.length : Int) then ((bobbinetkeep_Picks.f (([a2] : List Int)) 1).bind fun t410 => (if 0 < (t410.length : Int) then ((bobbinetkeep_paths.f k (([(⟨(rd_T61 t402 0).f0, (rd_T61 t402 0).f1, (rd_T61 t402 0).f2⟩ : S61)] : List (S61))) t393).bind fun bt418 => ((bobbinetkeep_paths.f k (([(⟨(rd_T61 t410 0).f0, (rd_T61 t410 0).f1, (rd_T61 t410 0).f2⟩ : S61)] : List (S61))) t393).bind fun bt425 => ((bobbinetkeep_paths.f k (([(⟨(rd_T61 t402 0).f0, (rd_T61 t402 0).f1, (rd_T61 t402 0).f2⟩ : S61), (⟨(rd_T61 t410 0).f0, (rd_T61 t410 0).f1, true⟩ : S61)] : List (S61))) t393).bind fun bt432 => (if bt418.2 = true then (if bt425.2 = true then (bobbinetkeep_PickWithin.j0 k bt418.1 bt425.1 bt432.1 (!bt432.2)) else (bobbinetkeep_PickWithin.j0 k bt418.1 bt425.1 bt432.1 true)) else (bobbinetkeep_PickWithin.j0 k bt418.1 bt425.1 bt432.1 true))))) else (none))) else (none)) = some r := H
 have A5 := Aside0.mk A50
 clear A50
 by_cases c6 : 0 < (t402.length : Int)
 ·
  rw [if_pos c6] at H
  have c6b0 : decide (0 < (t402.length : Int)) = true := decide_eq_true c6
  have c6b1 : decide (0 < t402.length) = true := decide_eq_true (by omega)
  clear c6
  obtain ⟨y407, hy407⟩ : ∃ y_ : List Int, y_ = (([a2] : List Int)) := ⟨_, rfl⟩
  replace H : ((bobbinetkeep_Picks.f y407 1).bind fun t410 => (if 0 < (t410.length : Int) then ((bobbinetkeep_paths.f k (([(⟨(rd_T61 t402 0).f0, (rd_T61 t402 0).f1, (rd_T61 t402 0).f2⟩ : S61)] : List (S61))) t393).bind fun bt418 => ((bobbinetkeep_paths.f k (([(⟨(rd_T61 t410 0).f0, (rd_T61 t410 0).f1, (rd_T61 t410 0).f2⟩ : S61)] : List (S61))) t393).bind fun bt425 => ((bobbinetkeep_paths.f k (([(⟨(rd_T61 t402 0).f0, (rd_T61 t402 0).f1, (rd_T61 t402 0).f2⟩ : S61), (⟨(rd_T61 t410 0).f0, (rd_T61 t410 0).f1, true⟩ : S61)] : List (S61))) t393).bind fun bt432 => (if bt418.2 = true then (if bt425.2 = true then (bobbinetkeep_PickWithin.j0 k bt418.1 bt425.1 bt432.1 (!bt432.2)) else (bobbinetkeep_PickWithin.j0 k bt418.1 bt425.1 bt432.1 true)) else (bobbinetkeep_PickWithin.j0 k bt418.1 bt425.1 bt432.1 true))))) else (none))) = some r := by first | (rw [hy407]; with_reducible exact H) | (have H2_ := (Option.bind_some _ _).symm.trans H; rw [hy407]; with_reducible exact H2_) | (have H2_ := (Option.bind_some _ _).symm.trans H; with_reducible exact H2_) | with_reducible exact H | (rw [hy407]; exact H) | exact H
  have Ny407 := Aside0.mk hy407
  clear hy407
  replace H := Option.bind_eq_some_iff.mp H
  obtain ⟨t410, A70, H⟩ := H
  replace H : (if 0 < (t410.length : Int) then ((bobbinetkeep_paths.f k (([(⟨(rd_T61 t402 0).f0, (rd_T61 t402 0).f1, (rd_T61 t402 0).f2⟩ : S61)] : List (S61))) t393).bind fun bt418 => ((bobbinetkeep_paths.f k (([(⟨(rd_T61 t410 0).f0, (rd_T61 t410 0).f1, (rd_T61 t410 0).f2⟩ : S61)] : List (S61))) t393).bind fun bt425 => ((bobbinetkeep_paths.f k (([(⟨(rd_T61 t402 0).f0, (rd_T61 t402 0).f1, (rd_T61 t402 0).f2⟩ : S61), (⟨(rd_T61 t410 0).f0, (rd_T61 t410 0).f1, true⟩ : S61)] : List (S61))) t393).bind fun bt432 => (if bt418.2 = true then (if bt425.2 = true then (bobbinetkeep_PickWithin.j0 k bt418.1 bt425.1 bt432.1 (!bt432.2)) else (bobbinetkeep_PickWithin.j0 k bt418.1 bt425.1 bt432.1 true)) else (bobbinetkeep_PickWithin.j0 k bt418.1 bt425.1 bt432.1 true))))) else (none)) = some r := H
  have A7 := Aside0.mk A70
  clear A70
  by_cases c8 : 0 < (t410.length : Int)
  ·
   rw [if_pos c8] at H
   have c8b0 : decide (0 < (t410.length : Int)) = true := decide_eq_true c8
   have c8b1 : decide (0 < t410.length) = true := decide_eq_true (by omega)
   clear c8
   obtain ⟨y415, hy415⟩ : ∃ y_ : List (S61), y_ = (([(⟨(rd_T61 t402 0).f0, (rd_T61 t402 0).f1, (rd_T61 t402 0).f2⟩ : S61)] : List (S61))) := ⟨_, rfl⟩
   replace H : ((bobbinetkeep_paths.f k y415 t393).bind fun bt418 => ((bobbinetkeep_paths.f k (([(⟨(rd_T61 t410 0).f0, (rd_T61 t410 0).f1, (rd_T61 t410 0).f2⟩ : S61)] : List (S61))) t393).bind fun bt425 => ((bobbinetkeep_paths.f k (([(⟨(rd_T61 t402 0).f0, (rd_T61 t402 0).f1, (rd_T61 t402 0).f2⟩ : S61), (⟨(rd_T61 t410 0).f0, (rd_T61 t410 0).f1, true⟩ : S61)] : List (S61))) t393).bind fun bt432 => (if bt418.2 = true then (if bt425.2 = true then (bobbinetkeep_PickWithin.j0 k bt418.1 bt425.1 bt432.1 (!bt432.2)) else (bobbinetkeep_PickWithin.j0 k bt418.1 bt425.1 bt432.1 true)) else (bobbinetkeep_PickWithin.j0 k bt418.1 bt425.1 bt432.1 true))))) = some r := by first | (rw [hy415]; with_reducible exact H) | (have H2_ := (Option.bind_some _ _).symm.trans H; rw [hy415]; with_reducible exact H2_) | (have H2_ := (Option.bind_some _ _).symm.trans H; with_reducible exact H2_) | with_reducible exact H | (rw [hy415]; exact H) | exact H
   have Ny415 := Aside0.mk hy415
   clear hy415
   replace H := Option.bind_eq_some_iff.mp H
   obtain ⟨⟨t418, t419⟩, A90, H⟩ := H
   replace H : ((bobbinetkeep_paths.f k (([(⟨(rd_T61 t410 0).f0, (rd_T61 t410 0).f1, (rd_T61 t410 0).f2⟩ : S61)] : List (S61))) t393).bind fun bt425 => ((bobbinetkeep_paths.f k (([(⟨(rd_T61 t402 0).f0, (rd_T61 t402 0).f1, (rd_T61 t402 0).f2⟩ : S61), (⟨(rd_T61 t410 0).f0, (rd_T61 t410 0).f1, true⟩ : S61)] : List (S61))) t393).bind fun bt432 => (if t419 = true then (if bt425.2 = true then (bobbinetkeep_PickWithin.j0 k t418 bt425.1 bt432.1 (!bt432.2)) else (bobbinetkeep_PickWithin.j0 k t418 bt425.1 bt432.1 true)) else (bobbinetkeep_PickWithin.j0 k t418 bt425.1 bt432.1 true)))) = some r := H
   have A9 := Aside0.mk A90
   clear A90
   obtain ⟨y422, hy422⟩ : ∃ y_ : List (S61), y_ = (([(⟨(rd_T61 t410 0).f0, (rd_T61 t410 0).f1, (rd_T61 t410 0).f2⟩ : S61)] : List (S61))) := ⟨_, rfl⟩
   replace H : ((bobbinetkeep_paths.f k y422 t393).bind fun bt425 => ((bobbinetkeep_paths.f k (([(⟨(rd_T61 t402 0).f0, (rd_T61 t402 0).f1, (rd_T61 t402 0).f2⟩ : S61), (⟨(rd_T61 t410 0).f0, (rd_T61 t410 0).f1, true⟩ : S61)] : List (S61))) t393).bind fun bt432 => (if t419 = true then (if bt425.2 = true then (bobbinetkeep_PickWithin.j0 k t418 bt425.1 bt432.1 (!bt432.2)) else (bobbinetkeep_PickWithin.j0 k t418 bt425.1 bt432.1 true)) else (bobbinetkeep_PickWithin.j0 k t418 bt425.1 bt432.1 true)))) = some r := by first | (rw [hy422]; with_reducible exact H) | (have H2_ := (Option.bind_some _ _).symm.trans H; rw [hy422]; with_reducible exact H2_) | (have H2_ := (Option.bind_some _ _).symm.trans H; with_reducible exact H2_) | with_reducible exact H | (rw [hy422]; exact H) | exact H
   have Ny422 := Aside0.mk hy422
   clear hy422
   replace H := Option.bind_eq_some_iff.mp H
   obtain ⟨⟨t425, t426⟩, A100, H⟩ := H
   replace H : ((bobbinetkeep_paths.f k (([(⟨(rd_T61 t402 0).f0, (rd_T61 t402 0).f1, (rd_T61 t402 0).f2⟩ : S61), (⟨(rd_T61 t410 0).f0, (rd_T61 t410 0).f1, true⟩ : S61)] : List (S61))) t393).bind fun bt432 => (if t419 = true then (if t426 = true then (bobbinetkeep_PickWithin.j0 k t418 t425 bt432.1 (!bt432.2)) else (bobbinetkeep_PickWithin.j0 k t418 t425 bt432.1 true)) else (bobbinetkeep_PickWithin.j0 k t418 t425 bt432.1 true))) = some r := H
   have A10 := Aside0.mk A100
   clear A100
   obtain ⟨y429, hy429⟩ : ∃ y_ : List (S61), y_ = (([(⟨(rd_T61 t402 0).f0, (rd_T61 t402 0).f1, (rd_T61 t402 0).f2⟩ : S61), (⟨(rd_T61 t410 0).f0, (rd_T61 t410 0).f1, true⟩ : S61)] : List (S61))) := ⟨_, rfl⟩
   replace H : ((bobbinetkeep_paths.f k y429 t393).bind fun bt432 => (if t419 = true then (if t426 = true then (bobbinetkeep_PickWithin.j0 k t418 t425 bt432.1 (!bt432.2)) else (bobbinetkeep_PickWithin.j0 k t418 t425 bt432.1 true)) else (bobbinetkeep_PickWithin.j0 k t418 t425 bt432.1 true))) = some r := by first | (rw [hy429]; with_reducible exact H) | (have H2_ := (Option.bind_some _ _).symm.trans H; rw [hy429]; with_reducible exact H2_) | (have H2_ := (Option.bind_some _ _).symm.trans H; with_reducible exact H2_) | with_reducible exact H | (rw [hy429]; exact H) | exact H
   have Ny429 := Aside0.mk hy429
   clear hy429
   replace H := Option.bind_eq_some_iff.mp H
   obtain ⟨⟨t432, t433⟩, A110, H⟩ := H
   replace H : (if t419 = true then (if t426 = true then (bobbinetkeep_PickWithin.j0 k t418 t425 t432 (!t433)) else (bobbinetkeep_PickWithin.j0 k t418 t425 t432 true)) else (bobbinetkeep_PickWithin.j0 k t418 t425 t432 true)) = some r := H
   have A11 := Aside0.mk A110
   clear A110
   have HC12 := Aside0.mk H
   clear H
   go_enter Try.func11, Try.ntmps11
   go_upto_region 8 with (first | ((with_reducible refine gate_callee (f := 12) rfl ?_); refine goesL_ (some 23) rfl rfl Try.func12 (by kernel_rfl) rfl #[.slice A0 l0.length c0, .int .i64 5, .int .i64 6] rfl (by (try simp only [List.map_toArray, List.map_cons, List.map_nil]); first | done | rfl | (simp only [List.length_drop, List.length_take]; rfl)) ?_; (with_reducible refine (bobbinetkeep_Nodes.calls k (fun k_ => k_ < w.heap.size) _ _ l0 5 6 t393 t396 _ ?side1 A4.out).mono ?_); (case side1 => exact Kd.V_mk HC0.out (Kd.F_below (Kd.C_F (Kd.heap_int .i64) HR0.out) (by repeat (first | (with_reducible first | exact HB.out | apply below_alloc | apply pw_below_drewN | apply below_drew1) | exact HB.out)))); rintro e w13 ⟨v394, v397, rfl, ho0, ho1, hb⟩; refine ⟨_, rfl, ?_⟩; have n0_ := Aside0.mk (Kd.R_lower (Kd.R_mono (ok' := fun k_ => True) ho0 (fun _ hk_ => trivial)) (below_size (by repeat (first | (with_reducible first | exact HB.out | apply below_alloc | apply pw_below_drewN | apply below_drew1) | exact HB.out)))); have n1_ := Aside0.mk (Kd.V_lower (Kd.V_mono (ok' := fun k_ => some k_ ≠ (v394 : Value).ownBlock) ho1 (fun k_ hk_ => hk_.2)) (below_size (by repeat (first | (with_reducible first | exact HB.out | apply below_alloc | apply pw_below_drewN | apply below_drew1) | exact HB.out)))); have n2_ := Aside0.mk (below_step (by repeat (first | (with_reducible first | exact HB.out | apply below_alloc | apply pw_below_drewN | apply below_drew1) | exact HB.out)) hb); clear HB; have HO395 := n0_; have HO398 := n1_; have HB := n2_; clear n0_ n1_ n2_; (try clear hb); (try clear hb2); (try clear hk); (try clear hi); (try clear ho0); (try clear ho1)) | ((with_reducible refine gate_dst (N := 27) rfl ?_); (try (refine gate_guard (by rfl) ?_; dsimp only)); refine Kd.R_lit (Kd.int .i64) _ 3 ?hg (N := 27) ?hd (xs := ([a1] : List Int)) (inner := [.int .i64 a1]) (ok := fun _ => True) (okp := fun _ => True) ?hr ?hp (fun _ hk => hk) trivial (Below.refl _ _) (Nat.le_refl _) (by simp) ?_; (case hd => rfl); (case hg => rfl); (case hr => first | (go_simp; done) | (go_simp; rfl)); (case hp => exact (Reps.one (show Kd.M (Kd.int .i64) _ _ _ a1 [.int .i64 a1] from rfl) (Reps.none _ _))); intro v400 w14 ho15 hb hg_ hnew_; clear hg_ hnew_; (first | rw [← Ny399.out] at ho15 | (simp only [Int.reduceToNat] at ho15; rw [← Ny399.out] at ho15)); have n0_ := Aside0.mk (Kd.R_below (by (with_reducible repeat (first | apply Kd.R_alloc | apply Kd.R_drewN | apply Kd.R_drew)); exact HO395.out) hb); have n1_ := Aside0.mk (Kd.V_elder' (by (with_reducible repeat (first | apply Kd.V_alloc | apply Kd.V_drewN | apply Kd.V_drew)); exact HO398.out) (Kd.R_base ho15) hb); have n2_ := Aside0.mk (Kd.R_lower ho15 (below_size (by repeat (first | (with_reducible first | exact HB.out | apply below_alloc | apply pw_below_drewN | apply below_drew1) | exact HB.out)))); have n3_ := Aside0.mk (below_step (by repeat (first | (with_reducible first | exact HB.out | apply below_alloc | apply pw_below_drewN | apply below_drew1) | exact HB.out)) hb); clear HO395; clear HO398; clear HB; have HO395 := n0_; have HO398 := n1_; have HO401 := n2_; have HB := n3_; clear n0_ n1_ n2_ n3_; clear hb ho15; obtain ⟨Ao16, co16, eo16⟩ := Kd.R_slice HO401.out; subst eo16) | ((with_reducible refine gate_callee (f := 26) rfl ?_); refine goesL_ (some 28) rfl rfl Try.func26 (by kernel_rfl) rfl #[.slice Ao16 y399.length co16, .int .i64 1] rfl (by (try simp only [List.map_toArray, List.map_cons, List.map_nil]); first | done | rfl | (simp only [List.length_drop, List.length_take]; rfl)) ?_; (with_reducible refine (bobbinetkeep_Picks.calls _ _ y399 1 t402 _ ?side1 ?side2 A5.out).mono ?_); (case side1 => repeat (first | exact (Kd.R_reads' HO401.out).2.2 | (with_reducible refine Kd.C_alloc ?_ _) | (with_reducible refine Kd.C_drewN ?_ _) | (with_reducible refine Kd.C_drew ?_))); (case side2 => exact (Kd.R_reads' HO401.out).2.1); rintro e w17 ⟨v403, rfl, ho0, hb⟩; refine ⟨_, rfl, ?_⟩; have n0_ := Aside0.mk (Kd.R_below (by (with_reducible repeat (first | apply Kd.R_alloc | apply Kd.R_drewN | apply Kd.R_drew)); exact HO395.out) hb); have n1_ := Aside0.mk (Kd.V_elder' (by (with_reducible repeat (first | apply Kd.V_alloc | apply Kd.V_drewN | apply Kd.V_drew)); exact HO398.out) (Kd.R_base ho0) hb); have n2_ := Aside0.mk (Kd.R_below (by (with_reducible repeat (first | apply Kd.R_alloc | apply Kd.R_drewN | apply Kd.R_drew)); exact HO401.out) hb); have n3_ := Aside0.mk (Kd.R_lower ho0 (below_size (by repeat (first | (with_reducible first | exact HB.out | apply below_alloc | apply pw_below_drewN | apply below_drew1) | exact HB.out)))); have n4_ := Aside0.mk (below_step (by repeat (first | (with_reducible first | exact HB.out | apply below_alloc | apply pw_below_drewN | apply below_drew1) | exact HB.out)) hb); clear HO395; clear HO398; clear HO401; clear HB; have HO395 := n0_; have HO398 := n1_; have HO401 := n2_; have HO404 := n3_; have HB := n4_; clear n0_ n1_ n2_ n3_ n4_; (try clear hb); (try clear hb2); (try clear hk); (try clear hi); (try clear ho0); obtain ⟨Ao18, co18, eo18⟩ := Kd.R_slice HO404.out; subst eo18; have p405 : 0 ≤ (0 : Int) := (by omega); have q405 : 0 < (t402.length : Int) := of_decide_eq_true (by first | (with_reducible assumption) | assumption); obtain ⟨ad405, e405, hx405_0, hx405_1, hx405_2⟩ := at_T61 (Kd.R_reads' HO404.out).2.2 0 p405 q405; cases e405; have qi405 : (0 < t402.length) = True := eq_true (by omega); (try rw [show ((0 : Int)).toNat = 0 from rfl] at hx405_0); (try rw [show 0 * 3 = 0 from rfl] at hx405_0); (try rw [Addr.add_zero'] at hx405_0); (try rw [show ((0 : Int)).toNat = 0 from rfl] at hx405_1); (try rw [show 0 * 3 = 0 from rfl] at hx405_1); (try rw [Addr.add_zero'] at hx405_1); (try rw [show ((0 : Int)).toNat = 0 from rfl] at hx405_2); (try rw [show 0 * 3 = 0 from rfl] at hx405_2); (try rw [Addr.add_zero'] at hx405_2); replace p405 := eq_true p405; replace q405 := eq_true q405) | ((with_reducible refine gate_dst (N := 9) rfl ?_); (try (refine gate_guard (by rfl) ?_; dsimp only)); refine box_event ?hg (N := 9) ?hd (cs := #[.string (⟨#[]⟩ : ByteArray), .string (⟨#[]⟩ : ByteArray), .bool false]) (t := 61) ?hr ?_; (case hd => rfl); (case hg => rfl); (case hr => first | (go_simp; done) | (go_simp; rfl)); intro gb406 hg w19 hbox hb; have n0_ := Aside0.mk (Kd.R_below (by (with_reducible repeat (first | apply Kd.R_alloc | apply Kd.R_drewN | apply Kd.R_drew)); exact HO395.out) hb); have n1_ := Aside0.mk (Kd.V_below (Kd.V_elderB (by (with_reducible repeat (first | apply Kd.V_alloc | apply Kd.V_drewN | apply Kd.V_drew)); exact HO398.out) gb406 (Nat.le_of_eq hg.symm)) hb); have n2_ := Aside0.mk (Kd.R_below (by (with_reducible repeat (first | apply Kd.R_alloc | apply Kd.R_drewN | apply Kd.R_drew)); exact HO401.out) hb); have n3_ := Aside0.mk (Kd.R_below (Kd.R_elderB (by (with_reducible repeat (first | apply Kd.R_alloc | apply Kd.R_drewN | apply Kd.R_drew)); exact HO404.out) gb406 (Nat.le_of_eq hg.symm)) hb); have n4_ := Aside0.mk (below_step (by repeat (first | (with_reducible first | exact HB.out | apply below_alloc | apply pw_below_drewN | apply below_drew1) | exact HB.out)) hb); have n5_ := Aside0.mk (hbox); have n6_ := Aside0.mk ((by rw [hg]; exact (below_size (by repeat (first | (with_reducible first | exact HB.out | apply below_alloc | apply pw_below_drewN | apply below_drew1) | exact HB.out))) : w.heap.size ≤ gb406)); have n7_ := Aside0.mk ((by rw [hg]; exact (below_size (by repeat (first | (with_reducible first | exact HB.out | apply below_alloc | apply pw_below_drewN | apply below_drew1) | exact HB.out))) : w.heap.size ≤ gb406)); clear HO395; clear HO398; clear HO401; clear HO404; clear HB; have HO395 := n0_; have HO398 := n1_; have HO401 := n2_; have HO404 := n3_; have HB := n4_; have BK406 := n5_; have GW406 := n6_; have GE406 := n7_; clear n0_ n1_ n2_ n3_ n4_ n5_ n6_ n7_; clear hb hbox hg; have hcz20_0 : w19.cell? ⟨gb406, 0, none⟩ = some (.string (⟨#[]⟩ : ByteArray)) := (blk_cell BK406.out 0).trans rfl; have hcz20_1 : w19.cell? ⟨gb406, 1, none⟩ = some (.string (⟨#[]⟩ : ByteArray)) := (blk_cell BK406.out 1).trans rfl; have hcz20_2 : w19.cell? ⟨gb406, 2, none⟩ = some (.bool false) := (blk_cell BK406.out 2).trans rfl; have hfz20_0 := blk_frozen BK406.out 0; have hfz20_1 := blk_frozen BK406.out 1; have hfz20_2 := blk_frozen BK406.out 2) | ((with_reducible refine gate_dst (N := 32) rfl ?_); (try (refine gate_guard (by rfl) ?_; dsimp only)); refine Kd.R_lit (Kd.int .i64) _ 3 ?hg (N := 32) ?hd (xs := ([a2] : List Int)) (inner := [.int .i64 a2]) (ok := fun _ => True) (okp := fun _ => True) ?hr ?hp (fun _ hk => hk) trivial (Below.refl _ _) (Nat.le_refl _) (by simp) ?_; (case hd => rfl); (case hg => rfl); (case hr => first | (go_simp; done) | (go_simp; rfl)); (case hp => exact (Reps.one (show Kd.M (Kd.int .i64) _ _ _ a2 [.int .i64 a2] from rfl) (Reps.none _ _))); intro v408 w21 ho22 hb hg_ hnew_; clear hg_ hnew_; (first | rw [← Ny407.out] at ho22 | (simp only [Int.reduceToNat] at ho22; rw [← Ny407.out] at ho22)); have n0_ := Aside0.mk (Kd.R_below (by (with_reducible repeat (first | apply Kd.R_alloc | apply Kd.R_drewN | apply Kd.R_drew)); exact (Kd.R_mono (Kd.R_far (p := ⟨gb406, 2, none⟩) (Kd.R_far (p := ⟨gb406, 1, none⟩) (Kd.R_far (p := ⟨gb406, 0, none⟩) (Kd.R_types HO395.out BK406.out (by decide)) (fun _ hk => hk.2) (.string ((rd_T61 t402 0).f0))) (fun _ hk => hk.2) (.string ((rd_T61 t402 0).f1))) (fun _ hk => hk.2) (.bool ((rd_T61 t402 0).f2))) (fun _ h_ => h_.1))) hb); have n1_ := Aside0.mk (Kd.V_elder' (by (with_reducible repeat (first | apply Kd.V_alloc | apply Kd.V_drewN | apply Kd.V_drew)); exact (Kd.V_mono (Kd.V_far (p := ⟨gb406, 2, none⟩) (Kd.V_far (p := ⟨gb406, 1, none⟩) (Kd.V_far (p := ⟨gb406, 0, none⟩) (Kd.V_mono HO398.out (fun k_ hk => (⟨hk, hk.2⟩ : _ ∧ k_ ≠ gb406))) (fun _ hk => hk.2) (.string ((rd_T61 t402 0).f0))) (fun _ hk => hk.2) (.string ((rd_T61 t402 0).f1))) (fun _ hk => hk.2) (.bool ((rd_T61 t402 0).f2))) (fun _ h_ => h_.1))) (Kd.R_base ho22) hb); have n2_ := Aside0.mk (Kd.R_elder' (by (with_reducible repeat (first | apply Kd.R_alloc | apply Kd.R_drewN | apply Kd.R_drew)); exact (Kd.R_mono (Kd.R_far (p := ⟨gb406, 2, none⟩) (Kd.R_far (p := ⟨gb406, 1, none⟩) (Kd.R_far (p := ⟨gb406, 0, none⟩) (Kd.R_types HO401.out BK406.out (by decide)) (fun _ hk => hk.2) (.string ((rd_T61 t402 0).f0))) (fun _ hk => hk.2) (.string ((rd_T61 t402 0).f1))) (fun _ hk => hk.2) (.bool ((rd_T61 t402 0).f2))) (fun _ h_ => h_.1))) (Kd.R_base ho22) hb); have n3_ := Aside0.mk (Kd.R_below (by (with_reducible repeat (first | apply Kd.R_alloc | apply Kd.R_drewN | apply Kd.R_drew)); exact (Kd.R_mono (Kd.R_far (p := ⟨gb406, 2, none⟩) (Kd.R_far (p := ⟨gb406, 1, none⟩) (Kd.R_far (p := ⟨gb406, 0, none⟩) (Kd.R_mono HO404.out (fun k_ hk => (⟨hk, hk.2⟩ : _ ∧ k_ ≠ gb406))) (fun _ hk => hk.2) (.string ((rd_T61 t402 0).f0))) (fun _ hk => hk.2) (.string ((rd_T61 t402 0).f1))) (fun _ hk => hk.2) (.bool ((rd_T61 t402 0).f2))) (fun _ h_ => h_.1))) hb); have n4_ := Aside0.mk (Kd.R_lower (Kd.R_new' ho22 (Kd.R_lt (by (with_reducible repeat (first | apply Kd.R_alloc | apply Kd.R_drewN | apply Kd.R_drew)); exact (Kd.R_mono (Kd.R_far (p := ⟨gb406, 2, none⟩) (Kd.R_far (p := ⟨gb406, 1, none⟩) (Kd.R_far (p := ⟨gb406, 0, none⟩) (Kd.R_types HO401.out BK406.out (by decide)) (fun _ hk => hk.2) (.string ((rd_T61 t402 0).f0))) (fun _ hk => hk.2) (.string ((rd_T61 t402 0).f1))) (fun _ hk => hk.2) (.bool ((rd_T61 t402 0).f2))) (fun _ h_ => h_.1))))) (below_size (by repeat (first | (with_reducible first | exact HB.out | apply below_alloc | apply pw_below_drewN | apply below_drew1 | refine below_set ?_ GE406.out) | exact HB.out)))); have n5_ := Aside0.mk (blk_below (g := gb406) (o := .cells #[.string ((rd_T61 t402 0).f0), .string ((rd_T61 t402 0).f1), .bool ((rd_T61 t402 0).f2)] 61 (0, 0)) (by (with_reducible repeat (first | refine blk_drewN ?_ _ | refine blk_drew ?_ | refine blk_alloc ?_ _)); refine blk_put (cs := #[.string ((rd_T61 t402 0).f0), .string ((rd_T61 t402 0).f1), .bool false]) ?_ 2 _ rfl; (with_reducible repeat (first | refine blk_drewN ?_ _ | refine blk_drew ?_ | refine blk_alloc ?_ _)); refine blk_put (cs := #[.string ((rd_T61 t402 0).f0), .string (⟨#[]⟩ : ByteArray), .bool false]) ?_ 1 _ rfl; (with_reducible repeat (first | refine blk_drewN ?_ _ | refine blk_drew ?_ | refine blk_alloc ?_ _)); refine blk_put (cs := #[.string (⟨#[]⟩ : ByteArray), .string (⟨#[]⟩ : ByteArray), .bool false]) ?_ 0 _ rfl; (with_reducible repeat (first | refine blk_drewN ?_ _ | refine blk_drew ?_ | refine blk_alloc ?_ _)); exact BK406.out) hb); have n6_ := Aside0.mk (below_step (by repeat (first | (with_reducible first | exact HB.out | apply below_alloc | apply pw_below_drewN | apply below_drew1 | refine below_set ?_ GE406.out) | exact HB.out)) hb); clear HO395; clear HO398; clear HO401; clear HO404; clear BK406; clear HB; have HO395 := n0_; have HO398 := n1_; have HO401 := n2_; have HO404 := n3_; have HO409 := n4_; have BK406 := n5_; have HB := n6_; clear n0_ n1_ n2_ n3_ n4_ n5_ n6_; clear hb ho22; obtain ⟨Ao23, co23, eo23⟩ := Kd.R_slice HO409.out; subst eo23) | ((with_reducible refine gate_callee (f := 26) rfl ?_); refine goesL_ (some 33) rfl rfl Try.func26 (by kernel_rfl) rfl #[.slice Ao23 y407.length co23, .int .i64 1] rfl (by (try simp only [List.map_toArray, List.map_cons, List.map_nil]); first | done | rfl | (simp only [List.length_drop, List.length_take]; rfl)) ?_; (with_reducible refine (bobbinetkeep_Picks.calls _ _ y407 1 t410 _ ?side1 ?side2 A7.out).mono ?_); (case side1 => repeat (first | exact (Kd.R_reads' HO409.out).2.2 | (with_reducible refine Kd.C_alloc ?_ _) | (with_reducible refine Kd.C_drewN ?_ _) | (with_reducible refine Kd.C_drew ?_))); (case side2 => exact (Kd.R_reads' HO409.out).2.1); rintro e w24 ⟨v411, rfl, ho0, hb⟩; refine ⟨_, rfl, ?_⟩; have n0_ := Aside0.mk (Kd.R_below (by (with_reducible repeat (first | apply Kd.R_alloc | apply Kd.R_drewN | apply Kd.R_drew)); exact HO395.out) hb); have n1_ := Aside0.mk (Kd.V_elder' (by (with_reducible repeat (first | apply Kd.V_alloc | apply Kd.V_drewN | apply Kd.V_drew)); exact HO398.out) (Kd.R_base ho0) hb); have n2_ := Aside0.mk (Kd.R_below (by (with_reducible repeat (first | apply Kd.R_alloc | apply Kd.R_drewN | apply Kd.R_drew)); exact HO401.out) hb); have n3_ := Aside0.mk (Kd.R_elder' (by (with_reducible repeat (first | apply Kd.R_alloc | apply Kd.R_drewN | apply Kd.R_drew)); exact HO404.out) (Kd.R_base ho0) hb); have n4_ := Aside0.mk (Kd.R_below (by (with_reducible repeat (first | apply Kd.R_alloc | apply Kd.R_drewN | apply Kd.R_drew)); exact HO409.out) hb); have n5_ := Aside0.mk (Kd.R_lower (Kd.R_newB (Kd.R_new' ho0 (Kd.R_lt (by (with_reducible repeat (first | apply Kd.R_alloc | apply Kd.R_drewN | apply Kd.R_drew)); exact HO404.out))) (g := gb406) (o := .cells #[.string ((rd_T61 t402 0).f0), .string ((rd_T61 t402 0).f1), .bool ((rd_T61 t402 0).f2)] 61 (0, 0)) (by (with_reducible repeat (first | refine blk_drewN ?_ _ | refine blk_drew ?_ | refine blk_alloc ?_ _)); exact BK406.out)) (below_size (by repeat (first | (with_reducible first | exact HB.out | apply below_alloc | apply pw_below_drewN | apply below_drew1 | refine below_set ?_ GE406.out) | exact HB.out)))); have n6_ := Aside0.mk (blk_below (g := gb406) (o := .cells #[.string ((rd_T61 t402 0).f0), .string ((rd_T61 t402 0).f1), .bool ((rd_T61 t402 0).f2)] 61 (0, 0)) (by (with_reducible repeat (first | refine blk_drewN ?_ _ | refine blk_drew ?_ | refine blk_alloc ?_ _)); exact BK406.out) hb); have n7_ := Aside0.mk (below_step (by repeat (first | (with_reducible first | exact HB.out | apply below_alloc | apply pw_below_drewN | apply below_drew1 | refine below_set ?_ GE406.out) | exact HB.out)) hb); clear HO395; clear HO398; clear HO401; clear HO404; clear HO409; clear BK406; clear HB; have HO395 := n0_; have HO398 := n1_; have HO401 := n2_; have HO404 := n3_; have HO409 := n4_; have HO412 := n5_; have BK406 := n6_; have HB := n7_; clear n0_ n1_ n2_ n3_ n4_ n5_ n6_ n7_; (try clear hb); (try clear hb2); (try clear hk); (try clear hi); (try clear ho0); obtain ⟨Ao25, co25, eo25⟩ := Kd.R_slice HO412.out; subst eo25; have p413 : 0 ≤ (0 : Int) := (by omega); have q413 : 0 < (t410.length : Int) := of_decide_eq_true (by first | (with_reducible assumption) | assumption); obtain ⟨ad413, e413, hx413_0, hx413_1, hx413_2⟩ := at_T61 (Kd.R_reads' HO412.out).2.2 0 p413 q413; cases e413; have qi413 : (0 < t410.length) = True := eq_true (by omega); (try rw [show ((0 : Int)).toNat = 0 from rfl] at hx413_0); (try rw [show 0 * 3 = 0 from rfl] at hx413_0); (try rw [Addr.add_zero'] at hx413_0); (try rw [show ((0 : Int)).toNat = 0 from rfl] at hx413_1); (try rw [show 0 * 3 = 0 from rfl] at hx413_1); (try rw [Addr.add_zero'] at hx413_1); (try rw [show ((0 : Int)).toNat = 0 from rfl] at hx413_2); (try rw [show 0 * 3 = 0 from rfl] at hx413_2); (try rw [Addr.add_zero'] at hx413_2); replace p413 := eq_true p413; replace q413 := eq_true q413) | ((with_reducible refine gate_dst (N := 10) rfl ?_); (try (refine gate_guard (by rfl) ?_; dsimp only)); refine box_event ?hg (N := 10) ?hd (cs := #[.string (⟨#[]⟩ : ByteArray), .string (⟨#[]⟩ : ByteArray), .bool false]) (t := 61) ?hr ?_; (case hd => rfl); (case hg => rfl); (case hr => first | (go_simp; done) | (go_simp; rfl)); intro gb414 hg w26 hbox hb; have n0_ := Aside0.mk (Kd.R_below (by (with_reducible repeat (first | apply Kd.R_alloc | apply Kd.R_drewN | apply Kd.R_drew)); exact HO395.out) hb); have n1_ := Aside0.mk (Kd.V_below (Kd.V_elderB (by (with_reducible repeat (first | apply Kd.V_alloc | apply Kd.V_drewN | apply Kd.V_drew)); exact HO398.out) gb414 (Nat.le_of_eq hg.symm)) hb); have n2_ := Aside0.mk (Kd.R_below (by (with_reducible repeat (first | apply Kd.R_alloc | apply Kd.R_drewN | apply Kd.R_drew)); exact HO401.out) hb); have n3_ := Aside0.mk (Kd.R_below (Kd.R_elderB (by (with_reducible repeat (first | apply Kd.R_alloc | apply Kd.R_drewN | apply Kd.R_drew)); exact HO404.out) gb414 (Nat.le_of_eq hg.symm)) hb); have n4_ := Aside0.mk (Kd.R_below (by (with_reducible repeat (first | apply Kd.R_alloc | apply Kd.R_drewN | apply Kd.R_drew)); exact HO409.out) hb); have n5_ := Aside0.mk (Kd.R_below (Kd.R_elderB (by (with_reducible repeat (first | apply Kd.R_alloc | apply Kd.R_drewN | apply Kd.R_drew)); exact HO412.out) gb414 (Nat.le_of_eq hg.symm)) hb); have n6_ := Aside0.mk (blk_below (g := gb406) (o := .cells #[.string ((rd_T61 t402 0).f0), .string ((rd_T61 t402 0).f1), .bool ((rd_T61 t402 0).f2)] 61 (0, 0)) (by (with_reducible repeat (first | refine blk_drewN ?_ _ | refine blk_drew ?_ | refine blk_alloc ?_ _)); exact BK406.out) hb); have n7_ := Aside0.mk (below_step (by repeat (first | (with_reducible first | exact HB.out | apply below_alloc | apply pw_below_drewN | apply below_drew1 | refine below_set ?_ GE406.out) | exact HB.out)) hb); have n8_ := Aside0.mk (hbox); have n9_ := Aside0.mk ((by rw [hg]; exact (below_size (by repeat (first | (with_reducible first | exact HB.out | apply below_alloc | apply pw_below_drewN | apply below_drew1 | refine below_set ?_ GE406.out) | exact HB.out))) : w.heap.size ≤ gb414)); have n10_ := Aside0.mk ((by rw [hg]; exact (below_size (by repeat (first | (with_reducible first | exact HB.out | apply below_alloc | apply pw_below_drewN | apply below_drew1 | refine below_set ?_ GE406.out) | exact HB.out))) : w.heap.size ≤ gb414)); have n11_ := Aside0.mk ((by rw [hg]; exact Nat.ne_of_lt (blk_lt (g := gb406) (o := .cells #[.string ((rd_T61 t402 0).f0), .string ((rd_T61 t402 0).f1), .bool ((rd_T61 t402 0).f2)] 61 (0, 0)) (by (with_reducible repeat (first | refine blk_drewN ?_ _ | refine blk_drew ?_ | refine blk_alloc ?_ _)); exact BK406.out)) : gb406 ≠ gb414)); have n12_ := Aside0.mk ((by rw [hg]; exact Nat.ne_of_gt (blk_lt (g := gb406) (o := .cells #[.string ((rd_T61 t402 0).f0), .string ((rd_T61 t402 0).f1), .bool ((rd_T61 t402 0).f2)] 61 (0, 0)) (by (with_reducible repeat (first | refine blk_drewN ?_ _ | refine blk_drew ?_ | refine blk_alloc ?_ _)); exact BK406.out)) : gb414 ≠ gb406)); clear HO395; clear HO398; clear HO401; clear HO404; clear HO409; clear HO412; clear BK406; clear HB; have HO395 := n0_; have HO398 := n1_; have HO401 := n2_; have HO404 := n3_; have HO409 := n4_; have HO412 := n5_; have BK406 := n6_; have HB := n7_; have BK414 := n8_; have GW414 := n9_; have GE414 := n10_; have NB406_414 := n11_; have NB414_406 := n12_; clear n0_ n1_ n2_ n3_ n4_ n5_ n6_ n7_ n8_ n9_ n10_ n11_ n12_; clear hb hbox hg; have hnb27 := NB414_406.out; have hnc27 := NB406_414.out; have hcz28_0 : w26.cell? ⟨gb414, 0, none⟩ = some (.string (⟨#[]⟩ : ByteArray)) := (blk_cell BK414.out 0).trans rfl; have hcz28_1 : w26.cell? ⟨gb414, 1, none⟩ = some (.string (⟨#[]⟩ : ByteArray)) := (blk_cell BK414.out 1).trans rfl; have hcz28_2 : w26.cell? ⟨gb414, 2, none⟩ = some (.bool false) := (blk_cell BK414.out 2).trans rfl; have hfz28_0 := blk_frozen BK414.out 0; have hfz28_1 := blk_frozen BK414.out 1; have hfz28_2 := blk_frozen BK414.out 2; have hcz29_0 : w26.cell? ⟨gb406, 0, none⟩ = some (.string ((rd_T61 t402 0).f0)) := (blk_cell BK406.out 0).trans rfl; have hcz29_1 : w26.cell? ⟨gb406, 1, none⟩ = some (.string ((rd_T61 t402 0).f1)) := (blk_cell BK406.out 1).trans rfl; have hcz29_2 : w26.cell? ⟨gb406, 2, none⟩ = some (.bool ((rd_T61 t402 0).f2)) := (blk_cell BK406.out 2).trans rfl; have hfz29_0 := blk_frozen BK406.out 0; have hfz29_1 := blk_frozen BK406.out 1; have hfz29_2 := blk_frozen BK406.out 2) | ((with_reducible refine gate_dst (N := 38) rfl ?_); (try (refine gate_guard (by rfl) ?_; dsimp only)); refine Kd.R_lit k61 _ 61 ?hg (N := 38) ?hd (xs := ([(⟨(rd_T61 t402 0).f0, (rd_T61 t402 0).f1, (rd_T61 t402 0).f2⟩ : S61)] : List (S61))) (inner := [.string ((rd_T61 t402 0).f0), .string ((rd_T61 t402 0).f1), .bool ((rd_T61 t402 0).f2)]) (ok := fun _ => True) (okp := fun _ => True) ?hr ?hp (fun _ hk => hk) trivial (Below.refl _ _) (Nat.le_refl _) (by simp) ?_; (case hd => rfl); (case hg => rfl); (case hr => first | (go_simp; done) | (go_simp; rfl)); (case hp => exact (Reps.c3 (show Kd.M k61 _ _ _ (⟨(rd_T61 t402 0).f0, (rd_T61 t402 0).f1, (rd_T61 t402 0).f2⟩ : S61) [.string ((rd_T61 t402 0).f0), .string ((rd_T61 t402 0).f1), .bool ((rd_T61 t402 0).f2)] from (k61_mkM _ _ _ (⟨(rd_T61 t402 0).f0, (rd_T61 t402 0).f1, (rd_T61 t402 0).f2⟩ : S61) )) (Reps.none _ _))); intro v416 w30 ho31 hb hg_ hnew_; clear hg_ hnew_; (first | rw [← Ny415.out] at ho31 | (simp only [Int.reduceToNat] at ho31; rw [← Ny415.out] at ho31)); have n0_ := Aside0.mk (Kd.R_below (by (with_reducible repeat (first | apply Kd.R_alloc | apply Kd.R_drewN | apply Kd.R_drew)); exact (Kd.R_mono (Kd.R_far (p := ⟨gb414, 2, none⟩) (Kd.R_far (p := ⟨gb414, 1, none⟩) (Kd.R_far (p := ⟨gb414, 0, none⟩) (Kd.R_types HO395.out BK414.out (by decide)) (fun _ hk => hk.2) (.string ((rd_T61 t410 0).f0))) (fun _ hk => hk.2) (.string ((rd_T61 t410 0).f1))) (fun _ hk => hk.2) (.bool ((rd_T61 t410 0).f2))) (fun _ h_ => h_.1))) hb); have n1_ := Aside0.mk (Kd.V_elder' (by (with_reducible repeat (first | apply Kd.V_alloc | apply Kd.V_drewN | apply Kd.V_drew)); exact (Kd.V_mono (Kd.V_far (p := ⟨gb414, 2, none⟩) (Kd.V_far (p := ⟨gb414, 1, none⟩) (Kd.V_far (p := ⟨gb414, 0, none⟩) (Kd.V_mono HO398.out (fun k_ hk => (⟨hk, hk.2⟩ : _ ∧ k_ ≠ gb414))) (fun _ hk => hk.2) (.string ((rd_T61 t410 0).f0))) (fun _ hk => hk.2) (.string ((rd_T61 t410 0).f1))) (fun _ hk => hk.2) (.bool ((rd_T61 t410 0).f2))) (fun _ h_ => h_.1))) (Kd.R_base ho31) hb); have n2_ := Aside0.mk (Kd.R_below (by (with_reducible repeat (first | apply Kd.R_alloc | apply Kd.R_drewN | apply Kd.R_drew)); exact (Kd.R_mono (Kd.R_far (p := ⟨gb414, 2, none⟩) (Kd.R_far (p := ⟨gb414, 1, none⟩) (Kd.R_far (p := ⟨gb414, 0, none⟩) (Kd.R_types HO401.out BK414.out (by decide)) (fun _ hk => hk.2) (.string ((rd_T61 t410 0).f0))) (fun _ hk => hk.2) (.string ((rd_T61 t410 0).f1))) (fun _ hk => hk.2) (.bool ((rd_T61 t410 0).f2))) (fun _ h_ => h_.1))) hb); have n3_ := Aside0.mk (Kd.R_elder' (by (with_reducible repeat (first | apply Kd.R_alloc | apply Kd.R_drewN | apply Kd.R_drew)); exact (Kd.R_mono (Kd.R_far (p := ⟨gb414, 2, none⟩) (Kd.R_far (p := ⟨gb414, 1, none⟩) (Kd.R_far (p := ⟨gb414, 0, none⟩) (Kd.R_mono HO404.out (fun k_ hk => (⟨hk, hk.2⟩ : _ ∧ k_ ≠ gb414))) (fun _ hk => hk.2) (.string ((rd_T61 t410 0).f0))) (fun _ hk => hk.2) (.string ((rd_T61 t410 0).f1))) (fun _ hk => hk.2) (.bool ((rd_T61 t410 0).f2))) (fun _ h_ => h_.1))) (Kd.R_base ho31) hb); have n4_ := Aside0.mk (Kd.R_below (by (with_reducible repeat (first | apply Kd.R_alloc | apply Kd.R_drewN | apply Kd.R_drew)); exact (Kd.R_mono (Kd.R_far (p := ⟨gb414, 2, none⟩) (Kd.R_far (p := ⟨gb414, 1, none⟩) (Kd.R_far (p := ⟨gb414, 0, none⟩) (Kd.R_types HO409.out BK414.out (by decide)) (fun _ hk => hk.2) (.string ((rd_T61 t410 0).f0))) (fun _ hk => hk.2) (.string ((rd_T61 t410 0).f1))) (fun _ hk => hk.2) (.bool ((rd_T61 t410 0).f2))) (fun _ h_ => h_.1))) hb); have n5_ := Aside0.mk (Kd.R_elder' (by (with_reducible repeat (first | apply Kd.R_alloc | apply Kd.R_drewN | apply Kd.R_drew)); exact (Kd.R_mono (Kd.R_far (p := ⟨gb414, 2, none⟩) (Kd.R_far (p := ⟨gb414, 1, none⟩) (Kd.R_far (p := ⟨gb414, 0, none⟩) (Kd.R_mono HO412.out (fun k_ hk => (⟨hk, hk.2⟩ : _ ∧ k_ ≠ gb414))) (fun _ hk => hk.2) (.string ((rd_T61 t410 0).f0))) (fun _ hk => hk.2) (.string ((rd_T61 t410 0).f1))) (fun _ hk => hk.2) (.bool ((rd_T61 t410 0).f2))) (fun _ h_ => h_.1))) (Kd.R_base ho31) hb); have n6_ := Aside0.mk (Kd.R_lower (Kd.R_newB (Kd.R_newB (Kd.R_new' (Kd.R_new' ho31 (Kd.R_lt (by (with_reducible repeat (first | apply Kd.R_alloc | apply Kd.R_drewN | apply Kd.R_drew)); exact (Kd.R_mono (Kd.R_far (p := ⟨gb414, 2, none⟩) (Kd.R_far (p := ⟨gb414, 1, none⟩) (Kd.R_far (p := ⟨gb414, 0, none⟩) (Kd.R_mono HO404.out (fun k_ hk => (⟨hk, hk.2⟩ : _ ∧ k_ ≠ gb414))) (fun _ hk => hk.2) (.string ((rd_T61 t410 0).f0))) (fun _ hk => hk.2) (.string ((rd_T61 t410 0).f1))) (fun _ hk => hk.2) (.bool ((rd_T61 t410 0).f2))) (fun _ h_ => h_.1))))) (Kd.R_lt (by (with_reducible repeat (first | apply Kd.R_alloc | apply Kd.R_drewN | apply Kd.R_drew)); exact (Kd.R_mono (Kd.R_far (p := ⟨gb414, 2, none⟩) (Kd.R_far (p := ⟨gb414, 1, none⟩) (Kd.R_far (p := ⟨gb414, 0, none⟩) (Kd.R_mono HO412.out (fun k_ hk => (⟨hk, hk.2⟩ : _ ∧ k_ ≠ gb414))) (fun _ hk => hk.2) (.string ((rd_T61 t410 0).f0))) (fun _ hk => hk.2) (.string ((rd_T61 t410 0).f1))) (fun _ hk => hk.2) (.bool ((rd_T61 t410 0).f2))) (fun _ h_ => h_.1))))) (g := gb406) (o := .cells #[.string ((rd_T61 t402 0).f0), .string ((rd_T61 t402 0).f1), .bool ((rd_T61 t402 0).f2)] 61 (0, 0)) (by (with_reducible repeat (first | refine blk_drewN ?_ _ | refine blk_drew ?_ | refine blk_alloc ?_ _)); refine blk_far ?_ NB406_414.out _; (with_reducible repeat (first | refine blk_drewN ?_ _ | refine blk_drew ?_ | refine blk_alloc ?_ _)); refine blk_far ?_ NB406_414.out _; (with_reducible repeat (first | refine blk_drewN ?_ _ | refine blk_drew ?_ | refine blk_alloc ?_ _)); refine blk_far ?_ NB406_414.out _; (with_reducible repeat (first | refine blk_drewN ?_ _ | refine blk_drew ?_ | refine blk_alloc ?_ _)); exact BK406.out)) (g := gb414) (o := .cells #[.string ((rd_T61 t410 0).f0), .string ((rd_T61 t410 0).f1), .bool ((rd_T61 t410 0).f2)] 61 (0, 0)) (by (with_reducible repeat (first | refine blk_drewN ?_ _ | refine blk_drew ?_ | refine blk_alloc ?_ _)); refine blk_put (cs := #[.string ((rd_T61 t410 0).f0), .string ((rd_T61 t410 0).f1), .bool false]) ?_ 2 _ rfl; (with_reducible repeat (first | refine blk_drewN ?_ _ | refine blk_drew ?_ | refine blk_alloc ?_ _)); refine blk_put (cs := #[.string ((rd_T61 t410 0).f0), .string (⟨#[]⟩ : ByteArray), .bool false]) ?_ 1 _ rfl; (with_reducible repeat (first | refine blk_drewN ?_ _ | refine blk_drew ?_ | refine blk_alloc ?_ _)); refine blk_put (cs := #[.string (⟨#[]⟩ : ByteArray), .string (⟨#[]⟩ : ByteArray), .bool false]) ?_ 0 _ rfl; (with_reducible repeat (first | refine blk_drewN ?_ _ | refine blk_drew ?_ | refine blk_alloc ?_ _)); exact BK414.out)) (below_size (by repeat (first | (with_reducible first | exact HB.out | apply below_alloc | apply pw_below_drewN | apply below_drew1 | refine below_set ?_ GE406.out | refine below_set ?_ GE414.out) | exact HB.out)))); have n7_ := Aside0.mk (blk_below (g := gb406) (o := .cells #[.string ((rd_T61 t402 0).f0), .string ((rd_T61 t402 0).f1), .bool ((rd_T61 t402 0).f2)] 61 (0, 0)) (by (with_reducible repeat (first | refine blk_drewN ?_ _ | refine blk_drew ?_ | refine blk_alloc ?_ _)); refine blk_far ?_ NB406_414.out _; (with_reducible repeat (first | refine blk_drewN ?_ _ | refine blk_drew ?_ | refine blk_alloc ?_ _)); refine blk_far ?_ NB406_414.out _; (with_reducible repeat (first | refine blk_drewN ?_ _ | refine blk_drew ?_ | refine blk_alloc ?_ _)); refine blk_far ?_ NB406_414.out _; (with_reducible repeat (first | refine blk_drewN ?_ _ | refine blk_drew ?_ | refine blk_alloc ?_ _)); exact BK406.out) hb); have n8_ := Aside0.mk (blk_below (g := gb414) (o := .cells #[.string ((rd_T61 t410 0).f0), .string ((rd_T61 t410 0).f1), .bool ((rd_T61 t410 0).f2)] 61 (0, 0)) (by (with_reducible repeat (first | refine blk_drewN ?_ _ | refine blk_drew ?_ | refine blk_alloc ?_ _)); refine blk_put (cs := #[.string ((rd_T61 t410 0).f0), .string ((rd_T61 t410 0).f1), .bool false]) ?_ 2 _ rfl; (with_reducible repeat (first | refine blk_drewN ?_ _ | refine blk_drew ?_ | refine blk_alloc ?_ _)); refine blk_put (cs := #[.string ((rd_T61 t410 0).f0), .string (⟨#[]⟩ : ByteArray), .bool false]) ?_ 1 _ rfl; (with_reducible repeat (first | refine blk_drewN ?_ _ | refine blk_drew ?_ | refine blk_alloc ?_ _)); refine blk_put (cs := #[.string (⟨#[]⟩ : ByteArray), .string (⟨#[]⟩ : ByteArray), .bool false]) ?_ 0 _ rfl; (with_reducible repeat (first | refine blk_drewN ?_ _ | refine blk_drew ?_ | refine blk_alloc ?_ _)); exact BK414.out) hb); have n9_ := Aside0.mk (below_step (by repeat (first | (with_reducible first | exact HB.out | apply below_alloc | apply pw_below_drewN | apply below_drew1 | refine below_set ?_ GE406.out | refine below_set ?_ GE414.out) | exact HB.out)) hb); clear HO395; clear HO398; clear HO401; clear HO404; clear HO409; clear HO412; clear BK406; clear BK414; clear HB; have HO395 := n0_; have HO398 := n1_; have HO401 := n2_; have HO404 := n3_; have HO409 := n4_; have HO412 := n5_; have HO417 := n6_; have BK406 := n7_; have BK414 := n8_; have HB := n9_; clear n0_ n1_ n2_ n3_ n4_ n5_ n6_ n7_ n8_ n9_; clear hb ho31; obtain ⟨Ao32, co32, eo32⟩ := Kd.R_slice HO417.out; subst eo32; obtain ⟨Ao33, co33, eo33⟩ := Kd.R_slice HO395.out; subst eo33) | ((with_reducible refine gate_callee (f := 27) rfl ?_); refine goesL_ (some 40) rfl rfl Try.func27 (by kernel_rfl) rfl #[.slice Ao32 y415.length co32, .slice Ao33 t393.length co33] rfl (by (try simp only [List.map_toArray, List.map_cons, List.map_nil]); first | done | rfl | (simp only [List.length_drop, List.length_take]; rfl)) ?_; (with_reducible refine (bobbinetkeep_paths.calls k _ _ y415 _ _ t393 t418 t419 _ ?side1 ?side2 ?side3 ?side4 A9.out).mono ?_); (case side1 => repeat (first | exact (Kd.R_reads' HO417.out).2.2 | (with_reducible refine Kd.C_alloc ?_ _) | (with_reducible refine Kd.C_drewN ?_ _) | (with_reducible refine Kd.C_drew ?_))); (case side2 => exact (Kd.R_reads' HO417.out).2.1); (case side3 => repeat (first | exact (Kd.R_reads' HO395.out).2.2 | (with_reducible refine Kd.C_alloc ?_ _) | (with_reducible refine Kd.C_drewN ?_ _) | (with_reducible refine Kd.C_drew ?_))); (case side4 => exact (Kd.R_reads' HO395.out).2.1); rintro e w34 ⟨v420, rfl, ho0, hb⟩; refine ⟨_, rfl, ?_⟩; have n0_ := Aside0.mk (Kd.R_below (by (with_reducible repeat (first | apply Kd.R_alloc | apply Kd.R_drewN | apply Kd.R_drew)); exact HO395.out) hb); have n1_ := Aside0.mk (Kd.V_elder' (by (with_reducible repeat (first | apply Kd.V_alloc | apply Kd.V_drewN | apply Kd.V_drew)); exact HO398.out) (Kd.S_base ho0) hb); have n2_ := Aside0.mk (Kd.R_below (by (with_reducible repeat (first | apply Kd.R_alloc | apply Kd.R_drewN | apply Kd.R_drew)); exact HO401.out) hb); have n3_ := Aside0.mk (Kd.R_below (by (with_reducible repeat (first | apply Kd.R_alloc | apply Kd.R_drewN | apply Kd.R_drew)); exact HO404.out) hb); have n4_ := Aside0.mk (Kd.R_below (by (with_reducible repeat (first | apply Kd.R_alloc | apply Kd.R_drewN | apply Kd.R_drew)); exact HO409.out) hb); have n5_ := Aside0.mk (Kd.R_below (by (with_reducible repeat (first | apply Kd.R_alloc | apply Kd.R_drewN | apply Kd.R_drew)); exact HO412.out) hb); have n6_ := Aside0.mk (Kd.R_below (by (with_reducible repeat (first | apply Kd.R_alloc | apply Kd.R_drewN | apply Kd.R_drew)); exact HO417.out) hb); have n7_ := Aside0.mk (Kd.S_lower (Kd.S_new' (Kd.S_new' ho0 (Kd.R_lt (by (with_reducible repeat (first | apply Kd.R_alloc | apply Kd.R_drewN | apply Kd.R_drew)); exact HO401.out))) (Kd.R_lt (by (with_reducible repeat (first | apply Kd.R_alloc | apply Kd.R_drewN | apply Kd.R_drew)); exact HO409.out))) (below_size (by repeat (first | (with_reducible first | exact HB.out | apply below_alloc | apply pw_below_drewN | apply below_drew1 | refine below_set ?_ GE406.out | refine below_set ?_ GE414.out) | exact HB.out)))); have n8_ := Aside0.mk (blk_below (g := gb406) (o := .cells #[.string ((rd_T61 t402 0).f0), .string ((rd_T61 t402 0).f1), .bool ((rd_T61 t402 0).f2)] 61 (0, 0)) (by (with_reducible repeat (first | refine blk_drewN ?_ _ | refine blk_drew ?_ | refine blk_alloc ?_ _)); exact BK406.out) hb); have n9_ := Aside0.mk (blk_below (g := gb414) (o := .cells #[.string ((rd_T61 t410 0).f0), .string ((rd_T61 t410 0).f1), .bool ((rd_T61 t410 0).f2)] 61 (0, 0)) (by (with_reducible repeat (first | refine blk_drewN ?_ _ | refine blk_drew ?_ | refine blk_alloc ?_ _)); exact BK414.out) hb); have n10_ := Aside0.mk (below_step (by repeat (first | (with_reducible first | exact HB.out | apply below_alloc | apply pw_below_drewN | apply below_drew1 | refine below_set ?_ GE406.out | refine below_set ?_ GE414.out) | exact HB.out)) hb); clear HO395; clear HO398; clear HO401; clear HO404; clear HO409; clear HO412; clear HO417; clear BK406; clear BK414; clear HB; have HO395 := n0_; have HO398 := n1_; have HO401 := n2_; have HO404 := n3_; have HO409 := n4_; have HO412 := n5_; have HO417 := n6_; have HO421 := n7_; have BK406 := n8_; have BK414 := n9_; have HB := n10_; clear n0_ n1_ n2_ n3_ n4_ n5_ n6_ n7_ n8_ n9_ n10_; (try clear hb); (try clear hb2); (try clear hk); (try clear hi); (try clear ho0); have hcz35_0 : w34.cell? ⟨gb414, 0, none⟩ = some (.string ((rd_T61 t410 0).f0)) := (blk_cell BK414.out 0).trans rfl; have hcz35_1 : w34.cell? ⟨gb414, 1, none⟩ = some (.string ((rd_T61 t410 0).f1)) := (blk_cell BK414.out 1).trans rfl; have hcz35_2 : w34.cell? ⟨gb414, 2, none⟩ = some (.bool ((rd_T61 t410 0).f2)) := (blk_cell BK414.out 2).trans rfl; have hfz35_0 := blk_frozen BK414.out 0; have hfz35_1 := blk_frozen BK414.out 1; have hfz35_2 := blk_frozen BK414.out 2) | ((with_reducible refine gate_dst (N := 45) rfl ?_); (try (refine gate_guard (by rfl) ?_; dsimp only)); refine Kd.R_lit k61 _ 61 ?hg (N := 45) ?hd (xs := ([(⟨(rd_T61 t410 0).f0, (rd_T61 t410 0).f1, (rd_T61 t410 0).f2⟩ : S61)] : List (S61))) (inner := [.string ((rd_T61 t410 0).f0), .string ((rd_T61 t410 0).f1), .bool ((rd_T61 t410 0).f2)]) (ok := fun _ => True) (okp := fun _ => True) ?hr ?hp (fun _ hk => hk) trivial (Below.refl _ _) (Nat.le_refl _) (by simp) ?_; (case hd => rfl); (case hg => rfl); (case hr => first | (go_simp; done) | (go_simp; rfl)); (case hp => exact (Reps.c3 (show Kd.M k61 _ _ _ (⟨(rd_T61 t410 0).f0, (rd_T61 t410 0).f1, (rd_T61 t410 0).f2⟩ : S61) [.string ((rd_T61 t410 0).f0), .string ((rd_T61 t410 0).f1), .bool ((rd_T61 t410 0).f2)] from (k61_mkM _ _ _ (⟨(rd_T61 t410 0).f0, (rd_T61 t410 0).f1, (rd_T61 t410 0).f2⟩ : S61) )) (Reps.none _ _))); intro v423 w36 ho37 hb hg_ hnew_; clear hg_ hnew_; (first | rw [← Ny422.out] at ho37 | (simp only [Int.reduceToNat] at ho37; rw [← Ny422.out] at ho37)); have n0_ := Aside0.mk (Kd.R_below (by (with_reducible repeat (first | apply Kd.R_alloc | apply Kd.R_drewN | apply Kd.R_drew)); exact HO395.out) hb); have n1_ := Aside0.mk (Kd.V_elder' (by (with_reducible repeat (first | apply Kd.V_alloc | apply Kd.V_drewN | apply Kd.V_drew)); exact HO398.out) (Kd.R_base ho37) hb); have n2_ := Aside0.mk (Kd.R_below (by (with_reducible repeat (first | apply Kd.R_alloc | apply Kd.R_drewN | apply Kd.R_drew)); exact HO401.out) hb); have n3_ := Aside0.mk (Kd.R_elder' (by (with_reducible repeat (first | apply Kd.R_alloc | apply Kd.R_drewN | apply Kd.R_drew)); exact HO404.out) (Kd.R_base ho37) hb); have n4_ := Aside0.mk (Kd.R_below (by (with_reducible repeat (first | apply Kd.R_alloc | apply Kd.R_drewN | apply Kd.R_drew)); exact HO409.out) hb); have n5_ := Aside0.mk (Kd.R_elder' (by (with_reducible repeat (first | apply Kd.R_alloc | apply Kd.R_drewN | apply Kd.R_drew)); exact HO412.out) (Kd.R_base ho37) hb); have n6_ := Aside0.mk (Kd.R_elder' (by (with_reducible repeat (first | apply Kd.R_alloc | apply Kd.R_drewN | apply Kd.R_drew)); exact HO417.out) (Kd.R_base ho37) hb); have n7_ := Aside0.mk (Kd.S_below (by (with_reducible repeat (first | apply Kd.S_alloc | apply Kd.S_drewN | apply Kd.S_drew)); exact HO421.out) hb); have n8_ := Aside0.mk (Kd.R_lower (Kd.R_newB (Kd.R_newB (Kd.R_new' (Kd.R_new' (Kd.R_new' ho37 (Kd.R_lt (by (with_reducible repeat (first | apply Kd.R_alloc | apply Kd.R_drewN | apply Kd.R_drew)); exact HO404.out))) (Kd.R_lt (by (with_reducible repeat (first | apply Kd.R_alloc | apply Kd.R_drewN | apply Kd.R_drew)); exact HO412.out))) (Kd.R_lt (by (with_reducible repeat (first | apply Kd.R_alloc | apply Kd.R_drewN | apply Kd.R_drew)); exact HO417.out))) (g := gb406) (o := .cells #[.string ((rd_T61 t402 0).f0), .string ((rd_T61 t402 0).f1), .bool ((rd_T61 t402 0).f2)] 61 (0, 0)) (by (with_reducible repeat (first | refine blk_drewN ?_ _ | refine blk_drew ?_ | refine blk_alloc ?_ _)); exact BK406.out)) (g := gb414) (o := .cells #[.string ((rd_T61 t410 0).f0), .string ((rd_T61 t410 0).f1), .bool ((rd_T61 t410 0).f2)] 61 (0, 0)) (by (with_reducible repeat (first | refine blk_drewN ?_ _ | refine blk_drew ?_ | refine blk_alloc ?_ _)); exact BK414.out)) (below_size (by repeat (first | (with_reducible first | exact HB.out | apply below_alloc | apply pw_below_drewN | apply below_drew1 | refine below_set ?_ GE406.out | refine below_set ?_ GE414.out) | exact HB.out)))); have n9_ := Aside0.mk (blk_below (g := gb406) (o := .cells #[.string ((rd_T61 t402 0).f0), .string ((rd_T61 t402 0).f1), .bool ((rd_T61 t402 0).f2)] 61 (0, 0)) (by (with_reducible repeat (first | refine blk_drewN ?_ _ | refine blk_drew ?_ | refine blk_alloc ?_ _)); exact BK406.out) hb); have n10_ := Aside0.mk (blk_below (g := gb414) (o := .cells #[.string ((rd_T61 t410 0).f0), .string ((rd_T61 t410 0).f1), .bool ((rd_T61 t410 0).f2)] 61 (0, 0)) (by (with_reducible repeat (first | refine blk_drewN ?_ _ | refine blk_drew ?_ | refine blk_alloc ?_ _)); exact BK414.out) hb); have n11_ := Aside0.mk (below_step (by repeat (first | (with_reducible first | exact HB.out | apply below_alloc | apply pw_below_drewN | apply below_drew1 | refine below_set ?_ GE406.out | refine below_set ?_ GE414.out) | exact HB.out)) hb); clear HO395; clear HO398; clear HO401; clear HO404; clear HO409; clear HO412; clear HO417; clear HO421; clear BK406; clear BK414; clear HB; have HO395 := n0_; have HO398 := n1_; have HO401 := n2_; have HO404 := n3_; have HO409 := n4_; have HO412 := n5_; have HO417 := n6_; have HO421 := n7_; have HO424 := n8_; have BK406 := n9_; have BK414 := n10_; have HB := n11_; clear n0_ n1_ n2_ n3_ n4_ n5_ n6_ n7_ n8_ n9_ n10_ n11_; clear hb ho37; obtain ⟨Ao38, co38, eo38⟩ := Kd.R_slice HO424.out; subst eo38) | ((with_reducible refine gate_callee (f := 27) rfl ?_); refine goesL_ (some 47) rfl rfl Try.func27 (by kernel_rfl) rfl #[.slice Ao38 y422.length co38, .slice Ao33 t393.length co33] rfl (by (try simp only [List.map_toArray, List.map_cons, List.map_nil]); first | done | rfl | (simp only [List.length_drop, List.length_take]; rfl)) ?_; (with_reducible refine (bobbinetkeep_paths.calls k _ _ y422 _ _ t393 t425 t426 _ ?side1 ?side2 ?side3 ?side4 A10.out).mono ?_); (case side1 => repeat (first | exact (Kd.R_reads' HO424.out).2.2 | (with_reducible refine Kd.C_alloc ?_ _) | (with_reducible refine Kd.C_drewN ?_ _) | (with_reducible refine Kd.C_drew ?_))); (case side2 => exact (Kd.R_reads' HO424.out).2.1); (case side3 => repeat (first | exact (Kd.R_reads' HO395.out).2.2 | (with_reducible refine Kd.C_alloc ?_ _) | (with_reducible refine Kd.C_drewN ?_ _) | (with_reducible refine Kd.C_drew ?_))); (case side4 => exact (Kd.R_reads' HO395.out).2.1); rintro e w39 ⟨v427, rfl, ho0, hb⟩; refine ⟨_, rfl, ?_⟩; have n0_ := Aside0.mk (Kd.R_below (by (with_reducible repeat (first | apply Kd.R_alloc | apply Kd.R_drewN | apply Kd.R_drew)); exact HO395.out) hb); have n1_ := Aside0.mk (Kd.V_elder' (by (with_reducible repeat (first | apply Kd.V_alloc | apply Kd.V_drewN | apply Kd.V_drew)); exact HO398.out) (Kd.S_base ho0) hb); have n2_ := Aside0.mk (Kd.R_below (by (with_reducible repeat (first | apply Kd.R_alloc | apply Kd.R_drewN | apply Kd.R_drew)); exact HO401.out) hb); have n3_ := Aside0.mk (Kd.R_below (by (with_reducible repeat (first | apply Kd.R_alloc | apply Kd.R_drewN | apply Kd.R_drew)); exact HO404.out) hb); have n4_ := Aside0.mk (Kd.R_below (by (with_reducible repeat (first | apply Kd.R_alloc | apply Kd.R_drewN | apply Kd.R_drew)); exact HO409.out) hb); have n5_ := Aside0.mk (Kd.R_below (by (with_reducible repeat (first | apply Kd.R_alloc | apply Kd.R_drewN | apply Kd.R_drew)); exact HO412.out) hb); have n6_ := Aside0.mk (Kd.R_below (by (with_reducible repeat (first | apply Kd.R_alloc | apply Kd.R_drewN | apply Kd.R_drew)); exact HO417.out) hb); have n7_ := Aside0.mk (Kd.S_elder' (by (with_reducible repeat (first | apply Kd.S_alloc | apply Kd.S_drewN | apply Kd.S_drew)); exact HO421.out) (Kd.S_base ho0) hb); have n8_ := Aside0.mk (Kd.R_below (by (with_reducible repeat (first | apply Kd.R_alloc | apply Kd.R_drewN | apply Kd.R_drew)); exact HO424.out) hb); have n9_ := Aside0.mk (Kd.S_lower (Kd.S_new' (Kd.S_new' (Kd.S_new' ho0 (Kd.R_lt (by (with_reducible repeat (first | apply Kd.R_alloc | apply Kd.R_drewN | apply Kd.R_drew)); exact HO401.out))) (Kd.R_lt (by (with_reducible repeat (first | apply Kd.R_alloc | apply Kd.R_drewN | apply Kd.R_drew)); exact HO409.out))) (Kd.S_lt (by (with_reducible repeat (first | apply Kd.S_alloc | apply Kd.S_drewN | apply Kd.S_drew)); exact HO421.out))) (below_size (by repeat (first | (with_reducible first | exact HB.out | apply below_alloc | apply pw_below_drewN | apply below_drew1 | refine below_set ?_ GE406.out | refine below_set ?_ GE414.out) | exact HB.out)))); have n10_ := Aside0.mk (blk_below (g := gb406) (o := .cells #[.string ((rd_T61 t402 0).f0), .string ((rd_T61 t402 0).f1), .bool ((rd_T61 t402 0).f2)] 61 (0, 0)) (by (with_reducible repeat (first | refine blk_drewN ?_ _ | refine blk_drew ?_ | refine blk_alloc ?_ _)); exact BK406.out) hb); have n11_ := Aside0.mk (blk_below (g := gb414) (o := .cells #[.string ((rd_T61 t410 0).f0), .string ((rd_T61 t410 0).f1), .bool ((rd_T61 t410 0).f2)] 61 (0, 0)) (by (with_reducible repeat (first | refine blk_drewN ?_ _ | refine blk_drew ?_ | refine blk_alloc ?_ _)); exact BK414.out) hb); have n12_ := Aside0.mk (below_step (by repeat (first | (with_reducible first | exact HB.out | apply below_alloc | apply pw_below_drewN | apply below_drew1 | refine below_set ?_ GE406.out | refine below_set ?_ GE414.out) | exact HB.out)) hb); clear HO395; clear HO398; clear HO401; clear HO404; clear HO409; clear HO412; clear HO417; clear HO421; clear HO424; clear BK406; clear BK414; clear HB; have HO395 := n0_; have HO398 := n1_; have HO401 := n2_; have HO404 := n3_; have HO409 := n4_; have HO412 := n5_; have HO417 := n6_; have HO421 := n7_; have HO424 := n8_; have HO428 := n9_; have BK406 := n10_; have BK414 := n11_; have HB := n12_; clear n0_ n1_ n2_ n3_ n4_ n5_ n6_ n7_ n8_ n9_ n10_ n11_ n12_; (try clear hb); (try clear hb2); (try clear hk); (try clear hi); (try clear ho0); have hcz40_0 : w39.cell? ⟨gb414, 0, none⟩ = some (.string ((rd_T61 t410 0).f0)) := (blk_cell BK414.out 0).trans rfl; have hcz40_1 : w39.cell? ⟨gb414, 1, none⟩ = some (.string ((rd_T61 t410 0).f1)) := (blk_cell BK414.out 1).trans rfl; have hcz40_2 : w39.cell? ⟨gb414, 2, none⟩ = some (.bool ((rd_T61 t410 0).f2)) := (blk_cell BK414.out 2).trans rfl; have hfz40_0 := blk_frozen BK414.out 0; have hfz40_1 := blk_frozen BK414.out 1; have hfz40_2 := blk_frozen BK414.out 2; have hcz41_0 : w39.cell? ⟨gb406, 0, none⟩ = some (.string ((rd_T61 t402 0).f0)) := (blk_cell BK406.out 0).trans rfl; have hcz41_1 : w39.cell? ⟨gb406, 1, none⟩ = some (.string ((rd_T61 t402 0).f1)) := (blk_cell BK406.out 1).trans rfl; have hcz41_2 : w39.cell? ⟨gb406, 2, none⟩ = some (.bool ((rd_T61 t402 0).f2)) := (blk_cell BK406.out 2).trans rfl; have hfz41_0 := blk_frozen BK406.out 0; have hfz41_1 := blk_frozen BK406.out 1; have hfz41_2 := blk_frozen BK406.out 2) | ((with_reducible refine gate_dst (N := 54) rfl ?_); (try (refine gate_guard (by rfl) ?_; dsimp only)); refine Kd.R_lit k61 _ 61 ?hg (N := 54) ?hd (xs := ([(⟨(rd_T61 t402 0).f0, (rd_T61 t402 0).f1, (rd_T61 t402 0).f2⟩ : S61), (⟨(rd_T61 t410 0).f0, (rd_T61 t410 0).f1, true⟩ : S61)] : List (S61))) (inner := [.string ((rd_T61 t402 0).f0), .string ((rd_T61 t402 0).f1), .bool ((rd_T61 t402 0).f2), .string ((rd_T61 t410 0).f0), .string ((rd_T61 t410 0).f1), .bool true]) (ok := fun _ => True) (okp := fun _ => True) ?hr ?hp (fun _ hk => hk) trivial (Below.refl _ _) (Nat.le_refl _) (by simp) ?_; (case hd => rfl); (case hg => rfl); (case hr => first | (go_simp; done) | (go_simp; rfl)); (case hp => exact (Reps.c3 (show Kd.M k61 _ _ _ (⟨(rd_T61 t402 0).f0, (rd_T61 t402 0).f1, (rd_T61 t402 0).f2⟩ : S61) [.string ((rd_T61 t402 0).f0), .string ((rd_T61 t402 0).f1), .bool ((rd_T61 t402 0).f2)] from (k61_mkM _ _ _ (⟨(rd_T61 t402 0).f0, (rd_T61 t402 0).f1, (rd_T61 t402 0).f2⟩ : S61) )) (Reps.c3 (show Kd.M k61 _ _ _ (⟨(rd_T61 t410 0).f0, (rd_T61 t410 0).f1, true⟩ : S61) [.string ((rd_T61 t410 0).f0), .string ((rd_T61 t410 0).f1), .bool true] from (k61_mkM _ _ _ (⟨(rd_T61 t410 0).f0, (rd_T61 t410 0).f1, true⟩ : S61) )) (Reps.none _ _)))); intro v430 w42 ho43 hb hg_ hnew_; clear hg_ hnew_; (first | rw [← Ny429.out] at ho43 | (simp only [Int.reduceToNat] at ho43; rw [← Ny429.out] at ho43)); have n0_ := Aside0.mk (Kd.R_below (by (with_reducible repeat (first | apply Kd.R_alloc | apply Kd.R_drewN | apply Kd.R_drew)); exact (Kd.R_mono (Kd.R_far (p := ⟨gb414, 2, none⟩) (Kd.R_types HO395.out BK414.out (by decide)) (fun _ hk => hk.2) (.bool true)) (fun _ h_ => h_.1))) hb); have n1_ := Aside0.mk (Kd.V_elder' (by (with_reducible repeat (first | apply Kd.V_alloc | apply Kd.V_drewN | apply Kd.V_drew)); exact (Kd.V_mono (Kd.V_far (p := ⟨gb414, 2, none⟩) (Kd.V_mono HO398.out (fun k_ hk => (⟨hk, hk.1.1.1.1.2⟩ : _ ∧ k_ ≠ gb414))) (fun _ hk => hk.2) (.bool true)) (fun _ h_ => h_.1))) (Kd.R_base ho43) hb); have n2_ := Aside0.mk (Kd.R_below (by (with_reducible repeat (first | apply Kd.R_alloc | apply Kd.R_drewN | apply Kd.R_drew)); exact (Kd.R_mono (Kd.R_far (p := ⟨gb414, 2, none⟩) (Kd.R_types HO401.out BK414.out (by decide)) (fun _ hk => hk.2) (.bool true)) (fun _ h_ => h_.1))) hb); have n3_ := Aside0.mk (Kd.R_elder' (by (with_reducible repeat (first | apply Kd.R_alloc | apply Kd.R_drewN | apply Kd.R_drew)); exact (Kd.R_mono (Kd.R_far (p := ⟨gb414, 2, none⟩) (Kd.R_mono HO404.out (fun k_ hk => (⟨hk, hk.1.1.2⟩ : _ ∧ k_ ≠ gb414))) (fun _ hk => hk.2) (.bool true)) (fun _ h_ => h_.1))) (Kd.R_base ho43) hb); have n4_ := Aside0.mk (Kd.R_below (by (with_reducible repeat (first | apply Kd.R_alloc | apply Kd.R_drewN | apply Kd.R_drew)); exact (Kd.R_mono (Kd.R_far (p := ⟨gb414, 2, none⟩) (Kd.R_types HO409.out BK414.out (by decide)) (fun _ hk => hk.2) (.bool true)) (fun _ h_ => h_.1))) hb); have n5_ := Aside0.mk (Kd.R_elder' (by (with_reducible repeat (first | apply Kd.R_alloc | apply Kd.R_drewN | apply Kd.R_drew)); exact (Kd.R_mono (Kd.R_far (p := ⟨gb414, 2, none⟩) (Kd.R_mono HO412.out (fun k_ hk => (⟨hk, hk.1.1.2⟩ : _ ∧ k_ ≠ gb414))) (fun _ hk => hk.2) (.bool true)) (fun _ h_ => h_.1))) (Kd.R_base ho43) hb); have n6_ := Aside0.mk (Kd.R_elder' (by (with_reducible repeat (first | apply Kd.R_alloc | apply Kd.R_drewN | apply Kd.R_drew)); exact (Kd.R_mono (Kd.R_far (p := ⟨gb414, 2, none⟩) (Kd.R_mono HO417.out (fun k_ hk => (⟨hk, hk.1.2⟩ : _ ∧ k_ ≠ gb414))) (fun _ hk => hk.2) (.bool true)) (fun _ h_ => h_.1))) (Kd.R_base ho43) hb); have n7_ := Aside0.mk (Kd.S_below (by (with_reducible repeat (first | apply Kd.S_alloc | apply Kd.S_drewN | apply Kd.S_drew)); exact (Kd.S_mono (Kd.S_far (p := ⟨gb414, 2, none⟩) (Kd.S_types HO421.out BK414.out (by decide)) (fun _ hk => hk.2) (.bool true)) (fun _ h_ => h_.1))) hb); have n8_ := Aside0.mk (Kd.R_elder' (by (with_reducible repeat (first | apply Kd.R_alloc | apply Kd.R_drewN | apply Kd.R_drew)); exact (Kd.R_mono (Kd.R_far (p := ⟨gb414, 2, none⟩) (Kd.R_mono HO424.out (fun k_ hk => (⟨hk, hk.2⟩ : _ ∧ k_ ≠ gb414))) (fun _ hk => hk.2) (.bool true)) (fun _ h_ => h_.1))) (Kd.R_base ho43) hb); have n9_ := Aside0.mk (Kd.S_below (by (with_reducible repeat (first | apply Kd.S_alloc | apply Kd.S_drewN | apply Kd.S_drew)); exact (Kd.S_mono (Kd.S_far (p := ⟨gb414, 2, none⟩) (Kd.S_types HO428.out BK414.out (by decide)) (fun _ hk => hk.2) (.bool true)) (fun _ h_ => h_.1))) hb); have n10_ := Aside0.mk (Kd.R_lower (Kd.R_newB (Kd.R_newB (Kd.R_new' (Kd.R_new' (Kd.R_new' (Kd.R_new' ho43 (Kd.R_lt (by (with_reducible repeat (first | apply Kd.R_alloc | apply Kd.R_drewN | apply Kd.R_drew)); exact (Kd.R_mono (Kd.R_far (p := ⟨gb414, 2, none⟩) (Kd.R_mono HO404.out (fun k_ hk => (⟨hk, hk.1.1.2⟩ : _ ∧ k_ ≠ gb414))) (fun _ hk => hk.2) (.bool true)) (fun _ h_ => h_.1))))) (Kd.R_lt (by (with_reducible repeat (first | apply Kd.R_alloc | apply Kd.R_drewN | apply Kd.R_drew)); exact (Kd.R_mono (Kd.R_far (p := ⟨gb414, 2, none⟩) (Kd.R_mono HO412.out (fun k_ hk => (⟨hk, hk.1.1.2⟩ : _ ∧ k_ ≠ gb414))) (fun _ hk => hk.2) (.bool true)) (fun _ h_ => h_.1))))) (Kd.R_lt (by (with_reducible repeat (first | apply Kd.R_alloc | apply Kd.R_drewN | apply Kd.R_drew)); exact (Kd.R_mono (Kd.R_far (p := ⟨gb414, 2, none⟩) (Kd.R_mono HO417.out (fun k_ hk => (⟨hk, hk.1.2⟩ : _ ∧ k_ ≠ gb414))) (fun _ hk => hk.2) (.bool true)) (fun _ h_ => h_.1))))) (Kd.R_lt (by (with_reducible repeat (first | apply Kd.R_alloc | apply Kd.R_drewN | apply Kd.R_drew)); exact (Kd.R_mono (Kd.R_far (p := ⟨gb414, 2, none⟩) (Kd.R_mono HO424.out (fun k_ hk => (⟨hk, hk.2⟩ : _ ∧ k_ ≠ gb414))) (fun _ hk => hk.2) (.bool true)) (fun _ h_ => h_.1))))) (g := gb406) (o := .cells #[.string ((rd_T61 t402 0).f0), .string ((rd_T61 t402 0).f1), .bool ((rd_T61 t402 0).f2)] 61 (0, 0)) (by (with_reducible repeat (first | refine blk_drewN ?_ _ | refine blk_drew ?_ | refine blk_alloc ?_ _)); refine blk_far ?_ NB406_414.out _; (with_reducible repeat (first | refine blk_drewN ?_ _ | refine blk_drew ?_ | refine blk_alloc ?_ _)); exact BK406.out)) (g := gb414) (o := .cells #[.string ((rd_T61 t410 0).f0), .string ((rd_T61 t410 0).f1), .bool true] 61 (0, 0)) (by (with_reducible repeat (first | refine blk_drewN ?_ _ | refine blk_drew ?_ | refine blk_alloc ?_ _)); refine blk_put (cs := #[.string ((rd_T61 t410 0).f0), .string ((rd_T61 t410 0).f1), .bool ((rd_T61 t410 0).f2)]) ?_ 2 _ rfl; (with_reducible repeat (first | refine blk_drewN ?_ _ | refine blk_drew ?_ | refine blk_alloc ?_ _)); exact BK414.out)) (below_size (by repeat (first | (with_reducible first | exact HB.out | apply below_alloc | apply pw_below_drewN | apply below_drew1 | refine below_set ?_ GE406.out | refine below_set ?_ GE414.out) | exact HB.out)))); have n11_ := Aside0.mk (blk_below (g := gb406) (o := .cells #[.string ((rd_T61 t402 0).f0), .string ((rd_T61 t402 0).f1), .bool ((rd_T61 t402 0).f2)] 61 (0, 0)) (by (with_reducible repeat (first | refine blk_drewN ?_ _ | refine blk_drew ?_ | refine blk_alloc ?_ _)); refine blk_far ?_ NB406_414.out _; (with_reducible repeat (first | refine blk_drewN ?_ _ | refine blk_drew ?_ | refine blk_alloc ?_ _)); exact BK406.out) hb); have n12_ := Aside0.mk (blk_below (g := gb414) (o := .cells #[.string ((rd_T61 t410 0).f0), .string ((rd_T61 t410 0).f1), .bool true] 61 (0, 0)) (by (with_reducible repeat (first | refine blk_drewN ?_ _ | refine blk_drew ?_ | refine blk_alloc ?_ _)); refine blk_put (cs := #[.string ((rd_T61 t410 0).f0), .string ((rd_T61 t410 0).f1), .bool ((rd_T61 t410 0).f2)]) ?_ 2 _ rfl; (with_reducible repeat (first | refine blk_drewN ?_ _ | refine blk_drew ?_ | refine blk_alloc ?_ _)); exact BK414.out) hb); have n13_ := Aside0.mk (below_step (by repeat (first | (with_reducible first | exact HB.out | apply below_alloc | apply pw_below_drewN | apply below_drew1 | refine below_set ?_ GE406.out | refine below_set ?_ GE414.out) | exact HB.out)) hb); clear HO395; clear HO398; clear HO401; clear HO404; clear HO409; clear HO412; clear HO417; clear HO421; clear HO424; clear HO428; clear BK406; clear BK414; clear HB; have HO395 := n0_; have HO398 := n1_; have HO401 := n2_; have HO404 := n3_; have HO409 := n4_; have HO412 := n5_; have HO417 := n6_; have HO421 := n7_; have HO424 := n8_; have HO428 := n9_; have HO431 := n10_; have BK406 := n11_; have BK414 := n12_; have HB := n13_; clear n0_ n1_ n2_ n3_ n4_ n5_ n6_ n7_ n8_ n9_ n10_ n11_ n12_ n13_; clear hb ho43; obtain ⟨Ao44, co44, eo44⟩ := Kd.R_slice HO431.out; subst eo44) | ((with_reducible refine gate_callee (f := 27) rfl ?_); refine goesL_ (some 56) rfl rfl Try.func27 (by kernel_rfl) rfl #[.slice Ao44 y429.length co44, .slice Ao33 t393.length co33] rfl (by (try simp only [List.map_toArray, List.map_cons, List.map_nil]); first | done | rfl | (simp only [List.length_drop, List.length_take]; rfl)) ?_; (with_reducible refine (bobbinetkeep_paths.calls k _ _ y429 _ _ t393 t432 t433 _ ?side1 ?side2 ?side3 ?side4 A11.out).mono ?_); (case side1 => repeat (first | exact (Kd.R_reads' HO431.out).2.2 | (with_reducible refine Kd.C_alloc ?_ _) | (with_reducible refine Kd.C_drewN ?_ _) | (with_reducible refine Kd.C_drew ?_))); (case side2 => exact (Kd.R_reads' HO431.out).2.1); (case side3 => repeat (first | exact (Kd.R_reads' HO395.out).2.2 | (with_reducible refine Kd.C_alloc ?_ _) | (with_reducible refine Kd.C_drewN ?_ _) | (with_reducible refine Kd.C_drew ?_))); (case side4 => exact (Kd.R_reads' HO395.out).2.1); rintro e w45 ⟨v434, rfl, ho0, hb⟩; refine ⟨_, rfl, ?_⟩; have n0_ := Aside0.mk (Kd.R_below (by (with_reducible repeat (first | apply Kd.R_alloc | apply Kd.R_drewN | apply Kd.R_drew)); exact HO395.out) hb); have n1_ := Aside0.mk (Kd.V_elder' (by (with_reducible repeat (first | apply Kd.V_alloc | apply Kd.V_drewN | apply Kd.V_drew)); exact HO398.out) (Kd.S_base ho0) hb); have n2_ := Aside0.mk (Kd.R_below (by (with_reducible repeat (first | apply Kd.R_alloc | apply Kd.R_drewN | apply Kd.R_drew)); exact HO401.out) hb); have n3_ := Aside0.mk (Kd.R_below (by (with_reducible repeat (first | apply Kd.R_alloc | apply Kd.R_drewN | apply Kd.R_drew)); exact HO404.out) hb); have n4_ := Aside0.mk (Kd.R_below (by (with_reducible repeat (first | apply Kd.R_alloc | apply Kd.R_drewN | apply Kd.R_drew)); exact HO409.out) hb); have n5_ := Aside0.mk (Kd.R_below (by (with_reducible repeat (first | apply Kd.R_alloc | apply Kd.R_drewN | apply Kd.R_drew)); exact HO412.out) hb); have n6_ := Aside0.mk (Kd.R_below (by (with_reducible repeat (first | apply Kd.R_alloc | apply Kd.R_drewN | apply Kd.R_drew)); exact HO417.out) hb); have n7_ := Aside0.mk (Kd.S_elder' (by (with_reducible repeat (first | apply Kd.S_alloc | apply Kd.S_drewN | apply Kd.S_drew)); exact HO421.out) (Kd.S_base ho0) hb); have n8_ := Aside0.mk (Kd.R_below (by (with_reducible repeat (first | apply Kd.R_alloc | apply Kd.R_drewN | apply Kd.R_drew)); exact HO424.out) hb); have n9_ := Aside0.mk (Kd.S_elder' (by (with_reducible repeat (first | apply Kd.S_alloc | apply Kd.S_drewN | apply Kd.S_drew)); exact HO428.out) (Kd.S_base ho0) hb); have n10_ := Aside0.mk (Kd.R_below (by (with_reducible repeat (first | apply Kd.R_alloc | apply Kd.R_drewN | apply Kd.R_drew)); exact HO431.out) hb); have n11_ := Aside0.mk (Kd.S_lower (Kd.S_new' (Kd.S_new' (Kd.S_new' (Kd.S_new' ho0 (Kd.R_lt (by (with_reducible repeat (first | apply Kd.R_alloc | apply Kd.R_drewN | apply Kd.R_drew)); exact HO401.out))) (Kd.R_lt (by (with_reducible repeat (first | apply Kd.R_alloc | apply Kd.R_drewN | apply Kd.R_drew)); exact HO409.out))) (Kd.S_lt (by (with_reducible repeat (first | apply Kd.S_alloc | apply Kd.S_drewN | apply Kd.S_drew)); exact HO421.out))) (Kd.S_lt (by (with_reducible repeat (first | apply Kd.S_alloc | apply Kd.S_drewN | apply Kd.S_drew)); exact HO428.out))) (below_size (by repeat (first | (with_reducible first | exact HB.out | apply below_alloc | apply pw_below_drewN | apply below_drew1 | refine below_set ?_ GE406.out | refine below_set ?_ GE414.out) | exact HB.out)))); have n12_ := Aside0.mk (blk_below (g := gb406) (o := .cells #[.string ((rd_T61 t402 0).f0), .string ((rd_T61 t402 0).f1), .bool ((rd_T61 t402 0).f2)] 61 (0, 0)) (by (with_reducible repeat (first | refine blk_drewN ?_ _ | refine blk_drew ?_ | refine blk_alloc ?_ _)); exact BK406.out) hb); have n13_ := Aside0.mk (blk_below (g := gb414) (o := .cells #[.string ((rd_T61 t410 0).f0), .string ((rd_T61 t410 0).f1), .bool true] 61 (0, 0)) (by (with_reducible repeat (first | refine blk_drewN ?_ _ | refine blk_drew ?_ | refine blk_alloc ?_ _)); exact BK414.out) hb); have n14_ := Aside0.mk (below_step (by repeat (first | (with_reducible first | exact HB.out | apply below_alloc | apply pw_below_drewN | apply below_drew1 | refine below_set ?_ GE406.out | refine below_set ?_ GE414.out) | exact HB.out)) hb); clear HO395; clear HO398; clear HO401; clear HO404; clear HO409; clear HO412; clear HO417; clear HO421; clear HO424; clear HO428; clear HO431; clear BK406; clear BK414; clear HB; have HO395 := n0_; have HO398 := n1_; have HO401 := n2_; have HO404 := n3_; have HO409 := n4_; have HO412 := n5_; have HO417 := n6_; have HO421 := n7_; have HO424 := n8_; have HO428 := n9_; have HO431 := n10_; have HO435 := n11_; have BK406 := n12_; have BK414 := n13_; have HB := n14_; clear n0_ n1_ n2_ n3_ n4_ n5_ n6_ n7_ n8_ n9_ n10_ n11_ n12_ n13_ n14_; (try clear hb); (try clear hb2); (try clear hk); (try clear hi); (try clear ho0)))
   (try simp only [Act.put, List.setIfInBounds_toArray, List.set_cons_zero, List.set_cons_succ])
   go_cut [68] (fun v68 wc => ∃ (kq : Nat) (x68_11 : Bool), v68 = .bool x68_11 ∧ Aside0 (bobbinetkeep_PickWithin.j0 kq t418 t425 t432 x68_11 = some r) ∧ Aside0 (kq ≤ k) ∧ Aside0 (Kd.S (Kd.slice 3 (Kd.int .i64)) 22 wc w.heap.size (fun k_ => some k_ ≠ (v427 : Value).ownBlock ∧ some k_ ≠ (v434 : Value).ownBlock) v420 t418) ∧ Aside0 (Kd.S (Kd.slice 3 (Kd.int .i64)) 22 wc w.heap.size (fun k_ => some k_ ≠ (v420 : Value).ownBlock ∧ some k_ ≠ (v434 : Value).ownBlock) v427 t425) ∧ Aside0 (Kd.S (Kd.slice 3 (Kd.int .i64)) 22 wc w.heap.size (fun k_ => some k_ ≠ (v420 : Value).ownBlock ∧ some k_ ≠ (v427 : Value).ownBlock) v434 t432) ∧ Aside0 (wc.heap[gb406]? = some (.cells #[.string ((rd_T61 t402 0).f0), .string ((rd_T61 t402 0).f1), .bool ((rd_T61 t402 0).f2)] 61 (0, 0))) ∧ Aside0 (wc.heap[gb414]? = some (.cells #[.string ((rd_T61 t410 0).f0), .string ((rd_T61 t410 0).f1), .bool true] 61 (0, 0))) ∧ Aside0 (Below w.heap.size w wc))
   case first =>
    have H := HC12.out
    clear HC12
    by_cases c46 : t419 = true
    ·
     subst c46
     have H1 : (if t426 = true then (bobbinetkeep_PickWithin.j0 k t418 t425 t432 (!t433)) else (bobbinetkeep_PickWithin.j0 k t418 t425 t432 true)) = some r := by rw [if_pos rfl] at H; exact H
     clear H
     have H := H1
     clear H1
     by_cases c47 : t426 = true
     ·
      subst c47
      have H1 : (bobbinetkeep_PickWithin.j0 k t418 t425 t432 (!t433)) = some r := by rw [if_pos rfl] at H; exact H
      clear H
      have H := H1
      clear H1
      have H' := Aside0.mk H
      clear H
      go_wp2
      go_meet
      case rel => exact ⟨_, (!t433), (by first | rfl | (simp; done) | (simp [*]; done) | (simp [bne]; done)), H', ⟨by first | omega | exact Nat.le_refl _⟩, ⟨by (with_reducible repeat (first | apply Kd.S_alloc | apply Kd.S_drewN | apply Kd.S_drew)); exact Kd.S_mono HO421.out (fun _ hk => ⟨hk.1.2, hk.2⟩)⟩, ⟨by (with_reducible repeat (first | apply Kd.S_alloc | apply Kd.S_drewN | apply Kd.S_drew)); exact Kd.S_mono HO428.out (fun _ hk => ⟨hk.1.2, hk.2⟩)⟩, ⟨by (with_reducible repeat (first | apply Kd.S_alloc | apply Kd.S_drewN | apply Kd.S_drew)); exact Kd.S_mono HO435.out (fun _ hk => ⟨hk.1.2, hk.2⟩)⟩, ⟨by (with_reducible repeat (first | refine blk_drewN ?_ _ | refine blk_drew ?_ | refine blk_alloc ?_ _)); exact BK406.out⟩, ⟨by (with_reducible repeat (first | refine blk_drewN ?_ _ | refine blk_drew ?_ | refine blk_alloc ?_ _)); exact BK414.out⟩, ⟨by repeat (first | (with_reducible first | exact HB.out | apply below_alloc | apply pw_below_drewN | apply below_drew1 | refine below_set ?_ GE406.out | refine below_set ?_ GE414.out) | exact HB.out)⟩⟩
     ·
      replace c47 := Bool.eq_false_iff.mpr c47
      subst c47
      have H1 : (bobbinetkeep_PickWithin.j0 k t418 t425 t432 true) = some r := by rw [if_neg (show ¬ (false = true) by decide)] at H; exact H
      clear H
      have H := H1
      clear H1
      have H' := Aside0.mk H
      clear H
      go_wp2
      go_meet
      case rel => exact ⟨_, (true), (by first | rfl | (simp; done) | (simp [*]; done) | (simp [bne]; done)), H', ⟨by first | omega | exact Nat.le_refl _⟩, ⟨by (with_reducible repeat (first | apply Kd.S_alloc | apply Kd.S_drewN | apply Kd.S_drew)); exact Kd.S_mono HO421.out (fun _ hk => ⟨hk.1.2, hk.2⟩)⟩, ⟨by (with_reducible repeat (first | apply Kd.S_alloc | apply Kd.S_drewN | apply Kd.S_drew)); exact Kd.S_mono HO428.out (fun _ hk => ⟨hk.1.2, hk.2⟩)⟩, ⟨by (with_reducible repeat (first | apply Kd.S_alloc | apply Kd.S_drewN | apply Kd.S_drew)); exact Kd.S_mono HO435.out (fun _ hk => ⟨hk.1.2, hk.2⟩)⟩, ⟨by (with_reducible repeat (first | refine blk_drewN ?_ _ | refine blk_drew ?_ | refine blk_alloc ?_ _)); exact BK406.out⟩, ⟨by (with_reducible repeat (first | refine blk_drewN ?_ _ | refine blk_drew ?_ | refine blk_alloc ?_ _)); exact BK414.out⟩, ⟨by repeat (first | (with_reducible first | exact HB.out | apply below_alloc | apply pw_below_drewN | apply below_drew1 | refine below_set ?_ GE406.out | refine below_set ?_ GE414.out) | exact HB.out)⟩⟩
    ·
     replace c46 := Bool.eq_false_iff.mpr c46
     subst c46
     have H1 : (bobbinetkeep_PickWithin.j0 k t418 t425 t432 true) = some r := by rw [if_neg (show ¬ (false = true) by decide)] at H; exact H
     clear H
     have H := H1
     clear H1
     have H' := Aside0.mk H
     clear H
     go_wp2
     go_meet
     case rel => exact ⟨_, (true), (by first | rfl | (simp; done) | (simp [*]; done) | (simp [bne]; done)), H', ⟨by first | omega | exact Nat.le_refl _⟩, ⟨by (with_reducible repeat (first | apply Kd.S_alloc | apply Kd.S_drewN | apply Kd.S_drew)); exact Kd.S_mono HO421.out (fun _ hk => ⟨hk.1.2, hk.2⟩)⟩, ⟨by (with_reducible repeat (first | apply Kd.S_alloc | apply Kd.S_drewN | apply Kd.S_drew)); exact Kd.S_mono HO428.out (fun _ hk => ⟨hk.1.2, hk.2⟩)⟩, ⟨by (with_reducible repeat (first | apply Kd.S_alloc | apply Kd.S_drewN | apply Kd.S_drew)); exact Kd.S_mono HO435.out (fun _ hk => ⟨hk.1.2, hk.2⟩)⟩, ⟨by (with_reducible repeat (first | refine blk_drewN ?_ _ | refine blk_drew ?_ | refine blk_alloc ?_ _)); exact BK406.out⟩, ⟨by (with_reducible repeat (first | refine blk_drewN ?_ _ | refine blk_drew ?_ | refine blk_alloc ?_ _)); exact BK414.out⟩, ⟨by repeat (first | (with_reducible first | exact HB.out | apply below_alloc | apply pw_below_drewN | apply below_drew1 | refine below_set ?_ GE406.out | refine below_set ?_ GE414.out) | exact HB.out)⟩⟩
   case rest =>
    clear HC12
    try clear c1
    try clear c2
    try clear p2
    try clear c3
    try clear c4
    try clear p4
    try clear q4
    try clear hx4
    try clear qi4
    try clear c6
    try clear c6b0
    try clear c6b1
    try clear c8
    try clear c8b0
    try clear c8b1
    try clear c11
    try clear c12
    try clear c26
    try clear c27
    try clear p40
    try clear q40
    try clear hx40
    try clear qi40
    try clear p41
    try clear q41
    try clear hx41
    try clear qi41
    try clear c46
    try clear c47
    try clear hcz20_0
    try clear hcz20_1
    try clear hcz20_2
    try clear hcz28_0
    try clear hcz28_1
    try clear hcz28_2
    try clear hcz29_0
    try clear hcz29_1
    try clear hcz29_2
    try clear hcz35_0
    try clear hcz35_1
    try clear hcz35_2
    try clear hcz40_0
    try clear hcz40_1
    try clear hcz40_2
    try clear hcz41_0
    try clear hcz41_1
    try clear hcz41_2
    try clear hfz20_0
    try clear hfz20_1
    try clear hfz20_2
    try clear hfz28_0
    try clear hfz28_1
    try clear hfz28_2
    try clear hfz29_0
    try clear hfz29_1
    try clear hfz29_2
    try clear hfz35_0
    try clear hfz35_1
    try clear hfz35_2
    try clear hfz40_0
    try clear hfz40_1
    try clear hfz40_2
    try clear hfz41_0
    try clear hfz41_1
    try clear hfz41_2
    try clear hx405_0
    try clear hx405_1
    try clear hx405_2
    try clear hx413_0
    try clear hx413_1
    try clear hx413_2
    try clear p405
    try clear p413
    try clear q405
    try clear q413
    obtain ⟨kq, x68_11, rfl, HA, HJ11, HO_11, HO_13, HO_15, BK406, BK414, HB⟩ := hcut
    cases kq with
    | zero => exact absurd HA.out (by simp [bobbinetkeep_PickWithin.j0])
    | succ kj11 =>
     have H := HA.out
     clear HA
     simp only [bobbinetkeep_PickWithin.j0] at H
     by_cases c48 : x68_11 = true
     ·
      subst c48
      have H1 : (none) = some r := by rw [if_pos rfl] at H; exact H
      clear H
      have H := H1
      clear H1
      exact absurd H (by simp)
     ·
      replace c48 := Bool.eq_false_iff.mpr c48
      subst c48
      have H1 : (bobbinetkeep_PickWithin.l0 kj11 t418 t425 t432 0 0) = some r := by rw [if_neg (show ¬ (false = true) by decide)] at H; exact H
      clear H
      have H := H1
      clear H1
      have H' := Aside0.mk H
      clear H
      go_wp2
      go_loopg [17, 18] kj11 (fun kq v17 v18 w' => ∃ (x17_2 : Int) (x18_2 : Int), v17 = .int .i64 x17_2 ∧ v18 = .int .i64 x18_2 ∧ Aside0 (bobbinetkeep_PickWithin.l0 kq t418 t425 t432 x17_2 x18_2 = some r) ∧ Aside0 (kq ≤ kj11) ∧ Aside0 (Kd.S (Kd.slice 3 (Kd.int .i64)) 22 w' w.heap.size (fun k_ => some k_ ≠ (v427 : Value).ownBlock ∧ some k_ ≠ (v434 : Value).ownBlock) v420 t418) ∧ Aside0 (Kd.S (Kd.slice 3 (Kd.int .i64)) 22 w' w.heap.size (fun k_ => some k_ ≠ (v420 : Value).ownBlock ∧ some k_ ≠ (v434 : Value).ownBlock) v427 t425) ∧ Aside0 (Kd.S (Kd.slice 3 (Kd.int .i64)) 22 w' w.heap.size (fun k_ => some k_ ≠ (v420 : Value).ownBlock ∧ some k_ ≠ (v427 : Value).ownBlock) v434 t432) ∧ Aside0 (w'.heap[gb406]? = some (.cells #[.string ((rd_T61 t402 0).f0), .string ((rd_T61 t402 0).f1), .bool ((rd_T61 t402 0).f2)] 61 (0, 0))) ∧ Aside0 (w'.heap[gb414]? = some (.cells #[.string ((rd_T61 t410 0).f0), .string ((rd_T61 t410 0).f1), .bool true] 61 (0, 0))) ∧ Aside0 (Below w.heap.size w w'))
      case atStart => exact ⟨(0), (0), (by first | rfl | (simp; done) | (simp [*]; done) | (simp [bne]; done)), (by first | rfl | (simp; done) | (simp [*]; done) | (simp [bne]; done)), H', ⟨Nat.le_refl _⟩, ⟨by (with_reducible repeat (first | apply Kd.S_alloc | apply Kd.S_drewN | apply Kd.S_drew)); exact HO_11.out⟩, ⟨by (with_reducible repeat (first | apply Kd.S_alloc | apply Kd.S_drewN | apply Kd.S_drew)); exact HO_13.out⟩, ⟨by (with_reducible repeat (first | apply Kd.S_alloc | apply Kd.S_drewN | apply Kd.S_drew)); exact HO_15.out⟩, ⟨by (with_reducible repeat (first | refine blk_drewN ?_ _ | refine blk_drew ?_ | refine blk_alloc ?_ _)); exact BK406.out⟩, ⟨by (with_reducible repeat (first | refine blk_drewN ?_ _ | refine blk_drew ?_ | refine blk_alloc ?_ _)); exact BK414.out⟩, ⟨by repeat (first | (with_reducible first | exact HB.out | apply below_alloc | apply pw_below_drewN | apply below_drew1 | refine below_set ?_ GE406.out | refine below_set ?_ GE414.out) | exact HB.out)⟩⟩
      case round =>
       clear H'
       try clear c1
       try clear c2
       try clear p2
       try clear c3
       try clear c4
       try clear p4
       try clear q4
       try clear hx4
       try clear qi4
       try clear c6
       try clear c6b0
       try clear c6b1
       try clear c8
       try clear c8b0
       try clear c8b1
       try clear c11
       try clear c12
       try clear c26
       try clear c27
       try clear p40
       try clear q40
       try clear hx40
       try clear qi40
       try clear p41
       try clear q41
       try clear hx41
       try clear qi41
       try clear c46
       try clear c47
       try clear c48
       try clear hcz20_0
       try clear hcz20_1
       try clear hcz20_2
       try clear hcz28_0
       try clear hcz28_1
       try clear hcz28_2
       try clear hcz29_0
       try clear hcz29_1
       try clear hcz29_2
       try clear hcz35_0
       try clear hcz35_1
       try clear hcz35_2
       try clear hcz40_0
       try clear hcz40_1
       try clear hcz40_2
       try clear hcz41_0
       try clear hcz41_1
       try clear hcz41_2
       try clear hfz20_0
       try clear hfz20_1
       try clear hfz20_2
       try clear hfz28_0
       try clear hfz28_1
       try clear hfz28_2
       try clear hfz29_0
       try clear hfz29_1
       try clear hfz29_2
       try clear hfz35_0
       try clear hfz35_1
       try clear hfz35_2
       try clear hfz40_0
       try clear hfz40_1
       try clear hfz40_2
       try clear hfz41_0
       try clear hfz41_1
       try clear hfz41_2
       try clear hx405_0
       try clear hx405_1
       try clear hx405_2
       try clear hx413_0
       try clear hx413_1
       try clear hx413_2
       try clear p2
       try clear p4
       try clear p40
       try clear p405
       try clear p41
       try clear p413
       try clear q4
       try clear q40
       try clear q405
       try clear q41
       try clear q413
       obtain ⟨x17_2, x18_2, rfl, rfl, HA, HK2, HO_11, HO_13, HO_15, BK406, BK414, HB⟩ := hrel
       cases gk with
       | zero => exact absurd HA.out (by simp [bobbinetkeep_PickWithin.l0])
       | succ k2 =>
        have H := HA.out
        clear HA
        simp only [bobbinetkeep_PickWithin.l0] at H
        by_cases c49 : x18_2 < (t425.length : Int)
        ·
         rw [if_pos c49] at H
         have c49b0 : decide (x18_2 < (t425.length : Int)) = true := decide_eq_true c49
         clear c49
         have H' := Aside0.mk H
         clear H
         obtain ⟨Ao50, co50, eo50⟩ := Kd.S_slice HO_13.out
         subst eo50
         go_wp2
         go_loopg [19, 20] k2 (fun kq v19 v20 w' => ∃ (x19_3 : Bool) (x20_3 : Int), v19 = .bool x19_3 ∧ v20 = .int .i64 x20_3 ∧ Aside0 (bobbinetkeep_PickWithin.l1 kq t418 t425 t432 x17_2 x18_2 x19_3 x20_3 = some r) ∧ Aside0 (kq ≤ k2) ∧ Aside0 (Kd.S (Kd.slice 3 (Kd.int .i64)) 22 w' w.heap.size (fun k_ => some k_ ≠ ((.slice Ao50 t425.length co50) : Value).ownBlock ∧ some k_ ≠ (v434 : Value).ownBlock) v420 t418) ∧ Aside0 (Kd.S (Kd.slice 3 (Kd.int .i64)) 22 w' w.heap.size (fun k_ => some k_ ≠ (v420 : Value).ownBlock ∧ some k_ ≠ (v434 : Value).ownBlock) (.slice Ao50 t425.length co50) t425) ∧ Aside0 (Kd.S (Kd.slice 3 (Kd.int .i64)) 22 w' w.heap.size (fun k_ => some k_ ≠ (v420 : Value).ownBlock ∧ some k_ ≠ ((.slice Ao50 t425.length co50) : Value).ownBlock) v434 t432) ∧ Aside0 (w'.heap[gb406]? = some (.cells #[.string ((rd_T61 t402 0).f0), .string ((rd_T61 t402 0).f1), .bool ((rd_T61 t402 0).f2)] 61 (0, 0))) ∧ Aside0 (w'.heap[gb414]? = some (.cells #[.string ((rd_T61 t410 0).f0), .string ((rd_T61 t410 0).f1), .bool true] 61 (0, 0))) ∧ Aside0 (Below w.heap.size w w'))
         case atStart => exact ⟨(false), (0), (by first | rfl | (simp; done) | (simp [*]; done) | (simp [bne]; done)), (by first | rfl | (simp; done) | (simp [*]; done) | (simp [bne]; done)), H', ⟨Nat.le_refl _⟩, ⟨by (with_reducible repeat (first | apply Kd.S_alloc | apply Kd.S_drewN | apply Kd.S_drew)); exact HO_11.out⟩, ⟨by (with_reducible repeat (first | apply Kd.S_alloc | apply Kd.S_drewN | apply Kd.S_drew)); exact HO_13.out⟩, ⟨by (with_reducible repeat (first | apply Kd.S_alloc | apply Kd.S_drewN | apply Kd.S_drew)); exact HO_15.out⟩, ⟨by (with_reducible repeat (first | refine blk_drewN ?_ _ | refine blk_drew ?_ | refine blk_alloc ?_ _)); exact BK406.out⟩, ⟨by (with_reducible repeat (first | refine blk_drewN ?_ _ | refine blk_drew ?_ | refine blk_alloc ?_ _)); exact BK414.out⟩, ⟨by repeat (first | (with_reducible first | exact HB.out | apply below_alloc | apply pw_below_drewN | apply below_drew1 | refine below_set ?_ GE406.out | refine below_set ?_ GE414.out) | exact HB.out)⟩⟩
         case round =>
          clear H'
          try clear c1
          try clear c2
          try clear p2
          try clear c3
          try clear c4
          try clear p4
          try clear q4
          try clear hx4
          try clear qi4
          try clear c6
          try clear c6b0
          try clear c6b1
          try clear c8
          try clear c8b0
          try clear c8b1
          try clear c11
          try clear c12
          try clear c26
          try clear c27
          try clear p40
          try clear q40
          try clear hx40
          try clear qi40
          try clear p41
          try clear q41
          try clear hx41
          try clear qi41
          try clear c46
          try clear c47
          try clear c48
          try clear c49
          try clear c49b0
          try clear hcz20_0
          try clear hcz20_1
          try clear hcz20_2
          try clear hcz28_0
          try clear hcz28_1
          try clear hcz28_2
          try clear hcz29_0
          try clear hcz29_1
          try clear hcz29_2
          try clear hcz35_0
          try clear hcz35_1
          try clear hcz35_2
          try clear hcz40_0
          try clear hcz40_1
          try clear hcz40_2
          try clear hcz41_0
          try clear hcz41_1
          try clear hcz41_2
          try clear hfz20_0
          try clear hfz20_1
          try clear hfz20_2
          try clear hfz28_0
          try clear hfz28_1
          try clear hfz28_2
          try clear hfz29_0
          try clear hfz29_1
          try clear hfz29_2
          try clear hfz35_0
          try clear hfz35_1
          try clear hfz35_2
          try clear hfz40_0
          try clear hfz40_1
          try clear hfz40_2
          try clear hfz41_0
          try clear hfz41_1
          try clear hfz41_2
          try clear hx405_0
          try clear hx405_1
          try clear hx405_2
          try clear hx413_0
          try clear hx413_1
          try clear hx413_2
          try clear p2
          try clear p4
          try clear p40
          try clear p405
          try clear p41
          try clear p413
          try clear q4
          try clear q40
          try clear q405
          try clear q41
          try clear q413
          obtain ⟨x19_3, x20_3, rfl, rfl, HA, HK3, HO_11, HO_13, HO_15, BK406, BK414, HB⟩ := hrel
          cases gk with
          | zero => exact absurd HA.out (by simp [bobbinetkeep_PickWithin.l1])
          | succ k3 =>
           have H := HA.out
           clear HA
           simp only [bobbinetkeep_PickWithin.l1] at H
           by_cases c51 : x20_3 < (t418.length : Int)
           ·
            rw [if_pos c51] at H
            have c51b0 : decide (x20_3 < (t418.length : Int)) = true := decide_eq_true c51
            clear c51
            by_cases c52 : x19_3 = true
            ·
             subst c52
             have H1 : (bobbinetkeep_PickWithin.l1 k3 t418 t425 t432 x17_2 x18_2 true (wrap64 (x20_3 + 1))) = some r := by rw [if_pos rfl] at H; exact H
             clear H
             have H := H1
             clear H1
             have H' := Aside0.mk H
             clear H
             obtain ⟨Ao53, co53, eo53⟩ := Kd.S_slice HO_11.out
             subst eo53
             try go_wp2
             have n0_ := Aside0.mk (Kd.S_drew HO_11.out)
             have n1_ := Aside0.mk (Kd.S_drew HO_13.out)
             have n2_ := Aside0.mk (Kd.S_drew HO_15.out)
             have n3_ := Aside0.mk (blk_drew BK406.out)
             have n4_ := Aside0.mk (blk_drew BK414.out)
             have n5_ := Aside0.mk (below_drew1 HB.out)
             clear HO_11
             clear HO_13
             clear HO_15
             clear BK406
             clear BK414
             clear HB
             have HO_11 := n0_
             have HO_13 := n1_
             have HO_15 := n2_
             have BK406 := n3_
             have BK414 := n4_
             have HB := n5_
             clear n0_ n1_ n2_ n3_ n4_ n5_
             refine start_ (n := 32) (S := fun w' => True) (ds := []) #[false, false, false, false, false, false, false, false, false, false, false, false, false, false, false, false, false, false, false, false, false, false, false, false, false, false, false, false, false, false, false, false] (by kernel_rfl) rfl rfl trivial (fun hHeld => ?_); refine with_tabW bobbinetkeep_PickWithin.tab18 bobbinetkeep_PickWithin.bits18 (fun HT_ HW_ => ?_)
             generalize wr.drew = w54 at HO_11 HO_13 HO_15 BK406 BK414 HB hHeld ⊢
             refine pure_ (i := 0) (N := some 81) (v := ?_) (a' := ?_) #[true, false, false, false, false, false, false, false, false, false, false, false, false, false, false, false, false, false, false, false, false, false, false, false, false, false, false, false, false, false, false, false] rfl rfl (any_of HT_.out (by kernel_rfl)) (fun _ _ _ h => h) (Or.inl ⟨by rfl, ?_⟩) ?_ ?_
             rotate_left
             ·
              intro w'
              go_simp
              with_reducible rfl
             rotate_left
             ·
              simp only [Act.put, List.setIfInBounds_toArray, List.set_cons_zero, List.set_cons_succ, i64_w, i32_w]
              rfl
             refine pure_ (i := 1) (N := some 82) (v := ?_) (a' := ?_) #[true, true, false, false, false, false, false, false, false, false, false, false, false, false, false, false, false, false, false, false, false, false, false, false, false, false, false, false, false, false, false, false] rfl rfl (any_of HT_.out (by kernel_rfl)) (fun _ _ _ h => h) (Or.inl ⟨by rfl, ?_⟩) ?_ ?_
             rotate_left
             ·
              intro w'
              go_simp
              with_reducible rfl
             rotate_left
             ·
              simp only [Act.put, List.setIfInBounds_toArray, List.set_cons_zero, List.set_cons_succ, i64_w, i32_w]
              rfl
             refine pure_ (i := 2) (N := some 83) (v := undef) (a' := ?_) #[true, true, true, false, false, false, false, false, false, false, false, false, false, false, false, false, false, false, false, false, false, false, false, false, false, false, false, false, false, false, false, false] rfl rfl (any_of HT_.out (by kernel_rfl)) (fun _ _ _ h => h) (Or.inr ⟨by rfl, rfl⟩) ?_ ?_
             rotate_left
             ·
              simp only [Act.put, List.setIfInBounds_toArray, List.set_cons_zero, List.set_cons_succ, i64_w, i32_w]
              rfl
             refine pure_ (i := 3) (N := some 84) (v := undef) (a' := ?_) #[true, true, true, true, false, false, false, false, false, false, false, false, false, false, false, false, false, false, false, false, false, false, false, false, false, false, false, false, false, false, false, false] rfl rfl (any_of HT_.out (by kernel_rfl)) (fun _ _ _ h => h) (Or.inr ⟨by rfl, rfl⟩) ?_ ?_
             rotate_left
             ·
              simp only [Act.put, List.setIfInBounds_toArray, List.set_cons_zero, List.set_cons_succ, i64_w, i32_w]
              rfl
             refine pure_ (i := 4) (N := some 85) (v := undef) (a' := ?_) #[true, true, true, true, true, false, false, false, false, false, false, false, false, false, false, false, false, false, false, false, false, false, false, false, false, false, false, false, false, false, false, false] rfl rfl (any_of HT_.out (by kernel_rfl)) (fun _ _ _ h => h) (Or.inr ⟨by rfl, rfl⟩) ?_ ?_
             rotate_left
             ·
              simp only [Act.put, List.setIfInBounds_toArray, List.set_cons_zero, List.set_cons_succ, i64_w, i32_w]
              rfl
             refine pure_ (i := 5) (N := some 86) (v := undef) (a' := ?_) #[true, true, true, true, true, true, false, false, false, false, false, false, false, false, false, false, false, false, false, false, false, false, false, false, false, false, false, false, false, false, false, false] rfl rfl (any_of HT_.out (by kernel_rfl)) (fun _ _ _ h => h) (Or.inr ⟨by rfl, rfl⟩) ?_ ?_
             rotate_left
             ·
              simp only [Act.put, List.setIfInBounds_toArray, List.set_cons_zero, List.set_cons_succ, i64_w, i32_w]
              rfl
             refine pure_ (i := 6) (N := some 87) (v := undef) (a' := ?_) #[true, true, true, true, true, true, true, false, false, false, false, false, false, false, false, false, false, false, false, false, false, false, false, false, false, false, false, false, false, false, false, false] rfl rfl (any_of HT_.out (by kernel_rfl)) (fun _ _ _ h => h) (Or.inr ⟨by rfl, rfl⟩) ?_ ?_
             rotate_left
             ·
              simp only [Act.put, List.setIfInBounds_toArray, List.set_cons_zero, List.set_cons_succ, i64_w, i32_w]
              rfl
             refine pure_ (i := 7) (N := some 88) (v := undef) (a' := ?_) #[true, true, true, true, true, true, true, true, false, false, false, false, false, false, false, false, false, false, false, false, false, false, false, false, false, false, false, false, false, false, false, false] rfl rfl (any_of HT_.out (by kernel_rfl)) (fun _ _ _ h => h) (Or.inr ⟨by rfl, rfl⟩) ?_ ?_
             rotate_left
             ·
              simp only [Act.put, List.setIfInBounds_toArray, List.set_cons_zero, List.set_cons_succ, i64_w, i32_w]
              rfl
             refine pure_ (i := 8) (N := some 89) (v := undef) (a' := ?_) #[true, true, true, true, true, true, true, true, true, false, false, false, false, false, false, false, false, false, false, false, false, false, false, false, false, false, false, false, false, false, false, false] rfl rfl (any_of HT_.out (by kernel_rfl)) (fun _ _ _ h => h) (Or.inr ⟨by rfl, rfl⟩) ?_ ?_
             rotate_left
             ·
              simp only [Act.put, List.setIfInBounds_toArray, List.set_cons_zero, List.set_cons_succ, i64_w, i32_w]
              rfl
             refine pure_ (i := 9) (N := some 90) (v := undef) (a' := ?_) #[true, true, true, true, true, true, true, true, true, true, false, false, false, false, false, false, false, false, false, false, false, false, false, false, false, false, false, false, false, false, false, false] rfl rfl (any_of HT_.out (by kernel_rfl)) (fun _ _ _ h => h) (Or.inr ⟨by rfl, rfl⟩) ?_ ?_
             rotate_left
             ·
              simp only [Act.put, List.setIfInBounds_toArray, List.set_cons_zero, List.set_cons_succ, i64_w, i32_w]
              rfl
             refine pure_ (i := 10) (N := some 91) (v := undef) (a' := ?_) #[true, true, true, true, true, true, true, true, true, true, true, false, false, false, false, false, false, false, false, false, false, false, false, false, false, false, false, false, false, false, false, false] rfl rfl (any_of HT_.out (by kernel_rfl)) (fun _ _ _ h => h) (Or.inr ⟨by rfl, rfl⟩) ?_ ?_
             rotate_left
             ·
              simp only [Act.put, List.setIfInBounds_toArray, List.set_cons_zero, List.set_cons_succ, i64_w, i32_w]
              rfl
             refine pure_ (i := 11) (N := some 92) (v := undef) (a' := ?_) #[true, true, true, true, true, true, true, true, true, true, true, true, false, false, false, false, false, false, false, false, false, false, false, false, false, false, false, false, false, false, false, false] rfl rfl (any_of HT_.out (by kernel_rfl)) (fun _ _ _ h => h) (Or.inr ⟨by rfl, rfl⟩) ?_ ?_
             rotate_left
             ·
              simp only [Act.put, List.setIfInBounds_toArray, List.set_cons_zero, List.set_cons_succ, i64_w, i32_w]
              rfl
             refine pure_ (i := 12) (N := some 93) (v := undef) (a' := ?_) #[true, true, true, true, true, true, true, true, true, true, true, true, true, false, false, false, false, false, false, false, false, false, false, false, false, false, false, false, false, false, false, false] rfl rfl (any_of HT_.out (by kernel_rfl)) (fun _ _ _ h => h) (Or.inr ⟨by rfl, rfl⟩) ?_ ?_
             rotate_left
             ·
              simp only [Act.put, List.setIfInBounds_toArray, List.set_cons_zero, List.set_cons_succ, i64_w, i32_w]
              rfl
             refine pure_ (i := 13) (N := some 94) (v := undef) (a' := ?_) #[true, true, true, true, true, true, true, true, true, true, true, true, true, true, false, false, false, false, false, false, false, false, false, false, false, false, false, false, false, false, false, false] rfl rfl (any_of HT_.out (by kernel_rfl)) (fun _ _ _ h => h) (Or.inr ⟨by rfl, rfl⟩) ?_ ?_
             rotate_left
             ·
              simp only [Act.put, List.setIfInBounds_toArray, List.set_cons_zero, List.set_cons_succ, i64_w, i32_w]
              rfl
             refine pure_ (i := 14) (N := some 95) (v := undef) (a' := ?_) #[true, true, true, true, true, true, true, true, true, true, true, true, true, true, true, false, false, false, false, false, false, false, false, false, false, false, false, false, false, false, false, false] rfl rfl (any_of HT_.out (by kernel_rfl)) (fun _ _ _ h => h) (Or.inr ⟨by rfl, rfl⟩) ?_ ?_
             rotate_left
             ·
              simp only [Act.put, List.setIfInBounds_toArray, List.set_cons_zero, List.set_cons_succ, i64_w, i32_w]
              rfl
             refine pure_ (i := 15) (N := some 96) (v := undef) (a' := ?_) #[true, true, true, true, true, true, true, true, true, true, true, true, true, true, true, true, false, false, false, false, false, false, false, false, false, false, false, false, false, false, false, false] rfl rfl (any_of HT_.out (by kernel_rfl)) (fun _ _ _ h => h) (Or.inr ⟨by rfl, rfl⟩) ?_ ?_
             rotate_left
             ·
              simp only [Act.put, List.setIfInBounds_toArray, List.set_cons_zero, List.set_cons_succ, i64_w, i32_w]
              rfl
             refine pure_ (i := 16) (N := some 97) (v := undef) (a' := ?_) #[true, true, true, true, true, true, true, true, true, true, true, true, true, true, true, true, true, false, false, false, false, false, false, false, false, false, false, false, false, false, false, false] rfl rfl (any_of HT_.out (by kernel_rfl)) (fun _ _ _ h => h) (Or.inr ⟨by rfl, rfl⟩) ?_ ?_
             rotate_left
             ·
              simp only [Act.put, List.setIfInBounds_toArray, List.set_cons_zero, List.set_cons_succ, i64_w, i32_w]
              rfl
             refine pure_ (i := 17) (N := some 98) (v := undef) (a' := ?_) #[true, true, true, true, true, true, true, true, true, true, true, true, true, true, true, true, true, true, false, false, false, false, false, false, false, false, false, false, false, false, false, false] rfl rfl (any_of HT_.out (by kernel_rfl)) (fun _ _ _ h => h) (Or.inr ⟨by rfl, rfl⟩) ?_ ?_
             rotate_left
             ·
              simp only [Act.put, List.setIfInBounds_toArray, List.set_cons_zero, List.set_cons_succ, i64_w, i32_w]
              rfl
             refine pure_ (i := 18) (N := some 99) (v := undef) (a' := ?_) #[true, true, true, true, true, true, true, true, true, true, true, true, true, true, true, true, true, true, true, false, false, false, false, false, false, false, false, false, false, false, false, false] rfl rfl (any_of HT_.out (by kernel_rfl)) (fun _ _ _ h => h) (Or.inr ⟨by rfl, rfl⟩) ?_ ?_
             rotate_left
             ·
              simp only [Act.put, List.setIfInBounds_toArray, List.set_cons_zero, List.set_cons_succ, i64_w, i32_w]
              rfl
             refine pure_ (i := 19) (N := some 100) (v := undef) (a' := ?_) #[true, true, true, true, true, true, true, true, true, true, true, true, true, true, true, true, true, true, true, true, false, false, false, false, false, false, false, false, false, false, false, false] rfl rfl (any_of HT_.out (by kernel_rfl)) (fun _ _ _ h => h) (Or.inr ⟨by rfl, rfl⟩) ?_ ?_
             rotate_left
             ·
              simp only [Act.put, List.setIfInBounds_toArray, List.set_cons_zero, List.set_cons_succ, i64_w, i32_w]
              rfl
             refine pure_ (i := 20) (N := some 101) (v := undef) (a' := ?_) #[true, true, true, true, true, true, true, true, true, true, true, true, true, true, true, true, true, true, true, true, true, false, false, false, false, false, false, false, false, false, false, false] rfl rfl (any_of HT_.out (by kernel_rfl)) (fun _ _ _ h => h) (Or.inr ⟨by rfl, rfl⟩) ?_ ?_
             rotate_left
             ·
              simp only [Act.put, List.setIfInBounds_toArray, List.set_cons_zero, List.set_cons_succ, i64_w, i32_w]
              rfl
             refine pure_ (i := 21) (N := some 102) (v := undef) (a' := ?_) #[true, true, true, true, true, true, true, true, true, true, true, true, true, true, true, true, true, true, true, true, true, true, false, false, false, false, false, false, false, false, false, false] rfl rfl (any_of HT_.out (by kernel_rfl)) (fun _ _ _ h => h) (Or.inr ⟨by rfl, rfl⟩) ?_ ?_
             rotate_left
             ·
              simp only [Act.put, List.setIfInBounds_toArray, List.set_cons_zero, List.set_cons_succ, i64_w, i32_w]
              rfl
             refine pure_ (i := 22) (N := some 103) (v := undef) (a' := ?_) #[true, true, true, true, true, true, true, true, true, true, true, true, true, true, true, true, true, true, true, true, true, true, true, false, false, false, false, false, false, false, false, false] rfl rfl (any_of HT_.out (by kernel_rfl)) (fun _ _ _ h => h) (Or.inr ⟨by rfl, rfl⟩) ?_ ?_
             rotate_left
             ·
              simp only [Act.put, List.setIfInBounds_toArray, List.set_cons_zero, List.set_cons_succ, i64_w, i32_w]
              rfl
             refine pure_ (i := 23) (N := some 104) (v := undef) (a' := ?_) #[true, true, true, true, true, true, true, true, true, true, true, true, true, true, true, true, true, true, true, true, true, true, true, true, false, false, false, false, false, false, false, false] rfl rfl (any_of HT_.out (by kernel_rfl)) (fun _ _ _ h => h) (Or.inr ⟨by rfl, rfl⟩) ?_ ?_
             rotate_left
             ·
              simp only [Act.put, List.setIfInBounds_toArray, List.set_cons_zero, List.set_cons_succ, i64_w, i32_w]
              rfl
             refine pure_ (i := 24) (N := some 105) (v := undef) (a' := ?_) #[true, true, true, true, true, true, true, true, true, true, true, true, true, true, true, true, true, true, true, true, true, true, true, true, true, false, false, false, false, false, false, false] rfl rfl (any_of HT_.out (by kernel_rfl)) (fun _ _ _ h => h) (Or.inr ⟨by rfl, rfl⟩) ?_ ?_
             rotate_left
             ·
              simp only [Act.put, List.setIfInBounds_toArray, List.set_cons_zero, List.set_cons_succ, i64_w, i32_w]
              rfl
             refine pure_ (i := 25) (N := some 106) (v := undef) (a' := ?_) #[true, true, true, true, true, true, true, true, true, true, true, true, true, true, true, true, true, true, true, true, true, true, true, true, true, true, false, false, false, false, false, false] rfl rfl (any_of HT_.out (by kernel_rfl)) (fun _ _ _ h => h) (Or.inr ⟨by rfl, rfl⟩) ?_ ?_
             rotate_left
             ·
              simp only [Act.put, List.setIfInBounds_toArray, List.set_cons_zero, List.set_cons_succ, i64_w, i32_w]
              rfl
             refine pure_ (i := 26) (N := some 107) (v := undef) (a' := ?_) #[true, true, true, true, true, true, true, true, true, true, true, true, true, true, true, true, true, true, true, true, true, true, true, true, true, true, true, false, false, false, false, false] rfl rfl (any_of HT_.out (by kernel_rfl)) (fun _ _ _ h => h) (Or.inr ⟨by rfl, rfl⟩) ?_ ?_
             rotate_left
             ·
              simp only [Act.put, List.setIfInBounds_toArray, List.set_cons_zero, List.set_cons_succ, i64_w, i32_w]
              rfl
             refine pure_ (i := 27) (N := some 108) (v := undef) (a' := ?_) #[true, true, true, true, true, true, true, true, true, true, true, true, true, true, true, true, true, true, true, true, true, true, true, true, true, true, true, true, false, false, false, false] rfl rfl (any_of HT_.out (by kernel_rfl)) (fun _ _ _ h => h) (Or.inr ⟨by rfl, rfl⟩) ?_ ?_
             rotate_left
             ·
              simp only [Act.put, List.setIfInBounds_toArray, List.set_cons_zero, List.set_cons_succ, i64_w, i32_w]
              rfl
             refine pure_ (i := 28) (N := some 109) (v := undef) (a' := ?_) #[true, true, true, true, true, true, true, true, true, true, true, true, true, true, true, true, true, true, true, true, true, true, true, true, true, true, true, true, true, false, false, false] rfl rfl (any_of HT_.out (by kernel_rfl)) (fun _ _ _ h => h) (Or.inr ⟨by rfl, rfl⟩) ?_ ?_
             rotate_left
             ·
              simp only [Act.put, List.setIfInBounds_toArray, List.set_cons_zero, List.set_cons_succ, i64_w, i32_w]
              rfl
             refine pure_ (i := 29) (N := some 110) (v := undef) (a' := ?_) #[true, true, true, true, true, true, true, true, true, true, true, true, true, true, true, true, true, true, true, true, true, true, true, true, true, true, true, true, true, true, false, false] rfl rfl (any_of HT_.out (by kernel_rfl)) (fun _ _ _ h => h) (Or.inr ⟨by rfl, rfl⟩) ?_ ?_
             rotate_left
             ·
              simp only [Act.put, List.setIfInBounds_toArray, List.set_cons_zero, List.set_cons_succ, i64_w, i32_w]
              rfl
             refine pure_ (i := 30) (N := some 111) (v := ?_) (a' := ?_) #[true, true, true, true, true, true, true, true, true, true, true, true, true, true, true, true, true, true, true, true, true, true, true, true, true, true, true, true, true, true, true, false] rfl rfl (any_of HT_.out (by kernel_rfl)) (fun _ _ _ h => h) (Or.inl ⟨by rfl, ?_⟩) ?_ ?_
             rotate_left
             ·
              intro w'
              go_simp
              with_reducible rfl
             rotate_left
             ·
              simp only [Act.put, List.setIfInBounds_toArray, List.set_cons_zero, List.set_cons_succ, i64_w, i32_w]
              rfl
             refine pure_ (i := 31) (N := some 19) (v := ?_) (a' := ?_) #[true, true, true, true, true, true, true, true, true, true, true, true, true, true, true, true, true, true, true, true, true, true, true, true, true, true, true, true, true, true, true, true] rfl rfl (any_of HT_.out (by kernel_rfl)) (fun _ _ _ h => h) (Or.inl ⟨by rfl, ?_⟩) ?_ ?_
             rotate_left
             ·
              intro w'
              go_simp
              with_reducible rfl
             rotate_left
             ·
              simp only [Act.put, List.setIfInBounds_toArray, List.set_cons_zero, List.set_cons_succ, i64_w, i32_w]
              rfl
             refine done_ (done_of HT_.out (by kernel_rfl)) ?_
             try go_wp2
             go_roundg k3
             case measure => have := HJ11.out; have := HK2.out; have := HK3.out; omega
             case rel => exact ⟨(true), (wrap64 (x20_3 + 1)), (by first | rfl | (simp; done) | (simp [*]; done) | (simp [bne]; done)), (by first | rfl | (simp; done) | (simp [*]; done) | (simp [bne]; done)), H', ⟨by have := HJ11.out; have := HK2.out; have := HK3.out; omega⟩, ⟨by (with_reducible repeat (first | apply Kd.S_alloc | apply Kd.S_drewN | apply Kd.S_drew)); exact HO_11.out⟩, ⟨by (with_reducible repeat (first | apply Kd.S_alloc | apply Kd.S_drewN | apply Kd.S_drew)); exact HO_13.out⟩, ⟨by (with_reducible repeat (first | apply Kd.S_alloc | apply Kd.S_drewN | apply Kd.S_drew)); exact HO_15.out⟩, ⟨by (with_reducible repeat (first | refine blk_drewN ?_ _ | refine blk_drew ?_ | refine blk_alloc ?_ _)); exact BK406.out⟩, ⟨by (with_reducible repeat (first | refine blk_drewN ?_ _ | refine blk_drew ?_ | refine blk_alloc ?_ _)); exact BK414.out⟩, ⟨by repeat (first | (with_reducible first | exact HB.out | apply below_alloc | apply pw_below_drewN | apply below_drew1 | refine below_set ?_ GE406.out | refine below_set ?_ GE414.out) | exact HB.out)⟩⟩
            ·
             replace c52 := Bool.eq_false_iff.mpr c52
             subst c52
             have H1 : (if 0 ≤ x20_3 then (if 0 ≤ x18_2 then (if x18_2 < (t425.length : Int) then (if ((rd_L7 t418 x20_3).length : Int) < ((rd_L7 t425 x18_2).length : Int) then (if 0 ≤ ((rd_L7 t418 x20_3).length : Int) then (if ((rd_L7 t418 x20_3).length : Int) ≤ ((rd_L7 t425 x18_2).length : Int) then ((bobbinetkeep_sameInts.f k3 ((rd_L7 t425 x18_2).take (((rd_L7 t418 x20_3).length : Int) : Int).toNat) (rd_L7 t418 x20_3)).bind fun t445 => (bobbinetkeep_PickWithin.l1 k3 t418 t425 t432 x17_2 x18_2 t445 (wrap64 (x20_3 + 1)))) else (none)) else (none)) else (bobbinetkeep_PickWithin.l1 k3 t418 t425 t432 x17_2 x18_2 false (wrap64 (x20_3 + 1)))) else (none)) else (none)) else (none)) = some r := by rw [if_neg (show ¬ (false = true) by decide)] at H; exact H
             clear H
             have H := H1
             clear H1
             by_cases c55 : 0 ≤ x20_3
             ·
              rw [if_pos c55] at H
              have c55b0 : decide (0 ≤ x20_3) = true := decide_eq_true c55
              clear c55
              by_cases c56 : 0 ≤ x18_2
              ·
               rw [if_pos c56] at H
               have c56b0 : decide (0 ≤ x18_2) = true := decide_eq_true c56
               clear c56
               by_cases c57 : x18_2 < (t425.length : Int)
               ·
                rw [if_pos c57] at H
                have c57b0 : decide (x18_2 < (t425.length : Int)) = true := decide_eq_true c57
                clear c57
                by_cases c58 : ((rd_L7 t418 x20_3).length : Int) < ((rd_L7 t425 x18_2).length : Int)
                ·
                 rw [if_pos c58] at H
                 have c58b0 : decide (((rd_L7 t418 x20_3).length : Int) < ((rd_L7 t425 x18_2).length : Int)) = true := decide_eq_true c58
                 have c58b1 : decide ((rd_L7 t418 x20_3).length < (rd_L7 t425 x18_2).length) = true := decide_eq_true (Int.ofNat_lt.mp c58)
                 clear c58
                 by_cases c59 : 0 ≤ ((rd_L7 t418 x20_3).length : Int)
                 ·
                  rw [if_pos c59] at H
                  have c59b0 := eq_true c59
                  have c59b1 : decide (0 ≤ ((rd_L7 t418 x20_3).length : Int)) = true := decide_eq_true c59
                  clear c59
                  by_cases c60 : ((rd_L7 t418 x20_3).length : Int) ≤ ((rd_L7 t425 x18_2).length : Int)
                  ·
                   rw [if_pos c60] at H
                   have c60b0 := eq_true c60
                   have c60b1 : decide (((rd_L7 t418 x20_3).length : Int) ≤ ((rd_L7 t425 x18_2).length : Int)) = true := decide_eq_true c60
                   clear c60
                   obtain ⟨y440, hy440⟩ : ∃ y_ : List Int, y_ = ((rd_L7 t425 x18_2).take (((rd_L7 t418 x20_3).length : Int) : Int).toNat) := ⟨_, rfl⟩
                   replace H : ((bobbinetkeep_sameInts.f k3 y440 (rd_L7 t418 x20_3)).bind fun t445 => (bobbinetkeep_PickWithin.l1 k3 t418 t425 t432 x17_2 x18_2 t445 (wrap64 (x20_3 + 1)))) = some r := by first | (rw [hy440]; with_reducible exact H) | (have H2_ := (Option.bind_some _ _).symm.trans H; rw [hy440]; with_reducible exact H2_) | (have H2_ := (Option.bind_some _ _).symm.trans H; with_reducible exact H2_) | with_reducible exact H | (rw [hy440]; exact H) | exact H
                   have Ny440 := Aside0.mk hy440
                   clear hy440
                   replace H := Option.bind_eq_some_iff.mp H
                   obtain ⟨t445, A610, H⟩ := H
                   replace H : (bobbinetkeep_PickWithin.l1 k3 t418 t425 t432 x17_2 x18_2 t445 (wrap64 (x20_3 + 1))) = some r := H
                   have A61 := Aside0.mk A610
                   clear A610
                   have H' := Aside0.mk H
                   clear H
                   obtain ⟨Ao62, co62, eo62⟩ := Kd.S_slice HO_11.out
                   subst eo62
                   try go_wp2
                   have n0_ := Aside0.mk (Kd.S_drew HO_11.out)
                   have n1_ := Aside0.mk (Kd.S_drew HO_13.out)
                   have n2_ := Aside0.mk (Kd.S_drew HO_15.out)
                   have n3_ := Aside0.mk (blk_drew BK406.out)
                   have n4_ := Aside0.mk (blk_drew BK414.out)
                   have n5_ := Aside0.mk (below_drew1 HB.out)
                   clear HO_11
                   clear HO_13
                   clear HO_15
                   clear BK406
                   clear BK414
                   clear HB
                   have HO_11 := n0_
                   have HO_13 := n1_
                   have HO_15 := n2_
                   have BK406 := n3_
                   have BK414 := n4_
                   have HB := n5_
                   clear n0_ n1_ n2_ n3_ n4_ n5_
                   have p436 : 0 ≤ (x20_3 : Int) := of_decide_eq_true (by first | (with_reducible assumption) | assumption)
                   have q436 : x20_3 < (t418.length : Int) := of_decide_eq_true (by first | (with_reducible assumption) | assumption)
                   obtain ⟨ad436, A436_0, c436_0, e436, hx436_0, hl436_0, hi436_0⟩ := at_L7 (Kd.S_reads' HO_11.out).2.2 x20_3 p436 q436
                   cases e436
                   obtain ⟨ce436, hce436, hMe436, hcc436⟩ := Kd.S_get HO_11.out [] x20_3 p436 (by first | exact q436 | exact of_decide_eq_true (by first | (with_reducible assumption) | assumption) | (have e_ := (Kd.S_reads' HO_11.out).1; omega))
                   obtain ⟨ve436_0, rfl, ge436_0⟩ := hMe436
                   have hv436_0 := hcc436 0 _ rfl
                   rw [Nat.add_zero, show ((Kd.slice 3 (Kd.int .i64))).sz = 1 from rfl, Nat.mul_one] at hv436_0
                   replace hv436_0 := Option.some.inj (hv436_0.symm.trans hx436_0)
                   rw [hv436_0] at ge436_0
                   have HL436_0 := Aside0.mk (show Kd.R (Kd.int .i64) 3 _ _ _ _ (rd_L7 t418 x20_3) from ge436_0)
                   clear hv436_0 ge436_0
                   clear hcc436 hce436
                   have HR436_0 := Aside0.mk hi436_0
                   have HC436_0 := Aside0.mk hl436_0
                   clear hi436_0 hl436_0
                   replace p436 := eq_true p436
                   replace q436 := eq_true q436
                   have p437 : 0 ≤ (x18_2 : Int) := of_decide_eq_true (by first | (with_reducible assumption) | assumption)
                   have q437 : x18_2 < (t425.length : Int) := of_decide_eq_true (by first | (with_reducible assumption) | assumption)
                   obtain ⟨ad437, A437_0, c437_0, e437, hx437_0, hl437_0, hi437_0⟩ := at_L7 (Kd.S_reads' HO_13.out).2.2 x18_2 p437 q437
                   cases e437
                   obtain ⟨ce437, hce437, hMe437, hcc437⟩ := Kd.S_get HO_13.out [] x18_2 p437 (by first | exact q437 | exact of_decide_eq_true (by first | (with_reducible assumption) | assumption) | (have e_ := (Kd.S_reads' HO_13.out).1; omega))
                   obtain ⟨ve437_0, rfl, ge437_0⟩ := hMe437
                   have hv437_0 := hcc437 0 _ rfl
                   rw [Nat.add_zero, show ((Kd.slice 3 (Kd.int .i64))).sz = 1 from rfl, Nat.mul_one] at hv437_0
                   replace hv437_0 := Option.some.inj (hv437_0.symm.trans hx437_0)
                   rw [hv437_0] at ge437_0
                   have HL437_0 := Aside0.mk (show Kd.R (Kd.int .i64) 3 _ _ _ _ (rd_L7 t425 x18_2) from ge437_0)
                   clear hv437_0 ge437_0
                   clear hcc437 hce437
                   have HR437_0 := Aside0.mk hi437_0
                   have HC437_0 := Aside0.mk hl437_0
                   clear hi437_0 hl437_0
                   replace p437 := eq_true p437
                   replace q437 := eq_true q437
                   have p438 : 0 ≤ (x18_2 : Int) := of_decide_eq_true (by first | (with_reducible assumption) | assumption)
                   have q438 : x18_2 < (t425.length : Int) := of_decide_eq_true (by first | (with_reducible assumption) | assumption)
                   obtain ⟨ad438, A438_0, c438_0, e438, hx438_0, hl438_0, hi438_0⟩ := at_L7 (Kd.S_reads' HO_13.out).2.2 x18_2 p438 q438
                   obtain rfl : ad437 = ad438 := (by injection e438)
                   obtain ⟨ce438, hce438, hMe438, hcc438⟩ := Kd.S_get HO_13.out [] x18_2 p438 (by first | exact q438 | exact of_decide_eq_true (by first | (with_reducible assumption) | assumption) | (have e_ := (Kd.S_reads' HO_13.out).1; omega))
                   obtain ⟨ve438_0, rfl, ge438_0⟩ := hMe438
                   have hv438_0 := hcc438 0 _ rfl
                   rw [Nat.add_zero, show ((Kd.slice 3 (Kd.int .i64))).sz = 1 from rfl, Nat.mul_one] at hv438_0
                   replace hv438_0 := Option.some.inj (hv438_0.symm.trans hx438_0)
                   rw [hv438_0] at ge438_0
                   have HL438_0 := Aside0.mk (show Kd.R (Kd.int .i64) 3 _ _ _ _ (rd_L7 t425 x18_2) from ge438_0)
                   clear hv438_0 ge438_0
                   clear hcc438 hce438
                   have HR438_0 := Aside0.mk hi438_0
                   have HC438_0 := Aside0.mk hl438_0
                   clear hi438_0 hl438_0
                   replace p438 := eq_true p438
                   replace q438 := eq_true q438
                   have ea_ := Option.some.inj (hx437_0.symm.trans hx438_0)
                   injection ea_ with ea_ en_ ec_
                   subst ea_
                   subst ec_
                   clear en_
                   have p439 : 0 ≤ (x20_3 : Int) := of_decide_eq_true (by first | (with_reducible assumption) | assumption)
                   have q439 : x20_3 < (t418.length : Int) := of_decide_eq_true (by first | (with_reducible assumption) | assumption)
                   obtain ⟨ad439, A439_0, c439_0, e439, hx439_0, hl439_0, hi439_0⟩ := at_L7 (Kd.S_reads' HO_11.out).2.2 x20_3 p439 q439
                   obtain rfl : ad436 = ad439 := (by injection e439)
                   obtain ⟨ce439, hce439, hMe439, hcc439⟩ := Kd.S_get HO_11.out [] x20_3 p439 (by first | exact q439 | exact of_decide_eq_true (by first | (with_reducible assumption) | assumption) | (have e_ := (Kd.S_reads' HO_11.out).1; omega))
                   obtain ⟨ve439_0, rfl, ge439_0⟩ := hMe439
                   have hv439_0 := hcc439 0 _ rfl
                   rw [Nat.add_zero, show ((Kd.slice 3 (Kd.int .i64))).sz = 1 from rfl, Nat.mul_one] at hv439_0
                   replace hv439_0 := Option.some.inj (hv439_0.symm.trans hx439_0)
                   rw [hv439_0] at ge439_0
                   have HL439_0 := Aside0.mk (show Kd.R (Kd.int .i64) 3 _ _ _ _ (rd_L7 t418 x20_3) from ge439_0)
                   clear hv439_0 ge439_0
                   clear hcc439 hce439
                   have HR439_0 := Aside0.mk hi439_0
                   have HC439_0 := Aside0.mk hl439_0
                   clear hi439_0 hl439_0
                   replace p439 := eq_true p439
                   replace q439 := eq_true q439
                   have ea_ := Option.some.inj (hx436_0.symm.trans hx439_0)
                   injection ea_ with ea_ en_ ec_
                   subst ea_
                   subst ec_
                   clear en_
                   have q64 : (((rd_L7 t418 x20_3).length : Int) : Int) ≤ (((rd_L7 t425 x18_2).length : Int) : Int) := of_decide_eq_true (by first | (with_reducible assumption) | assumption)
                   obtain ⟨i064, hi064, _, hsz64, _⟩ := info_parts info3
                   have hroom64 : (rd_L7 t425 x18_2).length ≤ c437_0 := HC438_0.out
                   have hC64 : Kd.C (Kd.int .i64) _ A437_0 (rd_L7 t425 x18_2).length (rd_L7 t425 x18_2) := (by repeat (first | (with_reducible exact HR438_0.out) | (with_reducible refine Kd.C_alloc ?_ _) | (with_reducible refine Kd.C_drewN ?_ _) | (with_reducible refine Kd.C_drew ?_) | exact HR438_0.out))
                   have hcut64 := cut_to (P := Try.prog) 22 3 .i64 Try.underlying22 hi064 A437_0 (rd_L7 t425 x18_2).length c437_0 ((rd_L7 t418 x20_3).length : Int) (of_decide_eq_true (by first | (with_reducible assumption) | assumption)) q64 hroom64
                   have hr64 := Kd.C_take (m := (((rd_L7 t418 x20_3).length : Int) : Int).toNat) hC64 (by omega)
                   have hy64 : y440.length = (((rd_L7 t418 x20_3).length : Int) : Int).toNat := (by rw [Ny440.out, List.length_take]; omega)
                   rw [← Ny440.out] at hr64
                   rw [← hy64] at hcut64
                   have HR443 := Aside0.mk hr64
                   have HC443 := Aside0.mk (show y440.length ≤ c437_0 from by omega)
                   clear hr64 hC64 hroom64 hi064 hsz64
                   have KY64 := Aside0.mk hy64
                   clear hy64
                   replace q64 := eq_true q64
                   have p444 : 0 ≤ (x20_3 : Int) := of_decide_eq_true (by first | (with_reducible assumption) | assumption)
                   have q444 : x20_3 < (t418.length : Int) := of_decide_eq_true (by first | (with_reducible assumption) | assumption)
                   obtain ⟨ad444, A444_0, c444_0, e444, hx444_0, hl444_0, hi444_0⟩ := at_L7 (Kd.S_reads' HO_11.out).2.2 x20_3 p444 q444
                   obtain rfl : ad436 = ad444 := (by injection e444)
                   obtain ⟨ce444, hce444, hMe444, hcc444⟩ := Kd.S_get HO_11.out [] x20_3 p444 (by first | exact q444 | exact of_decide_eq_true (by first | (with_reducible assumption) | assumption) | (have e_ := (Kd.S_reads' HO_11.out).1; omega))
                   obtain ⟨ve444_0, rfl, ge444_0⟩ := hMe444
                   have hv444_0 := hcc444 0 _ rfl
                   rw [Nat.add_zero, show ((Kd.slice 3 (Kd.int .i64))).sz = 1 from rfl, Nat.mul_one] at hv444_0
                   replace hv444_0 := Option.some.inj (hv444_0.symm.trans hx444_0)
                   rw [hv444_0] at ge444_0
                   have HL444_0 := Aside0.mk (show Kd.R (Kd.int .i64) 3 _ _ _ _ (rd_L7 t418 x20_3) from ge444_0)
                   clear hv444_0 ge444_0
                   clear hcc444 hce444
                   have HR444_0 := Aside0.mk hi444_0
                   have HC444_0 := Aside0.mk hl444_0
                   clear hi444_0 hl444_0
                   replace p444 := eq_true p444
                   replace q444 := eq_true q444
                   have ea_ := Option.some.inj (hx436_0.symm.trans hx444_0)
                   injection ea_ with ea_ en_ ec_
                   subst ea_
                   subst ec_
                   clear en_
                   refine start_ (n := 32) (S := fun w' => w'.cell? (ad436.add (x20_3).toNat) = some (.slice A436_0 (rd_L7 t418 x20_3).length c436_0) ∧ w'.cell? (ad437.add (x18_2).toNat) = some (.slice A437_0 (rd_L7 t425 x18_2).length c437_0) ∧ w'.cell? (ad437.add (x18_2).toNat) = some (.slice A437_0 (rd_L7 t425 x18_2).length c437_0) ∧ w'.cell? (ad436.add (x20_3).toNat) = some (.slice A436_0 (rd_L7 t418 x20_3).length c436_0) ∧ w'.cell? (ad436.add (x20_3).toNat) = some (.slice A436_0 (rd_L7 t418 x20_3).length c436_0)) (ds := []) #[false, false, false, false, false, false, false, false, false, false, false, false, false, false, false, false, false, false, false, false, false, false, false, false, false, false, false, false, false, false, false, false] (by kernel_rfl) rfl rfl ⟨hx436_0, hx437_0, hx438_0, hx439_0, hx444_0⟩ (fun hHeld => ?_); refine with_tabW bobbinetkeep_PickWithin.tab18 bobbinetkeep_PickWithin.bits18 (fun HT_ HW_ => ?_)
                   generalize wr.drew = w63 at HO_11 HO_13 HO_15 BK406 BK414 HB HL436_0 HL437_0 HL438_0 HL439_0 HL444_0 HR436_0 HR437_0 HR438_0 HR439_0 HR443 HR444_0 hx436_0 hx437_0 hx438_0 hx439_0 hx444_0 hHeld ⊢
                   refine pure_ (i := 0) (N := some 81) (v := ?_) (a' := ?_) #[true, false, false, false, false, false, false, false, false, false, false, false, false, false, false, false, false, false, false, false, false, false, false, false, false, false, false, false, false, false, false, false] rfl rfl (any_of HT_.out (by kernel_rfl)) (fun _ _ _ h => h) (Or.inl ⟨by rfl, ?_⟩) ?_ ?_
                   rotate_left
                   ·
                    intro w'
                    go_simp
                    with_reducible rfl
                   rotate_left
                   ·
                    simp only [Act.put, List.setIfInBounds_toArray, List.set_cons_zero, List.set_cons_succ, i64_w, i32_w]
                    rfl
                   refine pure_ (i := 1) (N := some 82) (v := ?_) (a' := ?_) #[true, true, false, false, false, false, false, false, false, false, false, false, false, false, false, false, false, false, false, false, false, false, false, false, false, false, false, false, false, false, false, false] rfl rfl (any_of HT_.out (by kernel_rfl)) (fun _ _ _ h => h) (Or.inl ⟨by rfl, ?_⟩) ?_ ?_
                   rotate_left
                   ·
                    intro w'
                    go_simp
                    with_reducible rfl
                   rotate_left
                   ·
                    simp only [Act.put, List.setIfInBounds_toArray, List.set_cons_zero, List.set_cons_succ, i64_w, i32_w]
                    rfl
                   refine pure_ (i := 2) (N := some 83) (v := ?_) (a' := ?_) #[true, true, true, false, false, false, false, false, false, false, false, false, false, false, false, false, false, false, false, false, false, false, false, false, false, false, false, false, false, false, false, false] rfl rfl (any_of HT_.out (by kernel_rfl)) (fun _ _ _ h => h) (Or.inl ⟨by rfl, ?_⟩) ?_ ?_
                   rotate_left
                   ·
                    intro w'
                    go_simp
                    with_reducible rfl
                   rotate_left
                   ·
                    simp only [Act.put, List.setIfInBounds_toArray, List.set_cons_zero, List.set_cons_succ, i64_w, i32_w]
                    rfl
                   refine pure_ (i := 3) (N := some 84) (v := ?_) (a' := ?_) #[true, true, true, true, false, false, false, false, false, false, false, false, false, false, false, false, false, false, false, false, false, false, false, false, false, false, false, false, false, false, false, false] rfl rfl (any_of HT_.out (by kernel_rfl)) (fun _ _ _ h => h) (Or.inl ⟨by rfl, ?_⟩) ?_ ?_
                   rotate_left
                   ·
                    intro w'
                    go_simp
                    with_reducible rfl
                   rotate_left
                   ·
                    simp only [Act.put, List.setIfInBounds_toArray, List.set_cons_zero, List.set_cons_succ, i64_w, i32_w]
                    rfl
                   refine pure_ (i := 4) (N := some 85) (v := ?_) (a' := ?_) #[true, true, true, true, true, false, false, false, false, false, false, false, false, false, false, false, false, false, false, false, false, false, false, false, false, false, false, false, false, false, false, false] rfl rfl (any_of HT_.out (by kernel_rfl)) (fun _ _ _ h => h) (Or.inl ⟨by rfl, ?_⟩) ?_ ?_
                   rotate_left
                   ·
                    intro w'
                    go_simp
                    with_reducible rfl
                   rotate_left
                   ·
                    simp only [Act.put, List.setIfInBounds_toArray, List.set_cons_zero, List.set_cons_succ, i64_w, i32_w]
                    rfl
                   refine pure_ (i := 7) (N := some 88) (v := ?_) (a' := ?_) #[true, true, true, true, true, false, false, true, false, false, false, false, false, false, false, false, false, false, false, false, false, false, false, false, false, false, false, false, false, false, false, false] rfl rfl (any_of HT_.out (by kernel_rfl)) (fun _ _ _ h => h) (Or.inl ⟨by rfl, ?_⟩) ?_ ?_
                   rotate_left
                   ·
                    intro w'
                    go_simp
                    with_reducible rfl
                   rotate_left
                   ·
                    simp only [Act.put, List.setIfInBounds_toArray, List.set_cons_zero, List.set_cons_succ, i64_w, i32_w]
                    rfl
                   refine pure_ (i := 8) (N := some 89) (v := ?_) (a' := ?_) #[true, true, true, true, true, false, false, true, true, false, false, false, false, false, false, false, false, false, false, false, false, false, false, false, false, false, false, false, false, false, false, false] rfl rfl (any_of HT_.out (by kernel_rfl)) (fun _ _ _ h => h) (Or.inl ⟨by rfl, ?_⟩) ?_ ?_
                   rotate_left
                   ·
                    intro w'
                    go_simp
                    with_reducible rfl
                   rotate_left
                   ·
                    simp only [Act.put, List.setIfInBounds_toArray, List.set_cons_zero, List.set_cons_succ, i64_w, i32_w]
                    rfl
                   refine pure_ (i := 9) (N := some 90) (v := ?_) (a' := ?_) #[true, true, true, true, true, false, false, true, true, true, false, false, false, false, false, false, false, false, false, false, false, false, false, false, false, false, false, false, false, false, false, false] rfl rfl (any_of HT_.out (by kernel_rfl)) (fun _ _ _ h => h) (Or.inl ⟨by rfl, ?_⟩) ?_ ?_
                   rotate_left
                   ·
                    intro w'
                    go_simp
                    with_reducible rfl
                   rotate_left
                   ·
                    simp only [Act.put, List.setIfInBounds_toArray, List.set_cons_zero, List.set_cons_succ, i64_w, i32_w]
                    rfl
                   refine take_ (i := 5) (N := some 86) (v := ?_) (a' := ?_) #[true, true, true, true, true, true, false, true, true, true, false, false, false, false, false, false, false, false, false, false, false, false, false, false, false, false, false, false, false, false, false, false] rfl rfl (take_ofW HT_.out HW_.out (by kernel_rfl)) (fun _ _ _ h => h) (Or.inl ⟨by rfl, ?_⟩) hHeld ?_ ?_
                   rotate_left
                   ·
                    rintro w' ⟨s0, s1, s2, s3, s4⟩
                    go_simp
                    with_reducible rfl
                   rotate_left
                   ·
                    simp only [Act.put, List.setIfInBounds_toArray, List.set_cons_zero, List.set_cons_succ, i64_w, i32_w]
                    rfl
                   refine pure_ (i := 6) (N := some 87) (v := ?_) (a' := ?_) #[true, true, true, true, true, true, true, true, true, true, false, false, false, false, false, false, false, false, false, false, false, false, false, false, false, false, false, false, false, false, false, false] rfl rfl (any_of HT_.out (by kernel_rfl)) (fun _ _ _ h => h) (Or.inl ⟨by rfl, ?_⟩) ?_ ?_
                   rotate_left
                   ·
                    intro w'
                    go_simp
                    with_reducible rfl
                   rotate_left
                   ·
                    simp only [Act.put, List.setIfInBounds_toArray, List.set_cons_zero, List.set_cons_succ, i64_w, i32_w]
                    rfl
                   refine take_ (i := 10) (N := some 91) (v := ?_) (a' := ?_) #[true, true, true, true, true, true, true, true, true, true, true, false, false, false, false, false, false, false, false, false, false, false, false, false, false, false, false, false, false, false, false, false] rfl rfl (take_ofW HT_.out HW_.out (by kernel_rfl)) (fun _ _ _ h => h) (Or.inl ⟨by rfl, ?_⟩) hHeld ?_ ?_
                   rotate_left
                   ·
                    rintro w' ⟨s0, s1, s2, s3, s4⟩
                    go_simp
                    with_reducible rfl
                   rotate_left
                   ·
                    simp only [Act.put, List.setIfInBounds_toArray, List.set_cons_zero, List.set_cons_succ, i64_w, i32_w]
                    rfl
                   refine pure_ (i := 11) (N := some 92) (v := ?_) (a' := ?_) #[true, true, true, true, true, true, true, true, true, true, true, true, false, false, false, false, false, false, false, false, false, false, false, false, false, false, false, false, false, false, false, false] rfl rfl (any_of HT_.out (by kernel_rfl)) (fun _ _ _ h => h) (Or.inl ⟨by rfl, ?_⟩) ?_ ?_
                   rotate_left
                   ·
                    intro w'
                    go_simp
                    with_reducible rfl
                   rotate_left
                   ·
                    simp only [Act.put, List.setIfInBounds_toArray, List.set_cons_zero, List.set_cons_succ, i64_w, i32_w]
                    rfl
                   refine pure_ (i := 12) (N := some 93) (v := ?_) (a' := ?_) #[true, true, true, true, true, true, true, true, true, true, true, true, true, false, false, false, false, false, false, false, false, false, false, false, false, false, false, false, false, false, false, false] rfl rfl (any_of HT_.out (by kernel_rfl)) (fun _ _ _ h => h) (Or.inl ⟨by rfl, ?_⟩) ?_ ?_
                   rotate_left
                   ·
                    intro w'
                    go_simp
                    with_reducible rfl
                   rotate_left
                   ·
                    simp only [Act.put, List.setIfInBounds_toArray, List.set_cons_zero, List.set_cons_succ, i64_w, i32_w]
                    rfl
                   refine pure_ (i := 13) (N := some 94) (v := ?_) (a' := ?_) #[true, true, true, true, true, true, true, true, true, true, true, true, true, true, false, false, false, false, false, false, false, false, false, false, false, false, false, false, false, false, false, false] rfl rfl (any_of HT_.out (by kernel_rfl)) (fun _ _ _ h => h) (Or.inl ⟨by rfl, ?_⟩) ?_ ?_
                   rotate_left
                   ·
                    intro w'
                    go_simp
                    with_reducible rfl
                   rotate_left
                   ·
                    simp only [Act.put, List.setIfInBounds_toArray, List.set_cons_zero, List.set_cons_succ, i64_w, i32_w]
                    rfl
                   refine pure_ (i := 14) (N := some 95) (v := ?_) (a' := ?_) #[true, true, true, true, true, true, true, true, true, true, true, true, true, true, true, false, false, false, false, false, false, false, false, false, false, false, false, false, false, false, false, false] rfl rfl (any_of HT_.out (by kernel_rfl)) (fun _ _ _ h => h) (Or.inl ⟨by rfl, ?_⟩) ?_ ?_
                   rotate_left
                   ·
                    intro w'
                    go_simp
                    with_reducible rfl
                   rotate_left
                   ·
                    simp only [Act.put, List.setIfInBounds_toArray, List.set_cons_zero, List.set_cons_succ, i64_w, i32_w]
                    rfl
                   refine pure_ (i := 15) (N := some 96) (v := ?_) (a' := ?_) #[true, true, true, true, true, true, true, true, true, true, true, true, true, true, true, true, false, false, false, false, false, false, false, false, false, false, false, false, false, false, false, false] rfl rfl (any_of HT_.out (by kernel_rfl)) (fun _ _ _ h => h) (Or.inl ⟨by rfl, ?_⟩) ?_ ?_
                   rotate_left
                   ·
                    intro w'
                    go_simp
                    with_reducible rfl
                   rotate_left
                   ·
                    simp only [Act.put, List.setIfInBounds_toArray, List.set_cons_zero, List.set_cons_succ, i64_w, i32_w]
                    rfl
                   refine pure_ (i := 16) (N := some 97) (v := ?_) (a' := ?_) #[true, true, true, true, true, true, true, true, true, true, true, true, true, true, true, true, true, false, false, false, false, false, false, false, false, false, false, false, false, false, false, false] rfl rfl (any_of HT_.out (by kernel_rfl)) (fun _ _ _ h => h) (Or.inl ⟨by rfl, ?_⟩) ?_ ?_
                   rotate_left
                   ·
                    intro w'
                    go_simp
                    with_reducible rfl
                   rotate_left
                   ·
                    simp only [Act.put, List.setIfInBounds_toArray, List.set_cons_zero, List.set_cons_succ, i64_w, i32_w]
                    rfl
                   refine pure_ (i := 18) (N := some 99) (v := ?_) (a' := ?_) #[true, true, true, true, true, true, true, true, true, true, true, true, true, true, true, true, true, false, true, false, false, false, false, false, false, false, false, false, false, false, false, false] rfl rfl (any_of HT_.out (by kernel_rfl)) (fun _ _ _ h => h) (Or.inl ⟨by rfl, ?_⟩) ?_ ?_
                   rotate_left
                   ·
                    intro w'
                    go_simp
                    with_reducible rfl
                   rotate_left
                   ·
                    simp only [Act.put, List.setIfInBounds_toArray, List.set_cons_zero, List.set_cons_succ, i64_w, i32_w]
                    rfl
                   refine pure_ (i := 19) (N := some 100) (v := ?_) (a' := ?_) #[true, true, true, true, true, true, true, true, true, true, true, true, true, true, true, true, true, false, true, true, false, false, false, false, false, false, false, false, false, false, false, false] rfl rfl (any_of HT_.out (by kernel_rfl)) (fun _ _ _ h => h) (Or.inl ⟨by rfl, ?_⟩) ?_ ?_
                   rotate_left
                   ·
                    intro w'
                    go_simp
                    with_reducible rfl
                   rotate_left
                   ·
                    simp only [Act.put, List.setIfInBounds_toArray, List.set_cons_zero, List.set_cons_succ, i64_w, i32_w]
                    rfl
                   refine pure_ (i := 20) (N := some 101) (v := ?_) (a' := ?_) #[true, true, true, true, true, true, true, true, true, true, true, true, true, true, true, true, true, false, true, true, true, false, false, false, false, false, false, false, false, false, false, false] rfl rfl (any_of HT_.out (by kernel_rfl)) (fun _ _ _ h => h) (Or.inl ⟨by rfl, ?_⟩) ?_ ?_
                   rotate_left
                   ·
                    intro w'
                    go_simp
                    with_reducible rfl
                   rotate_left
                   ·
                    simp only [Act.put, List.setIfInBounds_toArray, List.set_cons_zero, List.set_cons_succ, i64_w, i32_w]
                    rfl
                   refine pure_ (i := 24) (N := some 105) (v := ?_) (a' := ?_) #[true, true, true, true, true, true, true, true, true, true, true, true, true, true, true, true, true, false, true, true, true, false, false, false, true, false, false, false, false, false, false, false] rfl rfl (any_of HT_.out (by kernel_rfl)) (fun _ _ _ h => h) (Or.inl ⟨by rfl, ?_⟩) ?_ ?_
                   rotate_left
                   ·
                    intro w'
                    go_simp
                    with_reducible rfl
                   rotate_left
                   ·
                    simp only [Act.put, List.setIfInBounds_toArray, List.set_cons_zero, List.set_cons_succ, i64_w, i32_w]
                    rfl
                   refine pure_ (i := 25) (N := some 106) (v := ?_) (a' := ?_) #[true, true, true, true, true, true, true, true, true, true, true, true, true, true, true, true, true, false, true, true, true, false, false, false, true, true, false, false, false, false, false, false] rfl rfl (any_of HT_.out (by kernel_rfl)) (fun _ _ _ h => h) (Or.inl ⟨by rfl, ?_⟩) ?_ ?_
                   rotate_left
                   ·
                    intro w'
                    go_simp
                    with_reducible rfl
                   rotate_left
                   ·
                    simp only [Act.put, List.setIfInBounds_toArray, List.set_cons_zero, List.set_cons_succ, i64_w, i32_w]
                    rfl
                   refine pure_ (i := 26) (N := some 107) (v := ?_) (a' := ?_) #[true, true, true, true, true, true, true, true, true, true, true, true, true, true, true, true, true, false, true, true, true, false, false, false, true, true, true, false, false, false, false, false] rfl rfl (any_of HT_.out (by kernel_rfl)) (fun _ _ _ h => h) (Or.inl ⟨by rfl, ?_⟩) ?_ ?_
                   rotate_left
                   ·
                    intro w'
                    go_simp
                    with_reducible rfl
                   rotate_left
                   ·
                    simp only [Act.put, List.setIfInBounds_toArray, List.set_cons_zero, List.set_cons_succ, i64_w, i32_w]
                    rfl
                   refine take_ (i := 17) (N := some 98) (v := ?_) (a' := ?_) #[true, true, true, true, true, true, true, true, true, true, true, true, true, true, true, true, true, true, true, true, true, false, false, false, true, true, true, false, false, false, false, false] rfl rfl (take_ofW HT_.out HW_.out (by kernel_rfl)) (fun _ _ _ h => h) (Or.inl ⟨by rfl, ?_⟩) hHeld ?_ ?_
                   rotate_left
                   ·
                    rintro w' ⟨s0, s1, s2, s3, s4⟩
                    go_simp
                    with_reducible rfl
                   rotate_left
                   ·
                    simp only [Act.put, List.setIfInBounds_toArray, List.set_cons_zero, List.set_cons_succ, i64_w, i32_w]
                    rfl
                   refine take_ (i := 21) (N := some 102) (v := ?_) (a' := ?_) #[true, true, true, true, true, true, true, true, true, true, true, true, true, true, true, true, true, true, true, true, true, true, false, false, true, true, true, false, false, false, false, false] rfl rfl (take_ofW HT_.out HW_.out (by kernel_rfl)) (fun _ _ _ h => h) (Or.inl ⟨by rfl, ?_⟩) hHeld ?_ ?_
                   rotate_left
                   ·
                    rintro w' ⟨s0, s1, s2, s3, s4⟩
                    go_simp
                    with_reducible rfl
                   rotate_left
                   ·
                    simp only [Act.put, List.setIfInBounds_toArray, List.set_cons_zero, List.set_cons_succ, i64_w, i32_w]
                    rfl
                   refine pure_ (i := 22) (N := some 103) (v := ?_) (a' := ?_) #[true, true, true, true, true, true, true, true, true, true, true, true, true, true, true, true, true, true, true, true, true, true, true, false, true, true, true, false, false, false, false, false] rfl rfl (any_of HT_.out (by kernel_rfl)) (fun _ _ _ h => h) (Or.inl ⟨by rfl, ?_⟩) ?_ ?_
                   rotate_left
                   ·
                    intro w'
                    go_simp
                    with_reducible rfl
                   rotate_left
                   ·
                    simp only [Act.put, List.setIfInBounds_toArray, List.set_cons_zero, List.set_cons_succ, i64_w, i32_w]
                    rfl
                   refine pure_ (i := 23) (N := some 104) (v := ?_) (a' := ?_) #[true, true, true, true, true, true, true, true, true, true, true, true, true, true, true, true, true, true, true, true, true, true, true, true, true, true, true, false, false, false, false, false] rfl rfl (any_of HT_.out (by kernel_rfl)) (fun _ _ _ h => h) (Or.inl ⟨by rfl, ?_⟩) ?_ ?_
                   rotate_left
                   ·
                    intro w'
                    go_simp
                    with_reducible rfl
                   rotate_left
                   ·
                    simp only [Act.put, List.setIfInBounds_toArray, List.set_cons_zero, List.set_cons_succ, i64_w, i32_w]
                    rfl
                   refine take_ (i := 27) (N := some 108) (v := ?_) (a' := ?_) #[true, true, true, true, true, true, true, true, true, true, true, true, true, true, true, true, true, true, true, true, true, true, true, true, true, true, true, true, false, false, false, false] rfl rfl (take_ofW HT_.out HW_.out (by kernel_rfl)) (fun _ _ _ h => h) (Or.inl ⟨by rfl, ?_⟩) hHeld ?_ ?_
                   rotate_left
                   ·
                    rintro w' ⟨s0, s1, s2, s3, s4⟩
                    go_simp
                    with_reducible rfl
                   rotate_left
                   ·
                    simp only [Act.put, List.setIfInBounds_toArray, List.set_cons_zero, List.set_cons_succ, i64_w, i32_w]
                    rfl
                   refine one_ (i := 28) (N := some 109) #[true, true, true, true, true, true, true, true, true, true, true, true, true, true, true, true, true, true, true, true, true, true, true, true, true, true, true, true, true, false, false, false] rfl rfl (one_of HT_.out (by kernel_rfl)) (by decide) (fun K hK => ?_)
                   refine goes_ Try.func23 (by kernel_rfl) rfl #[.slice A437_0 y440.length c437_0, .slice A436_0 (rd_L7 t418 x20_3).length c436_0] (by rfl) rfl rfl (by (try simp only [List.map_toArray, List.map_cons, List.map_nil]); first | done | rfl | (simp only [List.length_drop, List.length_take]; rfl)) ?_
                   with_reducible refine (bobbinetkeep_sameInts.calls k3 _ _ y440 _ _ (rd_L7 t418 x20_3) t445 _ ?side1 ?side2 ?side3 ?side4 A61.out).mono ?_
                   (case side1 => repeat (first | exact (by repeat (first | (with_reducible exact HR443.out) | (with_reducible refine Kd.C_alloc ?_ _) | (with_reducible refine Kd.C_drewN ?_ _) | (with_reducible refine Kd.C_drew ?_) | exact HR443.out)) | (with_reducible refine Kd.C_alloc ?_ _) | (with_reducible refine Kd.C_drewN ?_ _) | (with_reducible refine Kd.C_drew ?_)))
                   (case side2 => exact HC443.out)
                   (case side3 => repeat (first | exact (by repeat (first | (with_reducible exact HR444_0.out) | (with_reducible refine Kd.C_alloc ?_ _) | (with_reducible refine Kd.C_drewN ?_ _) | (with_reducible refine Kd.C_drew ?_) | exact HR444_0.out)) | (with_reducible refine Kd.C_alloc ?_ _) | (with_reducible refine Kd.C_drewN ?_ _) | (with_reducible refine Kd.C_drew ?_)))
                   (case side4 => exact HC444_0.out)
                   rintro e w' ⟨rfl, ⟨nd, rfl⟩⟩
                   refine ⟨_, rfl, ?_⟩
                   refine hK.out _ _ ⟨hHeld.1, hHeld.2.1, hHeld.2.2.1, hHeld.2.2.2.1, hHeld.2.2.2.2⟩ (fun hHeld => ?_)
                   clear hK K
                   refine norm_ (a' := ?_) ?_ ?_
                   rotate_left
                   ·
                    show Act.put _ (some 109) _ = _
                    simp only [Act.put, List.setIfInBounds_toArray, List.set_cons_zero, List.set_cons_succ, i64_w, i32_w]
                    rfl
                   refine pure_ (i := 29) (N := some 110) (v := ?_) (a' := ?_) #[true, true, true, true, true, true, true, true, true, true, true, true, true, true, true, true, true, true, true, true, true, true, true, true, true, true, true, true, true, true, false, false] rfl rfl (any_of HT_.out (by kernel_rfl)) (fun _ _ _ h => h) (Or.inl ⟨by rfl, ?_⟩) ?_ ?_
                   rotate_left
                   ·
                    intro w'
                    go_simp
                    with_reducible rfl
                   rotate_left
                   ·
                    simp only [Act.put, List.setIfInBounds_toArray, List.set_cons_zero, List.set_cons_succ, i64_w, i32_w]
                    rfl
                   refine pure_ (i := 30) (N := some 111) (v := ?_) (a' := ?_) #[true, true, true, true, true, true, true, true, true, true, true, true, true, true, true, true, true, true, true, true, true, true, true, true, true, true, true, true, true, true, true, false] rfl rfl (any_of HT_.out (by kernel_rfl)) (fun _ _ _ h => h) (Or.inl ⟨by rfl, ?_⟩) ?_ ?_
                   rotate_left
                   ·
                    intro w'
                    go_simp
                    with_reducible rfl
                   rotate_left
                   ·
                    simp only [Act.put, List.setIfInBounds_toArray, List.set_cons_zero, List.set_cons_succ, i64_w, i32_w]
                    rfl
                   refine pure_ (i := 31) (N := some 19) (v := ?_) (a' := ?_) #[true, true, true, true, true, true, true, true, true, true, true, true, true, true, true, true, true, true, true, true, true, true, true, true, true, true, true, true, true, true, true, true] rfl rfl (any_of HT_.out (by kernel_rfl)) (fun _ _ _ h => h) (Or.inl ⟨by rfl, ?_⟩) ?_ ?_
                   rotate_left
                   ·
                    intro w'
                    go_simp
                    with_reducible rfl
                   rotate_left
                   ·
                    simp only [Act.put, List.setIfInBounds_toArray, List.set_cons_zero, List.set_cons_succ, i64_w, i32_w]
                    rfl
                   refine done_ (done_of HT_.out (by kernel_rfl)) ?_
                   try go_wp2
                   go_roundg k3
                   case measure => have := HJ11.out; have := HK2.out; have := HK3.out; omega
                   case rel => exact ⟨(t445), (wrap64 (x20_3 + 1)), (by first | rfl | (simp; done) | (simp [*]; done) | (simp [bne]; done)), (by first | rfl | (simp; done) | (simp [*]; done) | (simp [bne]; done)), H', ⟨by have := HJ11.out; have := HK2.out; have := HK3.out; omega⟩, ⟨by (with_reducible repeat (first | apply Kd.S_alloc | apply Kd.S_drewN | apply Kd.S_drew)); exact HO_11.out⟩, ⟨by (with_reducible repeat (first | apply Kd.S_alloc | apply Kd.S_drewN | apply Kd.S_drew)); exact HO_13.out⟩, ⟨by (with_reducible repeat (first | apply Kd.S_alloc | apply Kd.S_drewN | apply Kd.S_drew)); exact HO_15.out⟩, ⟨by (with_reducible repeat (first | refine blk_drewN ?_ _ | refine blk_drew ?_ | refine blk_alloc ?_ _)); exact BK406.out⟩, ⟨by (with_reducible repeat (first | refine blk_drewN ?_ _ | refine blk_drew ?_ | refine blk_alloc ?_ _)); exact BK414.out⟩, ⟨by repeat (first | (with_reducible first | exact HB.out | apply below_alloc | apply pw_below_drewN | apply below_drew1 | refine below_set ?_ GE406.out | refine below_set ?_ GE414.out) | exact HB.out)⟩⟩
                  ·
                   rw [if_neg c60] at H
                   exact absurd H (by simp)
                 ·
                  rw [if_neg c59] at H
                  exact absurd H (by simp)
                ·
                 rw [if_neg c58] at H
                 have c58b0 : decide (((rd_L7 t418 x20_3).length : Int) < ((rd_L7 t425 x18_2).length : Int)) = false := decide_eq_false c58
                 have c58b1 : decide ((rd_L7 t418 x20_3).length < (rd_L7 t425 x18_2).length) = false := decide_eq_false (fun h => c58 (Int.ofNat_lt.mpr h))
                 clear c58
                 have H' := Aside0.mk H
                 clear H
                 obtain ⟨Ao65, co65, eo65⟩ := Kd.S_slice HO_11.out
                 subst eo65
                 try go_wp2
                 have n0_ := Aside0.mk (Kd.S_drew HO_11.out)
                 have n1_ := Aside0.mk (Kd.S_drew HO_13.out)
                 have n2_ := Aside0.mk (Kd.S_drew HO_15.out)
                 have n3_ := Aside0.mk (blk_drew BK406.out)
                 have n4_ := Aside0.mk (blk_drew BK414.out)
                 have n5_ := Aside0.mk (below_drew1 HB.out)
                 clear HO_11
                 clear HO_13
                 clear HO_15
                 clear BK406
                 clear BK414
                 clear HB
                 have HO_11 := n0_
                 have HO_13 := n1_
                 have HO_15 := n2_
                 have BK406 := n3_
                 have BK414 := n4_
                 have HB := n5_
                 clear n0_ n1_ n2_ n3_ n4_ n5_
                 have p436 : 0 ≤ (x20_3 : Int) := of_decide_eq_true (by first | (with_reducible assumption) | assumption)
                 have q436 : x20_3 < (t418.length : Int) := of_decide_eq_true (by first | (with_reducible assumption) | assumption)
                 obtain ⟨ad436, A436_0, c436_0, e436, hx436_0, hl436_0, hi436_0⟩ := at_L7 (Kd.S_reads' HO_11.out).2.2 x20_3 p436 q436
                 cases e436
                 obtain ⟨ce436, hce436, hMe436, hcc436⟩ := Kd.S_get HO_11.out [] x20_3 p436 (by first | exact q436 | exact of_decide_eq_true (by first | (with_reducible assumption) | assumption) | (have e_ := (Kd.S_reads' HO_11.out).1; omega))
                 obtain ⟨ve436_0, rfl, ge436_0⟩ := hMe436
                 have hv436_0 := hcc436 0 _ rfl
                 rw [Nat.add_zero, show ((Kd.slice 3 (Kd.int .i64))).sz = 1 from rfl, Nat.mul_one] at hv436_0
                 replace hv436_0 := Option.some.inj (hv436_0.symm.trans hx436_0)
                 rw [hv436_0] at ge436_0
                 have HL436_0 := Aside0.mk (show Kd.R (Kd.int .i64) 3 _ _ _ _ (rd_L7 t418 x20_3) from ge436_0)
                 clear hv436_0 ge436_0
                 clear hcc436 hce436
                 have HR436_0 := Aside0.mk hi436_0
                 have HC436_0 := Aside0.mk hl436_0
                 clear hi436_0 hl436_0
                 replace p436 := eq_true p436
                 replace q436 := eq_true q436
                 have p437 : 0 ≤ (x18_2 : Int) := of_decide_eq_true (by first | (with_reducible assumption) | assumption)
                 have q437 : x18_2 < (t425.length : Int) := of_decide_eq_true (by first | (with_reducible assumption) | assumption)
                 obtain ⟨ad437, A437_0, c437_0, e437, hx437_0, hl437_0, hi437_0⟩ := at_L7 (Kd.S_reads' HO_13.out).2.2 x18_2 p437 q437
                 cases e437
                 obtain ⟨ce437, hce437, hMe437, hcc437⟩ := Kd.S_get HO_13.out [] x18_2 p437 (by first | exact q437 | exact of_decide_eq_true (by first | (with_reducible assumption) | assumption) | (have e_ := (Kd.S_reads' HO_13.out).1; omega))
                 obtain ⟨ve437_0, rfl, ge437_0⟩ := hMe437
                 have hv437_0 := hcc437 0 _ rfl
                 rw [Nat.add_zero, show ((Kd.slice 3 (Kd.int .i64))).sz = 1 from rfl, Nat.mul_one] at hv437_0
                 replace hv437_0 := Option.some.inj (hv437_0.symm.trans hx437_0)
                 rw [hv437_0] at ge437_0
                 have HL437_0 := Aside0.mk (show Kd.R (Kd.int .i64) 3 _ _ _ _ (rd_L7 t425 x18_2) from ge437_0)
                 clear hv437_0 ge437_0
                 clear hcc437 hce437
                 have HR437_0 := Aside0.mk hi437_0
                 have HC437_0 := Aside0.mk hl437_0
                 clear hi437_0 hl437_0
                 replace p437 := eq_true p437
                 replace q437 := eq_true q437
                 refine start_ (n := 32) (S := fun w' => w'.cell? (ad436.add (x20_3).toNat) = some (.slice A436_0 (rd_L7 t418 x20_3).length c436_0) ∧ w'.cell? (ad437.add (x18_2).toNat) = some (.slice A437_0 (rd_L7 t425 x18_2).length c437_0)) (ds := []) #[false, false, false, false, false, false, false, false, false, false, false, false, false, false, false, false, false, false, false, false, false, false, false, false, false, false, false, false, false, false, false, false] (by kernel_rfl) rfl rfl ⟨hx436_0, hx437_0⟩ (fun hHeld => ?_); refine with_tabW bobbinetkeep_PickWithin.tab18 bobbinetkeep_PickWithin.bits18 (fun HT_ HW_ => ?_)
                 generalize wr.drew = w66 at HO_11 HO_13 HO_15 BK406 BK414 HB HL436_0 HL437_0 HR436_0 HR437_0 hx436_0 hx437_0 hHeld ⊢
                 refine pure_ (i := 0) (N := some 81) (v := ?_) (a' := ?_) #[true, false, false, false, false, false, false, false, false, false, false, false, false, false, false, false, false, false, false, false, false, false, false, false, false, false, false, false, false, false, false, false] rfl rfl (any_of HT_.out (by kernel_rfl)) (fun _ _ _ h => h) (Or.inl ⟨by rfl, ?_⟩) ?_ ?_
                 rotate_left
                 ·
                  intro w'
                  go_simp
                  with_reducible rfl
                 rotate_left
                 ·
                  simp only [Act.put, List.setIfInBounds_toArray, List.set_cons_zero, List.set_cons_succ, i64_w, i32_w]
                  rfl
                 refine pure_ (i := 1) (N := some 82) (v := ?_) (a' := ?_) #[true, true, false, false, false, false, false, false, false, false, false, false, false, false, false, false, false, false, false, false, false, false, false, false, false, false, false, false, false, false, false, false] rfl rfl (any_of HT_.out (by kernel_rfl)) (fun _ _ _ h => h) (Or.inl ⟨by rfl, ?_⟩) ?_ ?_
                 rotate_left
                 ·
                  intro w'
                  go_simp
                  with_reducible rfl
                 rotate_left
                 ·
                  simp only [Act.put, List.setIfInBounds_toArray, List.set_cons_zero, List.set_cons_succ, i64_w, i32_w]
                  rfl
                 refine pure_ (i := 2) (N := some 83) (v := ?_) (a' := ?_) #[true, true, true, false, false, false, false, false, false, false, false, false, false, false, false, false, false, false, false, false, false, false, false, false, false, false, false, false, false, false, false, false] rfl rfl (any_of HT_.out (by kernel_rfl)) (fun _ _ _ h => h) (Or.inl ⟨by rfl, ?_⟩) ?_ ?_
                 rotate_left
                 ·
                  intro w'
                  go_simp
                  with_reducible rfl
                 rotate_left
                 ·
                  simp only [Act.put, List.setIfInBounds_toArray, List.set_cons_zero, List.set_cons_succ, i64_w, i32_w]
                  rfl
                 refine pure_ (i := 3) (N := some 84) (v := ?_) (a' := ?_) #[true, true, true, true, false, false, false, false, false, false, false, false, false, false, false, false, false, false, false, false, false, false, false, false, false, false, false, false, false, false, false, false] rfl rfl (any_of HT_.out (by kernel_rfl)) (fun _ _ _ h => h) (Or.inl ⟨by rfl, ?_⟩) ?_ ?_
                 rotate_left
                 ·
                  intro w'
                  go_simp
                  with_reducible rfl
                 rotate_left
                 ·
                  simp only [Act.put, List.setIfInBounds_toArray, List.set_cons_zero, List.set_cons_succ, i64_w, i32_w]
                  rfl
                 refine pure_ (i := 4) (N := some 85) (v := ?_) (a' := ?_) #[true, true, true, true, true, false, false, false, false, false, false, false, false, false, false, false, false, false, false, false, false, false, false, false, false, false, false, false, false, false, false, false] rfl rfl (any_of HT_.out (by kernel_rfl)) (fun _ _ _ h => h) (Or.inl ⟨by rfl, ?_⟩) ?_ ?_
                 rotate_left
                 ·
                  intro w'
                  go_simp
                  with_reducible rfl
                 rotate_left
                 ·
                  simp only [Act.put, List.setIfInBounds_toArray, List.set_cons_zero, List.set_cons_succ, i64_w, i32_w]
                  rfl
                 refine pure_ (i := 7) (N := some 88) (v := ?_) (a' := ?_) #[true, true, true, true, true, false, false, true, false, false, false, false, false, false, false, false, false, false, false, false, false, false, false, false, false, false, false, false, false, false, false, false] rfl rfl (any_of HT_.out (by kernel_rfl)) (fun _ _ _ h => h) (Or.inl ⟨by rfl, ?_⟩) ?_ ?_
                 rotate_left
                 ·
                  intro w'
                  go_simp
                  with_reducible rfl
                 rotate_left
                 ·
                  simp only [Act.put, List.setIfInBounds_toArray, List.set_cons_zero, List.set_cons_succ, i64_w, i32_w]
                  rfl
                 refine pure_ (i := 8) (N := some 89) (v := ?_) (a' := ?_) #[true, true, true, true, true, false, false, true, true, false, false, false, false, false, false, false, false, false, false, false, false, false, false, false, false, false, false, false, false, false, false, false] rfl rfl (any_of HT_.out (by kernel_rfl)) (fun _ _ _ h => h) (Or.inl ⟨by rfl, ?_⟩) ?_ ?_
                 rotate_left
                 ·
                  intro w'
                  go_simp
                  with_reducible rfl
                 rotate_left
                 ·
                  simp only [Act.put, List.setIfInBounds_toArray, List.set_cons_zero, List.set_cons_succ, i64_w, i32_w]
                  rfl
                 refine pure_ (i := 9) (N := some 90) (v := ?_) (a' := ?_) #[true, true, true, true, true, false, false, true, true, true, false, false, false, false, false, false, false, false, false, false, false, false, false, false, false, false, false, false, false, false, false, false] rfl rfl (any_of HT_.out (by kernel_rfl)) (fun _ _ _ h => h) (Or.inl ⟨by rfl, ?_⟩) ?_ ?_
                 rotate_left
                 ·
                  intro w'
                  go_simp
                  with_reducible rfl
                 rotate_left
                 ·
                  simp only [Act.put, List.setIfInBounds_toArray, List.set_cons_zero, List.set_cons_succ, i64_w, i32_w]
                  rfl
                 refine take_ (i := 5) (N := some 86) (v := ?_) (a' := ?_) #[true, true, true, true, true, true, false, true, true, true, false, false, false, false, false, false, false, false, false, false, false, false, false, false, false, false, false, false, false, false, false, false] rfl rfl (take_ofW HT_.out HW_.out (by kernel_rfl)) (fun _ _ _ h => h) (Or.inl ⟨by rfl, ?_⟩) hHeld ?_ ?_
                 rotate_left
                 ·
                  rintro w' ⟨s0, s1⟩
                  go_simp
                  with_reducible rfl
                 rotate_left
                 ·
                  simp only [Act.put, List.setIfInBounds_toArray, List.set_cons_zero, List.set_cons_succ, i64_w, i32_w]
                  rfl
                 refine pure_ (i := 6) (N := some 87) (v := ?_) (a' := ?_) #[true, true, true, true, true, true, true, true, true, true, false, false, false, false, false, false, false, false, false, false, false, false, false, false, false, false, false, false, false, false, false, false] rfl rfl (any_of HT_.out (by kernel_rfl)) (fun _ _ _ h => h) (Or.inl ⟨by rfl, ?_⟩) ?_ ?_
                 rotate_left
                 ·
                  intro w'
                  go_simp
                  with_reducible rfl
                 rotate_left
                 ·
                  simp only [Act.put, List.setIfInBounds_toArray, List.set_cons_zero, List.set_cons_succ, i64_w, i32_w]
                  rfl
                 refine take_ (i := 10) (N := some 91) (v := ?_) (a' := ?_) #[true, true, true, true, true, true, true, true, true, true, true, false, false, false, false, false, false, false, false, false, false, false, false, false, false, false, false, false, false, false, false, false] rfl rfl (take_ofW HT_.out HW_.out (by kernel_rfl)) (fun _ _ _ h => h) (Or.inl ⟨by rfl, ?_⟩) hHeld ?_ ?_
                 rotate_left
                 ·
                  rintro w' ⟨s0, s1⟩
                  go_simp
                  with_reducible rfl
                 rotate_left
                 ·
                  simp only [Act.put, List.setIfInBounds_toArray, List.set_cons_zero, List.set_cons_succ, i64_w, i32_w]
                  rfl
                 refine pure_ (i := 11) (N := some 92) (v := ?_) (a' := ?_) #[true, true, true, true, true, true, true, true, true, true, true, true, false, false, false, false, false, false, false, false, false, false, false, false, false, false, false, false, false, false, false, false] rfl rfl (any_of HT_.out (by kernel_rfl)) (fun _ _ _ h => h) (Or.inl ⟨by rfl, ?_⟩) ?_ ?_
                 rotate_left
                 ·
                  intro w'
                  go_simp
                  with_reducible rfl
                 rotate_left
                 ·
                  simp only [Act.put, List.setIfInBounds_toArray, List.set_cons_zero, List.set_cons_succ, i64_w, i32_w]
                  rfl
                 refine pure_ (i := 12) (N := some 93) (v := ?_) (a' := ?_) #[true, true, true, true, true, true, true, true, true, true, true, true, true, false, false, false, false, false, false, false, false, false, false, false, false, false, false, false, false, false, false, false] rfl rfl (any_of HT_.out (by kernel_rfl)) (fun _ _ _ h => h) (Or.inl ⟨by rfl, ?_⟩) ?_ ?_
                 rotate_left
                 ·
                  intro w'
                  go_simp
                  with_reducible rfl
                 rotate_left
                 ·
                  simp only [Act.put, List.setIfInBounds_toArray, List.set_cons_zero, List.set_cons_succ, i64_w, i32_w]
                  rfl
                 refine pure_ (i := 13) (N := some 94) (v := ?_) (a' := ?_) #[true, true, true, true, true, true, true, true, true, true, true, true, true, true, false, false, false, false, false, false, false, false, false, false, false, false, false, false, false, false, false, false] rfl rfl (any_of HT_.out (by kernel_rfl)) (fun _ _ _ h => h) (Or.inl ⟨by rfl, ?_⟩) ?_ ?_
                 rotate_left
                 ·
                  intro w'
                  go_simp
                  with_reducible rfl
                 rotate_left
                 ·
                  simp only [Act.put, List.setIfInBounds_toArray, List.set_cons_zero, List.set_cons_succ, i64_w, i32_w]
                  rfl
                 refine pure_ (i := 14) (N := some 95) (v := undef) (a' := ?_) #[true, true, true, true, true, true, true, true, true, true, true, true, true, true, true, false, false, false, false, false, false, false, false, false, false, false, false, false, false, false, false, false] rfl rfl (any_of HT_.out (by kernel_rfl)) (fun _ _ _ h => h) (Or.inr ⟨by rfl, rfl⟩) ?_ ?_
                 rotate_left
                 ·
                  simp only [Act.put, List.setIfInBounds_toArray, List.set_cons_zero, List.set_cons_succ, i64_w, i32_w]
                  rfl
                 refine pure_ (i := 15) (N := some 96) (v := undef) (a' := ?_) #[true, true, true, true, true, true, true, true, true, true, true, true, true, true, true, true, false, false, false, false, false, false, false, false, false, false, false, false, false, false, false, false] rfl rfl (any_of HT_.out (by kernel_rfl)) (fun _ _ _ h => h) (Or.inr ⟨by rfl, rfl⟩) ?_ ?_
                 rotate_left
                 ·
                  simp only [Act.put, List.setIfInBounds_toArray, List.set_cons_zero, List.set_cons_succ, i64_w, i32_w]
                  rfl
                 refine pure_ (i := 16) (N := some 97) (v := undef) (a' := ?_) #[true, true, true, true, true, true, true, true, true, true, true, true, true, true, true, true, true, false, false, false, false, false, false, false, false, false, false, false, false, false, false, false] rfl rfl (any_of HT_.out (by kernel_rfl)) (fun _ _ _ h => h) (Or.inr ⟨by rfl, rfl⟩) ?_ ?_
                 rotate_left
                 ·
                  simp only [Act.put, List.setIfInBounds_toArray, List.set_cons_zero, List.set_cons_succ, i64_w, i32_w]
                  rfl
                 refine pure_ (i := 17) (N := some 98) (v := undef) (a' := ?_) #[true, true, true, true, true, true, true, true, true, true, true, true, true, true, true, true, true, true, false, false, false, false, false, false, false, false, false, false, false, false, false, false] rfl rfl (any_of HT_.out (by kernel_rfl)) (fun _ _ _ h => h) (Or.inr ⟨by rfl, rfl⟩) ?_ ?_
                 rotate_left
                 ·
                  simp only [Act.put, List.setIfInBounds_toArray, List.set_cons_zero, List.set_cons_succ, i64_w, i32_w]
                  rfl
                 refine pure_ (i := 18) (N := some 99) (v := undef) (a' := ?_) #[true, true, true, true, true, true, true, true, true, true, true, true, true, true, true, true, true, true, true, false, false, false, false, false, false, false, false, false, false, false, false, false] rfl rfl (any_of HT_.out (by kernel_rfl)) (fun _ _ _ h => h) (Or.inr ⟨by rfl, rfl⟩) ?_ ?_
                 rotate_left
                 ·
                  simp only [Act.put, List.setIfInBounds_toArray, List.set_cons_zero, List.set_cons_succ, i64_w, i32_w]
                  rfl
                 refine pure_ (i := 19) (N := some 100) (v := undef) (a' := ?_) #[true, true, true, true, true, true, true, true, true, true, true, true, true, true, true, true, true, true, true, true, false, false, false, false, false, false, false, false, false, false, false, false] rfl rfl (any_of HT_.out (by kernel_rfl)) (fun _ _ _ h => h) (Or.inr ⟨by rfl, rfl⟩) ?_ ?_
                 rotate_left
                 ·
                  simp only [Act.put, List.setIfInBounds_toArray, List.set_cons_zero, List.set_cons_succ, i64_w, i32_w]
                  rfl
                 refine pure_ (i := 20) (N := some 101) (v := undef) (a' := ?_) #[true, true, true, true, true, true, true, true, true, true, true, true, true, true, true, true, true, true, true, true, true, false, false, false, false, false, false, false, false, false, false, false] rfl rfl (any_of HT_.out (by kernel_rfl)) (fun _ _ _ h => h) (Or.inr ⟨by rfl, rfl⟩) ?_ ?_
                 rotate_left
                 ·
                  simp only [Act.put, List.setIfInBounds_toArray, List.set_cons_zero, List.set_cons_succ, i64_w, i32_w]
                  rfl
                 refine pure_ (i := 21) (N := some 102) (v := undef) (a' := ?_) #[true, true, true, true, true, true, true, true, true, true, true, true, true, true, true, true, true, true, true, true, true, true, false, false, false, false, false, false, false, false, false, false] rfl rfl (any_of HT_.out (by kernel_rfl)) (fun _ _ _ h => h) (Or.inr ⟨by rfl, rfl⟩) ?_ ?_
                 rotate_left
                 ·
                  simp only [Act.put, List.setIfInBounds_toArray, List.set_cons_zero, List.set_cons_succ, i64_w, i32_w]
                  rfl
                 refine pure_ (i := 22) (N := some 103) (v := undef) (a' := ?_) #[true, true, true, true, true, true, true, true, true, true, true, true, true, true, true, true, true, true, true, true, true, true, true, false, false, false, false, false, false, false, false, false] rfl rfl (any_of HT_.out (by kernel_rfl)) (fun _ _ _ h => h) (Or.inr ⟨by rfl, rfl⟩) ?_ ?_
                 rotate_left
                 ·
                  simp only [Act.put, List.setIfInBounds_toArray, List.set_cons_zero, List.set_cons_succ, i64_w, i32_w]
                  rfl
                 refine pure_ (i := 23) (N := some 104) (v := undef) (a' := ?_) #[true, true, true, true, true, true, true, true, true, true, true, true, true, true, true, true, true, true, true, true, true, true, true, true, false, false, false, false, false, false, false, false] rfl rfl (any_of HT_.out (by kernel_rfl)) (fun _ _ _ h => h) (Or.inr ⟨by rfl, rfl⟩) ?_ ?_
                 rotate_left
                 ·
                  simp only [Act.put, List.setIfInBounds_toArray, List.set_cons_zero, List.set_cons_succ, i64_w, i32_w]
                  rfl
                 refine pure_ (i := 24) (N := some 105) (v := undef) (a' := ?_) #[true, true, true, true, true, true, true, true, true, true, true, true, true, true, true, true, true, true, true, true, true, true, true, true, true, false, false, false, false, false, false, false] rfl rfl (any_of HT_.out (by kernel_rfl)) (fun _ _ _ h => h) (Or.inr ⟨by rfl, rfl⟩) ?_ ?_
                 rotate_left
                 ·
                  simp only [Act.put, List.setIfInBounds_toArray, List.set_cons_zero, List.set_cons_succ, i64_w, i32_w]
                  rfl
                 refine pure_ (i := 25) (N := some 106) (v := undef) (a' := ?_) #[true, true, true, true, true, true, true, true, true, true, true, true, true, true, true, true, true, true, true, true, true, true, true, true, true, true, false, false, false, false, false, false] rfl rfl (any_of HT_.out (by kernel_rfl)) (fun _ _ _ h => h) (Or.inr ⟨by rfl, rfl⟩) ?_ ?_
                 rotate_left
                 ·
                  simp only [Act.put, List.setIfInBounds_toArray, List.set_cons_zero, List.set_cons_succ, i64_w, i32_w]
                  rfl
                 refine pure_ (i := 26) (N := some 107) (v := undef) (a' := ?_) #[true, true, true, true, true, true, true, true, true, true, true, true, true, true, true, true, true, true, true, true, true, true, true, true, true, true, true, false, false, false, false, false] rfl rfl (any_of HT_.out (by kernel_rfl)) (fun _ _ _ h => h) (Or.inr ⟨by rfl, rfl⟩) ?_ ?_
                 rotate_left
                 ·
                  simp only [Act.put, List.setIfInBounds_toArray, List.set_cons_zero, List.set_cons_succ, i64_w, i32_w]
                  rfl
                 refine pure_ (i := 27) (N := some 108) (v := undef) (a' := ?_) #[true, true, true, true, true, true, true, true, true, true, true, true, true, true, true, true, true, true, true, true, true, true, true, true, true, true, true, true, false, false, false, false] rfl rfl (any_of HT_.out (by kernel_rfl)) (fun _ _ _ h => h) (Or.inr ⟨by rfl, rfl⟩) ?_ ?_
                 rotate_left
                 ·
                  simp only [Act.put, List.setIfInBounds_toArray, List.set_cons_zero, List.set_cons_succ, i64_w, i32_w]
                  rfl
                 refine pure_ (i := 28) (N := some 109) (v := undef) (a' := ?_) #[true, true, true, true, true, true, true, true, true, true, true, true, true, true, true, true, true, true, true, true, true, true, true, true, true, true, true, true, true, false, false, false] rfl rfl (any_of HT_.out (by kernel_rfl)) (fun _ _ _ h => h) (Or.inr ⟨by rfl, rfl⟩) ?_ ?_
                 rotate_left
                 ·
                  simp only [Act.put, List.setIfInBounds_toArray, List.set_cons_zero, List.set_cons_succ, i64_w, i32_w]
                  rfl
                 refine pure_ (i := 29) (N := some 110) (v := ?_) (a' := ?_) #[true, true, true, true, true, true, true, true, true, true, true, true, true, true, true, true, true, true, true, true, true, true, true, true, true, true, true, true, true, true, false, false] rfl rfl (any_of HT_.out (by kernel_rfl)) (fun _ _ _ h => h) (Or.inl ⟨by rfl, ?_⟩) ?_ ?_
                 rotate_left
                 ·
                  intro w'
                  go_simp
                  with_reducible rfl
                 rotate_left
                 ·
                  simp only [Act.put, List.setIfInBounds_toArray, List.set_cons_zero, List.set_cons_succ, i64_w, i32_w]
                  rfl
                 refine pure_ (i := 30) (N := some 111) (v := ?_) (a' := ?_) #[true, true, true, true, true, true, true, true, true, true, true, true, true, true, true, true, true, true, true, true, true, true, true, true, true, true, true, true, true, true, true, false] rfl rfl (any_of HT_.out (by kernel_rfl)) (fun _ _ _ h => h) (Or.inl ⟨by rfl, ?_⟩) ?_ ?_
                 rotate_left
                 ·
                  intro w'
                  go_simp
                  with_reducible rfl
                 rotate_left
                 ·
                  simp only [Act.put, List.setIfInBounds_toArray, List.set_cons_zero, List.set_cons_succ, i64_w, i32_w]
                  rfl
                 refine pure_ (i := 31) (N := some 19) (v := ?_) (a' := ?_) #[true, true, true, true, true, true, true, true, true, true, true, true, true, true, true, true, true, true, true, true, true, true, true, true, true, true, true, true, true, true, true, true] rfl rfl (any_of HT_.out (by kernel_rfl)) (fun _ _ _ h => h) (Or.inl ⟨by rfl, ?_⟩) ?_ ?_
                 rotate_left
                 ·
                  intro w'
                  go_simp
                  with_reducible rfl
                 rotate_left
                 ·
                  simp only [Act.put, List.setIfInBounds_toArray, List.set_cons_zero, List.set_cons_succ, i64_w, i32_w]
                  rfl
                 refine done_ (done_of HT_.out (by kernel_rfl)) ?_
                 try go_wp2
                 go_roundg k3
                 case measure => have := HJ11.out; have := HK2.out; have := HK3.out; omega
                 case rel => exact ⟨(false), (wrap64 (x20_3 + 1)), (by first | rfl | (simp; done) | (simp [*]; done) | (simp [bne]; done)), (by first | rfl | (simp; done) | (simp [*]; done) | (simp [bne]; done)), H', ⟨by have := HJ11.out; have := HK2.out; have := HK3.out; omega⟩, ⟨by (with_reducible repeat (first | apply Kd.S_alloc | apply Kd.S_drewN | apply Kd.S_drew)); exact HO_11.out⟩, ⟨by (with_reducible repeat (first | apply Kd.S_alloc | apply Kd.S_drewN | apply Kd.S_drew)); exact HO_13.out⟩, ⟨by (with_reducible repeat (first | apply Kd.S_alloc | apply Kd.S_drewN | apply Kd.S_drew)); exact HO_15.out⟩, ⟨by (with_reducible repeat (first | refine blk_drewN ?_ _ | refine blk_drew ?_ | refine blk_alloc ?_ _)); exact BK406.out⟩, ⟨by (with_reducible repeat (first | refine blk_drewN ?_ _ | refine blk_drew ?_ | refine blk_alloc ?_ _)); exact BK414.out⟩, ⟨by repeat (first | (with_reducible first | exact HB.out | apply below_alloc | apply pw_below_drewN | apply below_drew1 | refine below_set ?_ GE406.out | refine below_set ?_ GE414.out) | exact HB.out)⟩⟩
               ·
                rw [if_neg c57] at H
                exact absurd H (by simp)
              ·
               rw [if_neg c56] at H
               exact absurd H (by simp)
             ·
              rw [if_neg c55] at H
              exact absurd H (by simp)
           ·
            rw [if_neg c51] at H
            have c51b0 : decide (x20_3 < (t418.length : Int)) = false := decide_eq_false c51
            clear c51
            by_cases c67 : x19_3 = true
            ·
             subst c67
             have H1 : (if 0 ≤ x18_2 then (if x18_2 < (t425.length : Int) then ((bobbinetkeep_hasPath.f k3 t432 (rd_L7 t425 x18_2)).bind fun t447 => (if (true != t447) = true then (none) else (bobbinetkeep_PickWithin.l0 k3 t418 t425 t432 (wrap64 (x17_2 + 1)) (wrap64 (x18_2 + 1))))) else (none)) else (none)) = some r := by rw [if_pos rfl] at H; exact H
             clear H
             have H := H1
             clear H1
             by_cases c68 : 0 ≤ x18_2
             ·
              rw [if_pos c68] at H
              have c68b0 : decide (0 ≤ x18_2) = true := decide_eq_true c68
              clear c68
              by_cases c69 : x18_2 < (t425.length : Int)
              ·
               rw [if_pos c69] at H
               have c69b0 : decide (x18_2 < (t425.length : Int)) = true := decide_eq_true c69
               clear c69
               replace H := Option.bind_eq_some_iff.mp H
               obtain ⟨t447, A700, H⟩ := H
               replace H : (if (true != t447) = true then (none) else (bobbinetkeep_PickWithin.l0 k3 t418 t425 t432 (wrap64 (x17_2 + 1)) (wrap64 (x18_2 + 1)))) = some r := H
               have A70 := Aside0.mk A700
               clear A700
               by_cases c71 : (true != t447) = true
               ·
                rw [if_pos c71] at H
                exact absurd H (by simp)
               ·
                rw [if_neg c71] at H
                have c71b0 : (true != t447) = false := by simpa using c71
                (try (have c71b1 : decide (true = t447) = true := by simpa using c71))
                (try (have c71b2 : (true == t447) = true := by simpa using c71))
                clear c71
                have H' := Aside0.mk H
                clear H
                obtain ⟨Ao72, co72, eo72⟩ := Kd.S_slice HO_11.out
                subst eo72
                have p446 : 0 ≤ (x18_2 : Int) := of_decide_eq_true (by first | (with_reducible assumption) | assumption)
                have q446 : x18_2 < (t425.length : Int) := of_decide_eq_true (by first | (with_reducible assumption) | assumption)
                obtain ⟨ad446, A446_0, c446_0, e446, hx446_0, hl446_0, hi446_0⟩ := at_L7 (Kd.S_reads' HO_13.out).2.2 x18_2 p446 q446
                cases e446
                obtain ⟨ce446, hce446, hMe446, hcc446⟩ := Kd.S_get HO_13.out [] x18_2 p446 (by first | exact q446 | exact of_decide_eq_true (by first | (with_reducible assumption) | assumption) | (have e_ := (Kd.S_reads' HO_13.out).1; omega))
                obtain ⟨ve446_0, rfl, ge446_0⟩ := hMe446
                have hv446_0 := hcc446 0 _ rfl
                rw [Nat.add_zero, show ((Kd.slice 3 (Kd.int .i64))).sz = 1 from rfl, Nat.mul_one] at hv446_0
                replace hv446_0 := Option.some.inj (hv446_0.symm.trans hx446_0)
                rw [hv446_0] at ge446_0
                have HL446_0 := Aside0.mk (show Kd.R (Kd.int .i64) 3 _ _ _ _ (rd_L7 t425 x18_2) from ge446_0)
                clear hv446_0 ge446_0
                clear hcc446 hce446
                have HR446_0 := Aside0.mk hi446_0
                have HC446_0 := Aside0.mk hl446_0
                clear hi446_0 hl446_0
                replace p446 := eq_true p446
                replace q446 := eq_true q446
                obtain ⟨Ao73, co73, eo73⟩ := Kd.S_slice HO_15.out
                subst eo73
                go_wp2_with (first | ((with_reducible refine gate_callee (f := 28) rfl ?_); refine goesL_ (some 121) rfl rfl Try.func28 (by kernel_rfl) rfl #[.slice Ao73 t432.length co73, .slice A446_0 (rd_L7 t425 x18_2).length c446_0] rfl (by (try simp only [List.map_toArray, List.map_cons, List.map_nil]); first | done | rfl | (simp only [List.length_drop, List.length_take]; rfl)) ?_; (with_reducible refine (bobbinetkeep_hasPath.calls k3 _ _ t432 _ _ (rd_L7 t425 x18_2) t447 _ ?side1 ?side2 ?side3 ?side4 A70.out).mono ?_); (case side1 => repeat (first | exact (Kd.S_reads' HO_15.out).2.2 | (with_reducible refine Kd.C_alloc ?_ _) | (with_reducible refine Kd.C_drewN ?_ _) | (with_reducible refine Kd.C_drew ?_))); (case side2 => exact (Kd.S_reads' HO_15.out).2.1); (case side3 => repeat (first | exact (by repeat (first | (with_reducible exact HR446_0.out) | (with_reducible refine Kd.C_alloc ?_ _) | (with_reducible refine Kd.C_drewN ?_ _) | (with_reducible refine Kd.C_drew ?_) | exact HR446_0.out)) | (with_reducible refine Kd.C_alloc ?_ _) | (with_reducible refine Kd.C_drewN ?_ _) | (with_reducible refine Kd.C_drew ?_))); (case side4 => exact HC446_0.out); rintro e w' ⟨rfl, ⟨nd, rfl⟩⟩; refine ⟨_, rfl, ?_⟩))
                go_roundg k3
                case measure => have := HJ11.out; have := HK2.out; have := HK3.out; omega
                case rel => exact ⟨(wrap64 (x17_2 + 1)), (wrap64 (x18_2 + 1)), (by first | rfl | (simp; done) | (simp [*]; done) | (simp [bne]; done)), (by first | rfl | (simp; done) | (simp [*]; done) | (simp [bne]; done)), H', ⟨by have := HJ11.out; have := HK2.out; have := HK3.out; omega⟩, ⟨by (with_reducible repeat (first | apply Kd.S_alloc | apply Kd.S_drewN | apply Kd.S_drew)); exact HO_11.out⟩, ⟨by (with_reducible repeat (first | apply Kd.S_alloc | apply Kd.S_drewN | apply Kd.S_drew)); exact HO_13.out⟩, ⟨by (with_reducible repeat (first | apply Kd.S_alloc | apply Kd.S_drewN | apply Kd.S_drew)); exact HO_15.out⟩, ⟨by (with_reducible repeat (first | refine blk_drewN ?_ _ | refine blk_drew ?_ | refine blk_alloc ?_ _)); exact BK406.out⟩, ⟨by (with_reducible repeat (first | refine blk_drewN ?_ _ | refine blk_drew ?_ | refine blk_alloc ?_ _)); exact BK414.out⟩, ⟨by repeat (first | (with_reducible first | exact HB.out | apply below_alloc | apply pw_below_drewN | apply below_drew1 | refine below_set ?_ GE406.out | refine below_set ?_ GE414.out) | exact HB.out)⟩⟩
              ·
               rw [if_neg c69] at H
               exact absurd H (by simp)
             ·
              rw [if_neg c68] at H
              exact absurd H (by simp)
            ·
             replace c67 := Bool.eq_false_iff.mpr c67
             subst c67
             have H1 : (if 0 ≤ x18_2 then (if x18_2 < (t425.length : Int) then ((bobbinetkeep_hasPath.f k3 t432 (rd_L7 t425 x18_2)).bind fun t449 => (if (false != t449) = true then (none) else (bobbinetkeep_PickWithin.l0 k3 t418 t425 t432 x17_2 (wrap64 (x18_2 + 1))))) else (none)) else (none)) = some r := by rw [if_neg (show ¬ (false = true) by decide)] at H; exact H
             clear H
             have H := H1
             clear H1
             by_cases c74 : 0 ≤ x18_2
             ·
              rw [if_pos c74] at H
              have c74b0 : decide (0 ≤ x18_2) = true := decide_eq_true c74
              clear c74
              by_cases c75 : x18_2 < (t425.length : Int)
              ·
               rw [if_pos c75] at H
               have c75b0 : decide (x18_2 < (t425.length : Int)) = true := decide_eq_true c75
               clear c75
               replace H := Option.bind_eq_some_iff.mp H
               obtain ⟨t449, A760, H⟩ := H
               replace H : (if (false != t449) = true then (none) else (bobbinetkeep_PickWithin.l0 k3 t418 t425 t432 x17_2 (wrap64 (x18_2 + 1)))) = some r := H
               have A76 := Aside0.mk A760
               clear A760
               by_cases c77 : (false != t449) = true
               ·
                rw [if_pos c77] at H
                exact absurd H (by simp)
               ·
                rw [if_neg c77] at H
                have c77b0 : (false != t449) = false := by simpa using c77
                (try (have c77b1 : decide (false = t449) = true := by simpa using c77))
                (try (have c77b2 : (false == t449) = true := by simpa using c77))
                clear c77
                have H' := Aside0.mk H
                clear H
                obtain ⟨Ao78, co78, eo78⟩ := Kd.S_slice HO_11.out
                subst eo78
                have p448 : 0 ≤ (x18_2 : Int) := of_decide_eq_true (by first | (with_reducible assumption) | assumption)
                have q448 : x18_2 < (t425.length : Int) := of_decide_eq_true (by first | (with_reducible assumption) | assumption)
                obtain ⟨ad448, A448_0, c448_0, e448, hx448_0, hl448_0, hi448_0⟩ := at_L7 (Kd.S_reads' HO_13.out).2.2 x18_2 p448 q448
                cases e448
                obtain ⟨ce448, hce448, hMe448, hcc448⟩ := Kd.S_get HO_13.out [] x18_2 p448 (by first | exact q448 | exact of_decide_eq_true (by first | (with_reducible assumption) | assumption) | (have e_ := (Kd.S_reads' HO_13.out).1; omega))
                obtain ⟨ve448_0, rfl, ge448_0⟩ := hMe448
                have hv448_0 := hcc448 0 _ rfl
                rw [Nat.add_zero, show ((Kd.slice 3 (Kd.int .i64))).sz = 1 from rfl, Nat.mul_one] at hv448_0
                replace hv448_0 := Option.some.inj (hv448_0.symm.trans hx448_0)
                rw [hv448_0] at ge448_0
                have HL448_0 := Aside0.mk (show Kd.R (Kd.int .i64) 3 _ _ _ _ (rd_L7 t425 x18_2) from ge448_0)
                clear hv448_0 ge448_0
                clear hcc448 hce448
                have HR448_0 := Aside0.mk hi448_0
                have HC448_0 := Aside0.mk hl448_0
                clear hi448_0 hl448_0
                replace p448 := eq_true p448
                replace q448 := eq_true q448
                obtain ⟨Ao79, co79, eo79⟩ := Kd.S_slice HO_15.out
                subst eo79
                go_wp2_with (first | ((with_reducible refine gate_callee (f := 28) rfl ?_); refine goesL_ (some 121) rfl rfl Try.func28 (by kernel_rfl) rfl #[.slice Ao79 t432.length co79, .slice A448_0 (rd_L7 t425 x18_2).length c448_0] rfl (by (try simp only [List.map_toArray, List.map_cons, List.map_nil]); first | done | rfl | (simp only [List.length_drop, List.length_take]; rfl)) ?_; (with_reducible refine (bobbinetkeep_hasPath.calls k3 _ _ t432 _ _ (rd_L7 t425 x18_2) t449 _ ?side1 ?side2 ?side3 ?side4 A76.out).mono ?_); (case side1 => repeat (first | exact (Kd.S_reads' HO_15.out).2.2 | (with_reducible refine Kd.C_alloc ?_ _) | (with_reducible refine Kd.C_drewN ?_ _) | (with_reducible refine Kd.C_drew ?_))); (case side2 => exact (Kd.S_reads' HO_15.out).2.1); (case side3 => repeat (first | exact (by repeat (first | (with_reducible exact HR448_0.out) | (with_reducible refine Kd.C_alloc ?_ _) | (with_reducible refine Kd.C_drewN ?_ _) | (with_reducible refine Kd.C_drew ?_) | exact HR448_0.out)) | (with_reducible refine Kd.C_alloc ?_ _) | (with_reducible refine Kd.C_drewN ?_ _) | (with_reducible refine Kd.C_drew ?_))); (case side4 => exact HC448_0.out); rintro e w' ⟨rfl, ⟨nd, rfl⟩⟩; refine ⟨_, rfl, ?_⟩))
                go_roundg k3
                case measure => have := HJ11.out; have := HK2.out; have := HK3.out; omega
                case rel => exact ⟨(x17_2), (wrap64 (x18_2 + 1)), (by first | rfl | (simp; done) | (simp [*]; done) | (simp [bne]; done)), (by first | rfl | (simp; done) | (simp [*]; done) | (simp [bne]; done)), H', ⟨by have := HJ11.out; have := HK2.out; have := HK3.out; omega⟩, ⟨by (with_reducible repeat (first | apply Kd.S_alloc | apply Kd.S_drewN | apply Kd.S_drew)); exact HO_11.out⟩, ⟨by (with_reducible repeat (first | apply Kd.S_alloc | apply Kd.S_drewN | apply Kd.S_drew)); exact HO_13.out⟩, ⟨by (with_reducible repeat (first | apply Kd.S_alloc | apply Kd.S_drewN | apply Kd.S_drew)); exact HO_15.out⟩, ⟨by (with_reducible repeat (first | refine blk_drewN ?_ _ | refine blk_drew ?_ | refine blk_alloc ?_ _)); exact BK406.out⟩, ⟨by (with_reducible repeat (first | refine blk_drewN ?_ _ | refine blk_drew ?_ | refine blk_alloc ?_ _)); exact BK414.out⟩, ⟨by repeat (first | (with_reducible first | exact HB.out | apply below_alloc | apply pw_below_drewN | apply below_drew1 | refine below_set ?_ GE406.out | refine below_set ?_ GE414.out) | exact HB.out)⟩⟩
              ·
               rw [if_neg c75] at H
               exact absurd H (by simp)
             ·
              rw [if_neg c74] at H
              exact absurd H (by simp)
        ·
         rw [if_neg c49] at H
         have c49b0 : decide (x18_2 < (t425.length : Int)) = false := decide_eq_false c49
         clear c49
         obtain rfl := Option.some.inj H
         obtain ⟨Ao80, co80, eo80⟩ := Kd.S_slice HO_13.out
         subst eo80
         obtain ⟨Ao81, co81, eo81⟩ := Kd.S_slice HO_15.out
         subst eo81
         go_wp2
         go_ret
         exact ⟨by first | rfl | (simp [errW_none, errW_some] <;> rfl) | (simp [*, errW_none, errW_some] <;> rfl), by repeat (first | (with_reducible first | exact HB.out | apply below_alloc | apply pw_below_drewN | apply below_drew1 | refine below_set ?_ GE406.out | refine below_set ?_ GE414.out) | exact HB.out)⟩
  ·
   rw [if_neg c8] at H
   exact absurd H (by simp)
 ·
  rw [if_neg c6] at H
  exact absurd H (by simp)
/-- THE ONE PURE STATEMENT of bobbinetkeep_PickWithin: yours. -/
def bobbinetkeep_PickWithin.Pure : Prop := ∀ (l0 : List Int) (a1 : Int) (a2 : Int), l0.length ≤ maxLen → l0.length * 8 ≤ 140737488351232 → (∀ x ∈ l0, (Lit.int .i64 x).wf = true) → (Lit.int .i64 a1).wf = true → (Lit.int .i64 a2).wf = true → ∃ k, bobbinetkeep_PickWithin.f k l0 a1 a2 = some true
theorem bobbinetkeep_PickWithin.walk (P : bobbinetkeep_PickWithin.Pure) (a0 : Option Addr) (len0 cap0 : Nat) (z0 : List Int) (a1 : Int) (a2 : Int) (w : World) (w0 : (a0 = none ∧ len0 = 0 ∧ cap0 = 0 ∧ z0 = []) ∨ ∃ x, a0 = some x ∧ len0 ≤ cap0 ∧ cap0 ≤ maxLen ∧ z0.length = cap0 ∧ (∀ i, i < z0.length → w.cell? (x.add i) = some (.int .i64 (z0.getD i 0))) ∧ ∀ n ∈ z0, (Lit.int .i64 n).wf = true) (y0 : len0 * 8 ≤ 140737488351232) (w1 : (Lit.int .i64 a1).wf = true) (w2 : (Lit.int .i64 a2).wf = true) :
  Calls Try.prog 11 #[.slice a0 len0 cap0, .int .i64 a1, .int .i64 a2] w fun e w' => e = .returned (.bool true) ∧ Below w.heap.size w w' := by
 obtain ⟨l0, rfl, hr0, hm0, hw0, hc0⟩ := ReadsInt.ofRowC w0
 obtain ⟨k, h⟩ := P l0 a1 a2 hm0 y0 hw0 w1 w2
 refine (bobbinetkeep_PickWithin.calls k _ _ l0 a1 a2 true w (Kd.C_of_reads (d := (0 : Int)) (h1 := fun _ => rfl) hr0) hc0 h).mono ?_
 rintro e w' ⟨rfl, hd⟩
 exact ⟨rfl, hd⟩
end Go.Proofs.Ytaibikajpacemaa.X
end
section
namespace Go.Proofs.Ytaibikajpacemaa.Base
open Go.RowKit Go.Proofs.YtaibikajpacemaaW.PrintWords
theorem toList_loop (s : ByteArray) : ∀ (n i : Nat) (r : List UInt8), s.size - i = n → ByteArray.toList.loop s i r = r.reverse ++ s.data.toList.drop i
  | 0, i, r, h => by
    unfold ByteArray.toList.loop
    have h1 : s.data.toList.drop i = [] := List.drop_eq_nil_of_le (by rw [Array.length_toList]; show s.size ≤ i; omega)
    rw [if_neg (by omega), h1, List.append_nil]
  | n + 1, i, r, h => by
    unfold ByteArray.toList.loop
    have hi : i < s.size := by omega
    have hl : i < s.data.toList.length := by rw [Array.length_toList]; exact hi
    have hg : s.get! i = s.data.toList[i] := by
      obtain ⟨d⟩ := s
      show d[i]! = _
      rw [getElem!_pos d i hi]
      simp
    rw [if_pos hi, toList_loop s n (i + 1) _ (by omega), hg, List.drop_eq_getElem_cons hl, List.reverse_cons, List.append_assoc]
    rfl
theorem toList_eq (s : ByteArray) : s.toList = s.data.toList := by
  unfold ByteArray.toList
  rw [toList_loop s _ 0 [] rfl]
  rfl
theorem toList_inj {s t : ByteArray} : s.toList = t.toList ↔ s = t := by
  rw [toList_eq, toList_eq]
  constructor
  · intro h
    exact ByteArray.ext (Array.toList_inj.1 h)
  · rintro rfl; rfl
theorem toList_beq (s t : ByteArray) : (s.toList == t.toList) = decide (s = t) := by
  rw [Bool.eq_iff_iff]
  simp [toList_inj]
theorem toList_nil {s : ByteArray} : s.toList = ([] : List UInt8) ↔ s = (⟨#[]⟩ : ByteArray) := by
  rw [toList_eq]
  constructor
  · intro h
    apply ByteArray.ext
    exact Array.toList_inj.1 h
  · rintro rfl; rfl
theorem Ev.ite_pos {α : Type} {c : Prop} [Decidable c] {g f : Nat → Option α} {r : α} (h : c) (k : Ev g r) : Ev (fun n => if c then g n else f n) r := by
  simpa only [if_pos h] using k
theorem Ev.ite_neg {α : Type} {c : Prop} [Decidable c] {g f : Nat → Option α} {r : α} (h : ¬ c) (k : Ev f r) : Ev (fun n => if c then g n else f n) r := by
  simpa only [if_neg h] using k
theorem Ev.some {α : Type} (r : α) : Ev (fun _ => Option.some r) r := ⟨0, fun _ _ => rfl⟩
/-- one round: what is told of k + 1 rounds -/
theorem Ev.one {α : Type} {g f : Nat → Option α} {r : α} (h : ∀ k, g (k + 1) = f k) (k : Ev f r) : Ev g r := by
  obtain ⟨K, hK⟩ := k
  refine ⟨K + 1, fun k hk => ?_⟩
  obtain ⟨m, rfl⟩ : ∃ m, k = m + 1 := ⟨k - 1, by omega⟩
  rw [h m]
  exact hK m (by omega)
theorem Ev.bnd {α β : Type} {g : Nat → Option α} {f : Nat → α → Option β} {a : α} {r : β} (h : Ev g a) (k : Ev (fun n => f n a) r) : Ev (fun n => (g n).bind (f n)) r := by
  obtain ⟨K, hK⟩ := h
  obtain ⟨L, hL⟩ := k
  refine ⟨K + L, fun n hn => ?_⟩
  show (g n).bind (f n) = _
  rw [hK n (by omega)]
  exact hL n (by omega)
theorem Ev.bnd0 {α β : Type} {g : Option α} {f : Nat → α → Option β} {a : α} {r : β} (h : g = Option.some a) (k : Ev (fun n => f n a) r) : Ev (fun n => g.bind (f n)) r := by
  subst h
  exact k
theorem wrap_id {i : Int} (h0 : -9223372036854775808 ≤ i) (h1 : i ≤ 9223372036854775807) : wrap64 i = i := by unfold wrap64; omega
theorem wrap_succ {i : Nat} {n : Nat} (h : i < n) (hn : n ≤ 9223372036854775807) : wrap64 ((i : Int) + 1) = ((i + 1 : Nat) : Int) := by unfold wrap64; omega
/-- Go's remainder, brought above 0 -/
theorem picked_eq (a n : Int) (h : 0 < n) (hn : n ≤ 4294967296) : (if Int.tmod a n < 0 then wrap64 (Int.tmod a n + n) else Int.tmod a n) = a % n := by
  have he := Int.tmod_eq_emod (a := a) (b := n)
  have h1 := Int.emod_nonneg a (show n ≠ 0 by omega)
  have h2 := Int.emod_lt_of_pos a h
  rw [he]
  split
  · rename_i hc
    rw [if_neg (by simp; omega)]
    simp
  · rename_i hc
    have hn2 : (n.natAbs : Int) = n := by omega
    rw [hn2, if_pos (by omega), wrap_id (by omega) (by omega)]
    omega
end Go.Proofs.Ytaibikajpacemaa.Base
end
section
namespace Go.Proofs.Ytaibikajpacemaa.Tree
open Go.RowKit Go.Proofs.Ytaibikajpacemaa.X Go.Proofs.YtaibikajpacemaaW.PrintWords Go.Proofs.YtaibikajpacemaaW.PrintLast Go.Proofs.Ytaibikajpacemaa.Base
set_option linter.unusedVariables false
set_option linter.unusedSimpArgs false
abbrev S := S28
theorem ind {P : List S → Prop} (h0 : P []) (h1 : ∀ n l, P n.f3 → P l → P (n :: l)) : ∀ l, P l
  | [] => h0
  | n :: l => h1 n l (ind h0 h1 n.f3) (ind h0 h1 l)
termination_by l => SizeOf.sizeOf l
decreasing_by all_goals (cases n; simp; omega)
/-- nodes, attributes and bytes of texts, all together -/
def tot : List S → Nat
  | [] => 0
  | n :: l => 1 + n.f1.length + n.f2.size + tot n.f3 + tot l
termination_by l => SizeOf.sizeOf l
decreasing_by all_goals (cases n; simp; omega)
theorem tot_nil : tot [] = 0 := by rw [tot]
theorem tot_cons (n : S) (l : List S) : tot (n :: l) = 1 + n.f1.length + n.f2.size + tot n.f3 + tot l := by rw [tot]
theorem tot_app (a b : List S) : tot (a ++ b) = tot a + tot b := by
  induction a with
  | nil => simp [tot_nil]
  | cons n a ih => rw [List.cons_append, tot_cons, tot_cons, ih]; omega
theorem tot_len : ∀ l : List S, l.length ≤ tot l
  | [] => by simp
  | n :: l => by have := tot_len l; rw [tot_cons]; simp; omega
theorem Ev.succ {α : Type} {g : Nat → Option α} {r : α} (h : Ev (fun k => g (k + 1)) r) : Ev g r := Ev.one (f := fun k => g (k + 1)) (fun _ => rfl) h
theorem rd_mid (pre : List S) (d : S) (suf : List S) : rd_T28 (pre ++ d :: suf) (pre.length : Int) = d := by
  simp [rd_T28, List.getD]
theorem rdI_zero (d : Int) (suf : List Int) : rd (d :: suf) 0 = d := rfl
theorem rdOf_mem {α : Type} (d : α) (l : List α) (i : Int) (h0 : 0 ≤ i) (h1 : i < l.length) : rdOf d l i ∈ l := by
  have : i.toNat < l.length := by omega
  simp [rdOf, List.getD, this]
theorem ind2 {P : List S → Prop} (h : ∀ l, (∀ n ∈ l, P n.f3) → P l) (l : List S) : P l := by
  have : ∀ n ∈ l, P n.f3 := by
    induction l using ind with
    | h0 => simp
    | h1 n l ih1 ih2 =>
      intro m hm
      rcases List.mem_cons.1 hm with rfl | hm
      · exact h _ ih1
      · exact ih2 m hm
  exact h l this
theorem tot_mem {n : S} : ∀ {l : List S}, n ∈ l → 1 + n.f1.length + n.f2.size + tot n.f3 ≤ tot l
  | m :: l, h => by
    rw [tot_cons]
    rcases List.mem_cons.1 h with rfl | h
    · omega
    · have := tot_mem h; omega
theorem wrap_pre (pre : List S) (n : S) (suf : List S) (h : tot (pre ++ n :: suf) ≤ 4611686018427387904) : wrap64 ((pre.length : Int) + 1) = ((pre ++ [n]).length : Int) := by
  have h1 := tot_len (pre ++ n :: suf)
  simp at h1
  rw [wrap_id (by omega) (by omega)]
  simp
end Go.Proofs.Ytaibikajpacemaa.Tree
end
section
namespace Go.Proofs.Ytaibikajpacemaa.Tree
open Go.RowKit Go.Proofs.Ytaibikajpacemaa.X Go.Proofs.YtaibikajpacemaaW.PrintWords Go.Proofs.YtaibikajpacemaaW.PrintLast Go.Proofs.Ytaibikajpacemaa.Base
set_option linter.unusedVariables false
set_option linter.unusedSimpArgs false
theorem rdi_at (q : List Int) (a : Int) (p : List Int) : rd (q ++ a :: p) (q.length : Int) = a := by simp [rd, List.getD]
theorem same_loop (a b : List Int) (ha : a.length ≤ 1099511627776) : ∀ (x y q1 q2 : List Int), a = q1 ++ x → b = q2 ++ y → q1.length = q2.length → x.length = y.length → Ev (fun k => bobbinetkeep_sameInts.l0 k a b (q1.length : Int)) (decide (x = y))
  | [], y, q1, q2, e1, e2, h1, h2 => by
    have hy : y = [] := List.length_eq_zero_iff.1 h2.symm
    have hl : a.length = q1.length := by rw [e1]; simp
    refine Ev.succ ?_
    simp only [bobbinetkeep_sameInts.l0]
    refine Ev.ite_neg (by omega) ?_
    rw [hy, decide_eq_true rfl]
    exact Ev.now _
  | c :: x, y, q1, q2, e1, e2, h1, h2 => by
    obtain ⟨d, y, rfl⟩ : ∃ d y', y = d :: y' := by
      cases y with
      | nil => simp at h2
      | cons d y => exact ⟨d, y, rfl⟩
    have l1 : a.length = q1.length + x.length + 1 := by rw [e1]; simp; omega
    have l2 : b.length = q2.length + y.length + 1 := by rw [e2]; simp; omega
    have r1 : rd a (q1.length : Int) = c := by rw [e1]; exact rdi_at _ _ _
    have r2 : rd b (q1.length : Int) = d := by rw [e2, h1]; exact rdi_at _ _ _
    have h3 : x.length = y.length := by simpa using h2
    have ih := same_loop a b ha x y (q1 ++ [c]) (q2 ++ [d]) (by rw [e1]; simp) (by rw [e2]; simp) (by simp [h1]) h3
    refine Ev.succ ?_
    simp only [bobbinetkeep_sameInts.l0, r1, r2]
    refine Ev.ite_pos (by omega) (Ev.ite_pos (by omega) (Ev.ite_pos (by omega) ?_))
    by_cases hcd : c = d
    · refine Ev.ite_pos hcd ?_
      rw [show wrap64 ((q1.length : Int) + 1) = ((q1 ++ [c]).length : Int) from (wrap_succ (n := a.length) (by omega) (by omega)).trans (congrArg _ (by simp))]
      have e : decide (c :: x = d :: y) = decide (x = y) := by simp [hcd]
      rw [e]
      exact ih
    · refine Ev.ite_neg hcd ?_
      rw [decide_eq_false (by simp [hcd])]
      exact Ev.now _
theorem same_ev (a b : List Int) (ha : a.length ≤ 1099511627776) : Ev (fun k => bobbinetkeep_sameInts.f k a b) (decide (a = b)) := by
  simp only [bobbinetkeep_sameInts.f]
  by_cases h : a.length = b.length
  · exact Ev.ite_pos (by omega) (same_loop a b ha a b [] [] rfl rfl rfl h)
  · refine Ev.ite_neg (by omega) ?_
    rw [decide_eq_false (fun e => h (by rw [e]))]
    exact Ev.now _
theorem rdl_at (pre : List (List Int)) (p : List Int) (suf : List (List Int)) : rd_L7 (pre ++ p :: suf) (pre.length : Int) = p := by simp [rd_L7, List.getD]
theorem has_loop (l : List (List Int)) (p : List Int) (hl : l.length ≤ 1099511627776) (hq : ∀ q ∈ l, q.length ≤ 1099511627776) : ∀ (suf pre : List (List Int)), l = pre ++ suf → Ev (fun k => bobbinetkeep_hasPath.l0 k l p (pre.length : Int)) (decide (p ∈ suf))
  | [], pre, e => by
    have h1 : l.length = pre.length := by rw [e]; simp
    refine Ev.succ ?_
    simp only [bobbinetkeep_hasPath.l0]
    refine Ev.ite_neg (by omega) ?_
    rw [decide_eq_false (by simp)]
    exact Ev.now _
  | q :: suf, pre, e => by
    have h1 : l.length = pre.length + suf.length + 1 := by rw [e]; simp; omega
    have hr : rd_L7 l (pre.length : Int) = q := by rw [e]; exact rdl_at _ _ _
    have ih := has_loop l p hl hq suf (pre ++ [q]) (by rw [e]; simp)
    have hs := same_ev q p (hq q (by rw [e]; simp))
    refine Ev.succ ?_
    simp only [bobbinetkeep_hasPath.l0, hr]
    refine Ev.ite_pos (by omega) (Ev.ite_pos (by omega) (Ev.bnd hs ?_))
    by_cases h : q = p
    · rw [decide_eq_true h, decide_eq_true (by simp [h])]
      exact Ev.ite_pos rfl (Ev.now _)
    · rw [decide_eq_false h]
      refine Ev.ite_neg (by simp) ?_
      rw [show wrap64 ((pre.length : Int) + 1) = ((pre ++ [q]).length : Int) from (wrap_succ (n := l.length) (by omega) (by omega)).trans (congrArg _ (by simp))]
      have e2 : decide (p ∈ q :: suf) = decide (p ∈ suf) := by simp [show ¬ p = q from fun h2 => h h2.symm]
      rw [e2]
      exact ih
theorem has_ev (l : List (List Int)) (p : List Int) (hl : l.length ≤ 1099511627776) (hq : ∀ q ∈ l, q.length ≤ 1099511627776) : Ev (fun k => bobbinetkeep_hasPath.f k l p) (decide (p ∈ l)) := by
  simp only [bobbinetkeep_hasPath.f]
  exact has_loop l p hl hq l [] rfl
end Go.Proofs.Ytaibikajpacemaa.Tree
end
section
namespace Go.Proofs.Ytaibikajpacemaa.Tree
open Go.RowKit Go.Proofs.Ytaibikajpacemaa.X Go.Proofs.YtaibikajpacemaaW.PrintWords Go.Proofs.YtaibikajpacemaaW.PrintLast Go.Proofs.Ytaibikajpacemaa.Base
set_option linter.unusedVariables false
set_option linter.unusedSimpArgs false
theorem copied_l0 : ∀ (suf pre acc : List S), tot (pre ++ suf) ≤ 1099511627776 → acc.length = pre.length → (∀ n ∈ suf, Ev (fun k => bobbinetkeep_copiedNodes.f k n.f3) n.f3) → Ev (fun k => bobbinetkeep_copiedNodes.l0 k (pre ++ suf) acc (pre.length : Int)) (acc ++ suf)
  | [], pre, acc, ht, ha, h => by
    refine Ev.succ ?_
    simp only [bobbinetkeep_copiedNodes.l0, List.append_nil]
    exact Ev.ite_neg (by omega) (Ev.now _)
  | n :: suf, pre, acc, ht, ha, h => by
    have h1 := tot_len (pre ++ n :: suf)
    have h2 := tot_mem (show n ∈ pre ++ n :: suf by simp)
    have h3 : (pre ++ n :: suf).length = pre.length + suf.length + 1 := by simp; omega
    have ih := copied_l0 suf (pre ++ [n]) (acc ++ [n]) (by simpa using ht) (by simp [ha]) (fun m hm => h m (List.mem_cons_of_mem _ hm))
    refine Ev.succ ?_
    simp only [bobbinetkeep_copiedNodes.l0]
    rw [rd_mid, wrap_pre pre n suf (by omega)]
    refine Ev.ite_pos (by omega) (Ev.ite_pos (by omega) (Ev.ite_pos (by simp; omega) (Ev.bnd (h n List.mem_cons_self) (Ev.ite_pos (by omega) ?_))))
    obtain ⟨n0, n1, n2, n3⟩ := n
    simpa using ih
theorem copied_f (l : List S) : tot l ≤ 1099511627776 → Ev (fun k => bobbinetkeep_copiedNodes.f k l) l := by
  induction l using ind2 with
  | h l ih =>
    intro ht
    refine Ev.succ ?_
    simp only [bobbinetkeep_copiedNodes.f]
    exact copied_l0 l [] [] ht rfl (fun n hn => ih n hn (by have := tot_mem hn; omega))
end Go.Proofs.Ytaibikajpacemaa.Tree
end
section
namespace Go.Proofs.Ytaibikajpacemaa.Tree
open Go.RowKit Go.Proofs.Ytaibikajpacemaa.X Go.Proofs.YtaibikajpacemaaW.PrintWords Go.Proofs.YtaibikajpacemaaW.PrintLast Go.Proofs.Ytaibikajpacemaa.Base
set_option linter.unusedVariables false
set_option linter.unusedSimpArgs false
theorem picked_f (a n : Int) (h : 0 < n) (hn : n ≤ 4294967296) : bobbinetkeep_Picked.f a n = some (a % n) := by
  have := picked_eq a n h hn
  unfold bobbinetkeep_Picked.f
  rw [if_neg (by omega), ← this]
  split <;> rfl
def texts : List ByteArray := [(⟨#[120]⟩ : ByteArray), (⟨#[97, 60, 98]⟩ : ByteArray), (⟨#[38, 97, 109, 112, 59]⟩ : ByteArray), (⟨#[121, 32, 122]⟩ : ByteArray), (⟨#[32]⟩ : ByteArray), (⟨#[60, 112, 62]⟩ : ByteArray)]
def voids : List ByteArray := [(⟨#[98, 114]⟩ : ByteArray), (⟨#[105, 109, 103]⟩ : ByteArray)]
def elems : List ByteArray := [(⟨#[100, 105, 118]⟩ : ByteArray), (⟨#[98]⟩ : ByteArray), (⟨#[101, 109]⟩ : ByteArray), (⟨#[112]⟩ : ByteArray), (⟨#[97]⟩ : ByteArray), (⟨#[117, 108]⟩ : ByteArray)]
def vals : List ByteArray := [(⟨#[]⟩ : ByteArray), (⟨#[120]⟩ : ByteArray), (⟨#[97, 34, 98, 38]⟩ : ByteArray), (⟨#[60]⟩ : ByteArray), (⟨#[104, 116, 116, 112, 58, 47, 47, 121]⟩ : ByteArray)]
abbrev nil : ByteArray := (⟨#[]⟩ : ByteArray)
/-- nodes, not deeper than d, at most m -/
inductive Good : Nat → Nat → List S → Prop
  | none (d m : Nat) : Good d m []
  | text {d m : Nat} {l : List S} {t : ByteArray} : Good d m l → l.length < m → (∀ p : S, l.getLast? = some p → p.f0 ≠ nil) → t ∈ texts → Good d m (l ++ [(⟨nil, [], t, []⟩ : S)])
  | void {d m : Nat} {l : List S} {t : ByteArray} : Good d m l → l.length < m → t ∈ voids → Good d m (l ++ [(⟨t, [], nil, []⟩ : S)])
  | elem {d m : Nat} {l q : List S} {t : ByteArray} {a : List S68} : Good d m l → l.length < m → 1 < d → t ∈ elems → (a = [] ∨ ∃ v ∈ vals, a = [(⟨(⟨#[104, 114, 101, 102]⟩ : ByteArray), v⟩ : S68)]) → Good (d - 1) 4 q → Good d m (l ++ [(⟨t, a, nil, q⟩ : S)])
set_option maxHeartbeats 1000000 in
theorem nodes_ev : ∀ (N : Nat) (l : List Int), l.length ≤ N → l.length ≤ 17592186044416 → ∀ (d m : Nat) (acc : List S), d ≤ 10 → m ≤ 10 → Good d m acc → acc.length ≤ m → ∃ out rest, Ev (fun k => bobbinetkeep_Nodes.l0 k l (d : Int) (m : Int) acc) (out, rest) ∧ Good d m out ∧ out.length ≤ m ∧ rest.length ≤ l.length := by
  intro N
  induction N with
  | zero =>
    intro l hl hl2 d m acc hd hm hg ha
    obtain rfl : l = [] := List.length_eq_zero_iff.1 (by omega)
    refine ⟨acc, [], ?_, hg, ha, Nat.le_refl _⟩
    refine Ev.succ ?_
    simp only [bobbinetkeep_Nodes.l0]
    refine Ev.ite_neg (by simp) (Ev.succ ?_)
    simp only [bobbinetkeep_Nodes.j1, rdI_zero]
    exact Ev.ite_neg (by simp) (Ev.now _)
  | succ N ih =>
    intro l hl hl2 d m acc hd hm hg ha
    cases l with
    | nil =>
      refine ⟨acc, [], ?_, hg, ha, Nat.le_refl _⟩
      refine Ev.succ ?_
      simp only [bobbinetkeep_Nodes.l0]
      refine Ev.ite_neg (by simp) (Ev.succ ?_)
      simp only [bobbinetkeep_Nodes.j1, rdI_zero]
      exact Ev.ite_neg (by simp) (Ev.now _)
    | cons x l =>
      simp only [List.length_cons] at hl hl2
      by_cases hc : acc.length < m
      · have key : ∀ r : List S × List Int, Ev (fun k => bobbinetkeep_Nodes.j1 k (x :: l) (d : Int) (m : Int) acc true) r → Ev (fun k => bobbinetkeep_Nodes.l0 k (x :: l) (d : Int) (m : Int) acc) r := by
          intro r hr
          refine Ev.succ ?_
          simp only [bobbinetkeep_Nodes.l0]
          rw [decide_eq_true (show (acc.length : Int) < (m : Int) by omega)]
          exact Ev.ite_pos (by simp) hr
        have go : ∀ (acc' : List S) (l' : List Int), l'.length ≤ l.length → Good d m acc' → acc'.length ≤ m → ∃ out rest, Ev (fun k => bobbinetkeep_Nodes.l0 k l' (d : Int) (m : Int) acc') (out, rest) ∧ Good d m out ∧ out.length ≤ m ∧ rest.length ≤ (x :: l).length := by
          intro acc' l' h1 h2 h3
          obtain ⟨out, rest, h4, h5, h6, h7⟩ := ih l' (by omega) (by omega) d m acc' hd hm h2 h3
          exact ⟨out, rest, h4, h5, h6, by simp; omega⟩
        have q0 := Int.emod_nonneg x (show (6 : Int) ≠ 0 by omega)
        have q1 := Int.emod_lt_of_pos x (show (0 : Int) < 6 by omega)
        have len : ((x :: l).length : Int) = (l.length : Int) + 1 := by simp
        by_cases c0 : x % 6 = 0
        · refine ⟨acc, l, key _ ?_, hg, ha, by simp⟩
          refine Ev.succ ?_
          simp only [bobbinetkeep_Nodes.j1, rdI_zero]
          refine Ev.ite_pos trivial (Ev.ite_pos (by omega) (Ev.ite_pos (by omega) (Ev.bnd0 rfl (Ev.bnd0 (picked_f _ _ (by omega) (by omega)) ?_))))
          exact Ev.ite_pos c0 (Ev.now _)
        by_cases c1 : x % 6 = 1
        · have fin : ∀ i : Int, 0 ≤ i → i < 6 → (∀ p : S, acc.getLast? = some p → p.f0 ≠ nil) → ∃ out rest, Ev (fun k => bobbinetkeep_Nodes.l0 k l (d : Int) (m : Int) (acc ++ [(⟨(⟨#[]⟩ : ByteArray), ([] : List S68), rdOf ByteArray.empty texts i, ([] : List S)⟩ : S)])) (out, rest) ∧ Good d m out ∧ out.length ≤ m ∧ rest.length ≤ (x :: l).length := by
            intro i h0 h1 h2
            exact go _ l (Nat.le_refl _) (Good.text hg hc h2 (rdOf_mem _ _ _ h0 (by simpa [texts] using h1))) (by simp; omega)
          have p2 := Int.emod_nonneg (wrap64 (Int.tdiv x 6)) (show (6 : Int) ≠ 0 by omega)
          have p3 := Int.emod_lt_of_pos (wrap64 (Int.tdiv x 6)) (show (0 : Int) < 6 by omega)
          by_cases ca : 0 < acc.length
          · obtain ⟨init, p, hp⟩ : ∃ init p, acc = init ++ [p] := by
              rcases List.eq_nil_or_concat acc with h | ⟨i, p, h⟩
              · subst h; simp at ca
              · exact ⟨i, p, by simpa using h⟩
            have hw : wrap64 ((acc.length : Int) - 1) = (acc.length : Int) - 1 := wrap_id (by omega) (by omega)
            have hrd : rd_T28 acc ((acc.length : Int) - 1) = p := by
              subst hp
              have : (((init ++ [p]).length : Int) - 1) = (init.length : Int) := by simp
              rw [this]
              exact rd_mid _ _ _
            by_cases ct : p.f0 = nil
            · obtain ⟨out, rest, h1, h2, h3, h4⟩ := go acc l (Nat.le_refl _) hg ha
              refine ⟨out, rest, key _ ?_, h2, h3, h4⟩
              refine Ev.succ ?_
              simp only [bobbinetkeep_Nodes.j1, rdI_zero]
              refine Ev.ite_pos trivial (Ev.ite_pos (by omega) (Ev.ite_pos (by omega) (Ev.bnd0 rfl (Ev.bnd0 (picked_f _ _ (by omega) (by omega)) ?_))))
              refine Ev.ite_neg c0 (Ev.ite_pos c1 (Ev.ite_pos (by omega) ?_))
              rw [hw, hrd]
              exact Ev.ite_pos (by omega) (Ev.ite_pos (by omega) (Ev.ite_pos (toList_nil.2 ct) h1))
            · obtain ⟨out, rest, h1, h2, h3, h4⟩ := fin (wrap64 (Int.tdiv x 6) % 6) p2 p3 (by
                intro p' hp'
                subst hp
                simp at hp'
                rw [← hp']; exact ct)
              refine ⟨out, rest, key _ ?_, h2, h3, h4⟩
              refine Ev.succ ?_
              simp only [bobbinetkeep_Nodes.j1, rdI_zero]
              refine Ev.ite_pos trivial (Ev.ite_pos (by omega) (Ev.ite_pos (by omega) (Ev.bnd0 rfl (Ev.bnd0 (picked_f _ _ (by omega) (by omega)) ?_))))
              refine Ev.ite_neg c0 (Ev.ite_pos c1 (Ev.ite_pos (by omega) ?_))
              rw [hw, hrd]
              exact Ev.ite_pos (by omega) (Ev.ite_pos (by omega) (Ev.ite_neg (fun h => ct (toList_nil.1 h)) (Ev.bnd0 rfl (Ev.bnd0 (picked_f _ _ (by omega) (by omega)) (Ev.ite_pos p2 (Ev.ite_pos (by simpa using p3) (Ev.ite_pos (by omega) h1)))))))
          · obtain ⟨out, rest, h1, h2, h3, h4⟩ := fin (wrap64 (Int.tdiv x 6) % 6) p2 p3 (by
              intro p' hp'
              have : acc = [] := List.length_eq_zero_iff.1 (by omega)
              subst this
              simp at hp')
            refine ⟨out, rest, key _ ?_, h2, h3, h4⟩
            refine Ev.succ ?_
            simp only [bobbinetkeep_Nodes.j1, rdI_zero]
            refine Ev.ite_pos trivial (Ev.ite_pos (by omega) (Ev.ite_pos (by omega) (Ev.bnd0 rfl (Ev.bnd0 (picked_f _ _ (by omega) (by omega)) ?_))))
            exact Ev.ite_neg c0 (Ev.ite_pos c1 (Ev.ite_neg (by omega) (Ev.bnd0 rfl (Ev.bnd0 (picked_f _ _ (by omega) (by omega)) (Ev.ite_pos p2 (Ev.ite_pos (by simpa using p3) (Ev.ite_pos (by omega) h1)))))))
        by_cases c2 : x % 6 = 2
        · have p2 := Int.emod_nonneg (wrap64 (Int.tdiv x 6)) (show (2 : Int) ≠ 0 by omega)
          have p3 := Int.emod_lt_of_pos (wrap64 (Int.tdiv x 6)) (show (0 : Int) < 2 by omega)
          obtain ⟨out, rest, h1, h2, h3, h4⟩ := go (acc ++ [(⟨rdOf ByteArray.empty voids (wrap64 (Int.tdiv x 6) % 2), ([] : List S68), (⟨#[]⟩ : ByteArray), ([] : List S)⟩ : S)]) l (Nat.le_refl _) (Good.void hg hc (rdOf_mem _ _ _ p2 (by simpa [voids] using p3))) (by simp; omega)
          refine ⟨out, rest, key _ ?_, h2, h3, h4⟩
          refine Ev.succ ?_
          simp only [bobbinetkeep_Nodes.j1, rdI_zero]
          refine Ev.ite_pos trivial (Ev.ite_pos (by omega) (Ev.ite_pos (by omega) (Ev.bnd0 rfl (Ev.bnd0 (picked_f _ _ (by omega) (by omega)) ?_))))
          exact Ev.ite_neg c0 (Ev.ite_neg c1 (Ev.ite_pos c2 (Ev.bnd0 rfl (Ev.bnd0 (picked_f _ _ (by omega) (by omega)) (Ev.ite_pos p2 (Ev.ite_pos (by simpa using p3) (Ev.ite_pos (by omega) h1)))))))
        by_cases cd : 1 < d
        · have p2 := Int.emod_nonneg (wrap64 (Int.tdiv x 6)) (show (6 : Int) ≠ 0 by omega)
          have p3 := Int.emod_lt_of_pos (wrap64 (Int.tdiv x 6)) (show (0 : Int) < 6 by omega)
          obtain ⟨parts, l', g1, g2, g3, g4⟩ := ih l (by omega) (by omega) (d - 1) 4 [] (by omega) (by omega) (Good.none _ _) (by simp)
          have g1' : Ev (fun k => bobbinetkeep_Nodes.f k l (wrap64 ((d : Int) - 1)) 4) (parts, l') := by
            have : wrap64 ((d : Int) - 1) = ((d - 1 : Nat) : Int) := by rw [wrap_id (by omega) (by omega)]; omega
            rw [this]
            refine Ev.succ ?_
            simp only [bobbinetkeep_Nodes.f]
            exact g1
          by_cases c3 : wrap64 (Int.tdiv x 36) % 3 = 0
          · have p4 := Int.emod_nonneg (wrap64 (Int.tdiv x 100)) (show (5 : Int) ≠ 0 by omega)
            have p5 := Int.emod_lt_of_pos (wrap64 (Int.tdiv x 100)) (show (0 : Int) < 5 by omega)
            obtain ⟨out, rest, h1, h2, h3, h4⟩ := go (acc ++ [(⟨rdOf ByteArray.empty elems (wrap64 (Int.tdiv x 6) % 6), [(⟨(⟨#[104, 114, 101, 102]⟩ : ByteArray), rdOf ByteArray.empty vals (wrap64 (Int.tdiv x 100) % 5)⟩ : S68)], (⟨#[]⟩ : ByteArray), parts⟩ : S)]) l' g4 (Good.elem hg hc cd (rdOf_mem _ _ _ p2 (by simpa [elems] using p3)) (.inr ⟨_, rdOf_mem _ _ _ p4 (by simpa [vals] using p5), rfl⟩) g2) (by simp; omega)
            refine ⟨out, rest, key _ ?_, h2, h3, h4⟩
            refine Ev.succ ?_
            simp only [bobbinetkeep_Nodes.j1, rdI_zero]
            refine Ev.ite_pos trivial (Ev.ite_pos (by omega) (Ev.ite_pos (by omega) (Ev.bnd0 rfl (Ev.bnd0 (picked_f _ _ (by omega) (by omega)) ?_))))
            exact Ev.ite_neg c0 (Ev.ite_neg c1 (Ev.ite_neg c2 (Ev.ite_pos (by omega) (Ev.bnd0 rfl (Ev.bnd0 (picked_f _ _ (by omega) (by omega)) (Ev.ite_pos p2 (Ev.ite_pos (by simpa using p3) (Ev.bnd0 (picked_f _ _ (by omega) (by omega)) (Ev.ite_pos c3 (Ev.bnd0 rfl (Ev.bnd0 (picked_f _ _ (by omega) (by omega)) (Ev.ite_pos p4 (Ev.ite_pos (by simpa using p5) (Ev.bnd g1' (Ev.ite_pos (by omega) h1)))))))))))))))
          · obtain ⟨out, rest, h1, h2, h3, h4⟩ := go (acc ++ [(⟨rdOf ByteArray.empty elems (wrap64 (Int.tdiv x 6) % 6), ([] : List S68), (⟨#[]⟩ : ByteArray), parts⟩ : S)]) l' g4 (Good.elem hg hc cd (rdOf_mem _ _ _ p2 (by simpa [elems] using p3)) (.inl rfl) g2) (by simp; omega)
            refine ⟨out, rest, key _ ?_, h2, h3, h4⟩
            refine Ev.succ ?_
            simp only [bobbinetkeep_Nodes.j1, rdI_zero]
            refine Ev.ite_pos trivial (Ev.ite_pos (by omega) (Ev.ite_pos (by omega) (Ev.bnd0 rfl (Ev.bnd0 (picked_f _ _ (by omega) (by omega)) ?_))))
            exact Ev.ite_neg c0 (Ev.ite_neg c1 (Ev.ite_neg c2 (Ev.ite_pos (by omega) (Ev.bnd0 rfl (Ev.bnd0 (picked_f _ _ (by omega) (by omega)) (Ev.ite_pos p2 (Ev.ite_pos (by simpa using p3) (Ev.bnd0 (picked_f _ _ (by omega) (by omega)) (Ev.ite_neg c3 (Ev.bnd g1' (Ev.ite_pos (by omega) h1)))))))))))
        · obtain ⟨out, rest, h1, h2, h3, h4⟩ := go acc l (Nat.le_refl _) hg ha
          refine ⟨out, rest, key _ ?_, h2, h3, h4⟩
          refine Ev.succ ?_
          simp only [bobbinetkeep_Nodes.j1, rdI_zero]
          refine Ev.ite_pos trivial (Ev.ite_pos (by omega) (Ev.ite_pos (by omega) (Ev.bnd0 rfl (Ev.bnd0 (picked_f _ _ (by omega) (by omega)) ?_))))
          exact Ev.ite_neg c0 (Ev.ite_neg c1 (Ev.ite_neg c2 (Ev.ite_neg (by omega) h1)))
      · refine ⟨acc, x :: l, ?_, hg, ha, Nat.le_refl _⟩
        refine Ev.succ ?_
        simp only [bobbinetkeep_Nodes.l0]
        rw [decide_eq_false (show ¬ (acc.length : Int) < (m : Int) by omega)]
        refine Ev.ite_pos (by simp) (Ev.succ ?_)
        simp only [bobbinetkeep_Nodes.j1, rdI_zero]
        exact Ev.ite_neg (by simp) (Ev.now _)
theorem nodes_f (l : List Int) (hl : l.length ≤ 17592186044416) (d m : Nat) (hd : d ≤ 10) (hm : m ≤ 10) : ∃ out rest, Ev (fun k => bobbinetkeep_Nodes.f k l (d : Int) (m : Int)) (out, rest) ∧ Good d m out := by
  obtain ⟨out, rest, h1, h2, h3, h4⟩ := nodes_ev l.length l (Nat.le_refl _) hl d m [] hd hm (Good.none _ _) (by simp)
  refine ⟨out, rest, Ev.succ ?_, h2⟩
  simp only [bobbinetkeep_Nodes.f]
  exact h1
/-- what each of them is like -/
def NodeOk (d : Nat) (n : S) : Prop := (n.f0 = nil ∧ n.f1 = [] ∧ n.f2 ∈ texts ∧ n.f3 = []) ∨ (n.f0 ∈ voids ∧ n.f1 = [] ∧ n.f2 = nil ∧ n.f3 = []) ∨ (1 < d ∧ n.f0 ∈ elems ∧ (n.f1 = [] ∨ ∃ v ∈ vals, n.f1 = [(⟨(⟨#[104, 114, 101, 102]⟩ : ByteArray), v⟩ : S68)]) ∧ n.f2 = nil ∧ Good (d - 1) 4 n.f3)
theorem Good.at_ {d m : Nat} {l : List S} (h : Good d m l) : ∀ (pre suf : List S) (n : S), l = pre ++ n :: suf → NodeOk d n ∧ (n.f0 = nil → ∀ p : S, pre.getLast? = some p → p.f0 ≠ nil) := by
  have snoc : ∀ {a b : List S} {x y : S}, a ++ [x] = b ++ [y] → a = b ∧ x = y := by
    intro a b x y h
    have := List.append_inj' h rfl
    exact ⟨this.1, by simpa using this.2⟩
  induction h with
  | none => intro pre suf n h; simp at h
  | @text d m l t hg h1 h2 ht ih =>
    intro pre suf n h
    rcases List.eq_nil_or_concat suf with h4 | ⟨i, p, h4⟩
    · subst h4
      obtain ⟨rfl, rfl⟩ := snoc h
      exact ⟨.inl ⟨rfl, rfl, ht, rfl⟩, fun _ => h2⟩
    · have h4 : suf = i ++ [p] := by simpa using h4
      subst h4
      exact ih pre i n (snoc (show _ = (pre ++ n :: i) ++ [p] by simpa using h)).1
  | @void d m l t hg h1 ht ih =>
    intro pre suf n h
    rcases List.eq_nil_or_concat suf with h4 | ⟨i, p, h4⟩
    · subst h4
      obtain ⟨rfl, rfl⟩ := snoc h
      refine ⟨.inr (.inl ⟨ht, rfl, rfl, rfl⟩), fun h0 => ?_⟩
      exfalso
      replace h0 : t = nil := h0
      simp only [voids, List.mem_cons, List.not_mem_nil, or_false] at ht
      rcases ht with rfl | rfl <;> exact absurd h0 (by decide)
    · have h4 : suf = i ++ [p] := by simpa using h4
      subst h4
      exact ih pre i n (snoc (show _ = (pre ++ n :: i) ++ [p] by simpa using h)).1
  | @elem d m l q t a hg h1 hd ht ha hq ih _ =>
    intro pre suf n h
    rcases List.eq_nil_or_concat suf with h4 | ⟨i, p, h4⟩
    · subst h4
      obtain ⟨rfl, rfl⟩ := snoc h
      refine ⟨.inr (.inr ⟨hd, ht, ha, rfl, hq⟩), fun h0 => ?_⟩
      exfalso
      replace h0 : t = nil := h0
      simp only [elems, List.mem_cons, List.not_mem_nil, or_false] at ht
      rcases ht with rfl | rfl | rfl | rfl | rfl | rfl <;> exact absurd h0 (by decide)
    · have h4 : suf = i ++ [p] := by simpa using h4
      subst h4
      exact ih pre i n (snoc (show _ = (pre ++ n :: i) ++ [p] by simpa using h)).1
theorem Good.len {d m : Nat} {l : List S} (h : Good d m l) : l.length ≤ m := by
  cases h with
  | none => simp
  | _ => simp; omega
def cap : Nat → Nat
  | 0 => 7
  | d + 1 => 7 + 4 * cap d
theorem cap_mono (d : Nat) : 7 ≤ cap d := by cases d <;> simp [cap]
theorem Good.tot {d m : Nat} {l : List S} (h : Good d m l) : Tree.tot l ≤ l.length * cap d := by
  induction h with
  | none => simp [tot_nil]
  | @text d m l t _ _ _ ht ih =>
    have h1 : t.size ≤ 5 := by
      simp [texts] at ht
      rcases ht with rfl | rfl | rfl | rfl | rfl | rfl <;> decide
    have h2 := cap_mono d
    rw [tot_app, tot_cons, tot_nil]
    simp only [List.length_append, List.length_cons, List.length_nil, Nat.add_mul]
    omega
  | @void d m l t _ _ ht ih =>
    have h2 := cap_mono d
    have h3 : nil.size = 0 := rfl
    rw [tot_app, tot_cons, tot_nil]
    simp only [List.length_append, List.length_cons, List.length_nil, Nat.add_mul, h3]
    omega
  | @elem d m l q t a _ _ hd ht ha hq ih ihq =>
    have h3 : nil.size = 0 := rfl
    obtain ⟨e, rfl⟩ : ∃ e, d = e + 1 := ⟨d - 1, by omega⟩
    have h4 : a.length ≤ 1 := by
      rcases ha with rfl | ⟨v, _, rfl⟩ <;> simp
    have h5 := hq.len
    have h6 : q.length * cap (e + 1 - 1) ≤ 4 * cap e := Nat.mul_le_mul h5 (Nat.le_refl _)
    rw [tot_app, tot_cons, tot_nil]
    simp only [List.length_append, List.length_cons, List.length_nil, Nat.add_mul, h3]
    have h7 : cap (e + 1) = 7 + 4 * cap e := rfl
    rw [Nat.add_sub_cancel] at h6 ihq
    omega
end Go.Proofs.Ytaibikajpacemaa.Tree
end
section
namespace Go.Proofs.Ytaibikajpacemaa.Tree
open Go.RowKit Go.Proofs.Ytaibikajpacemaa.X Go.Proofs.YtaibikajpacemaaW.PrintWords Go.Proofs.YtaibikajpacemaaW.PrintLast Go.Proofs.Ytaibikajpacemaa.Base
set_option linter.unusedVariables false
set_option linter.unusedSimpArgs false
abbrev Pk := S61
abbrev fitB (p : Pk) (n : S) : Bool := pick_fits.f p.f0 p.f1 p.f2 n.f0 n.f1 n.f2 n.f3 == some true
abbrev rep (ps : List Pk) : List Bool := List.replicate ps.length false
/-- what is found in nodes, the first of which is node i at a path -/
def found (ps : List Pk) : List S → Nat → List Int → List Bool → List Bool → List (List Int)
  | [], _, _, _, _ => []
  | n :: l, i, path, r, w =>
    if n.f0.toList = ([] : List UInt8) then found ps l (i + 1) path r w
    else (if (pick_Find.ends ps n r w).getD (ps.length - 1) false = true then [path ++ [(i : Int)]] else []) ++ found ps n.f3 0 (path ++ [(i : Int)]) (pick_Find.ends ps n r w) (pick_Find.far w (pick_Find.ends ps n r w)) ++ found ps l (i + 1) path r w
termination_by l => SizeOf.sizeOf l
decreasing_by all_goals (cases n; simp; omega)
theorem found_nil (ps : List Pk) (i : Nat) (path : List Int) (r w : List Bool) : found ps [] i path r w = [] := by rw [found]
theorem found_text (ps : List Pk) (n : S) (l : List S) (i : Nat) (path : List Int) (r w : List Bool) (h : n.f0.toList = ([] : List UInt8)) : found ps (n :: l) i path r w = found ps l (i + 1) path r w := by rw [found, if_pos h]
theorem found_elem (ps : List Pk) (n : S) (l : List S) (i : Nat) (path : List Int) (r w : List Bool) (h : ¬ n.f0.toList = ([] : List UInt8)) : found ps (n :: l) i path r w = (if (pick_Find.ends ps n r w).getD (ps.length - 1) false = true then [path ++ [(i : Int)]] else []) ++ found ps n.f3 0 (path ++ [(i : Int)]) (pick_Find.ends ps n r w) (pick_Find.far w (pick_Find.ends ps n r w)) ++ found ps l (i + 1) path r w := by rw [found, if_neg h]
theorem go_eq (ps : List Pk) : ∀ (l : List S) (i : Nat) (path : List Int) (r w : List Bool) (k : Nat), tot l < k → pick_Find.go ps k l i path r w = some (found ps l i path r w) := by
  intro l
  induction l using ind with
  | h0 =>
    intro i path r w k hk
    obtain ⟨m, rfl⟩ : ∃ m, k = m + 1 := ⟨k - 1, by omega⟩
    rw [pick_Find.go, found_nil]
  | h1 n l ih1 ih2 =>
    intro i path r w k hk
    obtain ⟨m, rfl⟩ : ∃ m, k = m + 1 := ⟨k - 1, by omega⟩
    rw [tot_cons] at hk
    rw [pick_Find.go]
    by_cases h : n.f0.toList = ([] : List UInt8)
    · rw [if_pos h, found_text _ _ _ _ _ _ _ h]
      exact ih2 _ _ _ _ m (by omega)
    · rw [if_neg h, found_elem _ _ _ _ _ _ _ h, ih1 _ _ _ _ m (by omega), ih2 _ _ _ _ m (by omega)]
      rfl
theorem found_len (ps : List Pk) : ∀ (l : List S) (i : Nat) (path : List Int) (r w : List Bool), (found ps l i path r w).length ≤ tot l := by
  intro l
  induction l using ind with
  | h0 => intro i path r w; rw [found_nil]; simp
  | h1 n l ih1 ih2 =>
    intro i path r w
    rw [tot_cons]
    by_cases h : n.f0.toList = ([] : List UInt8)
    · rw [found_text _ _ _ _ _ _ _ h]
      have := ih2 (i + 1) path r w
      omega
    · rw [found_elem _ _ _ _ _ _ _ h, List.length_append, List.length_append]
      have h1 := ih1 0 (path ++ [(i : Int)]) (pick_Find.ends ps n r w) (pick_Find.far w (pick_Find.ends ps n r w))
      have h2 := ih2 (i + 1) path r w
      have h3 : (if (pick_Find.ends ps n r w).getD (ps.length - 1) false = true then [path ++ [(i : Int)]] else []).length ≤ 1 := by split <;> simp
      omega
/-- paths that are found are as deep as the tree at most -/
theorem found_long (ps : List Pk) : ∀ (l : List S) (i : Nat) (path : List Int) (r w : List Bool), ∀ p ∈ found ps l i path r w, p.length ≤ path.length + tot l := by
  intro l
  induction l using ind with
  | h0 => intro i path r w p hp; rw [found_nil] at hp; cases hp
  | h1 n l ih1 ih2 =>
    intro i path r w p hp
    rw [tot_cons]
    by_cases h : n.f0.toList = ([] : List UInt8)
    · rw [found_text _ _ _ _ _ _ _ h] at hp
      have := ih2 (i + 1) path r w p hp
      omega
    · rw [found_elem _ _ _ _ _ _ _ h, List.mem_append, List.mem_append] at hp
      rcases hp with (hp | hp) | hp
      · split at hp
        · rw [List.mem_singleton.1 hp, List.length_append, List.length_singleton]; omega
        · cases hp
      · have := ih1 _ _ _ _ p hp
        rw [List.length_append, List.length_singleton] at this
        omega
      · have := ih2 (i + 1) path r w p hp
        omega
theorem find_ev (ps : List Pk) (hok : pick_check.ok ps = true) (t : List S) (ht : tot t ≤ 999990) : Ev (fun k => pick_Find.f k ps t) (found ps t 0 [] (rep ps) (rep ps), 0) := by
  refine ⟨tot t + 1, fun k hk => ?_⟩
  show pick_Find.f k ps t = _
  unfold pick_Find.f
  rw [if_pos hok, go_eq ps t 0 [] _ _ (min k 1000000) (by omega), Option.bind_some]
  have := found_len ps t 0 [] (List.replicate ps.length false) (List.replicate ps.length false)
  rw [if_pos (by omega)]
theorem same0 : Ev (fun k => bobbinetkeep_sameInts.f k ([0] : List Int) [0]) true := Ev.of (bobbinetkeep_sameInts.mono _ _) (k := 3) (by decide +kernel)
theorem one_ev : Ev (fun k => pick_Find.f k [(⟨(⟨#[]⟩ : ByteArray), (⟨#[]⟩ : ByteArray), false⟩ : Pk)] [(⟨(⟨#[98]⟩ : ByteArray), ([] : List S68), (⟨#[]⟩ : ByteArray), ([] : List S)⟩ : S)]) ([[0]], 0) := Ev.of (pick_Find.mono _ _) (k := 5) (by decide +kernel)
theorem paths_ev (ps : List Pk) (hok : pick_check.ok ps = true) (t : List S) (ht : tot t ≤ 999990) : Ev (fun k => bobbinetkeep_paths.f k ps t) (found ps t 0 [] (rep ps) (rep ps), true) := by
  have hl : ps.length ≤ 10 := by
    unfold pick_check.ok at hok
    simp only [Bool.and_eq_true, decide_eq_true_eq] at hok
    exact hok.1.2
  simp only [bobbinetkeep_paths.f, List.nil_append]
  refine Ev.ite_pos (by simp; omega) (Ev.bnd (copied_f t (by omega)) (Ev.bnd (find_ev ps hok t ht) (Ev.bnd one_ev (Ev.ite_pos rfl (Ev.ite_pos rfl (Ev.ite_pos (by simp) (Ev.ite_pos (by simp) ?_)))))))
  exact Ev.bnd (a := true) same0 (Ev.now _)
/-- whether a pick fits -/
theorem fit_eq (p : Pk) (n : S) : fitB p n = ((decide (n.f0 ≠ nil) && (decide (p.f0 = nil) || decide (p.f0 = n.f0))) && (decide (p.f1 = nil) || n.f1.any fun x => decide (x.f0 = p.f1))) := by
  unfold fitB pick_fits.f cf_pickFits.f
  simp only [Option.bind_some, toList_beq, toList_inj, show (∀ s : ByteArray, (s.toList = ([] : List UInt8)) = (s = nil)) from fun s => propext toList_nil]
  by_cases h0 : n.f0 = nil <;> by_cases h1 : p.f0 = nil <;> by_cases h2 : p.f1 = nil <;> by_cases h3 : p.f0 = n.f0 <;> simp [h0, h1, h2, h3]
end Go.Proofs.Ytaibikajpacemaa.Tree
end
section
namespace Go.Proofs.Ytaibikajpacemaa.Tree
open Go.RowKit Go.Proofs.Ytaibikajpacemaa.X Go.Proofs.YtaibikajpacemaaW.PrintWords Go.Proofs.YtaibikajpacemaaW.PrintLast Go.Proofs.Ytaibikajpacemaa.Base
set_option linter.unusedVariables false
set_option linter.unusedSimpArgs false
def PkOk (p : Pk) : Prop := pick_check.nm p.f0 = true ∧ pick_check.nm p.f1 = true
theorem ok_of (ps : List Pk) (h0 : 0 < ps.length) (h1 : ps.length ≤ 10) (h : ∀ p ∈ ps, PkOk p) : pick_check.ok ps = true := by
  unfold pick_check.ok
  simp only [Bool.and_eq_true, decide_eq_true_eq, List.all_eq_true]
  exact ⟨⟨h0, h1⟩, h⟩
theorem getD_mem2 {α : Type} (d : α) (l : List α) (i : Nat) (h : i < l.length) : l.getD i d ∈ l := by simp [List.getD, h]
theorem mod_lt2 (x : Int) (n : Nat) (h : 0 < n) : (x % (n : Int)).toNat < n := by
  have h1 := Int.emod_nonneg x (show (n : Int) ≠ 0 by omega)
  have h2 := Int.emod_lt_of_pos x (show (0 : Int) < n by omega)
  omega
theorem names_nm : ∀ s ∈ bobbinetkeep_Picks.names, pick_check.nm s = true := by decide +kernel
theorem keys_nm : ∀ s ∈ bobbinetkeep_Picks.keys, pick_check.nm s = true := by decide +kernel
theorem one_ok (i : Nat) (a : Int) : PkOk (bobbinetkeep_Picks.one i a) := ⟨names_nm _ (getD_mem2 _ _ _ (mod_lt2 a 5 (by omega))), keys_nm _ (getD_mem2 _ _ _ (mod_lt2 _ 3 (by omega)))⟩
theorem fit_deep (p : Pk) (n : S) (f2 : Bool) : fitB ⟨p.f0, p.f1, f2⟩ n = fitB p n := by rw [fit_eq, fit_eq]
end Go.Proofs.Ytaibikajpacemaa.Tree
end
section
namespace Go.Proofs.Ytaibikajpacemaa.Tree
open Go.RowKit Go.Proofs.Ytaibikajpacemaa.X Go.Proofs.YtaibikajpacemaaW.PrintWords Go.Proofs.YtaibikajpacemaaW.PrintLast Go.Proofs.Ytaibikajpacemaa.Base
set_option linter.unusedVariables false
set_option linter.unusedSimpArgs false
/-- elements with their paths, and whether one that fits p is around them (or is known to be) -/
def ring (p : Pk) : List S → Nat → List Int → Bool → List (List Int × S × Bool)
  | [], _, _, _ => []
  | n :: l, i, path, f =>
    if n.f0.toList = ([] : List UInt8) then ring p l (i + 1) path f
    else (path ++ [(i : Int)], n, f) :: (ring p n.f3 0 (path ++ [(i : Int)]) (f || fitB p n) ++ ring p l (i + 1) path f)
termination_by l => SizeOf.sizeOf l
decreasing_by all_goals (cases n; simp; omega)
theorem ring_nil (p : Pk) (i : Nat) (path : List Int) (f : Bool) : ring p [] i path f = [] := by rw [ring]
theorem ring_text (p : Pk) (n : S) (l : List S) (i : Nat) (path : List Int) (f : Bool) (h : n.f0.toList = ([] : List UInt8)) : ring p (n :: l) i path f = ring p l (i + 1) path f := by rw [ring, if_pos h]
theorem ring_elem (p : Pk) (n : S) (l : List S) (i : Nat) (path : List Int) (f : Bool) (h : ¬ n.f0.toList = ([] : List UInt8)) : ring p (n :: l) i path f = (path ++ [(i : Int)], n, f) :: (ring p n.f3 0 (path ++ [(i : Int)]) (f || fitB p n) ++ ring p l (i + 1) path f) := by rw [ring, if_neg h]
theorem ends_one (p : Pk) (n : S) (r w : List Bool) : pick_Find.ends [p] n r w = [fitB p n] := by
  simp [pick_Find.ends]
theorem ends_two (p q : Pk) (hq : q.f2 = true) (n : S) (r : List Bool) (a b : Bool) : pick_Find.ends [p, q] n r [a, b] = [fitB p n, a && fitB q n] := by
  simp [pick_Find.ends, List.mapIdx_cons, hq, fitB]
theorem found_ring1 (p q : Pk) : ∀ (l : List S) (i : Nat) (path : List Int) (f : Bool) (r w : List Bool), found [q] l i path r w = ((ring p l i path f).filter (fun e => fitB q e.2.1)).map (·.1) := by
  intro l
  induction l using ind with
  | h0 => intro i path f r w; rw [found_nil, ring_nil]; rfl
  | h1 n l ih1 ih2 =>
    intro i path f r w
    by_cases h : n.f0.toList = ([] : List UInt8)
    · rw [found_text _ _ _ _ _ _ _ h, ring_text _ _ _ _ _ _ h]
      exact ih2 _ _ _ _ _
    · rw [found_elem _ _ _ _ _ _ _ h, ring_elem _ _ _ _ _ _ h, ends_one, ih1 0 (path ++ [(i : Int)]) (f || fitB p n), ih2 (i + 1) path f r w]
      simp only [List.length_singleton, Nat.sub_self, List.getD_cons_zero]
      cases hq : fitB q n <;> simp [List.filter_cons, hq]
theorem found_ring2 (p q : Pk) (hq : q.f2 = true) : ∀ (l : List S) (i : Nat) (path : List Int) (f b : Bool) (r : List Bool), found [p, q] l i path r [f, b] = ((ring p l i path f).filter (fun e => fitB q e.2.1 && e.2.2)).map (·.1) := by
  intro l
  induction l using ind with
  | h0 => intro i path f b r; rw [found_nil, ring_nil]; rfl
  | h1 n l ih1 ih2 =>
    intro i path f b r
    by_cases h : n.f0.toList = ([] : List UInt8)
    · rw [found_text _ _ _ _ _ _ _ h, ring_text _ _ _ _ _ _ h]
      exact ih2 _ _ _ _ _
    · have hf : pick_Find.far [f, b] [fitB p n, f && fitB q n] = [f || fitB p n, b || (f && fitB q n)] := rfl
      rw [found_elem _ _ _ _ _ _ _ h, ring_elem _ _ _ _ _ _ h, ends_two p q hq, hf, ih1 0 (path ++ [(i : Int)]) (f || fitB p n), ih2 (i + 1) path f b r]
      have hl : ([p, q] : List Pk).length - 1 = 1 := rfl
      have hg : [fitB p n, f && fitB q n].getD 1 false = (f && fitB q n) := rfl
      rw [hl, hg]
      cases hq2 : fitB q n <;> cases f <;> simp [List.filter_cons, hq2]
/-- all paths go on from the path, at node i or behind it -/
theorem ring_path (p : Pk) : ∀ (l : List S) (i : Nat) (path : List Int) (f : Bool), ∀ e ∈ ring p l i path f, ∃ (j : Nat) (s : List Int), i ≤ j ∧ e.1 = path ++ (j : Int) :: s := by
  intro l
  induction l using ind with
  | h0 => intro i path f e he; rw [ring_nil] at he; cases he
  | h1 n l ih1 ih2 =>
    intro i path f e he
    by_cases h : n.f0.toList = ([] : List UInt8)
    · rw [ring_text _ _ _ _ _ _ h] at he
      obtain ⟨j, s, h1, h2⟩ := ih2 _ _ _ e he
      exact ⟨j, s, by omega, h2⟩
    · rw [ring_elem _ _ _ _ _ _ h, List.mem_cons, List.mem_append] at he
      rcases he with rfl | he | he
      · exact ⟨i, [], Nat.le_refl _, rfl⟩
      · obtain ⟨j, s, h1, h2⟩ := ih1 _ _ _ e he
        exact ⟨i, (j : Int) :: s, Nat.le_refl _, by rw [h2]; simp⟩
      · obtain ⟨j, s, h1, h2⟩ := ih2 _ _ _ e he
        exact ⟨j, s, by omega, h2⟩
end Go.Proofs.Ytaibikajpacemaa.Tree
end
section
namespace Go.Proofs.Ytaibikajpacemaa.Tree
open Go.RowKit Go.Proofs.Ytaibikajpacemaa.X Go.Proofs.YtaibikajpacemaaW.PrintWords Go.Proofs.YtaibikajpacemaaW.PrintLast Go.Proofs.Ytaibikajpacemaa.Base
set_option linter.unusedVariables false
set_option linter.unusedSimpArgs false
/-- x is around y -/
def around (x y : List Int) : Bool := decide (x.length < y.length) && decide (y.take x.length = x)
theorem around_iff (x y : List Int) : around x y = true ↔ ∃ c s, y = x ++ c :: s := by
  unfold around
  rw [Bool.and_eq_true, decide_eq_true_eq, decide_eq_true_eq]
  constructor
  · rintro ⟨h1, h2⟩
    refine ⟨y[x.length], y.drop (x.length + 1), ?_⟩
    have h3 := List.take_append_drop x.length y
    rw [h2, List.drop_eq_getElem_cons h1] at h3
    exact h3.symm
  · rintro ⟨c, s, rfl⟩
    simp
/-- one that fits p is around an element just where the list of those that fit has one -/
theorem ring_around (p : Pk) : ∀ (l : List S) (i : Nat) (path : List Int) (f : Bool), ∀ e ∈ ring p l i path f, e.2.2 = (f || (((ring p l i path f).filter (fun e => fitB p e.2.1)).map (·.1)).any (fun x => around x e.1)) := by
  intro l
  induction l using ind with
  | h0 => intro i path f e he; rw [ring_nil] at he; cases he
  | h1 n l ih1 ih2 =>
    intro i path f e he
    by_cases h : n.f0.toList = ([] : List UInt8)
    · rw [ring_text _ _ _ _ _ _ h] at he ⊢
      exact ih2 _ _ _ e he
    · have hsub := ring_path p n.f3 0 (path ++ [(i : Int)]) (f || fitB p n)
      have hrest := ring_path p l (i + 1) path f
      -- what those that fit are: the element itself, those in it, those behind it
      have hall : ∀ y, (((ring p (n :: l) i path f).filter (fun e => fitB p e.2.1)).map (·.1)).any (fun x => around x y) = ((fitB p n && around (path ++ [(i : Int)]) y) || (((ring p n.f3 0 (path ++ [(i : Int)]) (f || fitB p n)).filter (fun e => fitB p e.2.1)).map (·.1)).any (fun x => around x y) || (((ring p l (i + 1) path f).filter (fun e => fitB p e.2.1)).map (·.1)).any (fun x => around x y)) := by
        intro y
        rw [ring_elem _ _ _ _ _ _ h]
        cases hp : fitB p n <;> simp [List.filter_cons, hp, List.any_append, Bool.or_assoc]
      have none_sub : ∀ y, (∃ (j : Nat) (s : List Int), i + 1 ≤ j ∧ y = path ++ (j : Int) :: s) → (((ring p n.f3 0 (path ++ [(i : Int)]) (f || fitB p n)).filter (fun e => fitB p e.2.1)).map (·.1)).any (fun x => around x y) = false := by
        rintro y ⟨j, s, hj, rfl⟩
        rw [List.any_eq_false]
        intro x hx ha
        obtain ⟨e', he', rfl⟩ := List.mem_map.1 hx
        obtain ⟨j', s', _, h2⟩ := hsub e' (List.mem_filter.1 he').1
        obtain ⟨c, s2, h3⟩ := (around_iff _ _).1 ha
        rw [h2] at h3
        simp only [List.append_assoc, List.cons_append, List.nil_append, List.append_cancel_left_eq, List.cons.injEq] at h3
        omega
      have none_rest : ∀ y, (∃ s : List Int, y = path ++ (i : Int) :: s) → (((ring p l (i + 1) path f).filter (fun e => fitB p e.2.1)).map (·.1)).any (fun x => around x y) = false := by
        rintro y ⟨s, rfl⟩
        rw [List.any_eq_false]
        intro x hx ha
        obtain ⟨e', he', rfl⟩ := List.mem_map.1 hx
        obtain ⟨j', s', hj, h2⟩ := hrest e' (List.mem_filter.1 he').1
        obtain ⟨c, s2, h3⟩ := (around_iff _ _).1 ha
        rw [h2] at h3
        simp only [List.append_assoc, List.cons_append, List.append_cancel_left_eq, List.cons.injEq] at h3
        omega
      rw [hall]
      rw [ring_elem _ _ _ _ _ _ h, List.mem_cons, List.mem_append] at he
      rcases he with rfl | he | he
      · have h1 : around (path ++ [(i : Int)]) (path ++ [(i : Int)]) = false := by simp [around]
        have h2 : (((ring p n.f3 0 (path ++ [(i : Int)]) (f || fitB p n)).filter (fun e => fitB p e.2.1)).map (·.1)).any (fun x => around x (path ++ [(i : Int)])) = false := by
          rw [List.any_eq_false]
          intro x hx ha
          obtain ⟨e', he', rfl⟩ := List.mem_map.1 hx
          obtain ⟨j', s', _, h2⟩ := hsub e' (List.mem_filter.1 he').1
          obtain ⟨c, s2, h3⟩ := (around_iff _ _).1 ha
          have h4 := congrArg List.length h3
          rw [h2] at h4
          simp at h4
        simp only [h1, h2, none_rest _ ⟨[], rfl⟩, Bool.and_false, Bool.or_false]
      · obtain ⟨j, s, _, h2⟩ := hsub e he
        have h3 : around (path ++ [(i : Int)]) e.1 = true := (around_iff _ _).2 ⟨(j : Int), s, h2⟩
        rw [none_rest e.1 ⟨(j : Int) :: s, by rw [h2]; simp⟩, h3, ih1 _ _ _ e he]
        simp [Bool.or_assoc]
      · obtain ⟨j, s, hj, h2⟩ := hrest e he
        have h3 : around (path ++ [(i : Int)]) e.1 = false := by
          rw [Bool.eq_false_iff]
          intro ha
          obtain ⟨c, s2, h4⟩ := (around_iff _ _).1 ha
          rw [h2] at h4
          simp only [List.append_assoc, List.cons_append, List.nil_append, List.append_cancel_left_eq, List.cons.injEq] at h4
          omega
        rw [none_sub e.1 ⟨j, s, hj, h2⟩, h3, ih2 _ _ _ e he]
        simp
/-- what two picks find -/
theorem found_within (p q q' : Pk) (h2 : q'.f2 = true) (hq : ∀ n, fitB q' n = fitB q n) (t : List S) (r r1 w1 r2 w2 : List Bool) (b : Bool) : found [p, q'] t 0 [] r [false, b] = (found [q] t 0 [] r2 w2).filter (fun y => (found [p] t 0 [] r1 w1).any (fun x => around x y)) := by
  rw [found_ring2 p q' h2, found_ring1 p q t 0 [] false, found_ring1 p p t 0 [] false, List.filter_map, List.filter_filter]
  congr 1
  apply List.filter_congr
  intro e he
  have := ring_around p t 0 [] false e he
  rw [Bool.false_or] at this
  rw [this, hq, Bool.and_comm]
  rfl
theorem within_l1 (x y z : List (List Int)) (m : Int) (hx : x.length ≤ 1000000) (hxl : ∀ q ∈ x, q.length ≤ 1000010) (i : Nat) (yi : List Int) (hi : i < y.length) (hy : rd_L7 y (i : Int) = yi) (hyl : yi.length ≤ 1000010) (r : Bool)
    (hend : Ev (fun k => bobbinetkeep_PickWithin.l1 k x y z m (i : Int) (x.any (fun q => around q yi)) (x.length : Int)) r) :
    ∀ (suf pre : List (List Int)), x = pre ++ suf → Ev (fun k => bobbinetkeep_PickWithin.l1 k x y z m (i : Int) (pre.any (fun q => around q yi)) (pre.length : Int)) r
  | [], pre, e => by
    have e2 : x = pre := by simpa using e
    rw [← e2]
    exact hend
  | q :: suf, pre, e => by
    have h1 : x.length = pre.length + suf.length + 1 := by rw [e]; simp; omega
    have hr : rd_L7 x (pre.length : Int) = q := by rw [e]; exact rdl_at _ _ _
    have ih := within_l1 x y z m hx hxl i yi hi hy hyl r hend suf (pre ++ [q]) (by rw [e]; simp)
    have hql := hxl q (by rw [e]; simp)
    have hw : wrap64 ((pre.length : Int) + 1) = ((pre ++ [q]).length : Int) := (wrap_succ (n := x.length) (by omega) (by omega)).trans (congrArg _ (by simp))
    have hany : (pre ++ [q]).any (fun q => around q yi) = (pre.any (fun q => around q yi) || around q yi) := by simp
    rw [hany] at ih
    refine Ev.succ ?_
    simp only [bobbinetkeep_PickWithin.l1, hr, hy, hw]
    refine Ev.ite_pos (by omega) ?_
    clear hw
    cases hp : pre.any (fun q => around q yi) with
    | true =>
      rw [hp, Bool.true_or] at ih
      exact Ev.ite_pos rfl ih
    | false =>
      rw [hp, Bool.false_or] at ih
      refine Ev.ite_neg (by simp) (Ev.ite_pos (by omega) (Ev.ite_pos (by omega) (Ev.ite_pos (by omega) ?_)))
      by_cases hl : (q.length : Int) < (yi.length : Int)
      · have hs := same_ev (yi.take q.length) q (by rw [List.length_take]; omega)
        have ha : around q yi = decide (yi.take q.length = q) := by unfold around; rw [decide_eq_true (show q.length < yi.length by omega), Bool.true_and]
        rw [ha] at ih
        refine Ev.ite_pos hl (Ev.ite_pos (by omega) (Ev.ite_pos (by omega) (Ev.bnd ?_ ih)))
        simpa using hs
      · have ha : around q yi = false := by unfold around; rw [decide_eq_false (show ¬ q.length < yi.length by omega), Bool.false_and]
        rw [ha] at ih
        exact Ev.ite_neg hl ih
theorem within_l0 (x y z : List (List Int)) (hx : x.length ≤ 1000000) (hy : y.length ≤ 1000000) (hz : z.length ≤ 1000000) (hxl : ∀ q ∈ x, q.length ≤ 1000010) (hyl : ∀ q ∈ y, q.length ≤ 1000010) (hzl : ∀ q ∈ z, q.length ≤ 1000010) (hzy : z = y.filter (fun q => x.any (fun a => around a q))) :
    ∀ (suf pre : List (List Int)), y = pre ++ suf → Ev (fun k => bobbinetkeep_PickWithin.l0 k x y z ((pre.filter (fun q => x.any (fun a => around a q))).length : Int) (pre.length : Int)) true
  | [], pre, e => by
    have e2 : y = pre := by simpa using e
    refine Ev.succ ?_
    simp only [bobbinetkeep_PickWithin.l0]
    refine Ev.ite_neg (by rw [e2]; omega) ?_
    rw [hzy, e2, beq_self_eq_true]
    exact Ev.now _
  | q :: suf, pre, e => by
    have h1 : y.length = pre.length + suf.length + 1 := by rw [e]; simp; omega
    have hr : rd_L7 y (pre.length : Int) = q := by rw [e]; exact rdl_at _ _ _
    have ih := within_l0 x y z hx hy hz hxl hyl hzl hzy suf (pre ++ [q]) (by rw [e]; simp)
    have hmem : q ∈ y := by rw [e]; simp
    have hhas : decide (q ∈ z) = x.any (fun a => around a q) := by
      rw [hzy, Bool.eq_iff_iff, decide_eq_true_eq, List.mem_filter]
      exact ⟨fun h => h.2, fun h => ⟨hmem, h⟩⟩
    have hh := has_ev z q (by omega) (fun a ha => by have := hzl a ha; omega)
    rw [hhas] at hh
    have hfl : (pre.filter (fun q => x.any (fun a => around a q))).length ≤ pre.length := List.length_filter_le _ _
    have hw : wrap64 ((pre.length : Int) + 1) = ((pre ++ [q]).length : Int) := (wrap_succ (n := y.length) (by omega) (by omega)).trans (congrArg _ (by simp))
    have hw2 : wrap64 (((pre.filter (fun q => x.any (fun a => around a q))).length : Int) + 1) = (((pre.filter (fun q => x.any (fun a => around a q))).length + 1 : Nat) : Int) := wrap_succ (n := y.length) (by omega) (by omega)
    refine Ev.succ ?_
    simp only [bobbinetkeep_PickWithin.l0]
    refine Ev.ite_pos (by omega) (within_l1 x y z _ hx hxl pre.length q (by omega) hr (hyl q hmem) true (Ev.succ ?_) x [] rfl)
    simp only [bobbinetkeep_PickWithin.l1, hr, hw, hw2]
    refine Ev.ite_neg (by omega) ?_
    clear hw hw2
    cases hb : x.any (fun a => around a q) with
    | true =>
      rw [hb] at hh
      have hf : (pre ++ [q]).filter (fun q => x.any (fun a => around a q)) = pre.filter (fun q => x.any (fun a => around a q)) ++ [q] := by rw [List.filter_append, List.filter_cons, if_pos hb, List.filter_nil]
      rw [hf, List.length_append, List.length_singleton] at ih
      exact Ev.ite_pos rfl (Ev.ite_pos (by omega) (Ev.ite_pos (by omega) (Ev.bnd hh (Ev.ite_neg (by simp) ih))))
    | false =>
      rw [hb] at hh
      have hf : (pre ++ [q]).filter (fun q => x.any (fun a => around a q)) = pre.filter (fun q => x.any (fun a => around a q)) := by rw [List.filter_append, List.filter_cons, if_neg (by rw [hb]; simp), List.filter_nil, List.append_nil]
      rw [hf] at ih
      exact Ev.ite_neg (by simp) (Ev.ite_pos (by omega) (Ev.ite_pos (by omega) (Ev.bnd hh (Ev.ite_neg (by simp) ih))))
end Go.Proofs.Ytaibikajpacemaa.Tree
namespace Go.Proofs.Ytaibikajpacemaa.Pure
open Go.RowKit Go.Proofs.Ytaibikajpacemaa.X Go.Proofs.YtaibikajpacemaaW.PrintWords Go.Proofs.YtaibikajpacemaaW.PrintLast Go.Proofs.Ytaibikajpacemaa.Base Go.Proofs.Ytaibikajpacemaa.Tree
theorem picks1 (a : Int) : bobbinetkeep_Picks.f [a] 1 = some [bobbinetkeep_Picks.one 0 a] := by
  unfold bobbinetkeep_Picks.f
  rw [if_pos (by omega)]
  rfl
theorem PickWithin : bobbinetkeep_PickWithin.Pure := by
  intro l0 a1 a2 _ h1 _ _ _
  obtain ⟨t, rest0, e1, hg⟩ := nodes_f l0 (by omega) 5 6 (by omega) (by omega)
  have hlen := hg.len
  have htot : tot t ≤ 700000 := by
    have h2 := hg.tot
    have h4 : t.length * cap 5 ≤ 6 * 100000 := Nat.mul_le_mul hlen (by decide)
    omega
  obtain ⟨p, hp⟩ : ∃ p, bobbinetkeep_Picks.one 0 a1 = p := ⟨_, rfl⟩
  obtain ⟨q, hq⟩ : ∃ q, bobbinetkeep_Picks.one 0 a2 = q := ⟨_, rfl⟩
  have okp : PkOk p := by rw [← hp]; exact one_ok _ _
  have okq : PkOk q := by rw [← hq]; exact one_ok _ _
  have p1 := paths_ev [p] (ok_of [p] (by simp) (by simp) (by simp [okp])) t (by omega)
  have p2 := paths_ev [q] (ok_of [q] (by simp) (by simp) (by simp [okq])) t (by omega)
  have p3 := paths_ev [p, (⟨q.f0, q.f1, true⟩ : Pk)] (ok_of [p, (⟨q.f0, q.f1, true⟩ : Pk)] (by simp) (by simp) (by intro x hx; simp at hx; rcases hx with rfl | rfl; exact okp; exact okq)) t (by omega)
  have f1 := found_len [p] t 0 [] (rep [p]) (rep [p])
  have f2 := found_len [q] t 0 [] (rep [q]) (rep [q])
  have f3 := found_len [p, (⟨q.f0, q.f1, true⟩ : Pk)] t 0 [] (rep [p, (⟨q.f0, q.f1, true⟩ : Pk)]) (rep [p, (⟨q.f0, q.f1, true⟩ : Pk)])
  have g1 := found_long [p] t 0 [] (rep [p]) (rep [p])
  have g2 := found_long [q] t 0 [] (rep [q]) (rep [q])
  have g3 := found_long [p, (⟨q.f0, q.f1, true⟩ : Pk)] t 0 [] (rep [p, (⟨q.f0, q.f1, true⟩ : Pk)]) (rep [p, (⟨q.f0, q.f1, true⟩ : Pk)])
  have hz : found [p, (⟨q.f0, q.f1, true⟩ : Pk)] t 0 [] (rep [p, (⟨q.f0, q.f1, true⟩ : Pk)]) (rep [p, (⟨q.f0, q.f1, true⟩ : Pk)]) = (found [q] t 0 [] (rep [q]) (rep [q])).filter (fun y => (found [p] t 0 [] (rep [p]) (rep [p])).any (fun x => around x y)) := found_within p q (⟨q.f0, q.f1, true⟩ : Pk) rfl (fun n => fit_deep q n true) t (rep [p, (⟨q.f0, q.f1, true⟩ : Pk)]) (rep [p]) (rep [p]) (rep [q]) (rep [q]) false
  have k0 := within_l0 _ _ _ (by omega) (by omega) (by omega) (fun x hx => by have := g1 x hx; simp at this; omega) (fun x hx => by have := g2 x hx; simp at this; omega) (fun x hx => by have := g3 x hx; simp at this; omega) hz (found [q] t 0 [] (rep [q]) (rep [q])) [] rfl
  have key : Ev (fun k => bobbinetkeep_PickWithin.f k l0 a1 a2) true := by
    simp only [bobbinetkeep_PickWithin.f]
    refine Ev.bnd e1 (Ev.bnd0 ((picks1 a1).trans (by rw [hp])) (Ev.ite_pos (by simp) (Ev.bnd0 ((picks1 a2).trans (by rw [hq])) (Ev.ite_pos (by simp) ?_))))
    refine Ev.bnd p1 (Ev.bnd p2 (Ev.bnd p3 (Ev.ite_pos rfl (Ev.ite_pos rfl (Ev.succ ?_)))))
    simp only [bobbinetkeep_PickWithin.j0]
    exact Ev.ite_neg (by simp) k0
  exact key.rounds
end Go.Proofs.Ytaibikajpacemaa.Pure
end
