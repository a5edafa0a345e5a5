/- Parts of the proof of StyleBack that are needed, put together by pack.py. -/
import Derived.Test.YteimhgbihpbhaaaDoorQStyleBackaf
section
namespace Go.Proofs.YteimhgbihpbhaaaDoor.X
open Go.RowKit Go.Proofs.YteimhgbihpbhaaaDoorW.PrintWords Go.Proofs.YteimhgbihpbhaaaDoorW.PrintLast Go.Proofs.YteimhgbihpbhaaaDoorW.PrintMore
attribute [local go_sem] max2_int min2_int max_two min_two max_three min_three max_four min_four   -- for this text's walks alone
set_option linter.unusedVariables false
set_option linter.unusedSimpArgs false
def bobbinetkeep_Picked.f (a0 : Int) (a1 : Int) : Option (Int) := if a1 = 0 then (none) else (if (Int.tmod a0 a1) < 0 then (some (wrap64 ((Int.tmod a0 a1) + a1))) else (some (Int.tmod a0 a1)))
set_option maxHeartbeats 8000000 in
set_option maxRecDepth 100000 in
theorem bobbinetkeep_Picked.calls (a0 : Int) (a1 : Int) (r : Int) (w : World) (h : bobbinetkeep_Picked.f a0 a1 = some r) :
    Calls Tryd.prog 14 #[.int .i64 a0, .int .i64 a1] w fun e w' => e = .returned (.int .i64 r) ∧ Drawn0 w w' := by
  have H : (if a1 = 0 then (none) else (if (Int.tmod a0 a1) < 0 then (some (wrap64 ((Int.tmod a0 a1) + a1))) else (some (Int.tmod a0 a1)))) = some r := h
  clear h
  by_cases c3 : a1 = 0
  · rw [if_pos c3] at H
    exact absurd H (by simp)
  · rw [if_neg c3] at H
    have c3b0 : (a1 == 0) = false := beq_eq_false_iff_ne.mpr c3
    have c3b1 : (a1 != 0) = true := bne_iff_ne.mpr c3
    by_cases c4 : (Int.tmod a0 a1) < 0
    · rw [if_pos c4] at H
      have c4b0 : decide ((Int.tmod a0 a1) < 0) = true := decide_eq_true c4
      clear c4
      obtain rfl := Option.some.inj H
      go_enter Tryd.func14, Tryd.ntmps14
      go_wp2
      go_ret
      exact ⟨by first | rfl | (simp; done) | (simp [*]; done), by repeat (first | exact Drawn0.refl _ | apply Drawn0.step)⟩
    · rw [if_neg c4] at H
      have c4b0 : decide ((Int.tmod a0 a1) < 0) = false := decide_eq_false c4
      clear c4
      obtain rfl := Option.some.inj H
      go_enter Tryd.func14, Tryd.ntmps14
      go_wp2
      go_ret
      exact ⟨by first | rfl | (simp; done) | (simp [*]; done), by repeat (first | exact Drawn0.refl _ | apply Drawn0.step)⟩
end Go.Proofs.YteimhgbihpbhaaaDoor.X
end
section
namespace Go.Proofs.YteimhgbihpbhaaaDoor.X
open Go.RowKit Go.Proofs.YteimhgbihpbhaaaDoorW.PrintWords Go.Proofs.YteimhgbihpbhaaaDoorW.PrintLast Go.Proofs.YteimhgbihpbhaaaDoorW.PrintMore
attribute [local go_sem] max2_int min2_int max_two min_two max_three min_three max_four min_four   -- for this text's walks alone
set_option linter.unusedVariables false
set_option linter.unusedSimpArgs false
mutual
def bobbinetkeep_Decls.l0 : Nat → List Int → Int → List (S33) → Int → Option ((List (S33)))
 | 0, _, _, _, _ => none
 | k + 1, x0, x1, x5, x6 => if x6 < (x0.length : Int) then (bobbinetkeep_Decls.j1 k x0 x1 x5 x6 (decide (x6 < x1))) else (bobbinetkeep_Decls.j1 k x0 x1 x5 x6 false)
def bobbinetkeep_Decls.j1 : Nat → List Int → Int → List (S33) → Int → Bool → Option ((List (S33)))
 | 0, _, _, _, _, _ => none
 | k + 1, x0, x1, x5, x6, x15 => if x15 = true then ((some (([(⟨#[99, 111, 108, 111, 114]⟩ : ByteArray), (⟨#[119, 105, 100, 116, 104]⟩ : ByteArray), (⟨#[97, 45, 98]⟩ : ByteArray), (⟨#[120, 49]⟩ : ByteArray)] : List ByteArray) : List ByteArray)).bind fun y101 => (if 0 ≤ x6 then (if x6 < (x0.length : Int) then ((bobbinetkeep_Picked.f (rd x0 x6) 4).bind fun t105 => (if 0 ≤ t105 then (if t105 < (y101.length : Int) then ((some (([(⟨#[114, 101, 100]⟩ : ByteArray), (⟨#[49, 112, 120, 32, 50, 112, 120]⟩ : ByteArray), (⟨#[117, 114, 108, 40, 97, 59, 98, 41]⟩ : ByteArray), (⟨#[34, 59, 58, 34]⟩ : ByteArray), (⟨#[97, 58, 98]⟩ : ByteArray), (⟨#[102, 40, 103, 40, 59, 41, 41]⟩ : ByteArray), (⟨#[39, 120, 39]⟩ : ByteArray)] : List ByteArray) : List ByteArray)).bind fun y107 => ((bobbinetkeep_Picked.f (wrap64 (Int.tdiv (rd x0 x6) 4)) 7).bind fun t111 => (if 0 ≤ t111 then (if t111 < (y107.length : Int) then (if x5.length < 4398046511104 then (bobbinetkeep_Decls.l0 k x0 x1 (x5 ++ [(⟨rdOf ByteArray.empty y101 t105, rdOf ByteArray.empty y107 t111⟩ : S33)]) (wrap64 (x6 + 1))) else (none)) else (none)) else (none)))) else (none)) else (none))) else (none)) else (none))) else (some x5)
end
def bobbinetkeep_Decls.f (k : Nat) (l0 : List Int) (a1 : Int) : Option ((List (S33))) := bobbinetkeep_Decls.l0 k l0 a1 ([] : List (S33)) 0
def bobbinetkeep_Decls.T5 : Bool × List (List Nat × List Nat) := (true, [([], []), ([], []), ([], []), ([], []), ([2, 3], [2, 3]), ([4], [4]), ([5], [5]), ([1, 6], [1, 6]), ([7], [7]), ([], []), ([], []), ([], []), ([10, 11], [10, 11]), ([12], [12]), ([13], [13]), ([14, 6], [14]), ([9, 15], [9, 15]), ([16], [16]), ([8, 17], [8, 17]), ([18], [18]), ([0, 19, 15], [0, 19]), ([20, 20, 0, 1, 2, 3, 4, 5, 6, 7, 8, 9, 10, 11, 12, 13, 14, 15, 16, 17, 18, 19, 20], [0, 20])])
def bobbinetkeep_Decls.B5 : List Nat := [0, 0, 0, 0, 12, 28, 60, 126, 254, 0, 0, 0, 3072, 7168, 15360, 31868, 65148, 130684, 262142, 524286, 1048575, 2097151]
theorem bobbinetkeep_Decls.tab5 : rtab .any (opsOf Tryd.f11 5) = bobbinetkeep_Decls.T5 := by kernel_rfl
theorem bobbinetkeep_Decls.bits5 : waitsOk bobbinetkeep_Decls.T5.2 bobbinetkeep_Decls.B5 = true := by kernel_rfl
set_option maxHeartbeats 8000000 in
set_option maxRecDepth 100000 in
theorem bobbinetkeep_Decls.calls (k : Nat) (A0 : Option Addr) (c0 : Nat) (l0 : List Int) (a1 : Int) (r : List (S33)) (w : World) (hr0 : Kd.C (Kd.int .i64) w A0 l0.length l0) (hc0 : l0.length ≤ c0) (h : bobbinetkeep_Decls.f k l0 a1 = some r) :
  Calls Tryd.prog 11 #[.slice A0 l0.length c0, .int .i64 a1] w fun e w' => ∃ v0_ : Value, e = .returned (v0_) ∧ Kd.R k33 33 w' w.heap.size (fun _ => True) v0_ r ∧ Below w.heap.size w w' := by
 have hu33 := Tryd.underlying33
 have HR0 := Aside0.mk hr0
 have HC0 := Aside0.mk hc0
 clear hr0 hc0
 have HB := Aside0.mk (Below.refl w.heap.size w)
 have H : (bobbinetkeep_Decls.l0 k l0 a1 ([] : List (S33)) 0) = some r := h
 clear h
 have H' := Aside0.mk H
 clear H
 go_enter Tryd.func11, Tryd.ntmps11
 go_wp2
 go_loopg [5, 6] k (fun kq v5 v6 w' => ∃ (x5_1 : List (S33)) (x6_1 : Int), v6 = .int .i64 x6_1 ∧ Aside0 (bobbinetkeep_Decls.l0 kq l0 a1 x5_1 x6_1 = some r) ∧ Aside0 (kq ≤ k) ∧ Aside0 (Kd.R k33 33 w' w.heap.size (fun _ => True) v5 x5_1) ∧ Aside0 (Below w.heap.size w w'))
 case atStart => exact ⟨(([] : List (S33))), (0), (by first | rfl | (simp; done) | (simp [*]; done) | (simp [bne]; done)), H', ⟨Nat.le_refl _⟩, ⟨by first | exact Kd.R_nil _ _ _ _ _ | exact Kd.N_nil _ _ _ _ _ | exact Kd.V_nil _ _ _ _ _ | exact Kd.Q_nil _ _ _ _ _ | exact Kd.S_nil _ _ _ _ _⟩, ⟨by repeat (first | (with_reducible first | exact HB.out | apply below_alloc | apply pw_below_drewN | apply below_drew1) | exact HB.out)⟩⟩
 case round =>
  clear H'
  try clear c1
  try clear p2
  obtain ⟨x5_1, x6_1, rfl, HA, HK1, HO_5, HB⟩ := hrel
  cases gk with
  | zero => exact absurd HA.out (by simp [bobbinetkeep_Decls.l0])
  | succ k1 =>
   have H := HA.out
   clear HA
   simp only [bobbinetkeep_Decls.l0] at H
   have HC3 := Aside0.mk H
   clear H
   go_upto_region 3 with (fail)
   go_cut [15] (fun v15 wc => ∃ (kq : Nat) (x15_2 : Bool), v15 = .bool x15_2 ∧ Aside0 (bobbinetkeep_Decls.j1 kq l0 a1 x5_1 x6_1 x15_2 = some r) ∧ Aside0 (kq ≤ k1) ∧ Aside0 (Kd.R k33 33 wc w.heap.size (fun _ => True) u5 x5_1) ∧ Aside0 (Below w.heap.size w wc))
   case first =>
    have H := HC3.out
    clear HC3
    by_cases c4 : x6_1 < (l0.length : Int)
    ·
     rw [if_pos c4] at H
     have c4b0 : decide (x6_1 < (l0.length : Int)) = true := decide_eq_true c4
     clear c4
     (first | rw [c4b0] | (simp only [i64_w, i32_w]; rw [c4b0]) | rw [c4b1] | skip)
     have H' := Aside0.mk H
     clear H
     go_wp2
     go_meet
     case rel => exact ⟨_, (decide (x6_1 < a1)), (by first | rfl | (simp; done) | (simp [*]; done) | (simp [bne]; done)), H', ⟨by have := HK1.out; first | omega | exact Nat.le_refl _⟩, ⟨by (with_reducible repeat (first | apply Kd.R_alloc | apply Kd.R_drewN | apply Kd.R_drew)); exact HO_5.out⟩, ⟨by repeat (first | (with_reducible first | exact HB.out | apply below_alloc | apply pw_below_drewN | apply below_drew1) | exact HB.out)⟩⟩
    ·
     rw [if_neg c4] at H
     have c4b0 : decide (x6_1 < (l0.length : Int)) = false := decide_eq_false c4
     clear c4
     (first | rw [c4b0] | (simp only [i64_w, i32_w]; rw [c4b0]) | rw [c4b1] | skip)
     have H' := Aside0.mk H
     clear H
     go_wp2
     go_meet
     case rel => exact ⟨_, (false), (by first | rfl | (simp; done) | (simp [*]; done) | (simp [bne]; done)), H', ⟨by have := HK1.out; first | omega | exact Nat.le_refl _⟩, ⟨by (with_reducible repeat (first | apply Kd.R_alloc | apply Kd.R_drewN | apply Kd.R_drew)); exact HO_5.out⟩, ⟨by repeat (first | (with_reducible first | exact HB.out | apply below_alloc | apply pw_below_drewN | apply below_drew1) | exact HB.out)⟩⟩
   case rest =>
    clear HC3
    try clear c1
    try clear p2
    try clear c4
    try clear c4b0
    try clear p2
    obtain ⟨kq, x15_2, rfl, HA, HJ2, HO_5, HB⟩ := hcut
    cases kq with
    | zero => exact absurd HA.out (by simp [bobbinetkeep_Decls.j1])
    | succ kj2 =>
     have H := HA.out
     clear HA
     simp only [bobbinetkeep_Decls.j1] at H
     by_cases c5 : x15_2 = true
     ·
      subst c5
      have H1 : ((some (([(⟨#[99, 111, 108, 111, 114]⟩ : ByteArray), (⟨#[119, 105, 100, 116, 104]⟩ : ByteArray), (⟨#[97, 45, 98]⟩ : ByteArray), (⟨#[120, 49]⟩ : ByteArray)] : List ByteArray) : List ByteArray)).bind fun y101 => (if 0 ≤ x6_1 then (if x6_1 < (l0.length : Int) then ((bobbinetkeep_Picked.f (rd l0 x6_1) 4).bind fun t105 => (if 0 ≤ t105 then (if t105 < (y101.length : Int) then ((some (([(⟨#[114, 101, 100]⟩ : ByteArray), (⟨#[49, 112, 120, 32, 50, 112, 120]⟩ : ByteArray), (⟨#[117, 114, 108, 40, 97, 59, 98, 41]⟩ : ByteArray), (⟨#[34, 59, 58, 34]⟩ : ByteArray), (⟨#[97, 58, 98]⟩ : ByteArray), (⟨#[102, 40, 103, 40, 59, 41, 41]⟩ : ByteArray), (⟨#[39, 120, 39]⟩ : ByteArray)] : List ByteArray) : List ByteArray)).bind fun y107 => ((bobbinetkeep_Picked.f (wrap64 (Int.tdiv (rd l0 x6_1) 4)) 7).bind fun t111 => (if 0 ≤ t111 then (if t111 < (y107.length : Int) then (if x5_1.length < 4398046511104 then (bobbinetkeep_Decls.l0 kj2 l0 a1 (x5_1 ++ [(⟨rdOf ByteArray.empty y101 t105, rdOf ByteArray.empty y107 t111⟩ : S33)]) (wrap64 (x6_1 + 1))) else (none)) else (none)) else (none)))) else (none)) else (none))) else (none)) else (none))) = some r := by rw [if_pos rfl] at H; exact H
      clear H
      have H := H1
      clear H1
      obtain ⟨y101, hy101⟩ : ∃ y_ : List ByteArray, y_ = (([(⟨#[99, 111, 108, 111, 114]⟩ : ByteArray), (⟨#[119, 105, 100, 116, 104]⟩ : ByteArray), (⟨#[97, 45, 98]⟩ : ByteArray), (⟨#[120, 49]⟩ : ByteArray)] : List ByteArray)) := ⟨_, rfl⟩
      replace H : (if 0 ≤ x6_1 then (if x6_1 < (l0.length : Int) then ((bobbinetkeep_Picked.f (rd l0 x6_1) 4).bind fun t105 => (if 0 ≤ t105 then (if t105 < (y101.length : Int) then ((some (([(⟨#[114, 101, 100]⟩ : ByteArray), (⟨#[49, 112, 120, 32, 50, 112, 120]⟩ : ByteArray), (⟨#[117, 114, 108, 40, 97, 59, 98, 41]⟩ : ByteArray), (⟨#[34, 59, 58, 34]⟩ : ByteArray), (⟨#[97, 58, 98]⟩ : ByteArray), (⟨#[102, 40, 103, 40, 59, 41, 41]⟩ : ByteArray), (⟨#[39, 120, 39]⟩ : ByteArray)] : List ByteArray) : List ByteArray)).bind fun y107 => ((bobbinetkeep_Picked.f (wrap64 (Int.tdiv (rd l0 x6_1) 4)) 7).bind fun t111 => (if 0 ≤ t111 then (if t111 < (y107.length : Int) then (if x5_1.length < 4398046511104 then (bobbinetkeep_Decls.l0 kj2 l0 a1 (x5_1 ++ [(⟨rdOf ByteArray.empty y101 t105, rdOf ByteArray.empty y107 t111⟩ : S33)]) (wrap64 (x6_1 + 1))) else (none)) else (none)) else (none)))) else (none)) else (none))) else (none)) else (none)) = some r := by first | (rw [hy101]; with_reducible exact H) | (have H2_ := (Option.bind_some _ _).symm.trans H; rw [hy101]; with_reducible exact H2_) | (have H2_ := (Option.bind_some _ _).symm.trans H; with_reducible exact H2_) | with_reducible exact H | (rw [hy101]; exact H) | exact H
      have Ny101 := Aside0.mk hy101
      clear hy101
      by_cases c6 : 0 ≤ x6_1
      ·
       rw [if_pos c6] at H
       have c6b0 : decide (0 ≤ x6_1) = true := decide_eq_true c6
       clear c6
       by_cases c7 : x6_1 < (l0.length : Int)
       ·
        rw [if_pos c7] at H
        have c7b0 : decide (x6_1 < (l0.length : Int)) = true := decide_eq_true c7
        clear c7
        replace H := Option.bind_eq_some_iff.mp H
        obtain ⟨t105, A80, H⟩ := H
        replace H : (if 0 ≤ t105 then (if t105 < (y101.length : Int) then ((some (([(⟨#[114, 101, 100]⟩ : ByteArray), (⟨#[49, 112, 120, 32, 50, 112, 120]⟩ : ByteArray), (⟨#[117, 114, 108, 40, 97, 59, 98, 41]⟩ : ByteArray), (⟨#[34, 59, 58, 34]⟩ : ByteArray), (⟨#[97, 58, 98]⟩ : ByteArray), (⟨#[102, 40, 103, 40, 59, 41, 41]⟩ : ByteArray), (⟨#[39, 120, 39]⟩ : ByteArray)] : List ByteArray) : List ByteArray)).bind fun y107 => ((bobbinetkeep_Picked.f (wrap64 (Int.tdiv (rd l0 x6_1) 4)) 7).bind fun t111 => (if 0 ≤ t111 then (if t111 < (y107.length : Int) then (if x5_1.length < 4398046511104 then (bobbinetkeep_Decls.l0 kj2 l0 a1 (x5_1 ++ [(⟨rdOf ByteArray.empty y101 t105, rdOf ByteArray.empty y107 t111⟩ : S33)]) (wrap64 (x6_1 + 1))) else (none)) else (none)) else (none)))) else (none)) else (none)) = some r := H
        have A8 := Aside0.mk A80
        clear A80
        by_cases c9 : 0 ≤ t105
        ·
         rw [if_pos c9] at H
         have c9b0 : decide (0 ≤ t105) = true := decide_eq_true c9
         clear c9
         by_cases c10 : t105 < (y101.length : Int)
         ·
          rw [if_pos c10] at H
          have c10b0 : decide (t105 < (y101.length : Int)) = true := decide_eq_true c10
          clear c10
          obtain ⟨y107, hy107⟩ : ∃ y_ : List ByteArray, y_ = (([(⟨#[114, 101, 100]⟩ : ByteArray), (⟨#[49, 112, 120, 32, 50, 112, 120]⟩ : ByteArray), (⟨#[117, 114, 108, 40, 97, 59, 98, 41]⟩ : ByteArray), (⟨#[34, 59, 58, 34]⟩ : ByteArray), (⟨#[97, 58, 98]⟩ : ByteArray), (⟨#[102, 40, 103, 40, 59, 41, 41]⟩ : ByteArray), (⟨#[39, 120, 39]⟩ : ByteArray)] : List ByteArray)) := ⟨_, rfl⟩
          replace H : ((bobbinetkeep_Picked.f (wrap64 (Int.tdiv (rd l0 x6_1) 4)) 7).bind fun t111 => (if 0 ≤ t111 then (if t111 < (y107.length : Int) then (if x5_1.length < 4398046511104 then (bobbinetkeep_Decls.l0 kj2 l0 a1 (x5_1 ++ [(⟨rdOf ByteArray.empty y101 t105, rdOf ByteArray.empty y107 t111⟩ : S33)]) (wrap64 (x6_1 + 1))) else (none)) else (none)) else (none))) = some r := by first | (rw [hy107]; with_reducible exact H) | (have H2_ := (Option.bind_some _ _).symm.trans H; rw [hy107]; with_reducible exact H2_) | (have H2_ := (Option.bind_some _ _).symm.trans H; with_reducible exact H2_) | with_reducible exact H | (rw [hy107]; exact H) | exact H
          have Ny107 := Aside0.mk hy107
          clear hy107
          replace H := Option.bind_eq_some_iff.mp H
          obtain ⟨t111, A110, H⟩ := H
          replace H : (if 0 ≤ t111 then (if t111 < (y107.length : Int) then (if x5_1.length < 4398046511104 then (bobbinetkeep_Decls.l0 kj2 l0 a1 (x5_1 ++ [(⟨rdOf ByteArray.empty y101 t105, rdOf ByteArray.empty y107 t111⟩ : S33)]) (wrap64 (x6_1 + 1))) else (none)) else (none)) else (none)) = some r := H
          have A11 := Aside0.mk A110
          clear A110
          by_cases c12 : 0 ≤ t111
          ·
           rw [if_pos c12] at H
           have c12b0 : decide (0 ≤ t111) = true := decide_eq_true c12
           clear c12
           by_cases c13 : t111 < (y107.length : Int)
           ·
            rw [if_pos c13] at H
            have c13b0 : decide (t111 < (y107.length : Int)) = true := decide_eq_true c13
            clear c13
            by_cases c14 : x5_1.length < 4398046511104
            ·
             rw [if_pos c14] at H
             have LMc14 := Aside0.mk c14
             clear c14
             obtain ⟨y113, hy113⟩ : ∃ y_ : List (S33), y_ = (x5_1 ++ [(⟨rdOf ByteArray.empty y101 t105, rdOf ByteArray.empty y107 t111⟩ : S33)]) := ⟨_, rfl⟩
             replace H : (bobbinetkeep_Decls.l0 kj2 l0 a1 y113 (wrap64 (x6_1 + 1))) = some r := by first | (rw [hy113]; with_reducible exact H) | (have H2_ := (Option.bind_some _ _).symm.trans H; rw [hy113]; with_reducible exact H2_) | (have H2_ := (Option.bind_some _ _).symm.trans H; with_reducible exact H2_) | with_reducible exact H | (rw [hy113]; exact H) | exact H
             have Ny113 := Aside0.mk hy113
             clear hy113
             have H' := Aside0.mk H
             clear H
             obtain ⟨Ao15, co15, eo15⟩ := Kd.R_slice HO_5.out
             subst eo15
             try go_wp2
             have pi106 : (0 ≤ (t105 : Int)) = True := eq_true (of_decide_eq_true (by first | (with_reducible assumption) | assumption))
             have qi106 : (t105 < (y101.length : Int)) = True := eq_true (of_decide_eq_true (by first | (with_reducible assumption) | assumption))
             have pi112 : (0 ≤ (t111 : Int)) = True := eq_true (of_decide_eq_true (by first | (with_reducible assumption) | assumption))
             have qi112 : (t111 < (y107.length : Int)) = True := eq_true (of_decide_eq_true (by first | (with_reducible assumption) | assumption))
             have n0_ := Aside0.mk (Kd.R_drew HO_5.out)
             have n1_ := Aside0.mk (below_drew1 HB.out)
             clear HO_5
             clear HB
             have HO_5 := n0_
             have HB := n1_
             clear n0_ n1_
             have p104 : 0 ≤ (x6_1 : Int) := of_decide_eq_true (by first | (with_reducible assumption) | assumption)
             have q104 : x6_1 < (l0.length : Int) := of_decide_eq_true (by first | (with_reducible assumption) | assumption)
             obtain ⟨ad104, e104, hx104_0⟩ := Kd.at_int HR0.out x6_1 p104 q104
             have hw104_0 := hx104_0
             cases e104
             replace hx104_0 := (HB.out.cell (World.block_lt_of_cell? w _ hx104_0)).trans hx104_0
             replace p104 := eq_true p104
             replace q104 := eq_true q104
             have p110 : 0 ≤ (x6_1 : Int) := of_decide_eq_true (by first | (with_reducible assumption) | assumption)
             have q110 : x6_1 < (l0.length : Int) := of_decide_eq_true (by first | (with_reducible assumption) | assumption)
             obtain ⟨ad110, e110, hx110_0⟩ := Kd.at_int HR0.out x6_1 p110 q110
             have hw110_0 := hx110_0
             obtain rfl : ad104 = ad110 := (by injection e110)
             replace hx110_0 := (HB.out.cell (World.block_lt_of_cell? w _ hx110_0)).trans hx110_0
             replace p110 := eq_true p110
             replace q110 := eq_true q110
             refine start_ (n := 22) (S := fun w' => w'.cell? (ad104.add (x6_1).toNat) = some (.int .i64 (rd l0 x6_1)) ∧ w'.cell? (ad104.add (x6_1).toNat) = some (.int .i64 (rd l0 x6_1))) (ds := []) #[false, false, false, false, false, false, false, false, false, false, false, false, false, false, false, false, false, false, false, false, false, false] (by kernel_rfl) rfl rfl ⟨((HB.out.cell (World.block_lt_of_cell? w _ hw104_0)).trans hw104_0), ((HB.out.cell (World.block_lt_of_cell? w _ hw110_0)).trans hw110_0)⟩ (fun hHeld => ?_); refine with_tabW bobbinetkeep_Decls.tab5 bobbinetkeep_Decls.bits5 (fun HT_ HW_ => ?_)
             generalize wc.drew = w16 at HO_5 HB hx104_0 hx110_0 hHeld ⊢
             refine pure_ (i := 0) (N := some 18) (v := ?_) (a' := ?_) #[true, false, false, false, false, false, false, false, false, false, false, false, false, false, false, false, false, false, false, false, false, false] rfl rfl (any_of HT_.out (by kernel_rfl)) (fun _ _ _ h => h) (Or.inl ⟨by rfl, ?_⟩) ?_ ?_
             rotate_left
             ·
              intro w'
              go_simp
              with_reducible rfl
             rotate_left
             ·
              simp only [Act.put, List.setIfInBounds_toArray, List.set_cons_zero, List.set_cons_succ, i64_w, i32_w]
              rfl
             refine pure_ (i := 2) (N := some 20) (v := ?_) (a' := ?_) #[true, false, true, false, false, false, false, false, false, false, false, false, false, false, false, false, false, false, false, false, false, false] rfl rfl (any_of HT_.out (by kernel_rfl)) (fun _ _ _ h => h) (Or.inl ⟨by rfl, ?_⟩) ?_ ?_
             rotate_left
             ·
              intro w'
              go_simp
              with_reducible rfl
             rotate_left
             ·
              simp only [Act.put, List.setIfInBounds_toArray, List.set_cons_zero, List.set_cons_succ, i64_w, i32_w]
              rfl
             refine pure_ (i := 3) (N := some 21) (v := ?_) (a' := ?_) #[true, false, true, true, false, false, false, false, false, false, false, false, false, false, false, false, false, false, false, false, false, false] rfl rfl (any_of HT_.out (by kernel_rfl)) (fun _ _ _ h => h) (Or.inl ⟨by rfl, ?_⟩) ?_ ?_
             rotate_left
             ·
              intro w'
              go_simp
              with_reducible rfl
             rotate_left
             ·
              simp only [Act.put, List.setIfInBounds_toArray, List.set_cons_zero, List.set_cons_succ, i64_w, i32_w]
              rfl
             refine pure_ (i := 4) (N := some 22) (v := ?_) (a' := ?_) #[true, false, true, true, true, false, false, false, false, false, false, false, false, false, false, false, false, false, false, false, false, false] rfl rfl (any_of HT_.out (by kernel_rfl)) (fun _ _ _ h => h) (Or.inl ⟨by rfl, ?_⟩) ?_ ?_
             rotate_left
             ·
              intro w'
              go_simp
              with_reducible rfl
             rotate_left
             ·
              simp only [Act.put, List.setIfInBounds_toArray, List.set_cons_zero, List.set_cons_succ, i64_w, i32_w]
              rfl
             refine pure_ (i := 10) (N := some 28) (v := ?_) (a' := ?_) #[true, false, true, true, true, false, false, false, false, false, true, false, false, false, false, false, false, false, false, false, false, false] rfl rfl (any_of HT_.out (by kernel_rfl)) (fun _ _ _ h => h) (Or.inl ⟨by rfl, ?_⟩) ?_ ?_
             rotate_left
             ·
              intro w'
              go_simp
              with_reducible rfl
             rotate_left
             ·
              simp only [Act.put, List.setIfInBounds_toArray, List.set_cons_zero, List.set_cons_succ, i64_w, i32_w]
              rfl
             refine pure_ (i := 11) (N := some 29) (v := ?_) (a' := ?_) #[true, false, true, true, true, false, false, false, false, false, true, true, false, false, false, false, false, false, false, false, false, false] rfl rfl (any_of HT_.out (by kernel_rfl)) (fun _ _ _ h => h) (Or.inl ⟨by rfl, ?_⟩) ?_ ?_
             rotate_left
             ·
              intro w'
              go_simp
              with_reducible rfl
             rotate_left
             ·
              simp only [Act.put, List.setIfInBounds_toArray, List.set_cons_zero, List.set_cons_succ, i64_w, i32_w]
              rfl
             refine pure_ (i := 12) (N := some 30) (v := ?_) (a' := ?_) #[true, false, true, true, true, false, false, false, false, false, true, true, true, false, false, false, false, false, false, false, false, false] rfl rfl (any_of HT_.out (by kernel_rfl)) (fun _ _ _ h => h) (Or.inl ⟨by rfl, ?_⟩) ?_ ?_
             rotate_left
             ·
              intro w'
              go_simp
              with_reducible rfl
             rotate_left
             ·
              simp only [Act.put, List.setIfInBounds_toArray, List.set_cons_zero, List.set_cons_succ, i64_w, i32_w]
              rfl
             refine take_ (i := 5) (N := some 23) (v := ?_) (a' := ?_) #[true, false, true, true, true, true, false, false, false, false, true, true, true, false, false, false, false, false, false, false, false, false] rfl rfl (take_ofW HT_.out HW_.out (by kernel_rfl)) (fun _ _ _ h => h) (Or.inl ⟨by rfl, ?_⟩) hHeld ?_ ?_
             rotate_left
             ·
              rintro w' ⟨s0, s1⟩
              go_simp
              with_reducible rfl
             rotate_left
             ·
              simp only [Act.put, List.setIfInBounds_toArray, List.set_cons_zero, List.set_cons_succ, i64_w, i32_w]
              rfl
             refine take_ (i := 13) (N := some 31) (v := ?_) (a' := ?_) #[true, false, true, true, true, true, false, false, false, false, true, true, true, true, false, false, false, false, false, false, false, false] rfl rfl (take_ofW HT_.out HW_.out (by kernel_rfl)) (fun _ _ _ h => h) (Or.inl ⟨by rfl, ?_⟩) hHeld ?_ ?_
             rotate_left
             ·
              rintro w' ⟨s0, s1⟩
              go_simp
              with_reducible rfl
             rotate_left
             ·
              simp only [Act.put, List.setIfInBounds_toArray, List.set_cons_zero, List.set_cons_succ, i64_w, i32_w]
              rfl
             refine pure_ (i := 14) (N := some 32) (v := ?_) (a' := ?_) #[true, false, true, true, true, true, false, false, false, false, true, true, true, true, true, false, false, false, false, false, false, false] rfl rfl (any_of HT_.out (by kernel_rfl)) (fun _ _ _ h => h) (Or.inl ⟨by rfl, ?_⟩) ?_ ?_
             rotate_left
             ·
              intro w'
              go_simp
              with_reducible rfl
             rotate_left
             ·
              simp only [Act.put, List.setIfInBounds_toArray, List.set_cons_zero, List.set_cons_succ, i64_w, i32_w]
              rfl
             refine join_ (σ := Value × Addr × Value × Addr) 4 #[true, true, true, true, true, true, true, true, true, true, true, true, true, true, true, true, true, true, false, false, false, false] (fun s_ => [(19, s_.1), (24, .int .i64 t105), (26, .string (rdOf ByteArray.empty y101 t105)), (27, s_.2.2.1), (33, .int .i64 t111), (35, .string (rdOf ByteArray.empty y107 t111)), (25, .pointer (some (s_.2.1.add (t105).toNat))), (34, .pointer (some (s_.2.2.2.add (t111).toNat)))]) (fun s_ w' => (w'.cell? (ad104.add (x6_1).toNat) = some (.int .i64 (rd l0 x6_1)) ∧ w'.cell? (ad104.add (x6_1).toNat) = some (.int .i64 (rd l0 x6_1))) ∧ (Kd.R Kd.string 9 w' w.heap.size (fun k_ => some k_ ≠ (s_.2.2.1 : Value).ownBlock) s_.1 y101) ∧ (Kd.R Kd.string 9 w' w.heap.size (fun k_ => some k_ ≠ (s_.1 : Value).ownBlock) s_.2.2.1 y107) ∧ (Kd.R k33 33 w' w.heap.size (fun _ => True) (.slice Ao15 x5_1.length co15) x5_1) ∧ (∃ c_, (s_.1 : Value) = .slice (some s_.2.1) y101.length c_) ∧ (∃ c_, (s_.2.2.1 : Value) = .slice (some s_.2.2.2) y107.length c_) ∧ (Below w.heap.size w w')) ?_ ?_
             rotate_left
             ·
              intro hJ1_6_8_9_15_17
              refine join_ (σ := Value × Addr × Value × Addr) 5 #[true, true, true, true, true, true, true, true, true, true, true, true, true, true, true, true, true, false, false, false, false, false] (fun s_ => [(19, s_.1), (24, .int .i64 t105), (26, .string (rdOf ByteArray.empty y101 t105)), (27, s_.2.2.1), (33, .int .i64 t111), (25, .pointer (some (s_.2.1.add (t105).toNat))), (34, .pointer (some (s_.2.2.2.add (t111).toNat)))]) (fun s_ w' => (w'.cell? (ad104.add (x6_1).toNat) = some (.int .i64 (rd l0 x6_1)) ∧ w'.cell? (ad104.add (x6_1).toNat) = some (.int .i64 (rd l0 x6_1))) ∧ (Kd.R Kd.string 9 w' w.heap.size (fun k_ => some k_ ≠ (s_.2.2.1 : Value).ownBlock) s_.1 y101) ∧ (Kd.R Kd.string 9 w' w.heap.size (fun k_ => some k_ ≠ (s_.1 : Value).ownBlock) s_.2.2.1 y107) ∧ (Kd.R k33 33 w' w.heap.size (fun _ => True) (.slice Ao15 x5_1.length co15) x5_1) ∧ (∃ c_, (s_.1 : Value) = .slice (some s_.2.1) y101.length c_) ∧ (∃ c_, (s_.2.2.1 : Value) = .slice (some s_.2.2.2) y107.length c_) ∧ (Below w.heap.size w w')) ?_ ?_
              rotate_left
              ·
               intro hJ1_6_8_9_15
               refine join_ (σ := Value × Addr × Value × Addr) 5 #[true, true, true, true, true, true, true, true, false, true, true, true, true, true, true, true, true, true, false, false, false, false] (fun s_ => [(19, s_.1), (24, .int .i64 t105), (27, s_.2.2.1), (33, .int .i64 t111), (35, .string (rdOf ByteArray.empty y107 t111)), (25, .pointer (some (s_.2.1.add (t105).toNat))), (34, .pointer (some (s_.2.2.2.add (t111).toNat)))]) (fun s_ w' => (w'.cell? (ad104.add (x6_1).toNat) = some (.int .i64 (rd l0 x6_1)) ∧ w'.cell? (ad104.add (x6_1).toNat) = some (.int .i64 (rd l0 x6_1))) ∧ (Kd.R Kd.string 9 w' w.heap.size (fun k_ => some k_ ≠ (s_.2.2.1 : Value).ownBlock) s_.1 y101) ∧ (Kd.R Kd.string 9 w' w.heap.size (fun k_ => some k_ ≠ (s_.1 : Value).ownBlock) s_.2.2.1 y107) ∧ (Kd.R k33 33 w' w.heap.size (fun _ => True) (.slice Ao15 x5_1.length co15) x5_1) ∧ (∃ c_, (s_.1 : Value) = .slice (some s_.2.1) y101.length c_) ∧ (∃ c_, (s_.2.2.1 : Value) = .slice (some s_.2.2.2) y107.length c_) ∧ (Below w.heap.size w w')) ?_ ?_
               rotate_left
               ·
                intro hJ1_6_9_15_17
                refine join_ (σ := Value × Addr × Value × Addr) 7 #[true, true, true, true, true, true, true, true, true, true, true, true, true, true, true, false, false, false, false, false, false, false] (fun s_ => [(19, s_.1), (24, .int .i64 t105), (26, .string (rdOf ByteArray.empty y101 t105)), (27, s_.2.2.1), (25, .pointer (some (s_.2.1.add (t105).toNat)))]) (fun s_ w' => (w'.cell? (ad104.add (x6_1).toNat) = some (.int .i64 (rd l0 x6_1)) ∧ w'.cell? (ad104.add (x6_1).toNat) = some (.int .i64 (rd l0 x6_1))) ∧ (Kd.R Kd.string 9 w' w.heap.size (fun k_ => some k_ ≠ (s_.2.2.1 : Value).ownBlock) s_.1 y101) ∧ (Kd.R Kd.string 9 w' w.heap.size (fun k_ => some k_ ≠ (s_.1 : Value).ownBlock) s_.2.2.1 y107) ∧ (Kd.R k33 33 w' w.heap.size (fun _ => True) (.slice Ao15 x5_1.length co15) x5_1) ∧ (∃ c_, (s_.1 : Value) = .slice (some s_.2.1) y101.length c_) ∧ (∃ c_, (s_.2.2.1 : Value) = .slice (some s_.2.2.2) y107.length c_) ∧ (Below w.heap.size w w')) ?_ ?_
                rotate_left
                ·
                 intro hJ1_6_8_9
                 refine join_ (σ := Value × Addr) 7 #[true, true, true, true, true, true, true, true, true, false, true, true, true, true, true, true, false, false, false, false, false, false] (fun s_ => [(19, s_.1), (24, .int .i64 t105), (26, .string (rdOf ByteArray.empty y101 t105)), (33, .int .i64 t111), (25, .pointer (some (s_.2.add (t105).toNat)))]) (fun s_ w' => (w'.cell? (ad104.add (x6_1).toNat) = some (.int .i64 (rd l0 x6_1)) ∧ w'.cell? (ad104.add (x6_1).toNat) = some (.int .i64 (rd l0 x6_1))) ∧ (Kd.R Kd.string 9 w' w.heap.size (fun _ => True) s_.1 y101) ∧ (Kd.R k33 33 w' w.heap.size (fun _ => True) (.slice Ao15 x5_1.length co15) x5_1) ∧ (∃ c_, (s_.1 : Value) = .slice (some s_.2) y101.length c_) ∧ (Below w.heap.size w w')) ?_ ?_
                 rotate_left
                 ·
                  intro hJ1_6_8_15
                  refine join_ (σ := Value × Addr × Value × Addr) 6 #[true, true, true, true, true, true, true, true, false, true, true, true, true, true, true, true, true, false, false, false, false, false] (fun s_ => [(19, s_.1), (24, .int .i64 t105), (27, s_.2.2.1), (33, .int .i64 t111), (25, .pointer (some (s_.2.1.add (t105).toNat))), (34, .pointer (some (s_.2.2.2.add (t111).toNat)))]) (fun s_ w' => (w'.cell? (ad104.add (x6_1).toNat) = some (.int .i64 (rd l0 x6_1)) ∧ w'.cell? (ad104.add (x6_1).toNat) = some (.int .i64 (rd l0 x6_1))) ∧ (Kd.R Kd.string 9 w' w.heap.size (fun k_ => some k_ ≠ (s_.2.2.1 : Value).ownBlock) s_.1 y101) ∧ (Kd.R Kd.string 9 w' w.heap.size (fun k_ => some k_ ≠ (s_.1 : Value).ownBlock) s_.2.2.1 y107) ∧ (Kd.R k33 33 w' w.heap.size (fun _ => True) (.slice Ao15 x5_1.length co15) x5_1) ∧ (∃ c_, (s_.1 : Value) = .slice (some s_.2.1) y101.length c_) ∧ (∃ c_, (s_.2.2.1 : Value) = .slice (some s_.2.2.2) y107.length c_) ∧ (Below w.heap.size w w')) ?_ ?_
                  rotate_left
                  ·
                   intro hJ1_6_9_15
                   refine join_ (σ := Value × Addr) 7 #[true, false, true, true, true, true, true, false, false, true, true, true, true, true, true, true, true, true, false, false, false, false] (fun s_ => [(24, .int .i64 t105), (27, s_.1), (33, .int .i64 t111), (35, .string (rdOf ByteArray.empty y107 t111)), (34, .pointer (some (s_.2.add (t111).toNat)))]) (fun s_ w' => (w'.cell? (ad104.add (x6_1).toNat) = some (.int .i64 (rd l0 x6_1)) ∧ w'.cell? (ad104.add (x6_1).toNat) = some (.int .i64 (rd l0 x6_1))) ∧ (Kd.R Kd.string 9 w' w.heap.size (fun _ => True) s_.1 y107) ∧ (Kd.R k33 33 w' w.heap.size (fun _ => True) (.slice Ao15 x5_1.length co15) x5_1) ∧ (∃ c_, (s_.1 : Value) = .slice (some s_.2) y107.length c_) ∧ (Below w.heap.size w w')) ?_ ?_
                   rotate_left
                   ·
                    intro hJ6_9_15_17
                    refine join_ (σ := Value × Addr) 8 #[true, true, true, true, true, true, true, true, true, false, true, true, true, true, true, false, false, false, false, false, false, false] (fun s_ => [(19, s_.1), (24, .int .i64 t105), (26, .string (rdOf ByteArray.empty y101 t105)), (25, .pointer (some (s_.2.add (t105).toNat)))]) (fun s_ w' => (w'.cell? (ad104.add (x6_1).toNat) = some (.int .i64 (rd l0 x6_1)) ∧ w'.cell? (ad104.add (x6_1).toNat) = some (.int .i64 (rd l0 x6_1))) ∧ (Kd.R Kd.string 9 w' w.heap.size (fun _ => True) s_.1 y101) ∧ (Kd.R k33 33 w' w.heap.size (fun _ => True) (.slice Ao15 x5_1.length co15) x5_1) ∧ (∃ c_, (s_.1 : Value) = .slice (some s_.2) y101.length c_) ∧ (Below w.heap.size w w')) ?_ ?_
                    rotate_left
                    ·
                     intro hJ1_6_8
                     refine join_ (σ := Value × Addr × Value × Addr) 8 #[true, true, true, true, true, true, true, true, false, true, true, true, true, true, true, false, false, false, false, false, false, false] (fun s_ => [(19, s_.1), (24, .int .i64 t105), (27, s_.2.2.1), (25, .pointer (some (s_.2.1.add (t105).toNat)))]) (fun s_ w' => (w'.cell? (ad104.add (x6_1).toNat) = some (.int .i64 (rd l0 x6_1)) ∧ w'.cell? (ad104.add (x6_1).toNat) = some (.int .i64 (rd l0 x6_1))) ∧ (Kd.R Kd.string 9 w' w.heap.size (fun k_ => some k_ ≠ (s_.2.2.1 : Value).ownBlock) s_.1 y101) ∧ (Kd.R Kd.string 9 w' w.heap.size (fun k_ => some k_ ≠ (s_.1 : Value).ownBlock) s_.2.2.1 y107) ∧ (Kd.R k33 33 w' w.heap.size (fun _ => True) (.slice Ao15 x5_1.length co15) x5_1) ∧ (∃ c_, (s_.1 : Value) = .slice (some s_.2.1) y101.length c_) ∧ (∃ c_, (s_.2.2.1 : Value) = .slice (some s_.2.2.2) y107.length c_) ∧ (Below w.heap.size w w')) ?_ ?_
                     rotate_left
                     ·
                      intro hJ1_6_9
                      refine join_ (σ := Value × Addr) 8 #[true, true, true, true, true, true, true, true, false, false, true, true, true, true, true, true, false, false, false, false, false, false] (fun s_ => [(19, s_.1), (24, .int .i64 t105), (33, .int .i64 t111), (25, .pointer (some (s_.2.add (t105).toNat)))]) (fun s_ w' => (w'.cell? (ad104.add (x6_1).toNat) = some (.int .i64 (rd l0 x6_1)) ∧ w'.cell? (ad104.add (x6_1).toNat) = some (.int .i64 (rd l0 x6_1))) ∧ (Kd.R Kd.string 9 w' w.heap.size (fun _ => True) s_.1 y101) ∧ (Kd.R k33 33 w' w.heap.size (fun _ => True) (.slice Ao15 x5_1.length co15) x5_1) ∧ (∃ c_, (s_.1 : Value) = .slice (some s_.2) y101.length c_) ∧ (Below w.heap.size w w')) ?_ ?_
                      rotate_left
                      ·
                       intro hJ1_6_15
                       refine join_ (σ := Value × Addr) 8 #[true, false, true, true, true, true, true, false, false, true, true, true, true, true, true, true, true, false, false, false, false, false] (fun s_ => [(24, .int .i64 t105), (27, s_.1), (33, .int .i64 t111), (34, .pointer (some (s_.2.add (t111).toNat)))]) (fun s_ w' => (w'.cell? (ad104.add (x6_1).toNat) = some (.int .i64 (rd l0 x6_1)) ∧ w'.cell? (ad104.add (x6_1).toNat) = some (.int .i64 (rd l0 x6_1))) ∧ (Kd.R Kd.string 9 w' w.heap.size (fun _ => True) s_.1 y107) ∧ (Kd.R k33 33 w' w.heap.size (fun _ => True) (.slice Ao15 x5_1.length co15) x5_1) ∧ (∃ c_, (s_.1 : Value) = .slice (some s_.2) y107.length c_) ∧ (Below w.heap.size w w')) ?_ ?_
                       rotate_left
                       ·
                        intro hJ6_9_15
                        refine join_ (σ := Value × Addr) 9 #[true, true, true, true, true, true, true, true, false, false, true, true, true, true, true, false, false, false, false, false, false, false] (fun s_ => [(19, s_.1), (24, .int .i64 t105), (25, .pointer (some (s_.2.add (t105).toNat)))]) (fun s_ w' => (w'.cell? (ad104.add (x6_1).toNat) = some (.int .i64 (rd l0 x6_1)) ∧ w'.cell? (ad104.add (x6_1).toNat) = some (.int .i64 (rd l0 x6_1))) ∧ (Kd.R Kd.string 9 w' w.heap.size (fun _ => True) s_.1 y101) ∧ (Kd.R k33 33 w' w.heap.size (fun _ => True) (.slice Ao15 x5_1.length co15) x5_1) ∧ (∃ c_, (s_.1 : Value) = .slice (some s_.2) y101.length c_) ∧ (Below w.heap.size w w')) ?_ ?_
                        rotate_left
                        ·
                         intro hJ1_6
                         refine join_ (σ := Value × Addr × Value × Addr) 10 #[true, true, true, true, true, true, false, false, false, true, true, true, true, true, true, false, false, false, false, false, false, false] (fun s_ => [(19, s_.1), (27, s_.2.2.1)]) (fun s_ w' => (w'.cell? (ad104.add (x6_1).toNat) = some (.int .i64 (rd l0 x6_1)) ∧ w'.cell? (ad104.add (x6_1).toNat) = some (.int .i64 (rd l0 x6_1))) ∧ (Kd.R Kd.string 9 w' w.heap.size (fun k_ => some k_ ≠ (s_.2.2.1 : Value).ownBlock) s_.1 y101) ∧ (Kd.R Kd.string 9 w' w.heap.size (fun k_ => some k_ ≠ (s_.1 : Value).ownBlock) s_.2.2.1 y107) ∧ (Kd.R k33 33 w' w.heap.size (fun _ => True) (.slice Ao15 x5_1.length co15) x5_1) ∧ (∃ c_, (s_.1 : Value) = .slice (some s_.2.1) y101.length c_) ∧ (∃ c_, (s_.2.2.1 : Value) = .slice (some s_.2.2.2) y107.length c_) ∧ (Below w.heap.size w w')) ?_ ?_
                         rotate_left
                         ·
                          intro hJ1_9
                          refine join_ (σ := Value × Addr) 10 #[true, false, true, true, true, true, true, false, false, true, true, true, true, true, true, false, false, false, false, false, false, false] (fun s_ => [(24, .int .i64 t105), (27, s_.1)]) (fun s_ w' => (w'.cell? (ad104.add (x6_1).toNat) = some (.int .i64 (rd l0 x6_1)) ∧ w'.cell? (ad104.add (x6_1).toNat) = some (.int .i64 (rd l0 x6_1))) ∧ (Kd.R Kd.string 9 w' w.heap.size (fun _ => True) s_.1 y107) ∧ (Kd.R k33 33 w' w.heap.size (fun _ => True) (.slice Ao15 x5_1.length co15) x5_1) ∧ (∃ c_, (s_.1 : Value) = .slice (some s_.2) y107.length c_) ∧ (Below w.heap.size w w')) ?_ ?_
                          rotate_left
                          ·
                           intro hJ6_9
                           refine join_ (σ := Unit) 10 #[true, false, true, true, true, true, true, false, false, false, true, true, true, true, true, true, false, false, false, false, false, false] (fun s_ => [(24, .int .i64 t105), (33, .int .i64 t111)]) (fun s_ w' => (w'.cell? (ad104.add (x6_1).toNat) = some (.int .i64 (rd l0 x6_1)) ∧ w'.cell? (ad104.add (x6_1).toNat) = some (.int .i64 (rd l0 x6_1))) ∧ (Kd.R k33 33 w' w.heap.size (fun _ => True) (.slice Ao15 x5_1.length co15) x5_1) ∧ (Below w.heap.size w w')) ?_ ?_
                           rotate_left
                           ·
                            intro hJ6_15
                            refine join_ (σ := Value × Addr) 11 #[true, true, true, true, true, true, false, false, false, false, true, true, true, true, true, false, false, false, false, false, false, false] (fun s_ => [(19, s_.1)]) (fun s_ w' => (w'.cell? (ad104.add (x6_1).toNat) = some (.int .i64 (rd l0 x6_1)) ∧ w'.cell? (ad104.add (x6_1).toNat) = some (.int .i64 (rd l0 x6_1))) ∧ (Kd.R Kd.string 9 w' w.heap.size (fun _ => True) s_.1 y101) ∧ (Kd.R k33 33 w' w.heap.size (fun _ => True) (.slice Ao15 x5_1.length co15) x5_1) ∧ (∃ c_, (s_.1 : Value) = .slice (some s_.2) y101.length c_) ∧ (Below w.heap.size w w')) ?_ ?_
                            rotate_left
                            ·
                             intro hJ1
                             refine join_ (σ := Unit) 11 #[true, false, true, true, true, true, true, false, false, false, true, true, true, true, true, false, false, false, false, false, false, false] (fun s_ => [(24, .int .i64 t105)]) (fun s_ w' => (w'.cell? (ad104.add (x6_1).toNat) = some (.int .i64 (rd l0 x6_1)) ∧ w'.cell? (ad104.add (x6_1).toNat) = some (.int .i64 (rd l0 x6_1))) ∧ (Kd.R k33 33 w' w.heap.size (fun _ => True) (.slice Ao15 x5_1.length co15) x5_1) ∧ (Below w.heap.size w w')) ?_ ?_
                             rotate_left
                             ·
                              intro hJ6
                              refine join_ (σ := Value × Addr) 11 #[true, false, true, true, true, true, false, false, false, true, true, true, true, true, true, false, false, false, false, false, false, false] (fun s_ => [(27, s_.1)]) (fun s_ w' => (w'.cell? (ad104.add (x6_1).toNat) = some (.int .i64 (rd l0 x6_1)) ∧ w'.cell? (ad104.add (x6_1).toNat) = some (.int .i64 (rd l0 x6_1))) ∧ (Kd.R Kd.string 9 w' w.heap.size (fun _ => True) s_.1 y107) ∧ (Kd.R k33 33 w' w.heap.size (fun _ => True) (.slice Ao15 x5_1.length co15) x5_1) ∧ (∃ c_, (s_.1 : Value) = .slice (some s_.2) y107.length c_) ∧ (Below w.heap.size w w')) ?_ ?_
                              rotate_left
                              ·
                               intro hJ9
                               refine three_ (i := 1) (j := 6) (k := 9) (Ni := some 19) (Nj := some 24) (Nk := some 27) #[true, true, true, true, true, true, false, false, false, false, true, true, true, true, true, false, false, false, false, false, false, false] #[true, false, true, true, true, true, true, false, false, false, true, true, true, true, true, false, false, false, false, false, false, false] #[true, false, true, true, true, true, false, false, false, true, true, true, true, true, true, false, false, false, false, false, false, false] rfl rfl rfl rfl rfl rfl (three_of HT_.out (by kernel_rfl)) (by decide) (by decide) (by decide) (fun K hK => ?_) (fun K hK => ?_) (fun K hK => ?_)
                               ·
                                skip
                                refine Kd.R_lit_step Kd.string _ 9 ?hg (N := 19) ?hd (xs := ([(⟨#[99, 111, 108, 111, 114]⟩ : ByteArray), (⟨#[119, 105, 100, 116, 104]⟩ : ByteArray), (⟨#[97, 45, 98]⟩ : ByteArray), (⟨#[120, 49]⟩ : ByteArray)] : List ByteArray)) (inner := [.string (⟨#[99, 111, 108, 111, 114]⟩ : ByteArray), .string (⟨#[119, 105, 100, 116, 104]⟩ : ByteArray), .string (⟨#[97, 45, 98]⟩ : ByteArray), .string (⟨#[120, 49]⟩ : ByteArray)]) (ok := fun _ => True) (okp := fun _ => True) ?hr ?hp (fun _ hk => hk) trivial (Below.refl _ _) (Nat.le_refl _) (by simp) ?_; (case hd => rfl); (case hg => rfl); (case hr => first | (go_simp; done) | (go_simp; rfl)); (case hp => exact (Reps.one (show Kd.M Kd.string _ _ _ (⟨#[99, 111, 108, 111, 114]⟩ : ByteArray) [.string (⟨#[99, 111, 108, 111, 114]⟩ : ByteArray)] from rfl) (Reps.one (show Kd.M Kd.string _ _ _ (⟨#[119, 105, 100, 116, 104]⟩ : ByteArray) [.string (⟨#[119, 105, 100, 116, 104]⟩ : ByteArray)] from rfl) (Reps.one (show Kd.M Kd.string _ _ _ (⟨#[97, 45, 98]⟩ : ByteArray) [.string (⟨#[97, 45, 98]⟩ : ByteArray)] from rfl) (Reps.one (show Kd.M Kd.string _ _ _ (⟨#[120, 49]⟩ : ByteArray) [.string (⟨#[120, 49]⟩ : ByteArray)] from rfl) (Reps.none _ _))))))
                                intro v102 w17 ho18 hb hg_ hnew_
                                clear hg_ hnew_
                                (first | rw [← Ny101.out] at ho18 | (simp only [Int.reduceToNat] at ho18; rw [← Ny101.out] at ho18))
                                have n0_ := Aside0.mk (Kd.R_below (by (with_reducible repeat (first | apply Kd.R_alloc | apply Kd.R_drewN | apply Kd.R_drew)); exact HO_5.out) hb)
                                have n1_ := Aside0.mk (Kd.R_lower ho18 (below_size (by repeat (first | (with_reducible first | exact HB.out | apply below_alloc | apply pw_below_drewN | apply below_drew1) | exact HB.out))))
                                have n2_ := Aside0.mk (below_step (by repeat (first | (with_reducible first | exact HB.out | apply below_alloc | apply pw_below_drewN | apply below_drew1) | exact HB.out)) hb)
                                clear HO_5
                                clear HB
                                have HO_5 := n0_
                                have HO103 := n1_
                                have HB := n2_
                                clear n0_ n1_ n2_
                                clear hb ho18
                                obtain ⟨Ao19, co19, eo19⟩ := Kd.R_slice HO103.out
                                subst eo19
                                obtain ⟨ado19, fo19, _⟩ := Kd.at_string (Kd.R_reads' HO103.out).2.2 0 (by decide) (by rw [Ny101.out]; simp)
                                cases fo19
                                refine hK.out _ _ ⟨((HB.out.cell (World.block_lt_of_cell? w _ hw104_0)).trans hw104_0), ((HB.out.cell (World.block_lt_of_cell? w _ hw110_0)).trans hw110_0)⟩ (fun hHeld => ?_)
                                clear hK K
                                refine norm_ (a' := ?_) ?_ ?_
                                rotate_left
                                ·
                                 show Act.put _ (some 19) _ = _
                                 simp only [Act.put, List.setIfInBounds_toArray, List.set_cons_zero, List.set_cons_succ, i64_w, i32_w]
                                 rfl
                                exact norm_ (by first | (simp only [putAll, Act.put, List.setIfInBounds_toArray, List.set_cons_zero, List.set_cons_succ]; done) | (simp only [putAll, Act.put, List.setIfInBounds_toArray, List.set_cons_zero, List.set_cons_succ]; rfl)) (hJ1 (.slice (some ado19) y101.length co19, ado19) _ ⟨hHeld, (by (with_reducible repeat (first | apply Kd.R_alloc | apply Kd.R_drewN | apply Kd.R_drew)); exact HO103.out), (by (with_reducible repeat (first | apply Kd.R_alloc | apply Kd.R_drewN | apply Kd.R_drew)); exact HO_5.out), ⟨_, rfl⟩, (by repeat (first | (with_reducible first | exact HB.out | apply below_alloc | apply pw_below_drewN | apply below_drew1) | exact HB.out))⟩)
                               ·
                                skip
                                refine goes_ Tryd.func14 (by kernel_rfl) rfl #[.int .i64 (rd l0 x6_1), .int .i64 4] (by rfl) rfl rfl (by (try simp only [List.map_toArray, List.map_cons, List.map_nil]); first | done | rfl | (simp only [List.length_drop, List.length_take]; rfl)) ?_
                                with_reducible refine (bobbinetkeep_Picked.calls (rd l0 x6_1) 4 t105 _ A8.out).mono ?_
                                rintro e w' ⟨rfl, ⟨nd, rfl⟩⟩
                                refine ⟨_, rfl, ?_⟩
                                refine hK.out _ _ ⟨((HB.out.cell (World.block_lt_of_cell? w _ hw104_0)).trans hw104_0), ((HB.out.cell (World.block_lt_of_cell? w _ hw110_0)).trans hw110_0)⟩ (fun hHeld => ?_)
                                clear hK K
                                refine norm_ (a' := ?_) ?_ ?_
                                rotate_left
                                ·
                                 show Act.put _ (some 24) _ = _
                                 simp only [Act.put, List.setIfInBounds_toArray, List.set_cons_zero, List.set_cons_succ, i64_w, i32_w]
                                 rfl
                                exact norm_ (by first | (simp only [putAll, Act.put, List.setIfInBounds_toArray, List.set_cons_zero, List.set_cons_succ]; done) | (simp only [putAll, Act.put, List.setIfInBounds_toArray, List.set_cons_zero, List.set_cons_succ]; rfl)) (hJ6 () _ ⟨hHeld, (by (with_reducible repeat (first | apply Kd.R_alloc | apply Kd.R_drewN | apply Kd.R_drew)); exact HO_5.out), (by repeat (first | (with_reducible first | exact HB.out | apply below_alloc | apply pw_below_drewN | apply below_drew1) | exact HB.out))⟩)
                               ·
                                skip
                                refine Kd.R_lit_step Kd.string _ 9 ?hg (N := 27) ?hd (xs := ([(⟨#[114, 101, 100]⟩ : ByteArray), (⟨#[49, 112, 120, 32, 50, 112, 120]⟩ : ByteArray), (⟨#[117, 114, 108, 40, 97, 59, 98, 41]⟩ : ByteArray), (⟨#[34, 59, 58, 34]⟩ : ByteArray), (⟨#[97, 58, 98]⟩ : ByteArray), (⟨#[102, 40, 103, 40, 59, 41, 41]⟩ : ByteArray), (⟨#[39, 120, 39]⟩ : ByteArray)] : List ByteArray)) (inner := [.string (⟨#[114, 101, 100]⟩ : ByteArray), .string (⟨#[49, 112, 120, 32, 50, 112, 120]⟩ : ByteArray), .string (⟨#[117, 114, 108, 40, 97, 59, 98, 41]⟩ : ByteArray), .string (⟨#[34, 59, 58, 34]⟩ : ByteArray), .string (⟨#[97, 58, 98]⟩ : ByteArray), .string (⟨#[102, 40, 103, 40, 59, 41, 41]⟩ : ByteArray), .string (⟨#[39, 120, 39]⟩ : ByteArray)]) (ok := fun _ => True) (okp := fun _ => True) ?hr ?hp (fun _ hk => hk) trivial (Below.refl _ _) (Nat.le_refl _) (by simp) ?_; (case hd => rfl); (case hg => rfl); (case hr => first | (go_simp; done) | (go_simp; rfl)); (case hp => exact (Reps.one (show Kd.M Kd.string _ _ _ (⟨#[114, 101, 100]⟩ : ByteArray) [.string (⟨#[114, 101, 100]⟩ : ByteArray)] from rfl) (Reps.one (show Kd.M Kd.string _ _ _ (⟨#[49, 112, 120, 32, 50, 112, 120]⟩ : ByteArray) [.string (⟨#[49, 112, 120, 32, 50, 112, 120]⟩ : ByteArray)] from rfl) (Reps.one (show Kd.M Kd.string _ _ _ (⟨#[117, 114, 108, 40, 97, 59, 98, 41]⟩ : ByteArray) [.string (⟨#[117, 114, 108, 40, 97, 59, 98, 41]⟩ : ByteArray)] from rfl) (Reps.one (show Kd.M Kd.string _ _ _ (⟨#[34, 59, 58, 34]⟩ : ByteArray) [.string (⟨#[34, 59, 58, 34]⟩ : ByteArray)] from rfl) (Reps.one (show Kd.M Kd.string _ _ _ (⟨#[97, 58, 98]⟩ : ByteArray) [.string (⟨#[97, 58, 98]⟩ : ByteArray)] from rfl) (Reps.one (show Kd.M Kd.string _ _ _ (⟨#[102, 40, 103, 40, 59, 41, 41]⟩ : ByteArray) [.string (⟨#[102, 40, 103, 40, 59, 41, 41]⟩ : ByteArray)] from rfl) (Reps.one (show Kd.M Kd.string _ _ _ (⟨#[39, 120, 39]⟩ : ByteArray) [.string (⟨#[39, 120, 39]⟩ : ByteArray)] from rfl) (Reps.none _ _)))))))))
                                intro v108 w17 ho18 hb hg_ hnew_
                                clear hg_ hnew_
                                (first | rw [← Ny107.out] at ho18 | (simp only [Int.reduceToNat] at ho18; rw [← Ny107.out] at ho18))
                                have n0_ := Aside0.mk (Kd.R_below (by (with_reducible repeat (first | apply Kd.R_alloc | apply Kd.R_drewN | apply Kd.R_drew)); exact HO_5.out) hb)
                                have n1_ := Aside0.mk (Kd.R_lower ho18 (below_size (by repeat (first | (with_reducible first | exact HB.out | apply below_alloc | apply pw_below_drewN | apply below_drew1) | exact HB.out))))
                                have n2_ := Aside0.mk (below_step (by repeat (first | (with_reducible first | exact HB.out | apply below_alloc | apply pw_below_drewN | apply below_drew1) | exact HB.out)) hb)
                                clear HO_5
                                clear HB
                                have HO_5 := n0_
                                have HO109 := n1_
                                have HB := n2_
                                clear n0_ n1_ n2_
                                clear hb ho18
                                obtain ⟨Ao19, co19, eo19⟩ := Kd.R_slice HO109.out
                                subst eo19
                                obtain ⟨ado19, fo19, _⟩ := Kd.at_string (Kd.R_reads' HO109.out).2.2 0 (by decide) (by rw [Ny107.out]; simp)
                                cases fo19
                                refine hK.out _ _ ⟨((HB.out.cell (World.block_lt_of_cell? w _ hw104_0)).trans hw104_0), ((HB.out.cell (World.block_lt_of_cell? w _ hw110_0)).trans hw110_0)⟩ (fun hHeld => ?_)
                                clear hK K
                                refine norm_ (a' := ?_) ?_ ?_
                                rotate_left
                                ·
                                 show Act.put _ (some 27) _ = _
                                 simp only [Act.put, List.setIfInBounds_toArray, List.set_cons_zero, List.set_cons_succ, i64_w, i32_w]
                                 rfl
                                exact norm_ (by first | (simp only [putAll, Act.put, List.setIfInBounds_toArray, List.set_cons_zero, List.set_cons_succ]; done) | (simp only [putAll, Act.put, List.setIfInBounds_toArray, List.set_cons_zero, List.set_cons_succ]; rfl)) (hJ9 (.slice (some ado19) y107.length co19, ado19) _ ⟨hHeld, (by (with_reducible repeat (first | apply Kd.R_alloc | apply Kd.R_drewN | apply Kd.R_drew)); exact HO109.out), (by (with_reducible repeat (first | apply Kd.R_alloc | apply Kd.R_drewN | apply Kd.R_drew)); exact HO_5.out), ⟨_, rfl⟩, (by repeat (first | (with_reducible first | exact HB.out | apply below_alloc | apply pw_below_drewN | apply below_drew1) | exact HB.out))⟩)
                              ·
                               skip
                               rintro ⟨v108, adz_v108⟩ w20 ⟨hS_, h0_, h1_, h2_, h3_⟩
                               have n0_ : Aside0 (Kd.R Kd.string 9 w20 w.heap.size (fun _ => True) v108 y107) := ⟨h0_⟩
                               have n1_ : Aside0 (Kd.R k33 33 w20 w.heap.size (fun _ => True) (.slice Ao15 x5_1.length co15) x5_1) := ⟨h1_⟩
                               have n2_ : Aside0 (∃ c_, (v108 : Value) = .slice (some adz_v108) y107.length c_) := ⟨h2_⟩
                               have n3_ : Aside0 (Below w.heap.size w w20) := ⟨h3_⟩
                               clear HO_5
                               clear HB
                               clear h0_ h1_ h2_ h3_
                               have HO109 := n0_
                               have HO_5 := n1_
                               have HA_HO109 := n2_
                               have HB := n3_
                               clear n0_ n1_ n2_ n3_
                               have hHeld : w20.cell? (ad104.add (x6_1).toNat) = some (.int .i64 (rd l0 x6_1)) ∧ w20.cell? (ad104.add (x6_1).toNat) = some (.int .i64 (rd l0 x6_1)) := hS_
                               obtain ⟨co21, eo21⟩ := HA_HO109.out
                               clear HA_HO109
                               subst eo21
                               refine norm_ (a' := ?_) ?_ ?_
                               rotate_left
                               ·
                                simp only [putAll, Act.put, List.setIfInBounds_toArray, List.set_cons_zero, List.set_cons_succ]
                                rfl
                               refine two_ (i := 1) (j := 6) (Ni := some 19) (Nj := some 24) #[true, true, true, true, true, true, false, false, false, true, true, true, true, true, true, false, false, false, false, false, false, false] #[true, false, true, true, true, true, true, false, false, true, true, true, true, true, true, false, false, false, false, false, false, false] rfl rfl rfl rfl (two_of HT_.out (by kernel_rfl)) (by decide) (by decide) (fun K hK => ?_) (fun K hK => ?_)
                               ·
                                skip
                                refine Kd.R_lit_step Kd.string _ 9 ?hg (N := 19) ?hd (xs := ([(⟨#[99, 111, 108, 111, 114]⟩ : ByteArray), (⟨#[119, 105, 100, 116, 104]⟩ : ByteArray), (⟨#[97, 45, 98]⟩ : ByteArray), (⟨#[120, 49]⟩ : ByteArray)] : List ByteArray)) (inner := [.string (⟨#[99, 111, 108, 111, 114]⟩ : ByteArray), .string (⟨#[119, 105, 100, 116, 104]⟩ : ByteArray), .string (⟨#[97, 45, 98]⟩ : ByteArray), .string (⟨#[120, 49]⟩ : ByteArray)]) (ok := fun _ => True) (okp := fun _ => True) ?hr ?hp (fun _ hk => hk) trivial (Below.refl _ _) (Nat.le_refl _) (by simp) ?_; (case hd => rfl); (case hg => rfl); (case hr => first | (go_simp; done) | (go_simp; rfl)); (case hp => exact (Reps.one (show Kd.M Kd.string _ _ _ (⟨#[99, 111, 108, 111, 114]⟩ : ByteArray) [.string (⟨#[99, 111, 108, 111, 114]⟩ : ByteArray)] from rfl) (Reps.one (show Kd.M Kd.string _ _ _ (⟨#[119, 105, 100, 116, 104]⟩ : ByteArray) [.string (⟨#[119, 105, 100, 116, 104]⟩ : ByteArray)] from rfl) (Reps.one (show Kd.M Kd.string _ _ _ (⟨#[97, 45, 98]⟩ : ByteArray) [.string (⟨#[97, 45, 98]⟩ : ByteArray)] from rfl) (Reps.one (show Kd.M Kd.string _ _ _ (⟨#[120, 49]⟩ : ByteArray) [.string (⟨#[120, 49]⟩ : ByteArray)] from rfl) (Reps.none _ _))))))
                                intro v102 w22 ho23 hb hg_ hnew_
                                clear hg_ hnew_
                                (first | rw [← Ny101.out] at ho23 | (simp only [Int.reduceToNat] at ho23; rw [← Ny101.out] at ho23))
                                have n0_ := Aside0.mk (Kd.R_below (by (with_reducible repeat (first | apply Kd.R_alloc | apply Kd.R_drewN | apply Kd.R_drew)); exact HO_5.out) hb)
                                have n1_ := Aside0.mk (Kd.R_elder' (by (with_reducible repeat (first | apply Kd.R_alloc | apply Kd.R_drewN | apply Kd.R_drew)); exact HO109.out) (Kd.R_base ho23) hb)
                                have n2_ := Aside0.mk (Kd.R_lower (Kd.R_new' ho23 (Kd.R_lt (by (with_reducible repeat (first | apply Kd.R_alloc | apply Kd.R_drewN | apply Kd.R_drew)); exact HO109.out))) (below_size (by repeat (first | (with_reducible first | exact HB.out | apply below_alloc | apply pw_below_drewN | apply below_drew1) | exact HB.out))))
                                have n3_ := Aside0.mk (below_step (by repeat (first | (with_reducible first | exact HB.out | apply below_alloc | apply pw_below_drewN | apply below_drew1) | exact HB.out)) hb)
                                clear HO_5
                                clear HO109
                                clear HB
                                have HO_5 := n0_
                                have HO109 := n1_
                                have HO103 := n2_
                                have HB := n3_
                                clear n0_ n1_ n2_ n3_
                                clear hb ho23
                                obtain ⟨Ao24, co24, eo24⟩ := Kd.R_slice HO103.out
                                subst eo24
                                obtain ⟨ado24, fo24, _⟩ := Kd.at_string (Kd.R_reads' HO103.out).2.2 0 (by decide) (by rw [Ny101.out]; simp)
                                cases fo24
                                refine hK.out _ _ ⟨((HB.out.cell (World.block_lt_of_cell? w _ hw104_0)).trans hw104_0), ((HB.out.cell (World.block_lt_of_cell? w _ hw110_0)).trans hw110_0)⟩ (fun hHeld => ?_)
                                clear hK K
                                refine norm_ (a' := ?_) ?_ ?_
                                rotate_left
                                ·
                                 show Act.put _ (some 19) _ = _
                                 simp only [Act.put, List.setIfInBounds_toArray, List.set_cons_zero, List.set_cons_succ, i64_w, i32_w]
                                 rfl
                                exact norm_ (by first | (simp only [putAll, Act.put, List.setIfInBounds_toArray, List.set_cons_zero, List.set_cons_succ]; done) | (simp only [putAll, Act.put, List.setIfInBounds_toArray, List.set_cons_zero, List.set_cons_succ]; rfl)) (hJ1_9 (.slice (some ado24) y101.length co24, ado24, .slice (some adz_v108) y107.length co21, adz_v108) _ ⟨hHeld, (by (with_reducible repeat (first | apply Kd.R_alloc | apply Kd.R_drewN | apply Kd.R_drew)); exact Kd.R_mono HO103.out (fun _ hk => hk.2)), (by (with_reducible repeat (first | apply Kd.R_alloc | apply Kd.R_drewN | apply Kd.R_drew)); exact Kd.R_mono HO109.out (fun _ hk => hk.2)), (by (with_reducible repeat (first | apply Kd.R_alloc | apply Kd.R_drewN | apply Kd.R_drew)); exact HO_5.out), ⟨_, rfl⟩, ⟨_, rfl⟩, (by repeat (first | (with_reducible first | exact HB.out | apply below_alloc | apply pw_below_drewN | apply below_drew1) | exact HB.out))⟩)
                               ·
                                skip
                                refine goes_ Tryd.func14 (by kernel_rfl) rfl #[.int .i64 (rd l0 x6_1), .int .i64 4] (by rfl) rfl rfl (by (try simp only [List.map_toArray, List.map_cons, List.map_nil]); first | done | rfl | (simp only [List.length_drop, List.length_take]; rfl)) ?_
                                with_reducible refine (bobbinetkeep_Picked.calls (rd l0 x6_1) 4 t105 _ A8.out).mono ?_
                                rintro e w' ⟨rfl, ⟨nd, rfl⟩⟩
                                refine ⟨_, rfl, ?_⟩
                                refine hK.out _ _ ⟨((HB.out.cell (World.block_lt_of_cell? w _ hw104_0)).trans hw104_0), ((HB.out.cell (World.block_lt_of_cell? w _ hw110_0)).trans hw110_0)⟩ (fun hHeld => ?_)
                                clear hK K
                                refine norm_ (a' := ?_) ?_ ?_
                                rotate_left
                                ·
                                 show Act.put _ (some 24) _ = _
                                 simp only [Act.put, List.setIfInBounds_toArray, List.set_cons_zero, List.set_cons_succ, i64_w, i32_w]
                                 rfl
                                exact norm_ (by first | (simp only [putAll, Act.put, List.setIfInBounds_toArray, List.set_cons_zero, List.set_cons_succ]; done) | (simp only [putAll, Act.put, List.setIfInBounds_toArray, List.set_cons_zero, List.set_cons_succ]; rfl)) (hJ6_9 (.slice (some adz_v108) y107.length co21, adz_v108) _ ⟨hHeld, (by (with_reducible repeat (first | apply Kd.R_alloc | apply Kd.R_drewN | apply Kd.R_drew)); exact HO109.out), (by (with_reducible repeat (first | apply Kd.R_alloc | apply Kd.R_drewN | apply Kd.R_drew)); exact HO_5.out), ⟨_, rfl⟩, (by repeat (first | (with_reducible first | exact HB.out | apply below_alloc | apply pw_below_drewN | apply below_drew1) | exact HB.out))⟩)
                             ·
                              skip
                              rintro _ w17 ⟨hS_, h0_, h1_⟩
                              have n0_ : Aside0 (Kd.R k33 33 w17 w.heap.size (fun _ => True) (.slice Ao15 x5_1.length co15) x5_1) := ⟨h0_⟩
                              have n1_ : Aside0 (Below w.heap.size w w17) := ⟨h1_⟩
                              clear HO_5
                              clear HB
                              clear h0_ h1_
                              have HO_5 := n0_
                              have HB := n1_
                              clear n0_ n1_
                              have hHeld : w17.cell? (ad104.add (x6_1).toNat) = some (.int .i64 (rd l0 x6_1)) ∧ w17.cell? (ad104.add (x6_1).toNat) = some (.int .i64 (rd l0 x6_1)) := hS_
                              refine norm_ (a' := ?_) ?_ ?_
                              rotate_left
                              ·
                               simp only [putAll, Act.put, List.setIfInBounds_toArray, List.set_cons_zero, List.set_cons_succ]
                               rfl
                              refine three_ (i := 1) (j := 9) (k := 15) (Ni := some 19) (Nj := some 27) (Nk := some 33) #[true, true, true, true, true, true, true, false, false, false, true, true, true, true, true, false, false, false, false, false, false, false] #[true, false, true, true, true, true, true, false, false, true, true, true, true, true, true, false, false, false, false, false, false, false] #[true, false, true, true, true, true, true, false, false, false, true, true, true, true, true, true, false, false, false, false, false, false] rfl rfl rfl rfl rfl rfl (three_of HT_.out (by kernel_rfl)) (by decide) (by decide) (by decide) (fun K hK => ?_) (fun K hK => ?_) (fun K hK => ?_)
                              ·
                               skip
                               refine Kd.R_lit_step Kd.string _ 9 ?hg (N := 19) ?hd (xs := ([(⟨#[99, 111, 108, 111, 114]⟩ : ByteArray), (⟨#[119, 105, 100, 116, 104]⟩ : ByteArray), (⟨#[97, 45, 98]⟩ : ByteArray), (⟨#[120, 49]⟩ : ByteArray)] : List ByteArray)) (inner := [.string (⟨#[99, 111, 108, 111, 114]⟩ : ByteArray), .string (⟨#[119, 105, 100, 116, 104]⟩ : ByteArray), .string (⟨#[97, 45, 98]⟩ : ByteArray), .string (⟨#[120, 49]⟩ : ByteArray)]) (ok := fun _ => True) (okp := fun _ => True) ?hr ?hp (fun _ hk => hk) trivial (Below.refl _ _) (Nat.le_refl _) (by simp) ?_; (case hd => rfl); (case hg => rfl); (case hr => first | (go_simp; done) | (go_simp; rfl)); (case hp => exact (Reps.one (show Kd.M Kd.string _ _ _ (⟨#[99, 111, 108, 111, 114]⟩ : ByteArray) [.string (⟨#[99, 111, 108, 111, 114]⟩ : ByteArray)] from rfl) (Reps.one (show Kd.M Kd.string _ _ _ (⟨#[119, 105, 100, 116, 104]⟩ : ByteArray) [.string (⟨#[119, 105, 100, 116, 104]⟩ : ByteArray)] from rfl) (Reps.one (show Kd.M Kd.string _ _ _ (⟨#[97, 45, 98]⟩ : ByteArray) [.string (⟨#[97, 45, 98]⟩ : ByteArray)] from rfl) (Reps.one (show Kd.M Kd.string _ _ _ (⟨#[120, 49]⟩ : ByteArray) [.string (⟨#[120, 49]⟩ : ByteArray)] from rfl) (Reps.none _ _))))))
                               intro v102 w18 ho19 hb hg_ hnew_
                               clear hg_ hnew_
                               (first | rw [← Ny101.out] at ho19 | (simp only [Int.reduceToNat] at ho19; rw [← Ny101.out] at ho19))
                               have n0_ := Aside0.mk (Kd.R_below (by (with_reducible repeat (first | apply Kd.R_alloc | apply Kd.R_drewN | apply Kd.R_drew)); exact HO_5.out) hb)
                               have n1_ := Aside0.mk (Kd.R_lower ho19 (below_size (by repeat (first | (with_reducible first | exact HB.out | apply below_alloc | apply pw_below_drewN | apply below_drew1) | exact HB.out))))
                               have n2_ := Aside0.mk (below_step (by repeat (first | (with_reducible first | exact HB.out | apply below_alloc | apply pw_below_drewN | apply below_drew1) | exact HB.out)) hb)
                               clear HO_5
                               clear HB
                               have HO_5 := n0_
                               have HO103 := n1_
                               have HB := n2_
                               clear n0_ n1_ n2_
                               clear hb ho19
                               obtain ⟨Ao20, co20, eo20⟩ := Kd.R_slice HO103.out
                               subst eo20
                               obtain ⟨ado20, fo20, _⟩ := Kd.at_string (Kd.R_reads' HO103.out).2.2 0 (by decide) (by rw [Ny101.out]; simp)
                               cases fo20
                               refine hK.out _ _ ⟨((HB.out.cell (World.block_lt_of_cell? w _ hw104_0)).trans hw104_0), ((HB.out.cell (World.block_lt_of_cell? w _ hw110_0)).trans hw110_0)⟩ (fun hHeld => ?_)
                               clear hK K
                               refine norm_ (a' := ?_) ?_ ?_
                               rotate_left
                               ·
                                show Act.put _ (some 19) _ = _
                                simp only [Act.put, List.setIfInBounds_toArray, List.set_cons_zero, List.set_cons_succ, i64_w, i32_w]
                                rfl
                               refine pure_ (i := 7) (N := some 25) (v := ?_) (a' := ?_) #[true, true, true, true, true, true, true, true, false, false, true, true, true, true, true, false, false, false, false, false, false, false] rfl rfl (any_of HT_.out (by kernel_rfl)) (fun _ _ _ h => h) (Or.inl ⟨by rfl, ?_⟩) ?_ ?_
                               rotate_left
                               ·
                                intro w'
                                go_simp
                                with_reducible rfl
                               rotate_left
                               ·
                                simp only [Act.put, List.setIfInBounds_toArray, List.set_cons_zero, List.set_cons_succ, i64_w, i32_w]
                                rfl
                               exact norm_ (by first | (simp only [putAll, Act.put, List.setIfInBounds_toArray, List.set_cons_zero, List.set_cons_succ]; done) | (simp only [putAll, Act.put, List.setIfInBounds_toArray, List.set_cons_zero, List.set_cons_succ]; rfl)) (hJ1_6 (.slice (some ado20) y101.length co20, ado20) _ ⟨hHeld, (by (with_reducible repeat (first | apply Kd.R_alloc | apply Kd.R_drewN | apply Kd.R_drew)); exact HO103.out), (by (with_reducible repeat (first | apply Kd.R_alloc | apply Kd.R_drewN | apply Kd.R_drew)); exact HO_5.out), ⟨_, rfl⟩, (by repeat (first | (with_reducible first | exact HB.out | apply below_alloc | apply pw_below_drewN | apply below_drew1) | exact HB.out))⟩)
                              ·
                               skip
                               refine Kd.R_lit_step Kd.string _ 9 ?hg (N := 27) ?hd (xs := ([(⟨#[114, 101, 100]⟩ : ByteArray), (⟨#[49, 112, 120, 32, 50, 112, 120]⟩ : ByteArray), (⟨#[117, 114, 108, 40, 97, 59, 98, 41]⟩ : ByteArray), (⟨#[34, 59, 58, 34]⟩ : ByteArray), (⟨#[97, 58, 98]⟩ : ByteArray), (⟨#[102, 40, 103, 40, 59, 41, 41]⟩ : ByteArray), (⟨#[39, 120, 39]⟩ : ByteArray)] : List ByteArray)) (inner := [.string (⟨#[114, 101, 100]⟩ : ByteArray), .string (⟨#[49, 112, 120, 32, 50, 112, 120]⟩ : ByteArray), .string (⟨#[117, 114, 108, 40, 97, 59, 98, 41]⟩ : ByteArray), .string (⟨#[34, 59, 58, 34]⟩ : ByteArray), .string (⟨#[97, 58, 98]⟩ : ByteArray), .string (⟨#[102, 40, 103, 40, 59, 41, 41]⟩ : ByteArray), .string (⟨#[39, 120, 39]⟩ : ByteArray)]) (ok := fun _ => True) (okp := fun _ => True) ?hr ?hp (fun _ hk => hk) trivial (Below.refl _ _) (Nat.le_refl _) (by simp) ?_; (case hd => rfl); (case hg => rfl); (case hr => first | (go_simp; done) | (go_simp; rfl)); (case hp => exact (Reps.one (show Kd.M Kd.string _ _ _ (⟨#[114, 101, 100]⟩ : ByteArray) [.string (⟨#[114, 101, 100]⟩ : ByteArray)] from rfl) (Reps.one (show Kd.M Kd.string _ _ _ (⟨#[49, 112, 120, 32, 50, 112, 120]⟩ : ByteArray) [.string (⟨#[49, 112, 120, 32, 50, 112, 120]⟩ : ByteArray)] from rfl) (Reps.one (show Kd.M Kd.string _ _ _ (⟨#[117, 114, 108, 40, 97, 59, 98, 41]⟩ : ByteArray) [.string (⟨#[117, 114, 108, 40, 97, 59, 98, 41]⟩ : ByteArray)] from rfl) (Reps.one (show Kd.M Kd.string _ _ _ (⟨#[34, 59, 58, 34]⟩ : ByteArray) [.string (⟨#[34, 59, 58, 34]⟩ : ByteArray)] from rfl) (Reps.one (show Kd.M Kd.string _ _ _ (⟨#[97, 58, 98]⟩ : ByteArray) [.string (⟨#[97, 58, 98]⟩ : ByteArray)] from rfl) (Reps.one (show Kd.M Kd.string _ _ _ (⟨#[102, 40, 103, 40, 59, 41, 41]⟩ : ByteArray) [.string (⟨#[102, 40, 103, 40, 59, 41, 41]⟩ : ByteArray)] from rfl) (Reps.one (show Kd.M Kd.string _ _ _ (⟨#[39, 120, 39]⟩ : ByteArray) [.string (⟨#[39, 120, 39]⟩ : ByteArray)] from rfl) (Reps.none _ _)))))))))
                               intro v108 w18 ho19 hb hg_ hnew_
                               clear hg_ hnew_
                               (first | rw [← Ny107.out] at ho19 | (simp only [Int.reduceToNat] at ho19; rw [← Ny107.out] at ho19))
                               have n0_ := Aside0.mk (Kd.R_below (by (with_reducible repeat (first | apply Kd.R_alloc | apply Kd.R_drewN | apply Kd.R_drew)); exact HO_5.out) hb)
                               have n1_ := Aside0.mk (Kd.R_lower ho19 (below_size (by repeat (first | (with_reducible first | exact HB.out | apply below_alloc | apply pw_below_drewN | apply below_drew1) | exact HB.out))))
                               have n2_ := Aside0.mk (below_step (by repeat (first | (with_reducible first | exact HB.out | apply below_alloc | apply pw_below_drewN | apply below_drew1) | exact HB.out)) hb)
                               clear HO_5
                               clear HB
                               have HO_5 := n0_
                               have HO109 := n1_
                               have HB := n2_
                               clear n0_ n1_ n2_
                               clear hb ho19
                               obtain ⟨Ao20, co20, eo20⟩ := Kd.R_slice HO109.out
                               subst eo20
                               obtain ⟨ado20, fo20, _⟩ := Kd.at_string (Kd.R_reads' HO109.out).2.2 0 (by decide) (by rw [Ny107.out]; simp)
                               cases fo20
                               refine hK.out _ _ ⟨((HB.out.cell (World.block_lt_of_cell? w _ hw104_0)).trans hw104_0), ((HB.out.cell (World.block_lt_of_cell? w _ hw110_0)).trans hw110_0)⟩ (fun hHeld => ?_)
                               clear hK K
                               refine norm_ (a' := ?_) ?_ ?_
                               rotate_left
                               ·
                                show Act.put _ (some 27) _ = _
                                simp only [Act.put, List.setIfInBounds_toArray, List.set_cons_zero, List.set_cons_succ, i64_w, i32_w]
                                rfl
                               exact norm_ (by first | (simp only [putAll, Act.put, List.setIfInBounds_toArray, List.set_cons_zero, List.set_cons_succ]; done) | (simp only [putAll, Act.put, List.setIfInBounds_toArray, List.set_cons_zero, List.set_cons_succ]; rfl)) (hJ6_9 (.slice (some ado20) y107.length co20, ado20) _ ⟨hHeld, (by (with_reducible repeat (first | apply Kd.R_alloc | apply Kd.R_drewN | apply Kd.R_drew)); exact HO109.out), (by (with_reducible repeat (first | apply Kd.R_alloc | apply Kd.R_drewN | apply Kd.R_drew)); exact HO_5.out), ⟨_, rfl⟩, (by repeat (first | (with_reducible first | exact HB.out | apply below_alloc | apply pw_below_drewN | apply below_drew1) | exact HB.out))⟩)
                              ·
                               skip
                               refine goes_ Tryd.func14 (by kernel_rfl) rfl #[.int .i64 (wrap64 (Int.tdiv (rd l0 x6_1) 4)), .int .i64 7] (by rfl) rfl rfl (by (try simp only [List.map_toArray, List.map_cons, List.map_nil]); first | done | rfl | (simp only [List.length_drop, List.length_take]; rfl)) ?_
                               with_reducible refine (bobbinetkeep_Picked.calls (wrap64 (Int.tdiv (rd l0 x6_1) 4)) 7 t111 _ A11.out).mono ?_
                               rintro e w' ⟨rfl, ⟨nd, rfl⟩⟩
                               refine ⟨_, rfl, ?_⟩
                               refine hK.out _ _ ⟨((HB.out.cell (World.block_lt_of_cell? w _ hw104_0)).trans hw104_0), ((HB.out.cell (World.block_lt_of_cell? w _ hw110_0)).trans hw110_0)⟩ (fun hHeld => ?_)
                               clear hK K
                               refine norm_ (a' := ?_) ?_ ?_
                               rotate_left
                               ·
                                show Act.put _ (some 33) _ = _
                                simp only [Act.put, List.setIfInBounds_toArray, List.set_cons_zero, List.set_cons_succ, i64_w, i32_w]
                                rfl
                               exact norm_ (by first | (simp only [putAll, Act.put, List.setIfInBounds_toArray, List.set_cons_zero, List.set_cons_succ]; done) | (simp only [putAll, Act.put, List.setIfInBounds_toArray, List.set_cons_zero, List.set_cons_succ]; rfl)) (hJ6_15 () _ ⟨hHeld, (by (with_reducible repeat (first | apply Kd.R_alloc | apply Kd.R_drewN | apply Kd.R_drew)); exact HO_5.out), (by repeat (first | (with_reducible first | exact HB.out | apply below_alloc | apply pw_below_drewN | apply below_drew1) | exact HB.out))⟩)
                            ·
                             skip
                             rintro ⟨v102, adz_v102⟩ w20 ⟨hS_, h0_, h1_, h2_, h3_⟩
                             have n0_ : Aside0 (Kd.R Kd.string 9 w20 w.heap.size (fun _ => True) v102 y101) := ⟨h0_⟩
                             have n1_ : Aside0 (Kd.R k33 33 w20 w.heap.size (fun _ => True) (.slice Ao15 x5_1.length co15) x5_1) := ⟨h1_⟩
                             have n2_ : Aside0 (∃ c_, (v102 : Value) = .slice (some adz_v102) y101.length c_) := ⟨h2_⟩
                             have n3_ : Aside0 (Below w.heap.size w w20) := ⟨h3_⟩
                             clear HO_5
                             clear HB
                             clear h0_ h1_ h2_ h3_
                             have HO103 := n0_
                             have HO_5 := n1_
                             have HA_HO103 := n2_
                             have HB := n3_
                             clear n0_ n1_ n2_ n3_
                             have hHeld : w20.cell? (ad104.add (x6_1).toNat) = some (.int .i64 (rd l0 x6_1)) ∧ w20.cell? (ad104.add (x6_1).toNat) = some (.int .i64 (rd l0 x6_1)) := hS_
                             obtain ⟨co21, eo21⟩ := HA_HO103.out
                             clear HA_HO103
                             subst eo21
                             refine norm_ (a' := ?_) ?_ ?_
                             rotate_left
                             ·
                              simp only [putAll, Act.put, List.setIfInBounds_toArray, List.set_cons_zero, List.set_cons_succ]
                              rfl
                             refine two_ (i := 6) (j := 9) (Ni := some 24) (Nj := some 27) #[true, true, true, true, true, true, true, false, false, false, true, true, true, true, true, false, false, false, false, false, false, false] #[true, true, true, true, true, true, false, false, false, true, true, true, true, true, true, false, false, false, false, false, false, false] rfl rfl rfl rfl (two_of HT_.out (by kernel_rfl)) (by decide) (by decide) (fun K hK => ?_) (fun K hK => ?_)
                             ·
                              skip
                              refine goes_ Tryd.func14 (by kernel_rfl) rfl #[.int .i64 (rd l0 x6_1), .int .i64 4] (by rfl) rfl rfl (by (try simp only [List.map_toArray, List.map_cons, List.map_nil]); first | done | rfl | (simp only [List.length_drop, List.length_take]; rfl)) ?_
                              with_reducible refine (bobbinetkeep_Picked.calls (rd l0 x6_1) 4 t105 _ A8.out).mono ?_
                              rintro e w' ⟨rfl, ⟨nd, rfl⟩⟩
                              refine ⟨_, rfl, ?_⟩
                              refine hK.out _ _ ⟨((HB.out.cell (World.block_lt_of_cell? w _ hw104_0)).trans hw104_0), ((HB.out.cell (World.block_lt_of_cell? w _ hw110_0)).trans hw110_0)⟩ (fun hHeld => ?_)
                              clear hK K
                              refine norm_ (a' := ?_) ?_ ?_
                              rotate_left
                              ·
                               show Act.put _ (some 24) _ = _
                               simp only [Act.put, List.setIfInBounds_toArray, List.set_cons_zero, List.set_cons_succ, i64_w, i32_w]
                               rfl
                              refine pure_ (i := 7) (N := some 25) (v := ?_) (a' := ?_) #[true, true, true, true, true, true, true, true, false, false, true, true, true, true, true, false, false, false, false, false, false, false] rfl rfl (any_of HT_.out (by kernel_rfl)) (fun _ _ _ h => h) (Or.inl ⟨by rfl, ?_⟩) ?_ ?_
                              rotate_left
                              ·
                               intro w'
                               go_simp
                               with_reducible rfl
                              rotate_left
                              ·
                               simp only [Act.put, List.setIfInBounds_toArray, List.set_cons_zero, List.set_cons_succ, i64_w, i32_w]
                               rfl
                              exact norm_ (by first | (simp only [putAll, Act.put, List.setIfInBounds_toArray, List.set_cons_zero, List.set_cons_succ]; done) | (simp only [putAll, Act.put, List.setIfInBounds_toArray, List.set_cons_zero, List.set_cons_succ]; rfl)) (hJ1_6 (.slice (some adz_v102) y101.length co21, adz_v102) _ ⟨hHeld, (by (with_reducible repeat (first | apply Kd.R_alloc | apply Kd.R_drewN | apply Kd.R_drew)); exact HO103.out), (by (with_reducible repeat (first | apply Kd.R_alloc | apply Kd.R_drewN | apply Kd.R_drew)); exact HO_5.out), ⟨_, rfl⟩, (by repeat (first | (with_reducible first | exact HB.out | apply below_alloc | apply pw_below_drewN | apply below_drew1) | exact HB.out))⟩)
                             ·
                              skip
                              refine Kd.R_lit_step Kd.string _ 9 ?hg (N := 27) ?hd (xs := ([(⟨#[114, 101, 100]⟩ : ByteArray), (⟨#[49, 112, 120, 32, 50, 112, 120]⟩ : ByteArray), (⟨#[117, 114, 108, 40, 97, 59, 98, 41]⟩ : ByteArray), (⟨#[34, 59, 58, 34]⟩ : ByteArray), (⟨#[97, 58, 98]⟩ : ByteArray), (⟨#[102, 40, 103, 40, 59, 41, 41]⟩ : ByteArray), (⟨#[39, 120, 39]⟩ : ByteArray)] : List ByteArray)) (inner := [.string (⟨#[114, 101, 100]⟩ : ByteArray), .string (⟨#[49, 112, 120, 32, 50, 112, 120]⟩ : ByteArray), .string (⟨#[117, 114, 108, 40, 97, 59, 98, 41]⟩ : ByteArray), .string (⟨#[34, 59, 58, 34]⟩ : ByteArray), .string (⟨#[97, 58, 98]⟩ : ByteArray), .string (⟨#[102, 40, 103, 40, 59, 41, 41]⟩ : ByteArray), .string (⟨#[39, 120, 39]⟩ : ByteArray)]) (ok := fun _ => True) (okp := fun _ => True) ?hr ?hp (fun _ hk => hk) trivial (Below.refl _ _) (Nat.le_refl _) (by simp) ?_; (case hd => rfl); (case hg => rfl); (case hr => first | (go_simp; done) | (go_simp; rfl)); (case hp => exact (Reps.one (show Kd.M Kd.string _ _ _ (⟨#[114, 101, 100]⟩ : ByteArray) [.string (⟨#[114, 101, 100]⟩ : ByteArray)] from rfl) (Reps.one (show Kd.M Kd.string _ _ _ (⟨#[49, 112, 120, 32, 50, 112, 120]⟩ : ByteArray) [.string (⟨#[49, 112, 120, 32, 50, 112, 120]⟩ : ByteArray)] from rfl) (Reps.one (show Kd.M Kd.string _ _ _ (⟨#[117, 114, 108, 40, 97, 59, 98, 41]⟩ : ByteArray) [.string (⟨#[117, 114, 108, 40, 97, 59, 98, 41]⟩ : ByteArray)] from rfl) (Reps.one (show Kd.M Kd.string _ _ _ (⟨#[34, 59, 58, 34]⟩ : ByteArray) [.string (⟨#[34, 59, 58, 34]⟩ : ByteArray)] from rfl) (Reps.one (show Kd.M Kd.string _ _ _ (⟨#[97, 58, 98]⟩ : ByteArray) [.string (⟨#[97, 58, 98]⟩ : ByteArray)] from rfl) (Reps.one (show Kd.M Kd.string _ _ _ (⟨#[102, 40, 103, 40, 59, 41, 41]⟩ : ByteArray) [.string (⟨#[102, 40, 103, 40, 59, 41, 41]⟩ : ByteArray)] from rfl) (Reps.one (show Kd.M Kd.string _ _ _ (⟨#[39, 120, 39]⟩ : ByteArray) [.string (⟨#[39, 120, 39]⟩ : ByteArray)] from rfl) (Reps.none _ _)))))))))
                              intro v108 w22 ho23 hb hg_ hnew_
                              clear hg_ hnew_
                              (first | rw [← Ny107.out] at ho23 | (simp only [Int.reduceToNat] at ho23; rw [← Ny107.out] at ho23))
                              have n0_ := Aside0.mk (Kd.R_below (by (with_reducible repeat (first | apply Kd.R_alloc | apply Kd.R_drewN | apply Kd.R_drew)); exact HO_5.out) hb)
                              have n1_ := Aside0.mk (Kd.R_elder' (by (with_reducible repeat (first | apply Kd.R_alloc | apply Kd.R_drewN | apply Kd.R_drew)); exact HO103.out) (Kd.R_base ho23) hb)
                              have n2_ := Aside0.mk (Kd.R_lower (Kd.R_new' ho23 (Kd.R_lt (by (with_reducible repeat (first | apply Kd.R_alloc | apply Kd.R_drewN | apply Kd.R_drew)); exact HO103.out))) (below_size (by repeat (first | (with_reducible first | exact HB.out | apply below_alloc | apply pw_below_drewN | apply below_drew1) | exact HB.out))))
                              have n3_ := Aside0.mk (below_step (by repeat (first | (with_reducible first | exact HB.out | apply below_alloc | apply pw_below_drewN | apply below_drew1) | exact HB.out)) hb)
                              clear HO_5
                              clear HO103
                              clear HB
                              have HO_5 := n0_
                              have HO103 := n1_
                              have HO109 := n2_
                              have HB := n3_
                              clear n0_ n1_ n2_ n3_
                              clear hb ho23
                              obtain ⟨Ao24, co24, eo24⟩ := Kd.R_slice HO109.out
                              subst eo24
                              obtain ⟨ado24, fo24, _⟩ := Kd.at_string (Kd.R_reads' HO109.out).2.2 0 (by decide) (by rw [Ny107.out]; simp)
                              cases fo24
                              refine hK.out _ _ ⟨((HB.out.cell (World.block_lt_of_cell? w _ hw104_0)).trans hw104_0), ((HB.out.cell (World.block_lt_of_cell? w _ hw110_0)).trans hw110_0)⟩ (fun hHeld => ?_)
                              clear hK K
                              refine norm_ (a' := ?_) ?_ ?_
                              rotate_left
                              ·
                               show Act.put _ (some 27) _ = _
                               simp only [Act.put, List.setIfInBounds_toArray, List.set_cons_zero, List.set_cons_succ, i64_w, i32_w]
                               rfl
                              exact norm_ (by first | (simp only [putAll, Act.put, List.setIfInBounds_toArray, List.set_cons_zero, List.set_cons_succ]; done) | (simp only [putAll, Act.put, List.setIfInBounds_toArray, List.set_cons_zero, List.set_cons_succ]; rfl)) (hJ1_9 (.slice (some adz_v102) y101.length co21, adz_v102, .slice (some ado24) y107.length co24, ado24) _ ⟨hHeld, (by (with_reducible repeat (first | apply Kd.R_alloc | apply Kd.R_drewN | apply Kd.R_drew)); exact Kd.R_mono HO103.out (fun _ hk => hk.2)), (by (with_reducible repeat (first | apply Kd.R_alloc | apply Kd.R_drewN | apply Kd.R_drew)); exact Kd.R_mono HO109.out (fun _ hk => hk.2)), (by (with_reducible repeat (first | apply Kd.R_alloc | apply Kd.R_drewN | apply Kd.R_drew)); exact HO_5.out), ⟨_, rfl⟩, ⟨_, rfl⟩, (by repeat (first | (with_reducible first | exact HB.out | apply below_alloc | apply pw_below_drewN | apply below_drew1) | exact HB.out))⟩)
                           ·
                            skip
                            rintro _ w17 ⟨hS_, h0_, h1_⟩
                            have n0_ : Aside0 (Kd.R k33 33 w17 w.heap.size (fun _ => True) (.slice Ao15 x5_1.length co15) x5_1) := ⟨h0_⟩
                            have n1_ : Aside0 (Below w.heap.size w w17) := ⟨h1_⟩
                            clear HO_5
                            clear HB
                            clear h0_ h1_
                            have HO_5 := n0_
                            have HB := n1_
                            clear n0_ n1_
                            have hHeld : w17.cell? (ad104.add (x6_1).toNat) = some (.int .i64 (rd l0 x6_1)) ∧ w17.cell? (ad104.add (x6_1).toNat) = some (.int .i64 (rd l0 x6_1)) := hS_
                            refine norm_ (a' := ?_) ?_ ?_
                            rotate_left
                            ·
                             simp only [putAll, Act.put, List.setIfInBounds_toArray, List.set_cons_zero, List.set_cons_succ]
                             rfl
                            refine two_ (i := 1) (j := 9) (Ni := some 19) (Nj := some 27) #[true, true, true, true, true, true, true, false, false, false, true, true, true, true, true, true, false, false, false, false, false, false] #[true, false, true, true, true, true, true, false, false, true, true, true, true, true, true, true, false, false, false, false, false, false] rfl rfl rfl rfl (two_of HT_.out (by kernel_rfl)) (by decide) (by decide) (fun K hK => ?_) (fun K hK => ?_)
                            ·
                             skip
                             refine Kd.R_lit_step Kd.string _ 9 ?hg (N := 19) ?hd (xs := ([(⟨#[99, 111, 108, 111, 114]⟩ : ByteArray), (⟨#[119, 105, 100, 116, 104]⟩ : ByteArray), (⟨#[97, 45, 98]⟩ : ByteArray), (⟨#[120, 49]⟩ : ByteArray)] : List ByteArray)) (inner := [.string (⟨#[99, 111, 108, 111, 114]⟩ : ByteArray), .string (⟨#[119, 105, 100, 116, 104]⟩ : ByteArray), .string (⟨#[97, 45, 98]⟩ : ByteArray), .string (⟨#[120, 49]⟩ : ByteArray)]) (ok := fun _ => True) (okp := fun _ => True) ?hr ?hp (fun _ hk => hk) trivial (Below.refl _ _) (Nat.le_refl _) (by simp) ?_; (case hd => rfl); (case hg => rfl); (case hr => first | (go_simp; done) | (go_simp; rfl)); (case hp => exact (Reps.one (show Kd.M Kd.string _ _ _ (⟨#[99, 111, 108, 111, 114]⟩ : ByteArray) [.string (⟨#[99, 111, 108, 111, 114]⟩ : ByteArray)] from rfl) (Reps.one (show Kd.M Kd.string _ _ _ (⟨#[119, 105, 100, 116, 104]⟩ : ByteArray) [.string (⟨#[119, 105, 100, 116, 104]⟩ : ByteArray)] from rfl) (Reps.one (show Kd.M Kd.string _ _ _ (⟨#[97, 45, 98]⟩ : ByteArray) [.string (⟨#[97, 45, 98]⟩ : ByteArray)] from rfl) (Reps.one (show Kd.M Kd.string _ _ _ (⟨#[120, 49]⟩ : ByteArray) [.string (⟨#[120, 49]⟩ : ByteArray)] from rfl) (Reps.none _ _))))))
                             intro v102 w18 ho19 hb hg_ hnew_
                             clear hg_ hnew_
                             (first | rw [← Ny101.out] at ho19 | (simp only [Int.reduceToNat] at ho19; rw [← Ny101.out] at ho19))
                             have n0_ := Aside0.mk (Kd.R_below (by (with_reducible repeat (first | apply Kd.R_alloc | apply Kd.R_drewN | apply Kd.R_drew)); exact HO_5.out) hb)
                             have n1_ := Aside0.mk (Kd.R_lower ho19 (below_size (by repeat (first | (with_reducible first | exact HB.out | apply below_alloc | apply pw_below_drewN | apply below_drew1) | exact HB.out))))
                             have n2_ := Aside0.mk (below_step (by repeat (first | (with_reducible first | exact HB.out | apply below_alloc | apply pw_below_drewN | apply below_drew1) | exact HB.out)) hb)
                             clear HO_5
                             clear HB
                             have HO_5 := n0_
                             have HO103 := n1_
                             have HB := n2_
                             clear n0_ n1_ n2_
                             clear hb ho19
                             obtain ⟨Ao20, co20, eo20⟩ := Kd.R_slice HO103.out
                             subst eo20
                             obtain ⟨ado20, fo20, _⟩ := Kd.at_string (Kd.R_reads' HO103.out).2.2 0 (by decide) (by rw [Ny101.out]; simp)
                             cases fo20
                             refine hK.out _ _ ⟨((HB.out.cell (World.block_lt_of_cell? w _ hw104_0)).trans hw104_0), ((HB.out.cell (World.block_lt_of_cell? w _ hw110_0)).trans hw110_0)⟩ (fun hHeld => ?_)
                             clear hK K
                             refine norm_ (a' := ?_) ?_ ?_
                             rotate_left
                             ·
                              show Act.put _ (some 19) _ = _
                              simp only [Act.put, List.setIfInBounds_toArray, List.set_cons_zero, List.set_cons_succ, i64_w, i32_w]
                              rfl
                             refine pure_ (i := 7) (N := some 25) (v := ?_) (a' := ?_) #[true, true, true, true, true, true, true, true, false, false, true, true, true, true, true, true, false, false, false, false, false, false] rfl rfl (any_of HT_.out (by kernel_rfl)) (fun _ _ _ h => h) (Or.inl ⟨by rfl, ?_⟩) ?_ ?_
                             rotate_left
                             ·
                              intro w'
                              go_simp
                              with_reducible rfl
                             rotate_left
                             ·
                              simp only [Act.put, List.setIfInBounds_toArray, List.set_cons_zero, List.set_cons_succ, i64_w, i32_w]
                              rfl
                             exact norm_ (by first | (simp only [putAll, Act.put, List.setIfInBounds_toArray, List.set_cons_zero, List.set_cons_succ]; done) | (simp only [putAll, Act.put, List.setIfInBounds_toArray, List.set_cons_zero, List.set_cons_succ]; rfl)) (hJ1_6_15 (.slice (some ado20) y101.length co20, ado20) _ ⟨hHeld, (by (with_reducible repeat (first | apply Kd.R_alloc | apply Kd.R_drewN | apply Kd.R_drew)); exact HO103.out), (by (with_reducible repeat (first | apply Kd.R_alloc | apply Kd.R_drewN | apply Kd.R_drew)); exact HO_5.out), ⟨_, rfl⟩, (by repeat (first | (with_reducible first | exact HB.out | apply below_alloc | apply pw_below_drewN | apply below_drew1) | exact HB.out))⟩)
                            ·
                             skip
                             refine Kd.R_lit_step Kd.string _ 9 ?hg (N := 27) ?hd (xs := ([(⟨#[114, 101, 100]⟩ : ByteArray), (⟨#[49, 112, 120, 32, 50, 112, 120]⟩ : ByteArray), (⟨#[117, 114, 108, 40, 97, 59, 98, 41]⟩ : ByteArray), (⟨#[34, 59, 58, 34]⟩ : ByteArray), (⟨#[97, 58, 98]⟩ : ByteArray), (⟨#[102, 40, 103, 40, 59, 41, 41]⟩ : ByteArray), (⟨#[39, 120, 39]⟩ : ByteArray)] : List ByteArray)) (inner := [.string (⟨#[114, 101, 100]⟩ : ByteArray), .string (⟨#[49, 112, 120, 32, 50, 112, 120]⟩ : ByteArray), .string (⟨#[117, 114, 108, 40, 97, 59, 98, 41]⟩ : ByteArray), .string (⟨#[34, 59, 58, 34]⟩ : ByteArray), .string (⟨#[97, 58, 98]⟩ : ByteArray), .string (⟨#[102, 40, 103, 40, 59, 41, 41]⟩ : ByteArray), .string (⟨#[39, 120, 39]⟩ : ByteArray)]) (ok := fun _ => True) (okp := fun _ => True) ?hr ?hp (fun _ hk => hk) trivial (Below.refl _ _) (Nat.le_refl _) (by simp) ?_; (case hd => rfl); (case hg => rfl); (case hr => first | (go_simp; done) | (go_simp; rfl)); (case hp => exact (Reps.one (show Kd.M Kd.string _ _ _ (⟨#[114, 101, 100]⟩ : ByteArray) [.string (⟨#[114, 101, 100]⟩ : ByteArray)] from rfl) (Reps.one (show Kd.M Kd.string _ _ _ (⟨#[49, 112, 120, 32, 50, 112, 120]⟩ : ByteArray) [.string (⟨#[49, 112, 120, 32, 50, 112, 120]⟩ : ByteArray)] from rfl) (Reps.one (show Kd.M Kd.string _ _ _ (⟨#[117, 114, 108, 40, 97, 59, 98, 41]⟩ : ByteArray) [.string (⟨#[117, 114, 108, 40, 97, 59, 98, 41]⟩ : ByteArray)] from rfl) (Reps.one (show Kd.M Kd.string _ _ _ (⟨#[34, 59, 58, 34]⟩ : ByteArray) [.string (⟨#[34, 59, 58, 34]⟩ : ByteArray)] from rfl) (Reps.one (show Kd.M Kd.string _ _ _ (⟨#[97, 58, 98]⟩ : ByteArray) [.string (⟨#[97, 58, 98]⟩ : ByteArray)] from rfl) (Reps.one (show Kd.M Kd.string _ _ _ (⟨#[102, 40, 103, 40, 59, 41, 41]⟩ : ByteArray) [.string (⟨#[102, 40, 103, 40, 59, 41, 41]⟩ : ByteArray)] from rfl) (Reps.one (show Kd.M Kd.string _ _ _ (⟨#[39, 120, 39]⟩ : ByteArray) [.string (⟨#[39, 120, 39]⟩ : ByteArray)] from rfl) (Reps.none _ _)))))))))
                             intro v108 w18 ho19 hb hg_ hnew_
                             clear hg_ hnew_
                             (first | rw [← Ny107.out] at ho19 | (simp only [Int.reduceToNat] at ho19; rw [← Ny107.out] at ho19))
                             have n0_ := Aside0.mk (Kd.R_below (by (with_reducible repeat (first | apply Kd.R_alloc | apply Kd.R_drewN | apply Kd.R_drew)); exact HO_5.out) hb)
                             have n1_ := Aside0.mk (Kd.R_lower ho19 (below_size (by repeat (first | (with_reducible first | exact HB.out | apply below_alloc | apply pw_below_drewN | apply below_drew1) | exact HB.out))))
                             have n2_ := Aside0.mk (below_step (by repeat (first | (with_reducible first | exact HB.out | apply below_alloc | apply pw_below_drewN | apply below_drew1) | exact HB.out)) hb)
                             clear HO_5
                             clear HB
                             have HO_5 := n0_
                             have HO109 := n1_
                             have HB := n2_
                             clear n0_ n1_ n2_
                             clear hb ho19
                             obtain ⟨Ao20, co20, eo20⟩ := Kd.R_slice HO109.out
                             subst eo20
                             obtain ⟨ado20, fo20, _⟩ := Kd.at_string (Kd.R_reads' HO109.out).2.2 0 (by decide) (by rw [Ny107.out]; simp)
                             cases fo20
                             refine hK.out _ _ ⟨((HB.out.cell (World.block_lt_of_cell? w _ hw104_0)).trans hw104_0), ((HB.out.cell (World.block_lt_of_cell? w _ hw110_0)).trans hw110_0)⟩ (fun hHeld => ?_)
                             clear hK K
                             refine norm_ (a' := ?_) ?_ ?_
                             rotate_left
                             ·
                              show Act.put _ (some 27) _ = _
                              simp only [Act.put, List.setIfInBounds_toArray, List.set_cons_zero, List.set_cons_succ, i64_w, i32_w]
                              rfl
                             refine pure_ (i := 16) (N := some 34) (v := ?_) (a' := ?_) #[true, false, true, true, true, true, true, false, false, true, true, true, true, true, true, true, true, false, false, false, false, false] rfl rfl (any_of HT_.out (by kernel_rfl)) (fun _ _ _ h => h) (Or.inl ⟨by rfl, ?_⟩) ?_ ?_
                             rotate_left
                             ·
                              intro w'
                              go_simp
                              with_reducible rfl
                             rotate_left
                             ·
                              simp only [Act.put, List.setIfInBounds_toArray, List.set_cons_zero, List.set_cons_succ, i64_w, i32_w]
                              rfl
                             exact norm_ (by first | (simp only [putAll, Act.put, List.setIfInBounds_toArray, List.set_cons_zero, List.set_cons_succ]; done) | (simp only [putAll, Act.put, List.setIfInBounds_toArray, List.set_cons_zero, List.set_cons_succ]; rfl)) (hJ6_9_15 (.slice (some ado20) y107.length co20, ado20) _ ⟨hHeld, (by (with_reducible repeat (first | apply Kd.R_alloc | apply Kd.R_drewN | apply Kd.R_drew)); exact HO109.out), (by (with_reducible repeat (first | apply Kd.R_alloc | apply Kd.R_drewN | apply Kd.R_drew)); exact HO_5.out), ⟨_, rfl⟩, (by repeat (first | (with_reducible first | exact HB.out | apply below_alloc | apply pw_below_drewN | apply below_drew1) | exact HB.out))⟩)
                          ·
                           skip
                           rintro ⟨v108, adz_v108⟩ w20 ⟨hS_, h0_, h1_, h2_, h3_⟩
                           have n0_ : Aside0 (Kd.R Kd.string 9 w20 w.heap.size (fun _ => True) v108 y107) := ⟨h0_⟩
                           have n1_ : Aside0 (Kd.R k33 33 w20 w.heap.size (fun _ => True) (.slice Ao15 x5_1.length co15) x5_1) := ⟨h1_⟩
                           have n2_ : Aside0 (∃ c_, (v108 : Value) = .slice (some adz_v108) y107.length c_) := ⟨h2_⟩
                           have n3_ : Aside0 (Below w.heap.size w w20) := ⟨h3_⟩
                           clear HO_5
                           clear HB
                           clear h0_ h1_ h2_ h3_
                           have HO109 := n0_
                           have HO_5 := n1_
                           have HA_HO109 := n2_
                           have HB := n3_
                           clear n0_ n1_ n2_ n3_
                           have hHeld : w20.cell? (ad104.add (x6_1).toNat) = some (.int .i64 (rd l0 x6_1)) ∧ w20.cell? (ad104.add (x6_1).toNat) = some (.int .i64 (rd l0 x6_1)) := hS_
                           obtain ⟨co21, eo21⟩ := HA_HO109.out
                           clear HA_HO109
                           subst eo21
                           refine norm_ (a' := ?_) ?_ ?_
                           rotate_left
                           ·
                            simp only [putAll, Act.put, List.setIfInBounds_toArray, List.set_cons_zero, List.set_cons_succ]
                            rfl
                           refine two_ (i := 1) (j := 15) (Ni := some 19) (Nj := some 33) #[true, true, true, true, true, true, true, false, false, true, true, true, true, true, true, false, false, false, false, false, false, false] #[true, false, true, true, true, true, true, false, false, true, true, true, true, true, true, true, false, false, false, false, false, false] rfl rfl rfl rfl (two_of HT_.out (by kernel_rfl)) (by decide) (by decide) (fun K hK => ?_) (fun K hK => ?_)
                           ·
                            skip
                            refine Kd.R_lit_step Kd.string _ 9 ?hg (N := 19) ?hd (xs := ([(⟨#[99, 111, 108, 111, 114]⟩ : ByteArray), (⟨#[119, 105, 100, 116, 104]⟩ : ByteArray), (⟨#[97, 45, 98]⟩ : ByteArray), (⟨#[120, 49]⟩ : ByteArray)] : List ByteArray)) (inner := [.string (⟨#[99, 111, 108, 111, 114]⟩ : ByteArray), .string (⟨#[119, 105, 100, 116, 104]⟩ : ByteArray), .string (⟨#[97, 45, 98]⟩ : ByteArray), .string (⟨#[120, 49]⟩ : ByteArray)]) (ok := fun _ => True) (okp := fun _ => True) ?hr ?hp (fun _ hk => hk) trivial (Below.refl _ _) (Nat.le_refl _) (by simp) ?_; (case hd => rfl); (case hg => rfl); (case hr => first | (go_simp; done) | (go_simp; rfl)); (case hp => exact (Reps.one (show Kd.M Kd.string _ _ _ (⟨#[99, 111, 108, 111, 114]⟩ : ByteArray) [.string (⟨#[99, 111, 108, 111, 114]⟩ : ByteArray)] from rfl) (Reps.one (show Kd.M Kd.string _ _ _ (⟨#[119, 105, 100, 116, 104]⟩ : ByteArray) [.string (⟨#[119, 105, 100, 116, 104]⟩ : ByteArray)] from rfl) (Reps.one (show Kd.M Kd.string _ _ _ (⟨#[97, 45, 98]⟩ : ByteArray) [.string (⟨#[97, 45, 98]⟩ : ByteArray)] from rfl) (Reps.one (show Kd.M Kd.string _ _ _ (⟨#[120, 49]⟩ : ByteArray) [.string (⟨#[120, 49]⟩ : ByteArray)] from rfl) (Reps.none _ _))))))
                            intro v102 w22 ho23 hb hg_ hnew_
                            clear hg_ hnew_
                            (first | rw [← Ny101.out] at ho23 | (simp only [Int.reduceToNat] at ho23; rw [← Ny101.out] at ho23))
                            have n0_ := Aside0.mk (Kd.R_below (by (with_reducible repeat (first | apply Kd.R_alloc | apply Kd.R_drewN | apply Kd.R_drew)); exact HO_5.out) hb)
                            have n1_ := Aside0.mk (Kd.R_elder' (by (with_reducible repeat (first | apply Kd.R_alloc | apply Kd.R_drewN | apply Kd.R_drew)); exact HO109.out) (Kd.R_base ho23) hb)
                            have n2_ := Aside0.mk (Kd.R_lower (Kd.R_new' ho23 (Kd.R_lt (by (with_reducible repeat (first | apply Kd.R_alloc | apply Kd.R_drewN | apply Kd.R_drew)); exact HO109.out))) (below_size (by repeat (first | (with_reducible first | exact HB.out | apply below_alloc | apply pw_below_drewN | apply below_drew1) | exact HB.out))))
                            have n3_ := Aside0.mk (below_step (by repeat (first | (with_reducible first | exact HB.out | apply below_alloc | apply pw_below_drewN | apply below_drew1) | exact HB.out)) hb)
                            clear HO_5
                            clear HO109
                            clear HB
                            have HO_5 := n0_
                            have HO109 := n1_
                            have HO103 := n2_
                            have HB := n3_
                            clear n0_ n1_ n2_ n3_
                            clear hb ho23
                            obtain ⟨Ao24, co24, eo24⟩ := Kd.R_slice HO103.out
                            subst eo24
                            obtain ⟨ado24, fo24, _⟩ := Kd.at_string (Kd.R_reads' HO103.out).2.2 0 (by decide) (by rw [Ny101.out]; simp)
                            cases fo24
                            refine hK.out _ _ ⟨((HB.out.cell (World.block_lt_of_cell? w _ hw104_0)).trans hw104_0), ((HB.out.cell (World.block_lt_of_cell? w _ hw110_0)).trans hw110_0)⟩ (fun hHeld => ?_)
                            clear hK K
                            refine norm_ (a' := ?_) ?_ ?_
                            rotate_left
                            ·
                             show Act.put _ (some 19) _ = _
                             simp only [Act.put, List.setIfInBounds_toArray, List.set_cons_zero, List.set_cons_succ, i64_w, i32_w]
                             rfl
                            refine pure_ (i := 7) (N := some 25) (v := ?_) (a' := ?_) #[true, true, true, true, true, true, true, true, false, true, true, true, true, true, true, false, false, false, false, false, false, false] rfl rfl (any_of HT_.out (by kernel_rfl)) (fun _ _ _ h => h) (Or.inl ⟨by rfl, ?_⟩) ?_ ?_
                            rotate_left
                            ·
                             intro w'
                             go_simp
                             with_reducible rfl
                            rotate_left
                            ·
                             simp only [Act.put, List.setIfInBounds_toArray, List.set_cons_zero, List.set_cons_succ, i64_w, i32_w]
                             rfl
                            exact norm_ (by first | (simp only [putAll, Act.put, List.setIfInBounds_toArray, List.set_cons_zero, List.set_cons_succ]; done) | (simp only [putAll, Act.put, List.setIfInBounds_toArray, List.set_cons_zero, List.set_cons_succ]; rfl)) (hJ1_6_9 (.slice (some ado24) y101.length co24, ado24, .slice (some adz_v108) y107.length co21, adz_v108) _ ⟨hHeld, (by (with_reducible repeat (first | apply Kd.R_alloc | apply Kd.R_drewN | apply Kd.R_drew)); exact Kd.R_mono HO103.out (fun _ hk => hk.2)), (by (with_reducible repeat (first | apply Kd.R_alloc | apply Kd.R_drewN | apply Kd.R_drew)); exact Kd.R_mono HO109.out (fun _ hk => hk.2)), (by (with_reducible repeat (first | apply Kd.R_alloc | apply Kd.R_drewN | apply Kd.R_drew)); exact HO_5.out), ⟨_, rfl⟩, ⟨_, rfl⟩, (by repeat (first | (with_reducible first | exact HB.out | apply below_alloc | apply pw_below_drewN | apply below_drew1) | exact HB.out))⟩)
                           ·
                            skip
                            refine goes_ Tryd.func14 (by kernel_rfl) rfl #[.int .i64 (wrap64 (Int.tdiv (rd l0 x6_1) 4)), .int .i64 7] (by rfl) rfl rfl (by (try simp only [List.map_toArray, List.map_cons, List.map_nil]); first | done | rfl | (simp only [List.length_drop, List.length_take]; rfl)) ?_
                            with_reducible refine (bobbinetkeep_Picked.calls (wrap64 (Int.tdiv (rd l0 x6_1) 4)) 7 t111 _ A11.out).mono ?_
                            rintro e w' ⟨rfl, ⟨nd, rfl⟩⟩
                            refine ⟨_, rfl, ?_⟩
                            refine hK.out _ _ ⟨((HB.out.cell (World.block_lt_of_cell? w _ hw104_0)).trans hw104_0), ((HB.out.cell (World.block_lt_of_cell? w _ hw110_0)).trans hw110_0)⟩ (fun hHeld => ?_)
                            clear hK K
                            refine norm_ (a' := ?_) ?_ ?_
                            rotate_left
                            ·
                             show Act.put _ (some 33) _ = _
                             simp only [Act.put, List.setIfInBounds_toArray, List.set_cons_zero, List.set_cons_succ, i64_w, i32_w]
                             rfl
                            refine pure_ (i := 16) (N := some 34) (v := ?_) (a' := ?_) #[true, false, true, true, true, true, true, false, false, true, true, true, true, true, true, true, true, false, false, false, false, false] rfl rfl (any_of HT_.out (by kernel_rfl)) (fun _ _ _ h => h) (Or.inl ⟨by rfl, ?_⟩) ?_ ?_
                            rotate_left
                            ·
                             intro w'
                             go_simp
                             with_reducible rfl
                            rotate_left
                            ·
                             simp only [Act.put, List.setIfInBounds_toArray, List.set_cons_zero, List.set_cons_succ, i64_w, i32_w]
                             rfl
                            exact norm_ (by first | (simp only [putAll, Act.put, List.setIfInBounds_toArray, List.set_cons_zero, List.set_cons_succ]; done) | (simp only [putAll, Act.put, List.setIfInBounds_toArray, List.set_cons_zero, List.set_cons_succ]; rfl)) (hJ6_9_15 (.slice (some adz_v108) y107.length co21, adz_v108) _ ⟨hHeld, (by (with_reducible repeat (first | apply Kd.R_alloc | apply Kd.R_drewN | apply Kd.R_drew)); exact HO109.out), (by (with_reducible repeat (first | apply Kd.R_alloc | apply Kd.R_drewN | apply Kd.R_drew)); exact HO_5.out), ⟨_, rfl⟩, (by repeat (first | (with_reducible first | exact HB.out | apply below_alloc | apply pw_below_drewN | apply below_drew1) | exact HB.out))⟩)
                         ·
                          skip
                          rintro ⟨v102, adz_v102, v108, adz_v108⟩ w23 ⟨hS_, h0_, h1_, h2_, h3_, h4_, h5_⟩
                          have n0_ : Aside0 (Kd.R Kd.string 9 w23 w.heap.size (fun k_ => some k_ ≠ (v108 : Value).ownBlock) v102 y101) := ⟨h0_⟩
                          have n1_ : Aside0 (Kd.R Kd.string 9 w23 w.heap.size (fun k_ => some k_ ≠ (v102 : Value).ownBlock) v108 y107) := ⟨h1_⟩
                          have n2_ : Aside0 (Kd.R k33 33 w23 w.heap.size (fun _ => True) (.slice Ao15 x5_1.length co15) x5_1) := ⟨h2_⟩
                          have n3_ : Aside0 (∃ c_, (v102 : Value) = .slice (some adz_v102) y101.length c_) := ⟨h3_⟩
                          have n4_ : Aside0 (∃ c_, (v108 : Value) = .slice (some adz_v108) y107.length c_) := ⟨h4_⟩
                          have n5_ : Aside0 (Below w.heap.size w w23) := ⟨h5_⟩
                          clear HO_5
                          clear HB
                          clear h0_ h1_ h2_ h3_ h4_ h5_
                          have HO103 := n0_
                          have HO109 := n1_
                          have HO_5 := n2_
                          have HA_HO103 := n3_
                          have HA_HO109 := n4_
                          have HB := n5_
                          clear n0_ n1_ n2_ n3_ n4_ n5_
                          have hHeld : w23.cell? (ad104.add (x6_1).toNat) = some (.int .i64 (rd l0 x6_1)) ∧ w23.cell? (ad104.add (x6_1).toNat) = some (.int .i64 (rd l0 x6_1)) := hS_
                          obtain ⟨co24, eo24⟩ := HA_HO103.out
                          clear HA_HO103
                          subst eo24
                          obtain ⟨co25, eo25⟩ := HA_HO109.out
                          clear HA_HO109
                          subst eo25
                          refine norm_ (a' := ?_) ?_ ?_
                          rotate_left
                          ·
                           simp only [putAll, Act.put, List.setIfInBounds_toArray, List.set_cons_zero, List.set_cons_succ]
                           rfl
                          refine one_ (i := 6) (N := some 24) #[true, true, true, true, true, true, true, false, false, true, true, true, true, true, true, false, false, false, false, false, false, false] rfl rfl (one_of HT_.out (by kernel_rfl)) (by decide) (fun K hK => ?_)
                          refine goes_ Tryd.func14 (by kernel_rfl) rfl #[.int .i64 (rd l0 x6_1), .int .i64 4] (by rfl) rfl rfl (by (try simp only [List.map_toArray, List.map_cons, List.map_nil]); first | done | rfl | (simp only [List.length_drop, List.length_take]; rfl)) ?_
                          with_reducible refine (bobbinetkeep_Picked.calls (rd l0 x6_1) 4 t105 _ A8.out).mono ?_
                          rintro e w' ⟨rfl, ⟨nd, rfl⟩⟩
                          refine ⟨_, rfl, ?_⟩
                          refine hK.out _ _ ⟨((HB.out.cell (World.block_lt_of_cell? w _ hw104_0)).trans hw104_0), ((HB.out.cell (World.block_lt_of_cell? w _ hw110_0)).trans hw110_0)⟩ (fun hHeld => ?_)
                          clear hK K
                          refine norm_ (a' := ?_) ?_ ?_
                          rotate_left
                          ·
                           show Act.put _ (some 24) _ = _
                           simp only [Act.put, List.setIfInBounds_toArray, List.set_cons_zero, List.set_cons_succ, i64_w, i32_w]
                           rfl
                          refine pure_ (i := 7) (N := some 25) (v := ?_) (a' := ?_) #[true, true, true, true, true, true, true, true, false, true, true, true, true, true, true, false, false, false, false, false, false, false] rfl rfl (any_of HT_.out (by kernel_rfl)) (fun _ _ _ h => h) (Or.inl ⟨by rfl, ?_⟩) ?_ ?_
                          rotate_left
                          ·
                           intro w'
                           go_simp
                           with_reducible rfl
                          rotate_left
                          ·
                           simp only [Act.put, List.setIfInBounds_toArray, List.set_cons_zero, List.set_cons_succ, i64_w, i32_w]
                           rfl
                          exact norm_ (by first | (simp only [putAll, Act.put, List.setIfInBounds_toArray, List.set_cons_zero, List.set_cons_succ]; done) | (simp only [putAll, Act.put, List.setIfInBounds_toArray, List.set_cons_zero, List.set_cons_succ]; rfl)) (hJ1_6_9 (.slice (some adz_v102) y101.length co24, adz_v102, .slice (some adz_v108) y107.length co25, adz_v108) _ ⟨hHeld, (by (with_reducible repeat (first | apply Kd.R_alloc | apply Kd.R_drewN | apply Kd.R_drew)); exact HO103.out), (by (with_reducible repeat (first | apply Kd.R_alloc | apply Kd.R_drewN | apply Kd.R_drew)); exact HO109.out), (by (with_reducible repeat (first | apply Kd.R_alloc | apply Kd.R_drewN | apply Kd.R_drew)); exact HO_5.out), ⟨_, rfl⟩, ⟨_, rfl⟩, (by repeat (first | (with_reducible first | exact HB.out | apply below_alloc | apply pw_below_drewN | apply below_drew1) | exact HB.out))⟩)
                        ·
                         skip
                         rintro ⟨v102, adz_v102⟩ w20 ⟨hS_, h0_, h1_, h2_, h3_⟩
                         have n0_ : Aside0 (Kd.R Kd.string 9 w20 w.heap.size (fun _ => True) v102 y101) := ⟨h0_⟩
                         have n1_ : Aside0 (Kd.R k33 33 w20 w.heap.size (fun _ => True) (.slice Ao15 x5_1.length co15) x5_1) := ⟨h1_⟩
                         have n2_ : Aside0 (∃ c_, (v102 : Value) = .slice (some adz_v102) y101.length c_) := ⟨h2_⟩
                         have n3_ : Aside0 (Below w.heap.size w w20) := ⟨h3_⟩
                         clear HO_5
                         clear HB
                         clear h0_ h1_ h2_ h3_
                         have HO103 := n0_
                         have HO_5 := n1_
                         have HA_HO103 := n2_
                         have HB := n3_
                         clear n0_ n1_ n2_ n3_
                         have hHeld : w20.cell? (ad104.add (x6_1).toNat) = some (.int .i64 (rd l0 x6_1)) ∧ w20.cell? (ad104.add (x6_1).toNat) = some (.int .i64 (rd l0 x6_1)) := hS_
                         obtain ⟨co21, eo21⟩ := HA_HO103.out
                         clear HA_HO103
                         subst eo21
                         refine norm_ (a' := ?_) ?_ ?_
                         rotate_left
                         ·
                          simp only [putAll, Act.put, List.setIfInBounds_toArray, List.set_cons_zero, List.set_cons_succ]
                          rfl
                         refine three_ (i := 8) (j := 9) (k := 15) (Ni := some 26) (Nj := some 27) (Nk := some 33) #[true, true, true, true, true, true, true, true, true, false, true, true, true, true, true, false, false, false, false, false, false, false] #[true, true, true, true, true, true, true, true, false, true, true, true, true, true, true, false, false, false, false, false, false, false] #[true, true, true, true, true, true, true, true, false, false, true, true, true, true, true, true, false, false, false, false, false, false] rfl rfl rfl rfl rfl rfl (three_of HT_.out (by kernel_rfl)) (by decide) (by decide) (by decide) (fun K hK => ?_) (fun K hK => ?_) (fun K hK => ?_)
                         ·
                          skip
                          (have p106 : 0 ≤ (t105 : Int) := of_decide_eq_true (by first | (with_reducible assumption) | assumption); have q106 : t105 < (y101.length : Int) := of_decide_eq_true (by first | (with_reducible assumption) | assumption); obtain ⟨ad106, e106, hx106_0⟩ := Kd.at_string (Kd.R_reads' HO103.out).2.2 t105 p106 q106; obtain rfl : adz_v102 = ad106 := (by injection e106))
                          refine value_ (w1 := ?_) (v := ?_) (by rfl) rfl ?_ ?_
                          rotate_left 2
                          ·
                           go_simp
                           constructor
                           ·
                            rfl
                           ·
                            rfl
                          clear hx106_0
                          refine hK.out _ _ ⟨((HB.out.cell (World.block_lt_of_cell? w _ hw104_0)).trans hw104_0), ((HB.out.cell (World.block_lt_of_cell? w _ hw110_0)).trans hw110_0)⟩ (fun hHeld => ?_)
                          clear hK K
                          refine norm_ (a' := ?_) ?_ ?_
                          rotate_left
                          ·
                           show Act.put _ (some 26) _ = _
                           simp only [Act.put, List.setIfInBounds_toArray, List.set_cons_zero, List.set_cons_succ, i64_w, i32_w]
                           rfl
                          exact norm_ (by first | (simp only [putAll, Act.put, List.setIfInBounds_toArray, List.set_cons_zero, List.set_cons_succ]; done) | (simp only [putAll, Act.put, List.setIfInBounds_toArray, List.set_cons_zero, List.set_cons_succ]; rfl)) (hJ1_6_8 (.slice (some adz_v102) y101.length co21, adz_v102) _ ⟨hHeld, (by (with_reducible repeat (first | apply Kd.R_alloc | apply Kd.R_drewN | apply Kd.R_drew)); exact HO103.out), (by (with_reducible repeat (first | apply Kd.R_alloc | apply Kd.R_drewN | apply Kd.R_drew)); exact HO_5.out), ⟨_, rfl⟩, (by repeat (first | (with_reducible first | exact HB.out | apply below_alloc | apply pw_below_drewN | apply below_drew1) | exact HB.out))⟩)
                         ·
                          skip
                          refine Kd.R_lit_step Kd.string _ 9 ?hg (N := 27) ?hd (xs := ([(⟨#[114, 101, 100]⟩ : ByteArray), (⟨#[49, 112, 120, 32, 50, 112, 120]⟩ : ByteArray), (⟨#[117, 114, 108, 40, 97, 59, 98, 41]⟩ : ByteArray), (⟨#[34, 59, 58, 34]⟩ : ByteArray), (⟨#[97, 58, 98]⟩ : ByteArray), (⟨#[102, 40, 103, 40, 59, 41, 41]⟩ : ByteArray), (⟨#[39, 120, 39]⟩ : ByteArray)] : List ByteArray)) (inner := [.string (⟨#[114, 101, 100]⟩ : ByteArray), .string (⟨#[49, 112, 120, 32, 50, 112, 120]⟩ : ByteArray), .string (⟨#[117, 114, 108, 40, 97, 59, 98, 41]⟩ : ByteArray), .string (⟨#[34, 59, 58, 34]⟩ : ByteArray), .string (⟨#[97, 58, 98]⟩ : ByteArray), .string (⟨#[102, 40, 103, 40, 59, 41, 41]⟩ : ByteArray), .string (⟨#[39, 120, 39]⟩ : ByteArray)]) (ok := fun _ => True) (okp := fun _ => True) ?hr ?hp (fun _ hk => hk) trivial (Below.refl _ _) (Nat.le_refl _) (by simp) ?_; (case hd => rfl); (case hg => rfl); (case hr => first | (go_simp; done) | (go_simp; rfl)); (case hp => exact (Reps.one (show Kd.M Kd.string _ _ _ (⟨#[114, 101, 100]⟩ : ByteArray) [.string (⟨#[114, 101, 100]⟩ : ByteArray)] from rfl) (Reps.one (show Kd.M Kd.string _ _ _ (⟨#[49, 112, 120, 32, 50, 112, 120]⟩ : ByteArray) [.string (⟨#[49, 112, 120, 32, 50, 112, 120]⟩ : ByteArray)] from rfl) (Reps.one (show Kd.M Kd.string _ _ _ (⟨#[117, 114, 108, 40, 97, 59, 98, 41]⟩ : ByteArray) [.string (⟨#[117, 114, 108, 40, 97, 59, 98, 41]⟩ : ByteArray)] from rfl) (Reps.one (show Kd.M Kd.string _ _ _ (⟨#[34, 59, 58, 34]⟩ : ByteArray) [.string (⟨#[34, 59, 58, 34]⟩ : ByteArray)] from rfl) (Reps.one (show Kd.M Kd.string _ _ _ (⟨#[97, 58, 98]⟩ : ByteArray) [.string (⟨#[97, 58, 98]⟩ : ByteArray)] from rfl) (Reps.one (show Kd.M Kd.string _ _ _ (⟨#[102, 40, 103, 40, 59, 41, 41]⟩ : ByteArray) [.string (⟨#[102, 40, 103, 40, 59, 41, 41]⟩ : ByteArray)] from rfl) (Reps.one (show Kd.M Kd.string _ _ _ (⟨#[39, 120, 39]⟩ : ByteArray) [.string (⟨#[39, 120, 39]⟩ : ByteArray)] from rfl) (Reps.none _ _)))))))))
                          intro v108 w22 ho23 hb hg_ hnew_
                          clear hg_ hnew_
                          (first | rw [← Ny107.out] at ho23 | (simp only [Int.reduceToNat] at ho23; rw [← Ny107.out] at ho23))
                          have n0_ := Aside0.mk (Kd.R_below (by (with_reducible repeat (first | apply Kd.R_alloc | apply Kd.R_drewN | apply Kd.R_drew)); exact HO_5.out) hb)
                          have n1_ := Aside0.mk (Kd.R_elder' (by (with_reducible repeat (first | apply Kd.R_alloc | apply Kd.R_drewN | apply Kd.R_drew)); exact HO103.out) (Kd.R_base ho23) hb)
                          have n2_ := Aside0.mk (Kd.R_lower (Kd.R_new' ho23 (Kd.R_lt (by (with_reducible repeat (first | apply Kd.R_alloc | apply Kd.R_drewN | apply Kd.R_drew)); exact HO103.out))) (below_size (by repeat (first | (with_reducible first | exact HB.out | apply below_alloc | apply pw_below_drewN | apply below_drew1) | exact HB.out))))
                          have n3_ := Aside0.mk (below_step (by repeat (first | (with_reducible first | exact HB.out | apply below_alloc | apply pw_below_drewN | apply below_drew1) | exact HB.out)) hb)
                          clear HO_5
                          clear HO103
                          clear HB
                          have HO_5 := n0_
                          have HO103 := n1_
                          have HO109 := n2_
                          have HB := n3_
                          clear n0_ n1_ n2_ n3_
                          clear hb ho23
                          obtain ⟨Ao24, co24, eo24⟩ := Kd.R_slice HO109.out
                          subst eo24
                          obtain ⟨ado24, fo24, _⟩ := Kd.at_string (Kd.R_reads' HO109.out).2.2 0 (by decide) (by rw [Ny107.out]; simp)
                          cases fo24
                          refine hK.out _ _ ⟨((HB.out.cell (World.block_lt_of_cell? w _ hw104_0)).trans hw104_0), ((HB.out.cell (World.block_lt_of_cell? w _ hw110_0)).trans hw110_0)⟩ (fun hHeld => ?_)
                          clear hK K
                          refine norm_ (a' := ?_) ?_ ?_
                          rotate_left
                          ·
                           show Act.put _ (some 27) _ = _
                           simp only [Act.put, List.setIfInBounds_toArray, List.set_cons_zero, List.set_cons_succ, i64_w, i32_w]
                           rfl
                          exact norm_ (by first | (simp only [putAll, Act.put, List.setIfInBounds_toArray, List.set_cons_zero, List.set_cons_succ]; done) | (simp only [putAll, Act.put, List.setIfInBounds_toArray, List.set_cons_zero, List.set_cons_succ]; rfl)) (hJ1_6_9 (.slice (some adz_v102) y101.length co21, adz_v102, .slice (some ado24) y107.length co24, ado24) _ ⟨hHeld, (by (with_reducible repeat (first | apply Kd.R_alloc | apply Kd.R_drewN | apply Kd.R_drew)); exact Kd.R_mono HO103.out (fun _ hk => hk.2)), (by (with_reducible repeat (first | apply Kd.R_alloc | apply Kd.R_drewN | apply Kd.R_drew)); exact Kd.R_mono HO109.out (fun _ hk => hk.2)), (by (with_reducible repeat (first | apply Kd.R_alloc | apply Kd.R_drewN | apply Kd.R_drew)); exact HO_5.out), ⟨_, rfl⟩, ⟨_, rfl⟩, (by repeat (first | (with_reducible first | exact HB.out | apply below_alloc | apply pw_below_drewN | apply below_drew1) | exact HB.out))⟩)
                         ·
                          skip
                          refine goes_ Tryd.func14 (by kernel_rfl) rfl #[.int .i64 (wrap64 (Int.tdiv (rd l0 x6_1) 4)), .int .i64 7] (by rfl) rfl rfl (by (try simp only [List.map_toArray, List.map_cons, List.map_nil]); first | done | rfl | (simp only [List.length_drop, List.length_take]; rfl)) ?_
                          with_reducible refine (bobbinetkeep_Picked.calls (wrap64 (Int.tdiv (rd l0 x6_1) 4)) 7 t111 _ A11.out).mono ?_
                          rintro e w' ⟨rfl, ⟨nd, rfl⟩⟩
                          refine ⟨_, rfl, ?_⟩
                          refine hK.out _ _ ⟨((HB.out.cell (World.block_lt_of_cell? w _ hw104_0)).trans hw104_0), ((HB.out.cell (World.block_lt_of_cell? w _ hw110_0)).trans hw110_0)⟩ (fun hHeld => ?_)
                          clear hK K
                          refine norm_ (a' := ?_) ?_ ?_
                          rotate_left
                          ·
                           show Act.put _ (some 33) _ = _
                           simp only [Act.put, List.setIfInBounds_toArray, List.set_cons_zero, List.set_cons_succ, i64_w, i32_w]
                           rfl
                          exact norm_ (by first | (simp only [putAll, Act.put, List.setIfInBounds_toArray, List.set_cons_zero, List.set_cons_succ]; done) | (simp only [putAll, Act.put, List.setIfInBounds_toArray, List.set_cons_zero, List.set_cons_succ]; rfl)) (hJ1_6_15 (.slice (some adz_v102) y101.length co21, adz_v102) _ ⟨hHeld, (by (with_reducible repeat (first | apply Kd.R_alloc | apply Kd.R_drewN | apply Kd.R_drew)); exact HO103.out), (by (with_reducible repeat (first | apply Kd.R_alloc | apply Kd.R_drewN | apply Kd.R_drew)); exact HO_5.out), ⟨_, rfl⟩, (by repeat (first | (with_reducible first | exact HB.out | apply below_alloc | apply pw_below_drewN | apply below_drew1) | exact HB.out))⟩)
                       ·
                        skip
                        rintro ⟨v108, adz_v108⟩ w20 ⟨hS_, h0_, h1_, h2_, h3_⟩
                        have n0_ : Aside0 (Kd.R Kd.string 9 w20 w.heap.size (fun _ => True) v108 y107) := ⟨h0_⟩
                        have n1_ : Aside0 (Kd.R k33 33 w20 w.heap.size (fun _ => True) (.slice Ao15 x5_1.length co15) x5_1) := ⟨h1_⟩
                        have n2_ : Aside0 (∃ c_, (v108 : Value) = .slice (some adz_v108) y107.length c_) := ⟨h2_⟩
                        have n3_ : Aside0 (Below w.heap.size w w20) := ⟨h3_⟩
                        clear HO_5
                        clear HB
                        clear h0_ h1_ h2_ h3_
                        have HO109 := n0_
                        have HO_5 := n1_
                        have HA_HO109 := n2_
                        have HB := n3_
                        clear n0_ n1_ n2_ n3_
                        have hHeld : w20.cell? (ad104.add (x6_1).toNat) = some (.int .i64 (rd l0 x6_1)) ∧ w20.cell? (ad104.add (x6_1).toNat) = some (.int .i64 (rd l0 x6_1)) := hS_
                        obtain ⟨co21, eo21⟩ := HA_HO109.out
                        clear HA_HO109
                        subst eo21
                        refine norm_ (a' := ?_) ?_ ?_
                        rotate_left
                        ·
                         simp only [putAll, Act.put, List.setIfInBounds_toArray, List.set_cons_zero, List.set_cons_succ]
                         rfl
                        refine two_ (i := 1) (j := 17) (Ni := some 19) (Nj := some 35) #[true, true, true, true, true, true, true, false, false, true, true, true, true, true, true, true, true, false, false, false, false, false] #[true, false, true, true, true, true, true, false, false, true, true, true, true, true, true, true, true, true, false, false, false, false] rfl rfl rfl rfl (two_of HT_.out (by kernel_rfl)) (by decide) (by decide) (fun K hK => ?_) (fun K hK => ?_)
                        ·
                         skip
                         refine Kd.R_lit_step Kd.string _ 9 ?hg (N := 19) ?hd (xs := ([(⟨#[99, 111, 108, 111, 114]⟩ : ByteArray), (⟨#[119, 105, 100, 116, 104]⟩ : ByteArray), (⟨#[97, 45, 98]⟩ : ByteArray), (⟨#[120, 49]⟩ : ByteArray)] : List ByteArray)) (inner := [.string (⟨#[99, 111, 108, 111, 114]⟩ : ByteArray), .string (⟨#[119, 105, 100, 116, 104]⟩ : ByteArray), .string (⟨#[97, 45, 98]⟩ : ByteArray), .string (⟨#[120, 49]⟩ : ByteArray)]) (ok := fun _ => True) (okp := fun _ => True) ?hr ?hp (fun _ hk => hk) trivial (Below.refl _ _) (Nat.le_refl _) (by simp) ?_; (case hd => rfl); (case hg => rfl); (case hr => first | (go_simp; done) | (go_simp; rfl)); (case hp => exact (Reps.one (show Kd.M Kd.string _ _ _ (⟨#[99, 111, 108, 111, 114]⟩ : ByteArray) [.string (⟨#[99, 111, 108, 111, 114]⟩ : ByteArray)] from rfl) (Reps.one (show Kd.M Kd.string _ _ _ (⟨#[119, 105, 100, 116, 104]⟩ : ByteArray) [.string (⟨#[119, 105, 100, 116, 104]⟩ : ByteArray)] from rfl) (Reps.one (show Kd.M Kd.string _ _ _ (⟨#[97, 45, 98]⟩ : ByteArray) [.string (⟨#[97, 45, 98]⟩ : ByteArray)] from rfl) (Reps.one (show Kd.M Kd.string _ _ _ (⟨#[120, 49]⟩ : ByteArray) [.string (⟨#[120, 49]⟩ : ByteArray)] from rfl) (Reps.none _ _))))))
                         intro v102 w22 ho23 hb hg_ hnew_
                         clear hg_ hnew_
                         (first | rw [← Ny101.out] at ho23 | (simp only [Int.reduceToNat] at ho23; rw [← Ny101.out] at ho23))
                         have n0_ := Aside0.mk (Kd.R_below (by (with_reducible repeat (first | apply Kd.R_alloc | apply Kd.R_drewN | apply Kd.R_drew)); exact HO_5.out) hb)
                         have n1_ := Aside0.mk (Kd.R_elder' (by (with_reducible repeat (first | apply Kd.R_alloc | apply Kd.R_drewN | apply Kd.R_drew)); exact HO109.out) (Kd.R_base ho23) hb)
                         have n2_ := Aside0.mk (Kd.R_lower (Kd.R_new' ho23 (Kd.R_lt (by (with_reducible repeat (first | apply Kd.R_alloc | apply Kd.R_drewN | apply Kd.R_drew)); exact HO109.out))) (below_size (by repeat (first | (with_reducible first | exact HB.out | apply below_alloc | apply pw_below_drewN | apply below_drew1) | exact HB.out))))
                         have n3_ := Aside0.mk (below_step (by repeat (first | (with_reducible first | exact HB.out | apply below_alloc | apply pw_below_drewN | apply below_drew1) | exact HB.out)) hb)
                         clear HO_5
                         clear HO109
                         clear HB
                         have HO_5 := n0_
                         have HO109 := n1_
                         have HO103 := n2_
                         have HB := n3_
                         clear n0_ n1_ n2_ n3_
                         clear hb ho23
                         obtain ⟨Ao24, co24, eo24⟩ := Kd.R_slice HO103.out
                         subst eo24
                         obtain ⟨ado24, fo24, _⟩ := Kd.at_string (Kd.R_reads' HO103.out).2.2 0 (by decide) (by rw [Ny101.out]; simp)
                         cases fo24
                         refine hK.out _ _ ⟨((HB.out.cell (World.block_lt_of_cell? w _ hw104_0)).trans hw104_0), ((HB.out.cell (World.block_lt_of_cell? w _ hw110_0)).trans hw110_0)⟩ (fun hHeld => ?_)
                         clear hK K
                         refine norm_ (a' := ?_) ?_ ?_
                         rotate_left
                         ·
                          show Act.put _ (some 19) _ = _
                          simp only [Act.put, List.setIfInBounds_toArray, List.set_cons_zero, List.set_cons_succ, i64_w, i32_w]
                          rfl
                         refine pure_ (i := 7) (N := some 25) (v := ?_) (a' := ?_) #[true, true, true, true, true, true, true, true, false, true, true, true, true, true, true, true, true, false, false, false, false, false] rfl rfl (any_of HT_.out (by kernel_rfl)) (fun _ _ _ h => h) (Or.inl ⟨by rfl, ?_⟩) ?_ ?_
                         rotate_left
                         ·
                          intro w'
                          go_simp
                          with_reducible rfl
                         rotate_left
                         ·
                          simp only [Act.put, List.setIfInBounds_toArray, List.set_cons_zero, List.set_cons_succ, i64_w, i32_w]
                          rfl
                         exact norm_ (by first | (simp only [putAll, Act.put, List.setIfInBounds_toArray, List.set_cons_zero, List.set_cons_succ]; done) | (simp only [putAll, Act.put, List.setIfInBounds_toArray, List.set_cons_zero, List.set_cons_succ]; rfl)) (hJ1_6_9_15 (.slice (some ado24) y101.length co24, ado24, .slice (some adz_v108) y107.length co21, adz_v108) _ ⟨hHeld, (by (with_reducible repeat (first | apply Kd.R_alloc | apply Kd.R_drewN | apply Kd.R_drew)); exact Kd.R_mono HO103.out (fun _ hk => hk.2)), (by (with_reducible repeat (first | apply Kd.R_alloc | apply Kd.R_drewN | apply Kd.R_drew)); exact Kd.R_mono HO109.out (fun _ hk => hk.2)), (by (with_reducible repeat (first | apply Kd.R_alloc | apply Kd.R_drewN | apply Kd.R_drew)); exact HO_5.out), ⟨_, rfl⟩, ⟨_, rfl⟩, (by repeat (first | (with_reducible first | exact HB.out | apply below_alloc | apply pw_below_drewN | apply below_drew1) | exact HB.out))⟩)
                        ·
                         skip
                         (have p112 : 0 ≤ (t111 : Int) := of_decide_eq_true (by first | (with_reducible assumption) | assumption); have q112 : t111 < (y107.length : Int) := of_decide_eq_true (by first | (with_reducible assumption) | assumption); obtain ⟨ad112, e112, hx112_0⟩ := Kd.at_string (Kd.R_reads' HO109.out).2.2 t111 p112 q112; obtain rfl : adz_v108 = ad112 := (by injection e112))
                         refine value_ (w1 := ?_) (v := ?_) (by rfl) rfl ?_ ?_
                         rotate_left 2
                         ·
                          go_simp
                          constructor
                          ·
                           rfl
                          ·
                           rfl
                         clear hx112_0
                         refine hK.out _ _ ⟨((HB.out.cell (World.block_lt_of_cell? w _ hw104_0)).trans hw104_0), ((HB.out.cell (World.block_lt_of_cell? w _ hw110_0)).trans hw110_0)⟩ (fun hHeld => ?_)
                         clear hK K
                         refine norm_ (a' := ?_) ?_ ?_
                         rotate_left
                         ·
                          show Act.put _ (some 35) _ = _
                          simp only [Act.put, List.setIfInBounds_toArray, List.set_cons_zero, List.set_cons_succ, i64_w, i32_w]
                          rfl
                         exact norm_ (by first | (simp only [putAll, Act.put, List.setIfInBounds_toArray, List.set_cons_zero, List.set_cons_succ]; done) | (simp only [putAll, Act.put, List.setIfInBounds_toArray, List.set_cons_zero, List.set_cons_succ]; rfl)) (hJ6_9_15_17 (.slice (some adz_v108) y107.length co21, adz_v108) _ ⟨hHeld, (by (with_reducible repeat (first | apply Kd.R_alloc | apply Kd.R_drewN | apply Kd.R_drew)); exact HO109.out), (by (with_reducible repeat (first | apply Kd.R_alloc | apply Kd.R_drewN | apply Kd.R_drew)); exact HO_5.out), ⟨_, rfl⟩, (by repeat (first | (with_reducible first | exact HB.out | apply below_alloc | apply pw_below_drewN | apply below_drew1) | exact HB.out))⟩)
                      ·
                       skip
                       rintro ⟨v102, adz_v102⟩ w20 ⟨hS_, h0_, h1_, h2_, h3_⟩
                       have n0_ : Aside0 (Kd.R Kd.string 9 w20 w.heap.size (fun _ => True) v102 y101) := ⟨h0_⟩
                       have n1_ : Aside0 (Kd.R k33 33 w20 w.heap.size (fun _ => True) (.slice Ao15 x5_1.length co15) x5_1) := ⟨h1_⟩
                       have n2_ : Aside0 (∃ c_, (v102 : Value) = .slice (some adz_v102) y101.length c_) := ⟨h2_⟩
                       have n3_ : Aside0 (Below w.heap.size w w20) := ⟨h3_⟩
                       clear HO_5
                       clear HB
                       clear h0_ h1_ h2_ h3_
                       have HO103 := n0_
                       have HO_5 := n1_
                       have HA_HO103 := n2_
                       have HB := n3_
                       clear n0_ n1_ n2_ n3_
                       have hHeld : w20.cell? (ad104.add (x6_1).toNat) = some (.int .i64 (rd l0 x6_1)) ∧ w20.cell? (ad104.add (x6_1).toNat) = some (.int .i64 (rd l0 x6_1)) := hS_
                       obtain ⟨co21, eo21⟩ := HA_HO103.out
                       clear HA_HO103
                       subst eo21
                       refine norm_ (a' := ?_) ?_ ?_
                       rotate_left
                       ·
                        simp only [putAll, Act.put, List.setIfInBounds_toArray, List.set_cons_zero, List.set_cons_succ]
                        rfl
                       refine two_ (i := 8) (j := 9) (Ni := some 26) (Nj := some 27) #[true, true, true, true, true, true, true, true, true, false, true, true, true, true, true, true, false, false, false, false, false, false] #[true, true, true, true, true, true, true, true, false, true, true, true, true, true, true, true, false, false, false, false, false, false] rfl rfl rfl rfl (two_of HT_.out (by kernel_rfl)) (by decide) (by decide) (fun K hK => ?_) (fun K hK => ?_)
                       ·
                        skip
                        (have p106 : 0 ≤ (t105 : Int) := of_decide_eq_true (by first | (with_reducible assumption) | assumption); have q106 : t105 < (y101.length : Int) := of_decide_eq_true (by first | (with_reducible assumption) | assumption); obtain ⟨ad106, e106, hx106_0⟩ := Kd.at_string (Kd.R_reads' HO103.out).2.2 t105 p106 q106; obtain rfl : adz_v102 = ad106 := (by injection e106))
                        refine value_ (w1 := ?_) (v := ?_) (by rfl) rfl ?_ ?_
                        rotate_left 2
                        ·
                         go_simp
                         constructor
                         ·
                          rfl
                         ·
                          rfl
                        clear hx106_0
                        refine hK.out _ _ ⟨((HB.out.cell (World.block_lt_of_cell? w _ hw104_0)).trans hw104_0), ((HB.out.cell (World.block_lt_of_cell? w _ hw110_0)).trans hw110_0)⟩ (fun hHeld => ?_)
                        clear hK K
                        refine norm_ (a' := ?_) ?_ ?_
                        rotate_left
                        ·
                         show Act.put _ (some 26) _ = _
                         simp only [Act.put, List.setIfInBounds_toArray, List.set_cons_zero, List.set_cons_succ, i64_w, i32_w]
                         rfl
                        exact norm_ (by first | (simp only [putAll, Act.put, List.setIfInBounds_toArray, List.set_cons_zero, List.set_cons_succ]; done) | (simp only [putAll, Act.put, List.setIfInBounds_toArray, List.set_cons_zero, List.set_cons_succ]; rfl)) (hJ1_6_8_15 (.slice (some adz_v102) y101.length co21, adz_v102) _ ⟨hHeld, (by (with_reducible repeat (first | apply Kd.R_alloc | apply Kd.R_drewN | apply Kd.R_drew)); exact HO103.out), (by (with_reducible repeat (first | apply Kd.R_alloc | apply Kd.R_drewN | apply Kd.R_drew)); exact HO_5.out), ⟨_, rfl⟩, (by repeat (first | (with_reducible first | exact HB.out | apply below_alloc | apply pw_below_drewN | apply below_drew1) | exact HB.out))⟩)
                       ·
                        skip
                        refine Kd.R_lit_step Kd.string _ 9 ?hg (N := 27) ?hd (xs := ([(⟨#[114, 101, 100]⟩ : ByteArray), (⟨#[49, 112, 120, 32, 50, 112, 120]⟩ : ByteArray), (⟨#[117, 114, 108, 40, 97, 59, 98, 41]⟩ : ByteArray), (⟨#[34, 59, 58, 34]⟩ : ByteArray), (⟨#[97, 58, 98]⟩ : ByteArray), (⟨#[102, 40, 103, 40, 59, 41, 41]⟩ : ByteArray), (⟨#[39, 120, 39]⟩ : ByteArray)] : List ByteArray)) (inner := [.string (⟨#[114, 101, 100]⟩ : ByteArray), .string (⟨#[49, 112, 120, 32, 50, 112, 120]⟩ : ByteArray), .string (⟨#[117, 114, 108, 40, 97, 59, 98, 41]⟩ : ByteArray), .string (⟨#[34, 59, 58, 34]⟩ : ByteArray), .string (⟨#[97, 58, 98]⟩ : ByteArray), .string (⟨#[102, 40, 103, 40, 59, 41, 41]⟩ : ByteArray), .string (⟨#[39, 120, 39]⟩ : ByteArray)]) (ok := fun _ => True) (okp := fun _ => True) ?hr ?hp (fun _ hk => hk) trivial (Below.refl _ _) (Nat.le_refl _) (by simp) ?_; (case hd => rfl); (case hg => rfl); (case hr => first | (go_simp; done) | (go_simp; rfl)); (case hp => exact (Reps.one (show Kd.M Kd.string _ _ _ (⟨#[114, 101, 100]⟩ : ByteArray) [.string (⟨#[114, 101, 100]⟩ : ByteArray)] from rfl) (Reps.one (show Kd.M Kd.string _ _ _ (⟨#[49, 112, 120, 32, 50, 112, 120]⟩ : ByteArray) [.string (⟨#[49, 112, 120, 32, 50, 112, 120]⟩ : ByteArray)] from rfl) (Reps.one (show Kd.M Kd.string _ _ _ (⟨#[117, 114, 108, 40, 97, 59, 98, 41]⟩ : ByteArray) [.string (⟨#[117, 114, 108, 40, 97, 59, 98, 41]⟩ : ByteArray)] from rfl) (Reps.one (show Kd.M Kd.string _ _ _ (⟨#[34, 59, 58, 34]⟩ : ByteArray) [.string (⟨#[34, 59, 58, 34]⟩ : ByteArray)] from rfl) (Reps.one (show Kd.M Kd.string _ _ _ (⟨#[97, 58, 98]⟩ : ByteArray) [.string (⟨#[97, 58, 98]⟩ : ByteArray)] from rfl) (Reps.one (show Kd.M Kd.string _ _ _ (⟨#[102, 40, 103, 40, 59, 41, 41]⟩ : ByteArray) [.string (⟨#[102, 40, 103, 40, 59, 41, 41]⟩ : ByteArray)] from rfl) (Reps.one (show Kd.M Kd.string _ _ _ (⟨#[39, 120, 39]⟩ : ByteArray) [.string (⟨#[39, 120, 39]⟩ : ByteArray)] from rfl) (Reps.none _ _)))))))))
                        intro v108 w22 ho23 hb hg_ hnew_
                        clear hg_ hnew_
                        (first | rw [← Ny107.out] at ho23 | (simp only [Int.reduceToNat] at ho23; rw [← Ny107.out] at ho23))
                        have n0_ := Aside0.mk (Kd.R_below (by (with_reducible repeat (first | apply Kd.R_alloc | apply Kd.R_drewN | apply Kd.R_drew)); exact HO_5.out) hb)
                        have n1_ := Aside0.mk (Kd.R_elder' (by (with_reducible repeat (first | apply Kd.R_alloc | apply Kd.R_drewN | apply Kd.R_drew)); exact HO103.out) (Kd.R_base ho23) hb)
                        have n2_ := Aside0.mk (Kd.R_lower (Kd.R_new' ho23 (Kd.R_lt (by (with_reducible repeat (first | apply Kd.R_alloc | apply Kd.R_drewN | apply Kd.R_drew)); exact HO103.out))) (below_size (by repeat (first | (with_reducible first | exact HB.out | apply below_alloc | apply pw_below_drewN | apply below_drew1) | exact HB.out))))
                        have n3_ := Aside0.mk (below_step (by repeat (first | (with_reducible first | exact HB.out | apply below_alloc | apply pw_below_drewN | apply below_drew1) | exact HB.out)) hb)
                        clear HO_5
                        clear HO103
                        clear HB
                        have HO_5 := n0_
                        have HO103 := n1_
                        have HO109 := n2_
                        have HB := n3_
                        clear n0_ n1_ n2_ n3_
                        clear hb ho23
                        obtain ⟨Ao24, co24, eo24⟩ := Kd.R_slice HO109.out
                        subst eo24
                        obtain ⟨ado24, fo24, _⟩ := Kd.at_string (Kd.R_reads' HO109.out).2.2 0 (by decide) (by rw [Ny107.out]; simp)
                        cases fo24
                        refine hK.out _ _ ⟨((HB.out.cell (World.block_lt_of_cell? w _ hw104_0)).trans hw104_0), ((HB.out.cell (World.block_lt_of_cell? w _ hw110_0)).trans hw110_0)⟩ (fun hHeld => ?_)
                        clear hK K
                        refine norm_ (a' := ?_) ?_ ?_
                        rotate_left
                        ·
                         show Act.put _ (some 27) _ = _
                         simp only [Act.put, List.setIfInBounds_toArray, List.set_cons_zero, List.set_cons_succ, i64_w, i32_w]
                         rfl
                        refine pure_ (i := 16) (N := some 34) (v := ?_) (a' := ?_) #[true, true, true, true, true, true, true, true, false, true, true, true, true, true, true, true, true, false, false, false, false, false] rfl rfl (any_of HT_.out (by kernel_rfl)) (fun _ _ _ h => h) (Or.inl ⟨by rfl, ?_⟩) ?_ ?_
                        rotate_left
                        ·
                         intro w'
                         go_simp
                         with_reducible rfl
                        rotate_left
                        ·
                         simp only [Act.put, List.setIfInBounds_toArray, List.set_cons_zero, List.set_cons_succ, i64_w, i32_w]
                         rfl
                        exact norm_ (by first | (simp only [putAll, Act.put, List.setIfInBounds_toArray, List.set_cons_zero, List.set_cons_succ]; done) | (simp only [putAll, Act.put, List.setIfInBounds_toArray, List.set_cons_zero, List.set_cons_succ]; rfl)) (hJ1_6_9_15 (.slice (some adz_v102) y101.length co21, adz_v102, .slice (some ado24) y107.length co24, ado24) _ ⟨hHeld, (by (with_reducible repeat (first | apply Kd.R_alloc | apply Kd.R_drewN | apply Kd.R_drew)); exact Kd.R_mono HO103.out (fun _ hk => hk.2)), (by (with_reducible repeat (first | apply Kd.R_alloc | apply Kd.R_drewN | apply Kd.R_drew)); exact Kd.R_mono HO109.out (fun _ hk => hk.2)), (by (with_reducible repeat (first | apply Kd.R_alloc | apply Kd.R_drewN | apply Kd.R_drew)); exact HO_5.out), ⟨_, rfl⟩, ⟨_, rfl⟩, (by repeat (first | (with_reducible first | exact HB.out | apply below_alloc | apply pw_below_drewN | apply below_drew1) | exact HB.out))⟩)
                     ·
                      skip
                      rintro ⟨v102, adz_v102, v108, adz_v108⟩ w23 ⟨hS_, h0_, h1_, h2_, h3_, h4_, h5_⟩
                      have n0_ : Aside0 (Kd.R Kd.string 9 w23 w.heap.size (fun k_ => some k_ ≠ (v108 : Value).ownBlock) v102 y101) := ⟨h0_⟩
                      have n1_ : Aside0 (Kd.R Kd.string 9 w23 w.heap.size (fun k_ => some k_ ≠ (v102 : Value).ownBlock) v108 y107) := ⟨h1_⟩
                      have n2_ : Aside0 (Kd.R k33 33 w23 w.heap.size (fun _ => True) (.slice Ao15 x5_1.length co15) x5_1) := ⟨h2_⟩
                      have n3_ : Aside0 (∃ c_, (v102 : Value) = .slice (some adz_v102) y101.length c_) := ⟨h3_⟩
                      have n4_ : Aside0 (∃ c_, (v108 : Value) = .slice (some adz_v108) y107.length c_) := ⟨h4_⟩
                      have n5_ : Aside0 (Below w.heap.size w w23) := ⟨h5_⟩
                      clear HO_5
                      clear HB
                      clear h0_ h1_ h2_ h3_ h4_ h5_
                      have HO103 := n0_
                      have HO109 := n1_
                      have HO_5 := n2_
                      have HA_HO103 := n3_
                      have HA_HO109 := n4_
                      have HB := n5_
                      clear n0_ n1_ n2_ n3_ n4_ n5_
                      have hHeld : w23.cell? (ad104.add (x6_1).toNat) = some (.int .i64 (rd l0 x6_1)) ∧ w23.cell? (ad104.add (x6_1).toNat) = some (.int .i64 (rd l0 x6_1)) := hS_
                      obtain ⟨co24, eo24⟩ := HA_HO103.out
                      clear HA_HO103
                      subst eo24
                      obtain ⟨co25, eo25⟩ := HA_HO109.out
                      clear HA_HO109
                      subst eo25
                      refine norm_ (a' := ?_) ?_ ?_
                      rotate_left
                      ·
                       simp only [putAll, Act.put, List.setIfInBounds_toArray, List.set_cons_zero, List.set_cons_succ]
                       rfl
                      refine two_ (i := 8) (j := 15) (Ni := some 26) (Nj := some 33) #[true, true, true, true, true, true, true, true, true, true, true, true, true, true, true, false, false, false, false, false, false, false] #[true, true, true, true, true, true, true, true, false, true, true, true, true, true, true, true, false, false, false, false, false, false] rfl rfl rfl rfl (two_of HT_.out (by kernel_rfl)) (by decide) (by decide) (fun K hK => ?_) (fun K hK => ?_)
                      ·
                       skip
                       (have p106 : 0 ≤ (t105 : Int) := of_decide_eq_true (by first | (with_reducible assumption) | assumption); have q106 : t105 < (y101.length : Int) := of_decide_eq_true (by first | (with_reducible assumption) | assumption); obtain ⟨ad106, e106, hx106_0⟩ := Kd.at_string (Kd.R_reads' HO103.out).2.2 t105 p106 q106; obtain rfl : adz_v102 = ad106 := (by injection e106))
                       refine value_ (w1 := ?_) (v := ?_) (by rfl) rfl ?_ ?_
                       rotate_left 2
                       ·
                        go_simp
                        constructor
                        ·
                         rfl
                        ·
                         rfl
                       clear hx106_0
                       refine hK.out _ _ ⟨((HB.out.cell (World.block_lt_of_cell? w _ hw104_0)).trans hw104_0), ((HB.out.cell (World.block_lt_of_cell? w _ hw110_0)).trans hw110_0)⟩ (fun hHeld => ?_)
                       clear hK K
                       refine norm_ (a' := ?_) ?_ ?_
                       rotate_left
                       ·
                        show Act.put _ (some 26) _ = _
                        simp only [Act.put, List.setIfInBounds_toArray, List.set_cons_zero, List.set_cons_succ, i64_w, i32_w]
                        rfl
                       exact norm_ (by first | (simp only [putAll, Act.put, List.setIfInBounds_toArray, List.set_cons_zero, List.set_cons_succ]; done) | (simp only [putAll, Act.put, List.setIfInBounds_toArray, List.set_cons_zero, List.set_cons_succ]; rfl)) (hJ1_6_8_9 (.slice (some adz_v102) y101.length co24, adz_v102, .slice (some adz_v108) y107.length co25, adz_v108) _ ⟨hHeld, (by (with_reducible repeat (first | apply Kd.R_alloc | apply Kd.R_drewN | apply Kd.R_drew)); exact HO103.out), (by (with_reducible repeat (first | apply Kd.R_alloc | apply Kd.R_drewN | apply Kd.R_drew)); exact HO109.out), (by (with_reducible repeat (first | apply Kd.R_alloc | apply Kd.R_drewN | apply Kd.R_drew)); exact HO_5.out), ⟨_, rfl⟩, ⟨_, rfl⟩, (by repeat (first | (with_reducible first | exact HB.out | apply below_alloc | apply pw_below_drewN | apply below_drew1) | exact HB.out))⟩)
                      ·
                       skip
                       refine goes_ Tryd.func14 (by kernel_rfl) rfl #[.int .i64 (wrap64 (Int.tdiv (rd l0 x6_1) 4)), .int .i64 7] (by rfl) rfl rfl (by (try simp only [List.map_toArray, List.map_cons, List.map_nil]); first | done | rfl | (simp only [List.length_drop, List.length_take]; rfl)) ?_
                       with_reducible refine (bobbinetkeep_Picked.calls (wrap64 (Int.tdiv (rd l0 x6_1) 4)) 7 t111 _ A11.out).mono ?_
                       rintro e w' ⟨rfl, ⟨nd, rfl⟩⟩
                       refine ⟨_, rfl, ?_⟩
                       refine hK.out _ _ ⟨((HB.out.cell (World.block_lt_of_cell? w _ hw104_0)).trans hw104_0), ((HB.out.cell (World.block_lt_of_cell? w _ hw110_0)).trans hw110_0)⟩ (fun hHeld => ?_)
                       clear hK K
                       refine norm_ (a' := ?_) ?_ ?_
                       rotate_left
                       ·
                        show Act.put _ (some 33) _ = _
                        simp only [Act.put, List.setIfInBounds_toArray, List.set_cons_zero, List.set_cons_succ, i64_w, i32_w]
                        rfl
                       refine pure_ (i := 16) (N := some 34) (v := ?_) (a' := ?_) #[true, true, true, true, true, true, true, true, false, true, true, true, true, true, true, true, true, false, false, false, false, false] rfl rfl (any_of HT_.out (by kernel_rfl)) (fun _ _ _ h => h) (Or.inl ⟨by rfl, ?_⟩) ?_ ?_
                       rotate_left
                       ·
                        intro w'
                        go_simp
                        with_reducible rfl
                       rotate_left
                       ·
                        simp only [Act.put, List.setIfInBounds_toArray, List.set_cons_zero, List.set_cons_succ, i64_w, i32_w]
                        rfl
                       exact norm_ (by first | (simp only [putAll, Act.put, List.setIfInBounds_toArray, List.set_cons_zero, List.set_cons_succ]; done) | (simp only [putAll, Act.put, List.setIfInBounds_toArray, List.set_cons_zero, List.set_cons_succ]; rfl)) (hJ1_6_9_15 (.slice (some adz_v102) y101.length co24, adz_v102, .slice (some adz_v108) y107.length co25, adz_v108) _ ⟨hHeld, (by (with_reducible repeat (first | apply Kd.R_alloc | apply Kd.R_drewN | apply Kd.R_drew)); exact HO103.out), (by (with_reducible repeat (first | apply Kd.R_alloc | apply Kd.R_drewN | apply Kd.R_drew)); exact HO109.out), (by (with_reducible repeat (first | apply Kd.R_alloc | apply Kd.R_drewN | apply Kd.R_drew)); exact HO_5.out), ⟨_, rfl⟩, ⟨_, rfl⟩, (by repeat (first | (with_reducible first | exact HB.out | apply below_alloc | apply pw_below_drewN | apply below_drew1) | exact HB.out))⟩)
                    ·
                     skip
                     rintro ⟨v102, adz_v102⟩ w20 ⟨hS_, h0_, h1_, h2_, h3_⟩
                     have n0_ : Aside0 (Kd.R Kd.string 9 w20 w.heap.size (fun _ => True) v102 y101) := ⟨h0_⟩
                     have n1_ : Aside0 (Kd.R k33 33 w20 w.heap.size (fun _ => True) (.slice Ao15 x5_1.length co15) x5_1) := ⟨h1_⟩
                     have n2_ : Aside0 (∃ c_, (v102 : Value) = .slice (some adz_v102) y101.length c_) := ⟨h2_⟩
                     have n3_ : Aside0 (Below w.heap.size w w20) := ⟨h3_⟩
                     clear HO_5
                     clear HB
                     clear h0_ h1_ h2_ h3_
                     have HO103 := n0_
                     have HO_5 := n1_
                     have HA_HO103 := n2_
                     have HB := n3_
                     clear n0_ n1_ n2_ n3_
                     have hHeld : w20.cell? (ad104.add (x6_1).toNat) = some (.int .i64 (rd l0 x6_1)) ∧ w20.cell? (ad104.add (x6_1).toNat) = some (.int .i64 (rd l0 x6_1)) := hS_
                     obtain ⟨co21, eo21⟩ := HA_HO103.out
                     clear HA_HO103
                     subst eo21
                     refine norm_ (a' := ?_) ?_ ?_
                     rotate_left
                     ·
                      simp only [putAll, Act.put, List.setIfInBounds_toArray, List.set_cons_zero, List.set_cons_succ]
                      rfl
                     refine two_ (i := 9) (j := 15) (Ni := some 27) (Nj := some 33) #[true, true, true, true, true, true, true, true, true, true, true, true, true, true, true, false, false, false, false, false, false, false] #[true, true, true, true, true, true, true, true, true, false, true, true, true, true, true, true, false, false, false, false, false, false] rfl rfl rfl rfl (two_of HT_.out (by kernel_rfl)) (by decide) (by decide) (fun K hK => ?_) (fun K hK => ?_)
                     ·
                      skip
                      refine Kd.R_lit_step Kd.string _ 9 ?hg (N := 27) ?hd (xs := ([(⟨#[114, 101, 100]⟩ : ByteArray), (⟨#[49, 112, 120, 32, 50, 112, 120]⟩ : ByteArray), (⟨#[117, 114, 108, 40, 97, 59, 98, 41]⟩ : ByteArray), (⟨#[34, 59, 58, 34]⟩ : ByteArray), (⟨#[97, 58, 98]⟩ : ByteArray), (⟨#[102, 40, 103, 40, 59, 41, 41]⟩ : ByteArray), (⟨#[39, 120, 39]⟩ : ByteArray)] : List ByteArray)) (inner := [.string (⟨#[114, 101, 100]⟩ : ByteArray), .string (⟨#[49, 112, 120, 32, 50, 112, 120]⟩ : ByteArray), .string (⟨#[117, 114, 108, 40, 97, 59, 98, 41]⟩ : ByteArray), .string (⟨#[34, 59, 58, 34]⟩ : ByteArray), .string (⟨#[97, 58, 98]⟩ : ByteArray), .string (⟨#[102, 40, 103, 40, 59, 41, 41]⟩ : ByteArray), .string (⟨#[39, 120, 39]⟩ : ByteArray)]) (ok := fun _ => True) (okp := fun _ => True) ?hr ?hp (fun _ hk => hk) trivial (Below.refl _ _) (Nat.le_refl _) (by simp) ?_; (case hd => rfl); (case hg => rfl); (case hr => first | (go_simp; done) | (go_simp; rfl)); (case hp => exact (Reps.one (show Kd.M Kd.string _ _ _ (⟨#[114, 101, 100]⟩ : ByteArray) [.string (⟨#[114, 101, 100]⟩ : ByteArray)] from rfl) (Reps.one (show Kd.M Kd.string _ _ _ (⟨#[49, 112, 120, 32, 50, 112, 120]⟩ : ByteArray) [.string (⟨#[49, 112, 120, 32, 50, 112, 120]⟩ : ByteArray)] from rfl) (Reps.one (show Kd.M Kd.string _ _ _ (⟨#[117, 114, 108, 40, 97, 59, 98, 41]⟩ : ByteArray) [.string (⟨#[117, 114, 108, 40, 97, 59, 98, 41]⟩ : ByteArray)] from rfl) (Reps.one (show Kd.M Kd.string _ _ _ (⟨#[34, 59, 58, 34]⟩ : ByteArray) [.string (⟨#[34, 59, 58, 34]⟩ : ByteArray)] from rfl) (Reps.one (show Kd.M Kd.string _ _ _ (⟨#[97, 58, 98]⟩ : ByteArray) [.string (⟨#[97, 58, 98]⟩ : ByteArray)] from rfl) (Reps.one (show Kd.M Kd.string _ _ _ (⟨#[102, 40, 103, 40, 59, 41, 41]⟩ : ByteArray) [.string (⟨#[102, 40, 103, 40, 59, 41, 41]⟩ : ByteArray)] from rfl) (Reps.one (show Kd.M Kd.string _ _ _ (⟨#[39, 120, 39]⟩ : ByteArray) [.string (⟨#[39, 120, 39]⟩ : ByteArray)] from rfl) (Reps.none _ _)))))))))
                      intro v108 w22 ho23 hb hg_ hnew_
                      clear hg_ hnew_
                      (first | rw [← Ny107.out] at ho23 | (simp only [Int.reduceToNat] at ho23; rw [← Ny107.out] at ho23))
                      have n0_ := Aside0.mk (Kd.R_below (by (with_reducible repeat (first | apply Kd.R_alloc | apply Kd.R_drewN | apply Kd.R_drew)); exact HO_5.out) hb)
                      have n1_ := Aside0.mk (Kd.R_elder' (by (with_reducible repeat (first | apply Kd.R_alloc | apply Kd.R_drewN | apply Kd.R_drew)); exact HO103.out) (Kd.R_base ho23) hb)
                      have n2_ := Aside0.mk (Kd.R_lower (Kd.R_new' ho23 (Kd.R_lt (by (with_reducible repeat (first | apply Kd.R_alloc | apply Kd.R_drewN | apply Kd.R_drew)); exact HO103.out))) (below_size (by repeat (first | (with_reducible first | exact HB.out | apply below_alloc | apply pw_below_drewN | apply below_drew1) | exact HB.out))))
                      have n3_ := Aside0.mk (below_step (by repeat (first | (with_reducible first | exact HB.out | apply below_alloc | apply pw_below_drewN | apply below_drew1) | exact HB.out)) hb)
                      clear HO_5
                      clear HO103
                      clear HB
                      have HO_5 := n0_
                      have HO103 := n1_
                      have HO109 := n2_
                      have HB := n3_
                      clear n0_ n1_ n2_ n3_
                      clear hb ho23
                      obtain ⟨Ao24, co24, eo24⟩ := Kd.R_slice HO109.out
                      subst eo24
                      obtain ⟨ado24, fo24, _⟩ := Kd.at_string (Kd.R_reads' HO109.out).2.2 0 (by decide) (by rw [Ny107.out]; simp)
                      cases fo24
                      refine hK.out _ _ ⟨((HB.out.cell (World.block_lt_of_cell? w _ hw104_0)).trans hw104_0), ((HB.out.cell (World.block_lt_of_cell? w _ hw110_0)).trans hw110_0)⟩ (fun hHeld => ?_)
                      clear hK K
                      refine norm_ (a' := ?_) ?_ ?_
                      rotate_left
                      ·
                       show Act.put _ (some 27) _ = _
                       simp only [Act.put, List.setIfInBounds_toArray, List.set_cons_zero, List.set_cons_succ, i64_w, i32_w]
                       rfl
                      exact norm_ (by first | (simp only [putAll, Act.put, List.setIfInBounds_toArray, List.set_cons_zero, List.set_cons_succ]; done) | (simp only [putAll, Act.put, List.setIfInBounds_toArray, List.set_cons_zero, List.set_cons_succ]; rfl)) (hJ1_6_8_9 (.slice (some adz_v102) y101.length co21, adz_v102, .slice (some ado24) y107.length co24, ado24) _ ⟨hHeld, (by (with_reducible repeat (first | apply Kd.R_alloc | apply Kd.R_drewN | apply Kd.R_drew)); exact Kd.R_mono HO103.out (fun _ hk => hk.2)), (by (with_reducible repeat (first | apply Kd.R_alloc | apply Kd.R_drewN | apply Kd.R_drew)); exact Kd.R_mono HO109.out (fun _ hk => hk.2)), (by (with_reducible repeat (first | apply Kd.R_alloc | apply Kd.R_drewN | apply Kd.R_drew)); exact HO_5.out), ⟨_, rfl⟩, ⟨_, rfl⟩, (by repeat (first | (with_reducible first | exact HB.out | apply below_alloc | apply pw_below_drewN | apply below_drew1) | exact HB.out))⟩)
                     ·
                      skip
                      refine goes_ Tryd.func14 (by kernel_rfl) rfl #[.int .i64 (wrap64 (Int.tdiv (rd l0 x6_1) 4)), .int .i64 7] (by rfl) rfl rfl (by (try simp only [List.map_toArray, List.map_cons, List.map_nil]); first | done | rfl | (simp only [List.length_drop, List.length_take]; rfl)) ?_
                      with_reducible refine (bobbinetkeep_Picked.calls (wrap64 (Int.tdiv (rd l0 x6_1) 4)) 7 t111 _ A11.out).mono ?_
                      rintro e w' ⟨rfl, ⟨nd, rfl⟩⟩
                      refine ⟨_, rfl, ?_⟩
                      refine hK.out _ _ ⟨((HB.out.cell (World.block_lt_of_cell? w _ hw104_0)).trans hw104_0), ((HB.out.cell (World.block_lt_of_cell? w _ hw110_0)).trans hw110_0)⟩ (fun hHeld => ?_)
                      clear hK K
                      refine norm_ (a' := ?_) ?_ ?_
                      rotate_left
                      ·
                       show Act.put _ (some 33) _ = _
                       simp only [Act.put, List.setIfInBounds_toArray, List.set_cons_zero, List.set_cons_succ, i64_w, i32_w]
                       rfl
                      exact norm_ (by first | (simp only [putAll, Act.put, List.setIfInBounds_toArray, List.set_cons_zero, List.set_cons_succ]; done) | (simp only [putAll, Act.put, List.setIfInBounds_toArray, List.set_cons_zero, List.set_cons_succ]; rfl)) (hJ1_6_8_15 (.slice (some adz_v102) y101.length co21, adz_v102) _ ⟨hHeld, (by (with_reducible repeat (first | apply Kd.R_alloc | apply Kd.R_drewN | apply Kd.R_drew)); exact HO103.out), (by (with_reducible repeat (first | apply Kd.R_alloc | apply Kd.R_drewN | apply Kd.R_drew)); exact HO_5.out), ⟨_, rfl⟩, (by repeat (first | (with_reducible first | exact HB.out | apply below_alloc | apply pw_below_drewN | apply below_drew1) | exact HB.out))⟩)
                   ·
                    skip
                    rintro ⟨v108, adz_v108⟩ w20 ⟨hS_, h0_, h1_, h2_, h3_⟩
                    have n0_ : Aside0 (Kd.R Kd.string 9 w20 w.heap.size (fun _ => True) v108 y107) := ⟨h0_⟩
                    have n1_ : Aside0 (Kd.R k33 33 w20 w.heap.size (fun _ => True) (.slice Ao15 x5_1.length co15) x5_1) := ⟨h1_⟩
                    have n2_ : Aside0 (∃ c_, (v108 : Value) = .slice (some adz_v108) y107.length c_) := ⟨h2_⟩
                    have n3_ : Aside0 (Below w.heap.size w w20) := ⟨h3_⟩
                    clear HO_5
                    clear HB
                    clear h0_ h1_ h2_ h3_
                    have HO109 := n0_
                    have HO_5 := n1_
                    have HA_HO109 := n2_
                    have HB := n3_
                    clear n0_ n1_ n2_ n3_
                    have hHeld : w20.cell? (ad104.add (x6_1).toNat) = some (.int .i64 (rd l0 x6_1)) ∧ w20.cell? (ad104.add (x6_1).toNat) = some (.int .i64 (rd l0 x6_1)) := hS_
                    obtain ⟨co21, eo21⟩ := HA_HO109.out
                    clear HA_HO109
                    subst eo21
                    refine norm_ (a' := ?_) ?_ ?_
                    rotate_left
                    ·
                     simp only [putAll, Act.put, List.setIfInBounds_toArray, List.set_cons_zero, List.set_cons_succ]
                     rfl
                    refine one_ (i := 1) (N := some 19) #[true, true, true, true, true, true, true, false, false, true, true, true, true, true, true, true, true, true, false, false, false, false] rfl rfl (one_of HT_.out (by kernel_rfl)) (by decide) (fun K hK => ?_)
                    refine Kd.R_lit_step Kd.string _ 9 ?hg (N := 19) ?hd (xs := ([(⟨#[99, 111, 108, 111, 114]⟩ : ByteArray), (⟨#[119, 105, 100, 116, 104]⟩ : ByteArray), (⟨#[97, 45, 98]⟩ : ByteArray), (⟨#[120, 49]⟩ : ByteArray)] : List ByteArray)) (inner := [.string (⟨#[99, 111, 108, 111, 114]⟩ : ByteArray), .string (⟨#[119, 105, 100, 116, 104]⟩ : ByteArray), .string (⟨#[97, 45, 98]⟩ : ByteArray), .string (⟨#[120, 49]⟩ : ByteArray)]) (ok := fun _ => True) (okp := fun _ => True) ?hr ?hp (fun _ hk => hk) trivial (Below.refl _ _) (Nat.le_refl _) (by simp) ?_; (case hd => rfl); (case hg => rfl); (case hr => first | (go_simp; done) | (go_simp; rfl)); (case hp => exact (Reps.one (show Kd.M Kd.string _ _ _ (⟨#[99, 111, 108, 111, 114]⟩ : ByteArray) [.string (⟨#[99, 111, 108, 111, 114]⟩ : ByteArray)] from rfl) (Reps.one (show Kd.M Kd.string _ _ _ (⟨#[119, 105, 100, 116, 104]⟩ : ByteArray) [.string (⟨#[119, 105, 100, 116, 104]⟩ : ByteArray)] from rfl) (Reps.one (show Kd.M Kd.string _ _ _ (⟨#[97, 45, 98]⟩ : ByteArray) [.string (⟨#[97, 45, 98]⟩ : ByteArray)] from rfl) (Reps.one (show Kd.M Kd.string _ _ _ (⟨#[120, 49]⟩ : ByteArray) [.string (⟨#[120, 49]⟩ : ByteArray)] from rfl) (Reps.none _ _))))))
                    intro v102 w22 ho23 hb hg_ hnew_
                    clear hg_ hnew_
                    (first | rw [← Ny101.out] at ho23 | (simp only [Int.reduceToNat] at ho23; rw [← Ny101.out] at ho23))
                    have n0_ := Aside0.mk (Kd.R_below (by (with_reducible repeat (first | apply Kd.R_alloc | apply Kd.R_drewN | apply Kd.R_drew)); exact HO_5.out) hb)
                    have n1_ := Aside0.mk (Kd.R_elder' (by (with_reducible repeat (first | apply Kd.R_alloc | apply Kd.R_drewN | apply Kd.R_drew)); exact HO109.out) (Kd.R_base ho23) hb)
                    have n2_ := Aside0.mk (Kd.R_lower (Kd.R_new' ho23 (Kd.R_lt (by (with_reducible repeat (first | apply Kd.R_alloc | apply Kd.R_drewN | apply Kd.R_drew)); exact HO109.out))) (below_size (by repeat (first | (with_reducible first | exact HB.out | apply below_alloc | apply pw_below_drewN | apply below_drew1) | exact HB.out))))
                    have n3_ := Aside0.mk (below_step (by repeat (first | (with_reducible first | exact HB.out | apply below_alloc | apply pw_below_drewN | apply below_drew1) | exact HB.out)) hb)
                    clear HO_5
                    clear HO109
                    clear HB
                    have HO_5 := n0_
                    have HO109 := n1_
                    have HO103 := n2_
                    have HB := n3_
                    clear n0_ n1_ n2_ n3_
                    clear hb ho23
                    obtain ⟨Ao24, co24, eo24⟩ := Kd.R_slice HO103.out
                    subst eo24
                    obtain ⟨ado24, fo24, _⟩ := Kd.at_string (Kd.R_reads' HO103.out).2.2 0 (by decide) (by rw [Ny101.out]; simp)
                    cases fo24
                    refine hK.out _ _ ⟨((HB.out.cell (World.block_lt_of_cell? w _ hw104_0)).trans hw104_0), ((HB.out.cell (World.block_lt_of_cell? w _ hw110_0)).trans hw110_0)⟩ (fun hHeld => ?_)
                    clear hK K
                    refine norm_ (a' := ?_) ?_ ?_
                    rotate_left
                    ·
                     show Act.put _ (some 19) _ = _
                     simp only [Act.put, List.setIfInBounds_toArray, List.set_cons_zero, List.set_cons_succ, i64_w, i32_w]
                     rfl
                    refine pure_ (i := 7) (N := some 25) (v := ?_) (a' := ?_) #[true, true, true, true, true, true, true, true, false, true, true, true, true, true, true, true, true, true, false, false, false, false] rfl rfl (any_of HT_.out (by kernel_rfl)) (fun _ _ _ h => h) (Or.inl ⟨by rfl, ?_⟩) ?_ ?_
                    rotate_left
                    ·
                     intro w'
                     go_simp
                     with_reducible rfl
                    rotate_left
                    ·
                     simp only [Act.put, List.setIfInBounds_toArray, List.set_cons_zero, List.set_cons_succ, i64_w, i32_w]
                     rfl
                    exact norm_ (by first | (simp only [putAll, Act.put, List.setIfInBounds_toArray, List.set_cons_zero, List.set_cons_succ]; done) | (simp only [putAll, Act.put, List.setIfInBounds_toArray, List.set_cons_zero, List.set_cons_succ]; rfl)) (hJ1_6_9_15_17 (.slice (some ado24) y101.length co24, ado24, .slice (some adz_v108) y107.length co21, adz_v108) _ ⟨hHeld, (by (with_reducible repeat (first | apply Kd.R_alloc | apply Kd.R_drewN | apply Kd.R_drew)); exact Kd.R_mono HO103.out (fun _ hk => hk.2)), (by (with_reducible repeat (first | apply Kd.R_alloc | apply Kd.R_drewN | apply Kd.R_drew)); exact Kd.R_mono HO109.out (fun _ hk => hk.2)), (by (with_reducible repeat (first | apply Kd.R_alloc | apply Kd.R_drewN | apply Kd.R_drew)); exact HO_5.out), ⟨_, rfl⟩, ⟨_, rfl⟩, (by repeat (first | (with_reducible first | exact HB.out | apply below_alloc | apply pw_below_drewN | apply below_drew1) | exact HB.out))⟩)
                  ·
                   skip
                   rintro ⟨v102, adz_v102, v108, adz_v108⟩ w23 ⟨hS_, h0_, h1_, h2_, h3_, h4_, h5_⟩
                   have n0_ : Aside0 (Kd.R Kd.string 9 w23 w.heap.size (fun k_ => some k_ ≠ (v108 : Value).ownBlock) v102 y101) := ⟨h0_⟩
                   have n1_ : Aside0 (Kd.R Kd.string 9 w23 w.heap.size (fun k_ => some k_ ≠ (v102 : Value).ownBlock) v108 y107) := ⟨h1_⟩
                   have n2_ : Aside0 (Kd.R k33 33 w23 w.heap.size (fun _ => True) (.slice Ao15 x5_1.length co15) x5_1) := ⟨h2_⟩
                   have n3_ : Aside0 (∃ c_, (v102 : Value) = .slice (some adz_v102) y101.length c_) := ⟨h3_⟩
                   have n4_ : Aside0 (∃ c_, (v108 : Value) = .slice (some adz_v108) y107.length c_) := ⟨h4_⟩
                   have n5_ : Aside0 (Below w.heap.size w w23) := ⟨h5_⟩
                   clear HO_5
                   clear HB
                   clear h0_ h1_ h2_ h3_ h4_ h5_
                   have HO103 := n0_
                   have HO109 := n1_
                   have HO_5 := n2_
                   have HA_HO103 := n3_
                   have HA_HO109 := n4_
                   have HB := n5_
                   clear n0_ n1_ n2_ n3_ n4_ n5_
                   have hHeld : w23.cell? (ad104.add (x6_1).toNat) = some (.int .i64 (rd l0 x6_1)) ∧ w23.cell? (ad104.add (x6_1).toNat) = some (.int .i64 (rd l0 x6_1)) := hS_
                   obtain ⟨co24, eo24⟩ := HA_HO103.out
                   clear HA_HO103
                   subst eo24
                   obtain ⟨co25, eo25⟩ := HA_HO109.out
                   clear HA_HO109
                   subst eo25
                   refine norm_ (a' := ?_) ?_ ?_
                   rotate_left
                   ·
                    simp only [putAll, Act.put, List.setIfInBounds_toArray, List.set_cons_zero, List.set_cons_succ]
                    rfl
                   refine two_ (i := 8) (j := 17) (Ni := some 26) (Nj := some 35) #[true, true, true, true, true, true, true, true, true, true, true, true, true, true, true, true, true, false, false, false, false, false] #[true, true, true, true, true, true, true, true, false, true, true, true, true, true, true, true, true, true, false, false, false, false] rfl rfl rfl rfl (two_of HT_.out (by kernel_rfl)) (by decide) (by decide) (fun K hK => ?_) (fun K hK => ?_)
                   ·
                    skip
                    (have p106 : 0 ≤ (t105 : Int) := of_decide_eq_true (by first | (with_reducible assumption) | assumption); have q106 : t105 < (y101.length : Int) := of_decide_eq_true (by first | (with_reducible assumption) | assumption); obtain ⟨ad106, e106, hx106_0⟩ := Kd.at_string (Kd.R_reads' HO103.out).2.2 t105 p106 q106; obtain rfl : adz_v102 = ad106 := (by injection e106))
                    refine value_ (w1 := ?_) (v := ?_) (by rfl) rfl ?_ ?_
                    rotate_left 2
                    ·
                     go_simp
                     constructor
                     ·
                      rfl
                     ·
                      rfl
                    clear hx106_0
                    refine hK.out _ _ ⟨((HB.out.cell (World.block_lt_of_cell? w _ hw104_0)).trans hw104_0), ((HB.out.cell (World.block_lt_of_cell? w _ hw110_0)).trans hw110_0)⟩ (fun hHeld => ?_)
                    clear hK K
                    refine norm_ (a' := ?_) ?_ ?_
                    rotate_left
                    ·
                     show Act.put _ (some 26) _ = _
                     simp only [Act.put, List.setIfInBounds_toArray, List.set_cons_zero, List.set_cons_succ, i64_w, i32_w]
                     rfl
                    exact norm_ (by first | (simp only [putAll, Act.put, List.setIfInBounds_toArray, List.set_cons_zero, List.set_cons_succ]; done) | (simp only [putAll, Act.put, List.setIfInBounds_toArray, List.set_cons_zero, List.set_cons_succ]; rfl)) (hJ1_6_8_9_15 (.slice (some adz_v102) y101.length co24, adz_v102, .slice (some adz_v108) y107.length co25, adz_v108) _ ⟨hHeld, (by (with_reducible repeat (first | apply Kd.R_alloc | apply Kd.R_drewN | apply Kd.R_drew)); exact HO103.out), (by (with_reducible repeat (first | apply Kd.R_alloc | apply Kd.R_drewN | apply Kd.R_drew)); exact HO109.out), (by (with_reducible repeat (first | apply Kd.R_alloc | apply Kd.R_drewN | apply Kd.R_drew)); exact HO_5.out), ⟨_, rfl⟩, ⟨_, rfl⟩, (by repeat (first | (with_reducible first | exact HB.out | apply below_alloc | apply pw_below_drewN | apply below_drew1) | exact HB.out))⟩)
                   ·
                    skip
                    (have p112 : 0 ≤ (t111 : Int) := of_decide_eq_true (by first | (with_reducible assumption) | assumption); have q112 : t111 < (y107.length : Int) := of_decide_eq_true (by first | (with_reducible assumption) | assumption); obtain ⟨ad112, e112, hx112_0⟩ := Kd.at_string (Kd.R_reads' HO109.out).2.2 t111 p112 q112; obtain rfl : adz_v108 = ad112 := (by injection e112))
                    refine value_ (w1 := ?_) (v := ?_) (by rfl) rfl ?_ ?_
                    rotate_left 2
                    ·
                     go_simp
                     constructor
                     ·
                      rfl
                     ·
                      rfl
                    clear hx112_0
                    refine hK.out _ _ ⟨((HB.out.cell (World.block_lt_of_cell? w _ hw104_0)).trans hw104_0), ((HB.out.cell (World.block_lt_of_cell? w _ hw110_0)).trans hw110_0)⟩ (fun hHeld => ?_)
                    clear hK K
                    refine norm_ (a' := ?_) ?_ ?_
                    rotate_left
                    ·
                     show Act.put _ (some 35) _ = _
                     simp only [Act.put, List.setIfInBounds_toArray, List.set_cons_zero, List.set_cons_succ, i64_w, i32_w]
                     rfl
                    exact norm_ (by first | (simp only [putAll, Act.put, List.setIfInBounds_toArray, List.set_cons_zero, List.set_cons_succ]; done) | (simp only [putAll, Act.put, List.setIfInBounds_toArray, List.set_cons_zero, List.set_cons_succ]; rfl)) (hJ1_6_9_15_17 (.slice (some adz_v102) y101.length co24, adz_v102, .slice (some adz_v108) y107.length co25, adz_v108) _ ⟨hHeld, (by (with_reducible repeat (first | apply Kd.R_alloc | apply Kd.R_drewN | apply Kd.R_drew)); exact HO103.out), (by (with_reducible repeat (first | apply Kd.R_alloc | apply Kd.R_drewN | apply Kd.R_drew)); exact HO109.out), (by (with_reducible repeat (first | apply Kd.R_alloc | apply Kd.R_drewN | apply Kd.R_drew)); exact HO_5.out), ⟨_, rfl⟩, ⟨_, rfl⟩, (by repeat (first | (with_reducible first | exact HB.out | apply below_alloc | apply pw_below_drewN | apply below_drew1) | exact HB.out))⟩)
                 ·
                  skip
                  rintro ⟨v102, adz_v102⟩ w20 ⟨hS_, h0_, h1_, h2_, h3_⟩
                  have n0_ : Aside0 (Kd.R Kd.string 9 w20 w.heap.size (fun _ => True) v102 y101) := ⟨h0_⟩
                  have n1_ : Aside0 (Kd.R k33 33 w20 w.heap.size (fun _ => True) (.slice Ao15 x5_1.length co15) x5_1) := ⟨h1_⟩
                  have n2_ : Aside0 (∃ c_, (v102 : Value) = .slice (some adz_v102) y101.length c_) := ⟨h2_⟩
                  have n3_ : Aside0 (Below w.heap.size w w20) := ⟨h3_⟩
                  clear HO_5
                  clear HB
                  clear h0_ h1_ h2_ h3_
                  have HO103 := n0_
                  have HO_5 := n1_
                  have HA_HO103 := n2_
                  have HB := n3_
                  clear n0_ n1_ n2_ n3_
                  have hHeld : w20.cell? (ad104.add (x6_1).toNat) = some (.int .i64 (rd l0 x6_1)) ∧ w20.cell? (ad104.add (x6_1).toNat) = some (.int .i64 (rd l0 x6_1)) := hS_
                  obtain ⟨co21, eo21⟩ := HA_HO103.out
                  clear HA_HO103
                  subst eo21
                  refine norm_ (a' := ?_) ?_ ?_
                  rotate_left
                  ·
                   simp only [putAll, Act.put, List.setIfInBounds_toArray, List.set_cons_zero, List.set_cons_succ]
                   rfl
                  refine one_ (i := 9) (N := some 27) #[true, true, true, true, true, true, true, true, true, true, true, true, true, true, true, true, false, false, false, false, false, false] rfl rfl (one_of HT_.out (by kernel_rfl)) (by decide) (fun K hK => ?_)
                  refine Kd.R_lit_step Kd.string _ 9 ?hg (N := 27) ?hd (xs := ([(⟨#[114, 101, 100]⟩ : ByteArray), (⟨#[49, 112, 120, 32, 50, 112, 120]⟩ : ByteArray), (⟨#[117, 114, 108, 40, 97, 59, 98, 41]⟩ : ByteArray), (⟨#[34, 59, 58, 34]⟩ : ByteArray), (⟨#[97, 58, 98]⟩ : ByteArray), (⟨#[102, 40, 103, 40, 59, 41, 41]⟩ : ByteArray), (⟨#[39, 120, 39]⟩ : ByteArray)] : List ByteArray)) (inner := [.string (⟨#[114, 101, 100]⟩ : ByteArray), .string (⟨#[49, 112, 120, 32, 50, 112, 120]⟩ : ByteArray), .string (⟨#[117, 114, 108, 40, 97, 59, 98, 41]⟩ : ByteArray), .string (⟨#[34, 59, 58, 34]⟩ : ByteArray), .string (⟨#[97, 58, 98]⟩ : ByteArray), .string (⟨#[102, 40, 103, 40, 59, 41, 41]⟩ : ByteArray), .string (⟨#[39, 120, 39]⟩ : ByteArray)]) (ok := fun _ => True) (okp := fun _ => True) ?hr ?hp (fun _ hk => hk) trivial (Below.refl _ _) (Nat.le_refl _) (by simp) ?_; (case hd => rfl); (case hg => rfl); (case hr => first | (go_simp; done) | (go_simp; rfl)); (case hp => exact (Reps.one (show Kd.M Kd.string _ _ _ (⟨#[114, 101, 100]⟩ : ByteArray) [.string (⟨#[114, 101, 100]⟩ : ByteArray)] from rfl) (Reps.one (show Kd.M Kd.string _ _ _ (⟨#[49, 112, 120, 32, 50, 112, 120]⟩ : ByteArray) [.string (⟨#[49, 112, 120, 32, 50, 112, 120]⟩ : ByteArray)] from rfl) (Reps.one (show Kd.M Kd.string _ _ _ (⟨#[117, 114, 108, 40, 97, 59, 98, 41]⟩ : ByteArray) [.string (⟨#[117, 114, 108, 40, 97, 59, 98, 41]⟩ : ByteArray)] from rfl) (Reps.one (show Kd.M Kd.string _ _ _ (⟨#[34, 59, 58, 34]⟩ : ByteArray) [.string (⟨#[34, 59, 58, 34]⟩ : ByteArray)] from rfl) (Reps.one (show Kd.M Kd.string _ _ _ (⟨#[97, 58, 98]⟩ : ByteArray) [.string (⟨#[97, 58, 98]⟩ : ByteArray)] from rfl) (Reps.one (show Kd.M Kd.string _ _ _ (⟨#[102, 40, 103, 40, 59, 41, 41]⟩ : ByteArray) [.string (⟨#[102, 40, 103, 40, 59, 41, 41]⟩ : ByteArray)] from rfl) (Reps.one (show Kd.M Kd.string _ _ _ (⟨#[39, 120, 39]⟩ : ByteArray) [.string (⟨#[39, 120, 39]⟩ : ByteArray)] from rfl) (Reps.none _ _)))))))))
                  intro v108 w22 ho23 hb hg_ hnew_
                  clear hg_ hnew_
                  (first | rw [← Ny107.out] at ho23 | (simp only [Int.reduceToNat] at ho23; rw [← Ny107.out] at ho23))
                  have n0_ := Aside0.mk (Kd.R_below (by (with_reducible repeat (first | apply Kd.R_alloc | apply Kd.R_drewN | apply Kd.R_drew)); exact HO_5.out) hb)
                  have n1_ := Aside0.mk (Kd.R_elder' (by (with_reducible repeat (first | apply Kd.R_alloc | apply Kd.R_drewN | apply Kd.R_drew)); exact HO103.out) (Kd.R_base ho23) hb)
                  have n2_ := Aside0.mk (Kd.R_lower (Kd.R_new' ho23 (Kd.R_lt (by (with_reducible repeat (first | apply Kd.R_alloc | apply Kd.R_drewN | apply Kd.R_drew)); exact HO103.out))) (below_size (by repeat (first | (with_reducible first | exact HB.out | apply below_alloc | apply pw_below_drewN | apply below_drew1) | exact HB.out))))
                  have n3_ := Aside0.mk (below_step (by repeat (first | (with_reducible first | exact HB.out | apply below_alloc | apply pw_below_drewN | apply below_drew1) | exact HB.out)) hb)
                  clear HO_5
                  clear HO103
                  clear HB
                  have HO_5 := n0_
                  have HO103 := n1_
                  have HO109 := n2_
                  have HB := n3_
                  clear n0_ n1_ n2_ n3_
                  clear hb ho23
                  obtain ⟨Ao24, co24, eo24⟩ := Kd.R_slice HO109.out
                  subst eo24
                  obtain ⟨ado24, fo24, _⟩ := Kd.at_string (Kd.R_reads' HO109.out).2.2 0 (by decide) (by rw [Ny107.out]; simp)
                  cases fo24
                  refine hK.out _ _ ⟨((HB.out.cell (World.block_lt_of_cell? w _ hw104_0)).trans hw104_0), ((HB.out.cell (World.block_lt_of_cell? w _ hw110_0)).trans hw110_0)⟩ (fun hHeld => ?_)
                  clear hK K
                  refine norm_ (a' := ?_) ?_ ?_
                  rotate_left
                  ·
                   show Act.put _ (some 27) _ = _
                   simp only [Act.put, List.setIfInBounds_toArray, List.set_cons_zero, List.set_cons_succ, i64_w, i32_w]
                   rfl
                  refine pure_ (i := 16) (N := some 34) (v := ?_) (a' := ?_) #[true, true, true, true, true, true, true, true, true, true, true, true, true, true, true, true, true, false, false, false, false, false] rfl rfl (any_of HT_.out (by kernel_rfl)) (fun _ _ _ h => h) (Or.inl ⟨by rfl, ?_⟩) ?_ ?_
                  rotate_left
                  ·
                   intro w'
                   go_simp
                   with_reducible rfl
                  rotate_left
                  ·
                   simp only [Act.put, List.setIfInBounds_toArray, List.set_cons_zero, List.set_cons_succ, i64_w, i32_w]
                   rfl
                  exact norm_ (by first | (simp only [putAll, Act.put, List.setIfInBounds_toArray, List.set_cons_zero, List.set_cons_succ]; done) | (simp only [putAll, Act.put, List.setIfInBounds_toArray, List.set_cons_zero, List.set_cons_succ]; rfl)) (hJ1_6_8_9_15 (.slice (some adz_v102) y101.length co21, adz_v102, .slice (some ado24) y107.length co24, ado24) _ ⟨hHeld, (by (with_reducible repeat (first | apply Kd.R_alloc | apply Kd.R_drewN | apply Kd.R_drew)); exact Kd.R_mono HO103.out (fun _ hk => hk.2)), (by (with_reducible repeat (first | apply Kd.R_alloc | apply Kd.R_drewN | apply Kd.R_drew)); exact Kd.R_mono HO109.out (fun _ hk => hk.2)), (by (with_reducible repeat (first | apply Kd.R_alloc | apply Kd.R_drewN | apply Kd.R_drew)); exact HO_5.out), ⟨_, rfl⟩, ⟨_, rfl⟩, (by repeat (first | (with_reducible first | exact HB.out | apply below_alloc | apply pw_below_drewN | apply below_drew1) | exact HB.out))⟩)
                ·
                 skip
                 rintro ⟨v102, adz_v102, v108, adz_v108⟩ w23 ⟨hS_, h0_, h1_, h2_, h3_, h4_, h5_⟩
                 have n0_ : Aside0 (Kd.R Kd.string 9 w23 w.heap.size (fun k_ => some k_ ≠ (v108 : Value).ownBlock) v102 y101) := ⟨h0_⟩
                 have n1_ : Aside0 (Kd.R Kd.string 9 w23 w.heap.size (fun k_ => some k_ ≠ (v102 : Value).ownBlock) v108 y107) := ⟨h1_⟩
                 have n2_ : Aside0 (Kd.R k33 33 w23 w.heap.size (fun _ => True) (.slice Ao15 x5_1.length co15) x5_1) := ⟨h2_⟩
                 have n3_ : Aside0 (∃ c_, (v102 : Value) = .slice (some adz_v102) y101.length c_) := ⟨h3_⟩
                 have n4_ : Aside0 (∃ c_, (v108 : Value) = .slice (some adz_v108) y107.length c_) := ⟨h4_⟩
                 have n5_ : Aside0 (Below w.heap.size w w23) := ⟨h5_⟩
                 clear HO_5
                 clear HB
                 clear h0_ h1_ h2_ h3_ h4_ h5_
                 have HO103 := n0_
                 have HO109 := n1_
                 have HO_5 := n2_
                 have HA_HO103 := n3_
                 have HA_HO109 := n4_
                 have HB := n5_
                 clear n0_ n1_ n2_ n3_ n4_ n5_
                 have hHeld : w23.cell? (ad104.add (x6_1).toNat) = some (.int .i64 (rd l0 x6_1)) ∧ w23.cell? (ad104.add (x6_1).toNat) = some (.int .i64 (rd l0 x6_1)) := hS_
                 obtain ⟨co24, eo24⟩ := HA_HO103.out
                 clear HA_HO103
                 subst eo24
                 obtain ⟨co25, eo25⟩ := HA_HO109.out
                 clear HA_HO109
                 subst eo25
                 refine norm_ (a' := ?_) ?_ ?_
                 rotate_left
                 ·
                  simp only [putAll, Act.put, List.setIfInBounds_toArray, List.set_cons_zero, List.set_cons_succ]
                  rfl
                 refine one_ (i := 15) (N := some 33) #[true, true, true, true, true, true, true, true, true, true, true, true, true, true, true, true, false, false, false, false, false, false] rfl rfl (one_of HT_.out (by kernel_rfl)) (by decide) (fun K hK => ?_)
                 refine goes_ Tryd.func14 (by kernel_rfl) rfl #[.int .i64 (wrap64 (Int.tdiv (rd l0 x6_1) 4)), .int .i64 7] (by rfl) rfl rfl (by (try simp only [List.map_toArray, List.map_cons, List.map_nil]); first | done | rfl | (simp only [List.length_drop, List.length_take]; rfl)) ?_
                 with_reducible refine (bobbinetkeep_Picked.calls (wrap64 (Int.tdiv (rd l0 x6_1) 4)) 7 t111 _ A11.out).mono ?_
                 rintro e w' ⟨rfl, ⟨nd, rfl⟩⟩
                 refine ⟨_, rfl, ?_⟩
                 refine hK.out _ _ ⟨((HB.out.cell (World.block_lt_of_cell? w _ hw104_0)).trans hw104_0), ((HB.out.cell (World.block_lt_of_cell? w _ hw110_0)).trans hw110_0)⟩ (fun hHeld => ?_)
                 clear hK K
                 refine norm_ (a' := ?_) ?_ ?_
                 rotate_left
                 ·
                  show Act.put _ (some 33) _ = _
                  simp only [Act.put, List.setIfInBounds_toArray, List.set_cons_zero, List.set_cons_succ, i64_w, i32_w]
                  rfl
                 refine pure_ (i := 16) (N := some 34) (v := ?_) (a' := ?_) #[true, true, true, true, true, true, true, true, true, true, true, true, true, true, true, true, true, false, false, false, false, false] rfl rfl (any_of HT_.out (by kernel_rfl)) (fun _ _ _ h => h) (Or.inl ⟨by rfl, ?_⟩) ?_ ?_
                 rotate_left
                 ·
                  intro w'
                  go_simp
                  with_reducible rfl
                 rotate_left
                 ·
                  simp only [Act.put, List.setIfInBounds_toArray, List.set_cons_zero, List.set_cons_succ, i64_w, i32_w]
                  rfl
                 exact norm_ (by first | (simp only [putAll, Act.put, List.setIfInBounds_toArray, List.set_cons_zero, List.set_cons_succ]; done) | (simp only [putAll, Act.put, List.setIfInBounds_toArray, List.set_cons_zero, List.set_cons_succ]; rfl)) (hJ1_6_8_9_15 (.slice (some adz_v102) y101.length co24, adz_v102, .slice (some adz_v108) y107.length co25, adz_v108) _ ⟨hHeld, (by (with_reducible repeat (first | apply Kd.R_alloc | apply Kd.R_drewN | apply Kd.R_drew)); exact HO103.out), (by (with_reducible repeat (first | apply Kd.R_alloc | apply Kd.R_drewN | apply Kd.R_drew)); exact HO109.out), (by (with_reducible repeat (first | apply Kd.R_alloc | apply Kd.R_drewN | apply Kd.R_drew)); exact HO_5.out), ⟨_, rfl⟩, ⟨_, rfl⟩, (by repeat (first | (with_reducible first | exact HB.out | apply below_alloc | apply pw_below_drewN | apply below_drew1) | exact HB.out))⟩)
               ·
                skip
                rintro ⟨v102, adz_v102, v108, adz_v108⟩ w23 ⟨hS_, h0_, h1_, h2_, h3_, h4_, h5_⟩
                have n0_ : Aside0 (Kd.R Kd.string 9 w23 w.heap.size (fun k_ => some k_ ≠ (v108 : Value).ownBlock) v102 y101) := ⟨h0_⟩
                have n1_ : Aside0 (Kd.R Kd.string 9 w23 w.heap.size (fun k_ => some k_ ≠ (v102 : Value).ownBlock) v108 y107) := ⟨h1_⟩
                have n2_ : Aside0 (Kd.R k33 33 w23 w.heap.size (fun _ => True) (.slice Ao15 x5_1.length co15) x5_1) := ⟨h2_⟩
                have n3_ : Aside0 (∃ c_, (v102 : Value) = .slice (some adz_v102) y101.length c_) := ⟨h3_⟩
                have n4_ : Aside0 (∃ c_, (v108 : Value) = .slice (some adz_v108) y107.length c_) := ⟨h4_⟩
                have n5_ : Aside0 (Below w.heap.size w w23) := ⟨h5_⟩
                clear HO_5
                clear HB
                clear h0_ h1_ h2_ h3_ h4_ h5_
                have HO103 := n0_
                have HO109 := n1_
                have HO_5 := n2_
                have HA_HO103 := n3_
                have HA_HO109 := n4_
                have HB := n5_
                clear n0_ n1_ n2_ n3_ n4_ n5_
                have hHeld : w23.cell? (ad104.add (x6_1).toNat) = some (.int .i64 (rd l0 x6_1)) ∧ w23.cell? (ad104.add (x6_1).toNat) = some (.int .i64 (rd l0 x6_1)) := hS_
                obtain ⟨co24, eo24⟩ := HA_HO103.out
                clear HA_HO103
                subst eo24
                obtain ⟨co25, eo25⟩ := HA_HO109.out
                clear HA_HO109
                subst eo25
                refine norm_ (a' := ?_) ?_ ?_
                rotate_left
                ·
                 simp only [putAll, Act.put, List.setIfInBounds_toArray, List.set_cons_zero, List.set_cons_succ]
                 rfl
                refine one_ (i := 8) (N := some 26) #[true, true, true, true, true, true, true, true, true, true, true, true, true, true, true, true, true, true, false, false, false, false] rfl rfl (one_of HT_.out (by kernel_rfl)) (by decide) (fun K hK => ?_)
                (have p106 : 0 ≤ (t105 : Int) := of_decide_eq_true (by first | (with_reducible assumption) | assumption); have q106 : t105 < (y101.length : Int) := of_decide_eq_true (by first | (with_reducible assumption) | assumption); obtain ⟨ad106, e106, hx106_0⟩ := Kd.at_string (Kd.R_reads' HO103.out).2.2 t105 p106 q106; obtain rfl : adz_v102 = ad106 := (by injection e106))
                refine value_ (w1 := ?_) (v := ?_) (by rfl) rfl ?_ ?_
                rotate_left 2
                ·
                 go_simp
                 constructor
                 ·
                  rfl
                 ·
                  rfl
                clear hx106_0
                refine hK.out _ _ ⟨((HB.out.cell (World.block_lt_of_cell? w _ hw104_0)).trans hw104_0), ((HB.out.cell (World.block_lt_of_cell? w _ hw110_0)).trans hw110_0)⟩ (fun hHeld => ?_)
                clear hK K
                refine norm_ (a' := ?_) ?_ ?_
                rotate_left
                ·
                 show Act.put _ (some 26) _ = _
                 simp only [Act.put, List.setIfInBounds_toArray, List.set_cons_zero, List.set_cons_succ, i64_w, i32_w]
                 rfl
                exact norm_ (by first | (simp only [putAll, Act.put, List.setIfInBounds_toArray, List.set_cons_zero, List.set_cons_succ]; done) | (simp only [putAll, Act.put, List.setIfInBounds_toArray, List.set_cons_zero, List.set_cons_succ]; rfl)) (hJ1_6_8_9_15_17 (.slice (some adz_v102) y101.length co24, adz_v102, .slice (some adz_v108) y107.length co25, adz_v108) _ ⟨hHeld, (by (with_reducible repeat (first | apply Kd.R_alloc | apply Kd.R_drewN | apply Kd.R_drew)); exact HO103.out), (by (with_reducible repeat (first | apply Kd.R_alloc | apply Kd.R_drewN | apply Kd.R_drew)); exact HO109.out), (by (with_reducible repeat (first | apply Kd.R_alloc | apply Kd.R_drewN | apply Kd.R_drew)); exact HO_5.out), ⟨_, rfl⟩, ⟨_, rfl⟩, (by repeat (first | (with_reducible first | exact HB.out | apply below_alloc | apply pw_below_drewN | apply below_drew1) | exact HB.out))⟩)
              ·
               skip
               rintro ⟨v102, adz_v102, v108, adz_v108⟩ w23 ⟨hS_, h0_, h1_, h2_, h3_, h4_, h5_⟩
               have n0_ : Aside0 (Kd.R Kd.string 9 w23 w.heap.size (fun k_ => some k_ ≠ (v108 : Value).ownBlock) v102 y101) := ⟨h0_⟩
               have n1_ : Aside0 (Kd.R Kd.string 9 w23 w.heap.size (fun k_ => some k_ ≠ (v102 : Value).ownBlock) v108 y107) := ⟨h1_⟩
               have n2_ : Aside0 (Kd.R k33 33 w23 w.heap.size (fun _ => True) (.slice Ao15 x5_1.length co15) x5_1) := ⟨h2_⟩
               have n3_ : Aside0 (∃ c_, (v102 : Value) = .slice (some adz_v102) y101.length c_) := ⟨h3_⟩
               have n4_ : Aside0 (∃ c_, (v108 : Value) = .slice (some adz_v108) y107.length c_) := ⟨h4_⟩
               have n5_ : Aside0 (Below w.heap.size w w23) := ⟨h5_⟩
               clear HO_5
               clear HB
               clear h0_ h1_ h2_ h3_ h4_ h5_
               have HO103 := n0_
               have HO109 := n1_
               have HO_5 := n2_
               have HA_HO103 := n3_
               have HA_HO109 := n4_
               have HB := n5_
               clear n0_ n1_ n2_ n3_ n4_ n5_
               have hHeld : w23.cell? (ad104.add (x6_1).toNat) = some (.int .i64 (rd l0 x6_1)) ∧ w23.cell? (ad104.add (x6_1).toNat) = some (.int .i64 (rd l0 x6_1)) := hS_
               obtain ⟨co24, eo24⟩ := HA_HO103.out
               clear HA_HO103
               subst eo24
               obtain ⟨co25, eo25⟩ := HA_HO109.out
               clear HA_HO109
               subst eo25
               refine norm_ (a' := ?_) ?_ ?_
               rotate_left
               ·
                simp only [putAll, Act.put, List.setIfInBounds_toArray, List.set_cons_zero, List.set_cons_succ]
                rfl
               refine one_ (i := 17) (N := some 35) #[true, true, true, true, true, true, true, true, true, true, true, true, true, true, true, true, true, true, false, false, false, false] rfl rfl (one_of HT_.out (by kernel_rfl)) (by decide) (fun K hK => ?_)
               (have p112 : 0 ≤ (t111 : Int) := of_decide_eq_true (by first | (with_reducible assumption) | assumption); have q112 : t111 < (y107.length : Int) := of_decide_eq_true (by first | (with_reducible assumption) | assumption); obtain ⟨ad112, e112, hx112_0⟩ := Kd.at_string (Kd.R_reads' HO109.out).2.2 t111 p112 q112; obtain rfl : adz_v108 = ad112 := (by injection e112))
               refine value_ (w1 := ?_) (v := ?_) (by rfl) rfl ?_ ?_
               rotate_left 2
               ·
                go_simp
                constructor
                ·
                 rfl
                ·
                 rfl
               clear hx112_0
               refine hK.out _ _ ⟨((HB.out.cell (World.block_lt_of_cell? w _ hw104_0)).trans hw104_0), ((HB.out.cell (World.block_lt_of_cell? w _ hw110_0)).trans hw110_0)⟩ (fun hHeld => ?_)
               clear hK K
               refine norm_ (a' := ?_) ?_ ?_
               rotate_left
               ·
                show Act.put _ (some 35) _ = _
                simp only [Act.put, List.setIfInBounds_toArray, List.set_cons_zero, List.set_cons_succ, i64_w, i32_w]
                rfl
               exact norm_ (by first | (simp only [putAll, Act.put, List.setIfInBounds_toArray, List.set_cons_zero, List.set_cons_succ]; done) | (simp only [putAll, Act.put, List.setIfInBounds_toArray, List.set_cons_zero, List.set_cons_succ]; rfl)) (hJ1_6_8_9_15_17 (.slice (some adz_v102) y101.length co24, adz_v102, .slice (some adz_v108) y107.length co25, adz_v108) _ ⟨hHeld, (by (with_reducible repeat (first | apply Kd.R_alloc | apply Kd.R_drewN | apply Kd.R_drew)); exact HO103.out), (by (with_reducible repeat (first | apply Kd.R_alloc | apply Kd.R_drewN | apply Kd.R_drew)); exact HO109.out), (by (with_reducible repeat (first | apply Kd.R_alloc | apply Kd.R_drewN | apply Kd.R_drew)); exact HO_5.out), ⟨_, rfl⟩, ⟨_, rfl⟩, (by repeat (first | (with_reducible first | exact HB.out | apply below_alloc | apply pw_below_drewN | apply below_drew1) | exact HB.out))⟩)
             rintro ⟨v102, adz_v102, v108, adz_v108⟩ w23 ⟨hS_, h0_, h1_, h2_, h3_, h4_, h5_⟩
             have n0_ : Aside0 (Kd.R Kd.string 9 w23 w.heap.size (fun k_ => some k_ ≠ (v108 : Value).ownBlock) v102 y101) := ⟨h0_⟩
             have n1_ : Aside0 (Kd.R Kd.string 9 w23 w.heap.size (fun k_ => some k_ ≠ (v102 : Value).ownBlock) v108 y107) := ⟨h1_⟩
             have n2_ : Aside0 (Kd.R k33 33 w23 w.heap.size (fun _ => True) (.slice Ao15 x5_1.length co15) x5_1) := ⟨h2_⟩
             have n3_ : Aside0 (∃ c_, (v102 : Value) = .slice (some adz_v102) y101.length c_) := ⟨h3_⟩
             have n4_ : Aside0 (∃ c_, (v108 : Value) = .slice (some adz_v108) y107.length c_) := ⟨h4_⟩
             have n5_ : Aside0 (Below w.heap.size w w23) := ⟨h5_⟩
             clear HO_5
             clear HB
             clear h0_ h1_ h2_ h3_ h4_ h5_
             have HO103 := n0_
             have HO109 := n1_
             have HO_5 := n2_
             have HA_HO103 := n3_
             have HA_HO109 := n4_
             have HB := n5_
             clear n0_ n1_ n2_ n3_ n4_ n5_
             have hHeld : w23.cell? (ad104.add (x6_1).toNat) = some (.int .i64 (rd l0 x6_1)) ∧ w23.cell? (ad104.add (x6_1).toNat) = some (.int .i64 (rd l0 x6_1)) := hS_
             obtain ⟨co24, eo24⟩ := HA_HO103.out
             clear HA_HO103
             subst eo24
             obtain ⟨co25, eo25⟩ := HA_HO109.out
             clear HA_HO109
             subst eo25
             refine norm_ (a' := ?_) ?_ ?_
             rotate_left
             ·
              simp only [putAll, Act.put, List.setIfInBounds_toArray, List.set_cons_zero, List.set_cons_succ]
              rfl
             refine pure_ (i := 18) (N := some 36) (v := ?_) (a' := ?_) #[true, true, true, true, true, true, true, true, true, true, true, true, true, true, true, true, true, true, true, false, false, false] rfl rfl (any_of HT_.out (by kernel_rfl)) (fun _ _ _ h => h) (Or.inl ⟨by rfl, ?_⟩) ?_ ?_
             rotate_left
             ·
              intro w'
              go_simp
              with_reducible rfl
             rotate_left
             ·
              simp only [Act.put, List.setIfInBounds_toArray, List.set_cons_zero, List.set_cons_succ, i64_w, i32_w]
              rfl
             refine one_ (i := 19) (N := some 37) #[true, true, true, true, true, true, true, true, true, true, true, true, true, true, true, true, true, true, true, true, false, false] rfl rfl (one_of HT_.out (by kernel_rfl)) (by decide) (fun K hK => ?_)
             refine value_ (w1 := ?_) (v := ?_) (by rfl) rfl ?_ ?_
             rotate_left 2
             ·
              go_simp
              constructor
              ·
               rfl
              ·
               rfl
             refine hK.out _ _ ⟨(World.cell?_alloc_lt _ _ _ (World.block_lt_of_cell? _ _ (((HB.out.cell (World.block_lt_of_cell? w _ hw104_0)).trans hw104_0)))).trans (((HB.out.cell (World.block_lt_of_cell? w _ hw104_0)).trans hw104_0)), (World.cell?_alloc_lt _ _ _ (World.block_lt_of_cell? _ _ (((HB.out.cell (World.block_lt_of_cell? w _ hw110_0)).trans hw110_0)))).trans (((HB.out.cell (World.block_lt_of_cell? w _ hw110_0)).trans hw110_0))⟩ (fun hHeld => ?_)
             clear hK K
             refine norm_ (a' := ?_) ?_ ?_
             rotate_left
             ·
              show Act.put _ (some 37) _ = _
              simp only [Act.put, List.setIfInBounds_toArray, List.set_cons_zero, List.set_cons_succ, i64_w, i32_w]
              rfl
             refine one_ (i := 20) (N := some 38) #[true, true, true, true, true, true, true, true, true, true, true, true, true, true, true, true, true, true, true, true, true, false] rfl rfl (one_of HT_.out (by kernel_rfl)) (by decide) (fun K hK => ?_)
             refine Kd.R_append_step k33 (w0 := w) w.heap.size (by rfl) (.tmp 18) (.tmp 37) 23 33 (.agg #[(.string ⟨#[]⟩), (.string ⟨#[]⟩)]) 32 rfl Tryd.underlying23 info33 rfl (by decide) (by omega) (.slice Ao15 x5_1.length co15) x5_1 (⟨rdOf ByteArray.empty y101 t105, rdOf ByteArray.empty y107 t111⟩ : S33) [.string (rdOf ByteArray.empty y101 t105), .string (rdOf ByteArray.empty y107 t111)] (fun _ => True) (fun _ => False) rfl rfl ?aP (fun _ hk => hk.elim) ?aF ?aO ?aB ?aS ?aL ?_
             (case aP => exact k33_mkM _ _ _ (⟨rdOf ByteArray.empty y101 t105, rdOf ByteArray.empty y107 t111⟩ : S33))
             (case aB => exact (by repeat (first | (with_reducible first | exact HB.out | apply below_alloc | apply pw_below_drewN | apply below_drew1) | exact HB.out)))
             (case aF => exact (fun _ _ => trivial))
             (case aO => exact (by (with_reducible repeat (first | apply Kd.R_alloc | apply Kd.R_drewN | apply Kd.R_drew)); exact HO_5.out))
             (case aS => exact (below_size (by repeat (first | (with_reducible first | exact HB.out | apply below_alloc | apply pw_below_drewN | apply below_drew1) | exact HB.out))))
             (case aL => have := LMc14.out; omega)
             intro v114 w26 ho hb hg hat
             rw [← Ny113.out] at ho
             have n0_ := Aside0.mk (Kd.R_over' (by (with_reducible repeat (first | apply Kd.R_alloc | apply Kd.R_drewN | apply Kd.R_drew)); exact HO103.out) (Kd.R_typed (by (with_reducible repeat (first | apply Kd.R_alloc | apply Kd.R_drewN | apply Kd.R_drew)); exact HO_5.out)) (by decide) hg)
             have n1_ := Aside0.mk (Kd.R_over' (by (with_reducible repeat (first | apply Kd.R_alloc | apply Kd.R_drewN | apply Kd.R_drew)); exact HO109.out) (Kd.R_typed (by (with_reducible repeat (first | apply Kd.R_alloc | apply Kd.R_drewN | apply Kd.R_drew)); exact HO_5.out)) (by decide) hg)
             have n2_ := Aside0.mk (hb)
             have n3_ := Aside0.mk (ho)
             clear HO103
             clear HO109
             clear HB
             clear HO_5
             have HO103 := n0_
             have HO109 := n1_
             have HB := n2_
             have HO115 := n3_
             clear n0_ n1_ n2_ n3_
             clear ho hb hg hat
             refine hK.out _ _ ⟨((HB.out.cell (World.block_lt_of_cell? w _ hw104_0)).trans hw104_0), ((HB.out.cell (World.block_lt_of_cell? w _ hw110_0)).trans hw110_0)⟩ (fun hHeld => ?_)
             clear hK K
             refine norm_ (a' := ?_) ?_ ?_
             rotate_left
             ·
              show Act.put _ (some 38) _ = _
              simp only [Act.put, List.setIfInBounds_toArray, List.set_cons_zero, List.set_cons_succ, i64_w, i32_w]
              rfl
             refine pure_ (i := 21) (N := some 5) (v := ?_) (a' := ?_) #[true, true, true, true, true, true, true, true, true, true, true, true, true, true, true, true, true, true, true, true, true, true] rfl rfl (any_of HT_.out (by kernel_rfl)) (fun _ _ _ h => h) (Or.inl ⟨by rfl, ?_⟩) ?_ ?_
             rotate_left
             ·
              intro w'
              go_simp
              with_reducible rfl
             rotate_left
             ·
              simp only [Act.put, List.setIfInBounds_toArray, List.set_cons_zero, List.set_cons_succ, i64_w, i32_w]
              rfl
             refine done_ (done_of HT_.out (by kernel_rfl)) ?_
             try go_wp2
             go_roundg kj2
             case measure => have := HK1.out; have := HJ2.out; omega
             case rel => exact ⟨(y113), (wrap64 (x6_1 + 1)), (by first | rfl | (simp; done) | (simp [*]; done) | (simp [bne]; done)), H', ⟨by have := HK1.out; have := HJ2.out; omega⟩, ⟨by (with_reducible repeat (first | apply Kd.R_alloc | apply Kd.R_drewN | apply Kd.R_drew)); exact HO115.out⟩, ⟨by repeat (first | (with_reducible first | exact HB.out | apply below_alloc | apply pw_below_drewN | apply below_drew1) | exact HB.out)⟩⟩
            ·
             rw [if_neg c14] at H
             exact absurd H (by simp)
           ·
            rw [if_neg c13] at H
            exact absurd H (by simp)
          ·
           rw [if_neg c12] at H
           exact absurd H (by simp)
         ·
          rw [if_neg c10] at H
          exact absurd H (by simp)
        ·
         rw [if_neg c9] at H
         exact absurd H (by simp)
       ·
        rw [if_neg c7] at H
        exact absurd H (by simp)
      ·
       rw [if_neg c6] at H
       exact absurd H (by simp)
     ·
      replace c5 := Bool.eq_false_iff.mpr c5
      subst c5
      have H1 : (some x5_1) = some r := by rw [if_neg (show ¬ (false = true) by decide)] at H; exact H
      clear H
      have H := H1
      clear H1
      obtain rfl := Option.some.inj H
      go_wp2
      go_ret
      exact ⟨_, by first | rfl | (simp [errW_none, errW_some] <;> rfl) | (simp [*, errW_none, errW_some] <;> rfl), by (with_reducible repeat (first | apply Kd.R_alloc | apply Kd.R_drewN | apply Kd.R_drew)); exact HO_5.out, by repeat (first | (with_reducible first | exact HB.out | apply below_alloc | apply pw_below_drewN | apply below_drew1) | exact HB.out)⟩
end Go.Proofs.YteimhgbihpbhaaaDoor.X
end
