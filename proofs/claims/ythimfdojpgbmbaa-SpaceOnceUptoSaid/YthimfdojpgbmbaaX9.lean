-- Written by xprint.py (a program of this repo) for seat Ythimfdojpgbmbaa.
import Derived.Test.YthimfdojpgbmbaaX0
import Derived.Test.YthimfdojpgbmbaaX6
import Derived.Test.YthimfdojpgbmbaaX7
import Derived.Test.YthimfdojpgbmbaaX8
namespace Go.Proofs.Ythimfdojpgbmbaa.X
open Go.RowKit Go.Proofs.YthimfdojpgbmbaaW.PrintWords Go.Proofs.YthimfdojpgbmbaaW.PrintLast Go.Proofs.YthimfdojpgbmbaaW.PrintMore
attribute [local go_sem] max2_int min2_int max_two min_two max_three min_three max_four min_four   -- for this text's walks alone
set_option linter.unusedVariables false
set_option linter.unusedSimpArgs false

/-! ### bobbinetkeep_SpaceOnce: function 9 -/
def bobbinetkeep_SpaceOnce.j0 : Nat → ByteArray → ByteArray → Bool → ByteArray → Bool → Option (Bool)
  | 0, _, _, _, _, _ => none
  | k + 1, x0, x1, x2, x7, x8 => (bobbinetkeep_spaceSure.f).bind fun t103 => (if t103 = true then ((space_Text.f x7 x2).bind fun t104 => (if t104.toList = x7.toList then (if x0.size + x1.size ≤ 9223372036854775807 then ((space_Text.f (x0 ++ x1) x2).bind fun t105 => ((space_Text.f x1 x8).bind fun t106 => (if x7.size + t106.size ≤ 9223372036854775807 then (if t105.toList = (x7 ++ t106).toList then (if (wrap64 ((x0.size : Int) + (x1.size : Int))) > 200 then (some true) else ((bobbinetkeep_SpaceOnce_1.f k x7).bind fun t107 => ((bobbinetkeep_SpaceOnce_1.f k x0).bind fun t108 => (some (t107.toList == t108.toList))))) else (some false)) else (none)))) else (none)) else (some false))) else (some false))
def bobbinetkeep_SpaceOnce.f (k : Nat) (a0 : ByteArray) (a1 : ByteArray) (a2 : Bool) : Option (Bool) := (space_Text.f a0 a2).bind fun t102 => (if (a0.size : Int) > 0 then (if 0 ≤ (wrap64 ((a0.size : Int) - 1)) then (if (wrap64 ((a0.size : Int) - 1)) < (a0.size : Int) then (if (bt a0 (wrap64 ((a0.size : Int) - 1))) = 32 then (bobbinetkeep_SpaceOnce.j0 k a0 a1 a2 t102 true) else (if (bt a0 (wrap64 ((a0.size : Int) - 1))) = 9 then (bobbinetkeep_SpaceOnce.j0 k a0 a1 a2 t102 true) else (if (bt a0 (wrap64 ((a0.size : Int) - 1))) = 10 then (bobbinetkeep_SpaceOnce.j0 k a0 a1 a2 t102 true) else (bobbinetkeep_SpaceOnce.j0 k a0 a1 a2 t102 ((bt a0 (wrap64 ((a0.size : Int) - 1))) == 12))))) else (none)) else (none)) else (bobbinetkeep_SpaceOnce.j0 k a0 a1 a2 t102 a2))
theorem bobbinetkeep_SpaceOnce.mono_l : ∀ k, (∀ y0 y1 y2 y3 y4, LeO (bobbinetkeep_SpaceOnce.j0 k y0 y1 y2 y3 y4) (bobbinetkeep_SpaceOnce.j0 (k + 1) y0 y1 y2 y3 y4))
  | 0 => fun _ _ _ _ _ r h => by simp [bobbinetkeep_SpaceOnce.j0] at h
  | k + 1 => by
    have ih0 := bobbinetkeep_SpaceOnce.mono_l k
    · intro y0 y1 y2 y3 y4
      unfold bobbinetkeep_SpaceOnce.j0
      repeat' first
      | (with_reducible exact ih0 _ _ _ _ _)
      | (with_reducible exact bobbinetkeep_SpaceOnce_1.mono _ _)
      | (with_reducible exact LeO.refl _)
      | (with_reducible exact LeO.none _)
      | (with_reducible refine LeO.ite ?_ ?_)
      | (with_reducible refine LeO.bind ?_ (fun _ => ?_))
      | exact ih0 _ _ _ _ _
      | exact bobbinetkeep_SpaceOnce_1.mono _ _
      | exact LeO.none _
      | refine LeO.ite ?_ ?_
      | refine LeO.bind ?_ (fun _ => ?_)
theorem bobbinetkeep_SpaceOnce.mono : ∀ a0 a1 a2 k, LeO (bobbinetkeep_SpaceOnce.f k a0 a1 a2) (bobbinetkeep_SpaceOnce.f (k + 1) a0 a1 a2) := by
  intro a0 a1 a2 k
  have ih0 := bobbinetkeep_SpaceOnce.mono_l k
  unfold bobbinetkeep_SpaceOnce.f
  repeat' first
      | (with_reducible exact ih0 _ _ _ _ _)
      | (with_reducible exact bobbinetkeep_SpaceOnce_1.mono _ _)
      | (with_reducible exact LeO.refl _)
      | (with_reducible exact LeO.none _)
      | (with_reducible refine LeO.ite ?_ ?_)
      | (with_reducible refine LeO.bind ?_ (fun _ => ?_))
      | exact ih0 _ _ _ _ _
      | exact bobbinetkeep_SpaceOnce_1.mono _ _
      | exact LeO.none _
      | refine LeO.ite ?_ ?_
      | refine LeO.bind ?_ (fun _ => ?_)
set_option maxHeartbeats 8000000 in
set_option maxRecDepth 100000 in
theorem bobbinetkeep_SpaceOnce.calls (k : Nat) (a0 : ByteArray) (a1 : ByteArray) (a2 : Bool) (r : Bool) (w : World) (h : bobbinetkeep_SpaceOnce.f k a0 a1 a2 = some r) :
    Calls Try.prog 9 #[.string a0, .string a1, .bool a2] w fun e w' => e = .returned (.bool r) ∧ Below w.heap.size w w' := by
  have HB := Aside0.mk (Below.refl w.heap.size w)
  have H : ((space_Text.f a0 a2).bind fun t102 => (if (a0.size : Int) > 0 then (if 0 ≤ (wrap64 ((a0.size : Int) - 1)) then (if (wrap64 ((a0.size : Int) - 1)) < (a0.size : Int) then (if (bt a0 (wrap64 ((a0.size : Int) - 1))) = 32 then (bobbinetkeep_SpaceOnce.j0 k a0 a1 a2 t102 true) else (if (bt a0 (wrap64 ((a0.size : Int) - 1))) = 9 then (bobbinetkeep_SpaceOnce.j0 k a0 a1 a2 t102 true) else (if (bt a0 (wrap64 ((a0.size : Int) - 1))) = 10 then (bobbinetkeep_SpaceOnce.j0 k a0 a1 a2 t102 true) else (bobbinetkeep_SpaceOnce.j0 k a0 a1 a2 t102 ((bt a0 (wrap64 ((a0.size : Int) - 1))) == 12))))) else (none)) else (none)) else (bobbinetkeep_SpaceOnce.j0 k a0 a1 a2 t102 a2))) = some r := h
  clear h
  replace H := Option.bind_eq_some_iff.mp H
  obtain ⟨t102, A40, H⟩ := H
  replace H : (if (a0.size : Int) > 0 then (if 0 ≤ (wrap64 ((a0.size : Int) - 1)) then (if (wrap64 ((a0.size : Int) - 1)) < (a0.size : Int) then (if (bt a0 (wrap64 ((a0.size : Int) - 1))) = 32 then (bobbinetkeep_SpaceOnce.j0 k a0 a1 a2 t102 true) else (if (bt a0 (wrap64 ((a0.size : Int) - 1))) = 9 then (bobbinetkeep_SpaceOnce.j0 k a0 a1 a2 t102 true) else (if (bt a0 (wrap64 ((a0.size : Int) - 1))) = 10 then (bobbinetkeep_SpaceOnce.j0 k a0 a1 a2 t102 true) else (bobbinetkeep_SpaceOnce.j0 k a0 a1 a2 t102 ((bt a0 (wrap64 ((a0.size : Int) - 1))) == 12))))) else (none)) else (none)) else (bobbinetkeep_SpaceOnce.j0 k a0 a1 a2 t102 a2)) = some r := H
  have A4 := Aside0.mk A40
  clear A40
  have HC5 := Aside0.mk H
  clear H
  go_enter Try.func9, Try.ntmps9
  go_upto_if 17 with (first | ((with_reducible refine gate_callee (f := 20) rfl ?_); refine goesL_ (some 13) rfl rfl Try.func20 (by kernel_rfl) rfl #[.string a0, .bool a2] rfl (by (try simp only [List.map_toArray, List.map_cons, List.map_nil]); first | done | rfl | (simp only [List.length_drop, List.length_take]; rfl)) ?_; (with_reducible refine (space_Text.calls a0 a2 t102 _ A4.out).mono ?_); rintro e w6 ⟨rfl, hb⟩; refine ⟨_, rfl, ?_⟩; have n0_ := Aside0.mk (below_step (by repeat (first | (with_reducible first | exact HB.out | apply below_alloc | apply pw_below_drewN | apply below_drew1) | exact HB.out)) hb); clear HB; have HB := n0_; clear n0_; (try clear hb); (try clear hb2); (try clear hk); (try clear hi)))
  (try simp only [Act.put, List.setIfInBounds_toArray, List.set_cons_zero, List.set_cons_succ])
  go_cut [8] (fun v8 wc => ∃ (kq : Nat) (x8_4 : Bool), v8 = .bool x8_4 ∧ Aside0 (bobbinetkeep_SpaceOnce.j0 kq a0 a1 a2 t102 x8_4 = some r) ∧ Aside0 (kq ≤ k) ∧ Aside0 (Below w.heap.size w wc))
  case first =>
    have H := HC5.out
    clear HC5
    by_cases c7 : (a0.size : Int) > 0
    · rw [if_pos c7] at H
      have c7b0 : decide (0 < (a0.size : Int)) = true := decide_eq_true c7
      have c7b1 : decide (0 < a0.size) = true := decide_eq_true (by omega)
      clear c7
      (first | rw [c7b0] | (simp only [i64_w, i32_w]; rw [c7b0]) | rw [c7b1] | skip)
      obtain ⟨ji8, hji8⟩ : ∃ j_ : Int, (wrap64 ((a0.size : Int) - 1)) = j_ := ⟨_, rfl⟩
      replace H : (if 0 ≤ (ji8) then (if (ji8) < (a0.size : Int) then (if (bt a0 (ji8)) = 32 then (bobbinetkeep_SpaceOnce.j0 k a0 a1 a2 t102 true) else (if (bt a0 (ji8)) = 9 then (bobbinetkeep_SpaceOnce.j0 k a0 a1 a2 t102 true) else (if (bt a0 (ji8)) = 10 then (bobbinetkeep_SpaceOnce.j0 k a0 a1 a2 t102 true) else (bobbinetkeep_SpaceOnce.j0 k a0 a1 a2 t102 ((bt a0 (ji8)) == 12))))) else (none)) else (none)) = some r := by first | (rw [hji8] at H; exact H) | (simp only [hji8] at H ⊢; exact H)
      have hji8w : (IntKind.i64.wrap ((a0.size : Int) - 1)) = ji8 := (i64_w _).trans hji8
      by_cases c9 : 0 ≤ (ji8)
      · rw [if_pos c9] at H
        have c9b0 : decide (0 ≤ (ji8)) = true := decide_eq_true c9
        clear c9
        by_cases c10 : (ji8) < (a0.size : Int)
        · rw [if_pos c10] at H
          have c10b0 : decide ((ji8) < (a0.size : Int)) = true := decide_eq_true c10
          clear c10
          by_cases c12 : (bt a0 (ji8)) = 32
          · rw [if_pos c12] at H
            have c12b0 : ((bt a0 (ji8)) == 32) = true := beq_iff_eq.mpr c12
            have c12b1 : ((bt a0 (ji8)) != 32) = false := bne_eq_false_iff_eq.mpr c12
            clear c12
            have H' := Aside0.mk H
            clear H
            have p11 : 0 ≤ ((ji8) : Int) := of_decide_eq_true (by first | (with_reducible assumption) | assumption)
            have q11 : (ji8) < (a0.size : Int) := of_decide_eq_true (by first | (with_reducible assumption) | assumption)
            have hx11 := bt_at a0 (ji8)
            replace p11 := eq_true p11
            replace q11 := eq_true q11
            go_wp2
            go_meet
            case rel => exact ⟨_, (true), (by first | rfl | (simp; done) | (simp [*]; done)), H', ⟨by first | omega | exact Nat.le_refl _⟩, ⟨by repeat (first | (with_reducible first | exact HB.out | apply below_alloc | apply pw_below_drewN | apply below_drew1) | exact HB.out)⟩⟩
          · rw [if_neg c12] at H
            have c12b0 : ((bt a0 (ji8)) == 32) = false := beq_eq_false_iff_ne.mpr c12
            have c12b1 : ((bt a0 (ji8)) != 32) = true := bne_iff_ne.mpr c12
            by_cases c13 : (bt a0 (ji8)) = 9
            · rw [if_pos c13] at H
              have c13b0 : ((bt a0 (ji8)) == 9) = true := beq_iff_eq.mpr c13
              have c13b1 : ((bt a0 (ji8)) != 9) = false := bne_eq_false_iff_eq.mpr c13
              clear c13
              have H' := Aside0.mk H
              clear H
              have p11 : 0 ≤ ((ji8) : Int) := of_decide_eq_true (by first | (with_reducible assumption) | assumption)
              have q11 : (ji8) < (a0.size : Int) := of_decide_eq_true (by first | (with_reducible assumption) | assumption)
              have hx11 := bt_at a0 (ji8)
              replace p11 := eq_true p11
              replace q11 := eq_true q11
              go_wp2
              go_meet
              case rel => exact ⟨_, (true), (by first | rfl | (simp; done) | (simp [*]; done)), H', ⟨by first | omega | exact Nat.le_refl _⟩, ⟨by repeat (first | (with_reducible first | exact HB.out | apply below_alloc | apply pw_below_drewN | apply below_drew1) | exact HB.out)⟩⟩
            · rw [if_neg c13] at H
              have c13b0 : ((bt a0 (ji8)) == 9) = false := beq_eq_false_iff_ne.mpr c13
              have c13b1 : ((bt a0 (ji8)) != 9) = true := bne_iff_ne.mpr c13
              by_cases c14 : (bt a0 (ji8)) = 10
              · rw [if_pos c14] at H
                have c14b0 : ((bt a0 (ji8)) == 10) = true := beq_iff_eq.mpr c14
                have c14b1 : ((bt a0 (ji8)) != 10) = false := bne_eq_false_iff_eq.mpr c14
                clear c14
                have H' := Aside0.mk H
                clear H
                have p11 : 0 ≤ ((ji8) : Int) := of_decide_eq_true (by first | (with_reducible assumption) | assumption)
                have q11 : (ji8) < (a0.size : Int) := of_decide_eq_true (by first | (with_reducible assumption) | assumption)
                have hx11 := bt_at a0 (ji8)
                replace p11 := eq_true p11
                replace q11 := eq_true q11
                go_wp2
                go_meet
                case rel => exact ⟨_, (true), (by first | rfl | (simp; done) | (simp [*]; done)), H', ⟨by first | omega | exact Nat.le_refl _⟩, ⟨by repeat (first | (with_reducible first | exact HB.out | apply below_alloc | apply pw_below_drewN | apply below_drew1) | exact HB.out)⟩⟩
              · rw [if_neg c14] at H
                have c14b0 : ((bt a0 (ji8)) == 10) = false := beq_eq_false_iff_ne.mpr c14
                have c14b1 : ((bt a0 (ji8)) != 10) = true := bne_iff_ne.mpr c14
                have H' := Aside0.mk H
                clear H
                have p11 : 0 ≤ ((ji8) : Int) := of_decide_eq_true (by first | (with_reducible assumption) | assumption)
                have q11 : (ji8) < (a0.size : Int) := of_decide_eq_true (by first | (with_reducible assumption) | assumption)
                have hx11 := bt_at a0 (ji8)
                replace p11 := eq_true p11
                replace q11 := eq_true q11
                go_wp2
                go_meet
                case rel => exact ⟨_, (((bt a0 (ji8)) == 12)), (by first | rfl | (simp; done) | (simp only [← hji8] <;> (first | rfl | simp)) | (simp [*]; done)), H', ⟨by first | omega | exact Nat.le_refl _⟩, ⟨by repeat (first | (with_reducible first | exact HB.out | apply below_alloc | apply pw_below_drewN | apply below_drew1) | exact HB.out)⟩⟩
        · rw [if_neg c10] at H
          exact absurd H (by simp)
      · rw [if_neg c9] at H
        exact absurd H (by simp)
    · rw [if_neg c7] at H
      have c7b0 : decide (0 < (a0.size : Int)) = false := decide_eq_false c7
      have c7b1 : decide (0 < a0.size) = false := decide_eq_false (by omega)
      clear c7
      (first | rw [c7b0] | (simp only [i64_w, i32_w]; rw [c7b0]) | rw [c7b1] | skip)
      have H' := Aside0.mk H
      clear H
      go_wp2
      go_meet
      case rel => exact ⟨_, (a2), (by first | rfl | (simp; done) | (simp [*]; done)), H', ⟨by first | omega | exact Nat.le_refl _⟩, ⟨by repeat (first | (with_reducible first | exact HB.out | apply below_alloc | apply pw_below_drewN | apply below_drew1) | exact HB.out)⟩⟩
  case rest =>
    clear HC5
    try clear c1
    try clear p1
    try clear q1
    try clear hx1
    try clear c2
    try clear p2
    try clear p6
    try clear c7
    try clear c7b0
    try clear c7b1
    try clear c9
    try clear c9b0
    try clear c10
    try clear c10b0
    try clear p11
    try clear q11
    try clear hx11
    try clear c12
    try clear c12b0
    try clear c12b1
    try clear c13
    try clear c13b0
    try clear c13b1
    try clear c14
    try clear c14b0
    try clear c14b1
    try clear p11
    try clear q11
    obtain ⟨kq, x8_4, rfl, HA, HJ4, HB⟩ := hcut
    cases kq with
    | zero => exact absurd HA.out (by simp [bobbinetkeep_SpaceOnce.j0])
    | succ kj4 =>
      have H := HA.out
      clear HA
      simp only [bobbinetkeep_SpaceOnce.j0] at H
      replace H := Option.bind_eq_some_iff.mp H
      obtain ⟨t103, A150, H⟩ := H
      replace H : (if t103 = true then ((space_Text.f t102 a2).bind fun t104 => (if t104.toList = t102.toList then (if a0.size + a1.size ≤ 9223372036854775807 then ((space_Text.f (a0 ++ a1) a2).bind fun t105 => ((space_Text.f a1 x8_4).bind fun t106 => (if t102.size + t106.size ≤ 9223372036854775807 then (if t105.toList = (t102 ++ t106).toList then (if (wrap64 ((a0.size : Int) + (a1.size : Int))) > 200 then (some true) else ((bobbinetkeep_SpaceOnce_1.f kj4 t102).bind fun t107 => ((bobbinetkeep_SpaceOnce_1.f kj4 a0).bind fun t108 => (some (t107.toList == t108.toList))))) else (some false)) else (none)))) else (none)) else (some false))) else (some false)) = some r := H
      have A15 := Aside0.mk A150
      clear A150
      by_cases c16 : t103 = true
      · subst c16
        have H1 : ((space_Text.f t102 a2).bind fun t104 => (if t104.toList = t102.toList then (if a0.size + a1.size ≤ 9223372036854775807 then ((space_Text.f (a0 ++ a1) a2).bind fun t105 => ((space_Text.f a1 x8_4).bind fun t106 => (if t102.size + t106.size ≤ 9223372036854775807 then (if t105.toList = (t102 ++ t106).toList then (if (wrap64 ((a0.size : Int) + (a1.size : Int))) > 200 then (some true) else ((bobbinetkeep_SpaceOnce_1.f kj4 t102).bind fun t107 => ((bobbinetkeep_SpaceOnce_1.f kj4 a0).bind fun t108 => (some (t107.toList == t108.toList))))) else (some false)) else (none)))) else (none)) else (some false))) = some r := by rw [if_pos rfl] at H; exact H
        clear H
        have H := H1
        clear H1
        replace H := Option.bind_eq_some_iff.mp H
        obtain ⟨t104, A170, H⟩ := H
        replace H : (if t104.toList = t102.toList then (if a0.size + a1.size ≤ 9223372036854775807 then ((space_Text.f (a0 ++ a1) a2).bind fun t105 => ((space_Text.f a1 x8_4).bind fun t106 => (if t102.size + t106.size ≤ 9223372036854775807 then (if t105.toList = (t102 ++ t106).toList then (if (wrap64 ((a0.size : Int) + (a1.size : Int))) > 200 then (some true) else ((bobbinetkeep_SpaceOnce_1.f kj4 t102).bind fun t107 => ((bobbinetkeep_SpaceOnce_1.f kj4 a0).bind fun t108 => (some (t107.toList == t108.toList))))) else (some false)) else (none)))) else (none)) else (some false)) = some r := H
        have A17 := Aside0.mk A170
        clear A170
        by_cases c18 : t104.toList = t102.toList
        · rw [if_pos c18] at H
          have c18b0 : (t104.toList == t102.toList) = true := beq_iff_eq.mpr c18
          have c18b1 : (t104.toList != t102.toList) = false := bne_eq_false_iff_eq.mpr c18
          clear c18
          by_cases c19 : a0.size + a1.size ≤ 9223372036854775807
          · rw [if_pos c19] at H
            have c19b0 := eq_true c19
            have c19b1 : decide (a0.size + a1.size ≤ 9223372036854775807) = true := decide_eq_true c19
            try have c19b2 : (9223372036854775807 < a0.size + a1.size) = False := eq_false (Nat.not_lt.2 c19)
            replace H := Option.bind_eq_some_iff.mp H
            obtain ⟨t105, A200, H⟩ := H
            replace H : ((space_Text.f a1 x8_4).bind fun t106 => (if t102.size + t106.size ≤ 9223372036854775807 then (if t105.toList = (t102 ++ t106).toList then (if (wrap64 ((a0.size : Int) + (a1.size : Int))) > 200 then (some true) else ((bobbinetkeep_SpaceOnce_1.f kj4 t102).bind fun t107 => ((bobbinetkeep_SpaceOnce_1.f kj4 a0).bind fun t108 => (some (t107.toList == t108.toList))))) else (some false)) else (none))) = some r := H
            have A20 := Aside0.mk A200
            clear A200
            replace H := Option.bind_eq_some_iff.mp H
            obtain ⟨t106, A210, H⟩ := H
            replace H : (if t102.size + t106.size ≤ 9223372036854775807 then (if t105.toList = (t102 ++ t106).toList then (if (wrap64 ((a0.size : Int) + (a1.size : Int))) > 200 then (some true) else ((bobbinetkeep_SpaceOnce_1.f kj4 t102).bind fun t107 => ((bobbinetkeep_SpaceOnce_1.f kj4 a0).bind fun t108 => (some (t107.toList == t108.toList))))) else (some false)) else (none)) = some r := H
            have A21 := Aside0.mk A210
            clear A210
            by_cases c22 : t102.size + t106.size ≤ 9223372036854775807
            · rw [if_pos c22] at H
              have c22b0 := eq_true c22
              have c22b1 : decide (t102.size + t106.size ≤ 9223372036854775807) = true := decide_eq_true c22
              try have c22b2 : (9223372036854775807 < t102.size + t106.size) = False := eq_false (Nat.not_lt.2 c22)
              by_cases c23 : t105.toList = (t102 ++ t106).toList
              · rw [if_pos c23] at H
                have c23b0 : (t105.toList == (t102 ++ t106).toList) = true := beq_iff_eq.mpr c23
                have c23b1 : (t105.toList != (t102 ++ t106).toList) = false := bne_eq_false_iff_eq.mpr c23
                clear c23
                by_cases c24 : (wrap64 ((a0.size : Int) + (a1.size : Int))) > 200
                · rw [if_pos c24] at H
                  have c24b0 : decide (200 < (wrap64 ((a0.size : Int) + (a1.size : Int)))) = true := decide_eq_true c24
                  try have c24bw : decide (200 < (a0.size : Int) + (a1.size : Int)) = true := decide_eq_true (by unfold wrap64 at c24; omega)
                  clear c24
                  obtain rfl := Option.some.inj H
                  go_wp2_with (first | ((with_reducible refine gate_callee (f := 22) rfl ?_); refine goesL_ (some 37) rfl rfl Try.func22 (by kernel_rfl) rfl #[] rfl (by (try simp only [List.map_toArray, List.map_cons, List.map_nil]); first | done | rfl | (simp only [List.length_drop, List.length_take]; rfl)) ?_; (with_reducible refine (bobbinetkeep_spaceSure.calls  true _ A15.out).mono ?_); rintro e w25 ⟨rfl, hb⟩; refine ⟨_, rfl, ?_⟩; have n0_ := Aside0.mk (below_step (by repeat (first | (with_reducible first | exact HB.out | apply below_alloc | apply pw_below_drewN | apply below_drew1) | exact HB.out)) hb); clear HB; have HB := n0_; clear n0_; (try clear hb); (try clear hb2); (try clear hk); (try clear hi)) | (go_at_call 20; (with_reducible refine (space_Text.calls t102 a2 t104 _ A17.out).mono ?_); rintro e w26 ⟨rfl, hb⟩; have n0_ := Aside0.mk (below_step (by repeat (first | (with_reducible first | exact HB.out | apply below_alloc | apply pw_below_drewN | apply below_drew1) | exact HB.out)) hb); clear HB; have HB := n0_; clear n0_; (try clear hb); (try clear hb2); (try clear hk); (try clear hi)) | (go_at_call 20; (with_reducible refine (space_Text.calls (a0 ++ a1) a2 t105 _ A20.out).mono ?_); rintro e w27 ⟨rfl, hb⟩; have n0_ := Aside0.mk (below_step (by repeat (first | (with_reducible first | exact HB.out | apply below_alloc | apply pw_below_drewN | apply below_drew1) | exact HB.out)) hb); clear HB; have HB := n0_; clear n0_; (try clear hb); (try clear hb2); (try clear hk); (try clear hi)) | (go_at_call 20; (with_reducible refine (space_Text.calls a1 x8_4 t106 _ A21.out).mono ?_); rintro e w28 ⟨rfl, hb⟩; have n0_ := Aside0.mk (below_step (by repeat (first | (with_reducible first | exact HB.out | apply below_alloc | apply pw_below_drewN | apply below_drew1) | exact HB.out)) hb); clear HB; have HB := n0_; clear n0_; (try clear hb); (try clear hb2); (try clear hk); (try clear hi)))
                  go_ret
                  exact ⟨by first | rfl | (simp [errW_none, errW_some] <;> rfl) | (simp [*, errW_none, errW_some] <;> rfl), by repeat (first | (with_reducible first | exact HB.out | apply below_alloc | apply pw_below_drewN | apply below_drew1) | exact HB.out)⟩
                · rw [if_neg c24] at H
                  have c24b0 : decide (200 < (wrap64 ((a0.size : Int) + (a1.size : Int)))) = false := decide_eq_false c24
                  try have c24bw : decide (200 < (a0.size : Int) + (a1.size : Int)) = false := decide_eq_false (by unfold wrap64 at c24; omega)
                  clear c24
                  replace H := Option.bind_eq_some_iff.mp H
                  obtain ⟨t107, A290, H⟩ := H
                  replace H : ((bobbinetkeep_SpaceOnce_1.f kj4 a0).bind fun t108 => (some (t107.toList == t108.toList))) = some r := H
                  have A29 := Aside0.mk A290
                  clear A290
                  replace H := Option.bind_eq_some_iff.mp H
                  obtain ⟨t108, A300, H⟩ := H
                  replace H : (some (t107.toList == t108.toList)) = some r := H
                  have A30 := Aside0.mk A300
                  clear A300
                  obtain rfl := Option.some.inj H
                  go_wp2_with (first | ((with_reducible refine gate_callee (f := 22) rfl ?_); refine goesL_ (some 37) rfl rfl Try.func22 (by kernel_rfl) rfl #[] rfl (by (try simp only [List.map_toArray, List.map_cons, List.map_nil]); first | done | rfl | (simp only [List.length_drop, List.length_take]; rfl)) ?_; (with_reducible refine (bobbinetkeep_spaceSure.calls  true _ A15.out).mono ?_); rintro e w31 ⟨rfl, hb⟩; refine ⟨_, rfl, ?_⟩; have n0_ := Aside0.mk (below_step (by repeat (first | (with_reducible first | exact HB.out | apply below_alloc | apply pw_below_drewN | apply below_drew1) | exact HB.out)) hb); clear HB; have HB := n0_; clear n0_; (try clear hb); (try clear hb2); (try clear hk); (try clear hi)) | (go_at_call 20; (with_reducible refine (space_Text.calls t102 a2 t104 _ A17.out).mono ?_); rintro e w32 ⟨rfl, hb⟩; have n0_ := Aside0.mk (below_step (by repeat (first | (with_reducible first | exact HB.out | apply below_alloc | apply pw_below_drewN | apply below_drew1) | exact HB.out)) hb); clear HB; have HB := n0_; clear n0_; (try clear hb); (try clear hb2); (try clear hk); (try clear hi)) | (go_at_call 20; (with_reducible refine (space_Text.calls (a0 ++ a1) a2 t105 _ A20.out).mono ?_); rintro e w33 ⟨rfl, hb⟩; have n0_ := Aside0.mk (below_step (by repeat (first | (with_reducible first | exact HB.out | apply below_alloc | apply pw_below_drewN | apply below_drew1) | exact HB.out)) hb); clear HB; have HB := n0_; clear n0_; (try clear hb); (try clear hb2); (try clear hk); (try clear hi)) | (go_at_call 20; (with_reducible refine (space_Text.calls a1 x8_4 t106 _ A21.out).mono ?_); rintro e w34 ⟨rfl, hb⟩; have n0_ := Aside0.mk (below_step (by repeat (first | (with_reducible first | exact HB.out | apply below_alloc | apply pw_below_drewN | apply below_drew1) | exact HB.out)) hb); clear HB; have HB := n0_; clear n0_; (try clear hb); (try clear hb2); (try clear hk); (try clear hi)) | (go_at_call 21; (with_reducible refine (bobbinetkeep_SpaceOnce_1.calls kj4 t102 t107 _ A29.out).mono ?_); rintro e w' ⟨rfl, ⟨nd, rfl⟩⟩) | (go_at_call 21; (with_reducible refine (bobbinetkeep_SpaceOnce_1.calls kj4 a0 t108 _ A30.out).mono ?_); rintro e w' ⟨rfl, ⟨nd, rfl⟩⟩))
                  go_ret
                  exact ⟨by first | rfl | (simp [errW_none, errW_some] <;> rfl) | (simp [*, errW_none, errW_some] <;> rfl), by repeat (first | (with_reducible first | exact HB.out | apply below_alloc | apply pw_below_drewN | apply below_drew1) | exact HB.out)⟩
              · rw [if_neg c23] at H
                have c23b0 : (t105.toList == (t102 ++ t106).toList) = false := beq_eq_false_iff_ne.mpr c23
                have c23b1 : (t105.toList != (t102 ++ t106).toList) = true := bne_iff_ne.mpr c23
                obtain rfl := Option.some.inj H
                go_wp2_with (first | ((with_reducible refine gate_callee (f := 22) rfl ?_); refine goesL_ (some 37) rfl rfl Try.func22 (by kernel_rfl) rfl #[] rfl (by (try simp only [List.map_toArray, List.map_cons, List.map_nil]); first | done | rfl | (simp only [List.length_drop, List.length_take]; rfl)) ?_; (with_reducible refine (bobbinetkeep_spaceSure.calls  true _ A15.out).mono ?_); rintro e w35 ⟨rfl, hb⟩; refine ⟨_, rfl, ?_⟩; have n0_ := Aside0.mk (below_step (by repeat (first | (with_reducible first | exact HB.out | apply below_alloc | apply pw_below_drewN | apply below_drew1) | exact HB.out)) hb); clear HB; have HB := n0_; clear n0_; (try clear hb); (try clear hb2); (try clear hk); (try clear hi)) | (go_at_call 20; (with_reducible refine (space_Text.calls t102 a2 t104 _ A17.out).mono ?_); rintro e w36 ⟨rfl, hb⟩; have n0_ := Aside0.mk (below_step (by repeat (first | (with_reducible first | exact HB.out | apply below_alloc | apply pw_below_drewN | apply below_drew1) | exact HB.out)) hb); clear HB; have HB := n0_; clear n0_; (try clear hb); (try clear hb2); (try clear hk); (try clear hi)) | (go_at_call 20; (with_reducible refine (space_Text.calls (a0 ++ a1) a2 t105 _ A20.out).mono ?_); rintro e w37 ⟨rfl, hb⟩; have n0_ := Aside0.mk (below_step (by repeat (first | (with_reducible first | exact HB.out | apply below_alloc | apply pw_below_drewN | apply below_drew1) | exact HB.out)) hb); clear HB; have HB := n0_; clear n0_; (try clear hb); (try clear hb2); (try clear hk); (try clear hi)) | (go_at_call 20; (with_reducible refine (space_Text.calls a1 x8_4 t106 _ A21.out).mono ?_); rintro e w38 ⟨rfl, hb⟩; have n0_ := Aside0.mk (below_step (by repeat (first | (with_reducible first | exact HB.out | apply below_alloc | apply pw_below_drewN | apply below_drew1) | exact HB.out)) hb); clear HB; have HB := n0_; clear n0_; (try clear hb); (try clear hb2); (try clear hk); (try clear hi)))
                go_ret
                exact ⟨by first | rfl | (simp [errW_none, errW_some] <;> rfl) | (simp [*, errW_none, errW_some] <;> rfl), by repeat (first | (with_reducible first | exact HB.out | apply below_alloc | apply pw_below_drewN | apply below_drew1) | exact HB.out)⟩
            · rw [if_neg c22] at H
              exact absurd H (by simp)
          · rw [if_neg c19] at H
            exact absurd H (by simp)
        · rw [if_neg c18] at H
          have c18b0 : (t104.toList == t102.toList) = false := beq_eq_false_iff_ne.mpr c18
          have c18b1 : (t104.toList != t102.toList) = true := bne_iff_ne.mpr c18
          obtain rfl := Option.some.inj H
          go_wp2_with (first | ((with_reducible refine gate_callee (f := 22) rfl ?_); refine goesL_ (some 37) rfl rfl Try.func22 (by kernel_rfl) rfl #[] rfl (by (try simp only [List.map_toArray, List.map_cons, List.map_nil]); first | done | rfl | (simp only [List.length_drop, List.length_take]; rfl)) ?_; (with_reducible refine (bobbinetkeep_spaceSure.calls  true _ A15.out).mono ?_); rintro e w39 ⟨rfl, hb⟩; refine ⟨_, rfl, ?_⟩; have n0_ := Aside0.mk (below_step (by repeat (first | (with_reducible first | exact HB.out | apply below_alloc | apply pw_below_drewN | apply below_drew1) | exact HB.out)) hb); clear HB; have HB := n0_; clear n0_; (try clear hb); (try clear hb2); (try clear hk); (try clear hi)) | (go_at_call 20; (with_reducible refine (space_Text.calls t102 a2 t104 _ A17.out).mono ?_); rintro e w40 ⟨rfl, hb⟩; have n0_ := Aside0.mk (below_step (by repeat (first | (with_reducible first | exact HB.out | apply below_alloc | apply pw_below_drewN | apply below_drew1) | exact HB.out)) hb); clear HB; have HB := n0_; clear n0_; (try clear hb); (try clear hb2); (try clear hk); (try clear hi)))
          go_ret
          exact ⟨by first | rfl | (simp [errW_none, errW_some] <;> rfl) | (simp [*, errW_none, errW_some] <;> rfl), by repeat (first | (with_reducible first | exact HB.out | apply below_alloc | apply pw_below_drewN | apply below_drew1) | exact HB.out)⟩
      · replace c16 := Bool.eq_false_iff.mpr c16
        subst c16
        have H1 : (some false) = some r := by rw [if_neg (show ¬ (false = true) by decide)] at H; exact H
        clear H
        have H := H1
        clear H1
        obtain rfl := Option.some.inj H
        go_wp2_with (first | ((with_reducible refine gate_callee (f := 22) rfl ?_); refine goesL_ (some 37) rfl rfl Try.func22 (by kernel_rfl) rfl #[] rfl (by (try simp only [List.map_toArray, List.map_cons, List.map_nil]); first | done | rfl | (simp only [List.length_drop, List.length_take]; rfl)) ?_; (with_reducible refine (bobbinetkeep_spaceSure.calls  false _ A15.out).mono ?_); rintro e w41 ⟨rfl, hb⟩; refine ⟨_, rfl, ?_⟩; have n0_ := Aside0.mk (below_step (by repeat (first | (with_reducible first | exact HB.out | apply below_alloc | apply pw_below_drewN | apply below_drew1) | exact HB.out)) hb); clear HB; have HB := n0_; clear n0_; (try clear hb); (try clear hb2); (try clear hk); (try clear hi)))
        go_ret
        exact ⟨by first | rfl | (simp [errW_none, errW_some] <;> rfl) | (simp [*, errW_none, errW_some] <;> rfl), by repeat (first | (with_reducible first | exact HB.out | apply below_alloc | apply pw_below_drewN | apply below_drew1) | exact HB.out)⟩

/-- THE ONE PURE STATEMENT of bobbinetkeep_SpaceOnce: yours. -/
def bobbinetkeep_SpaceOnce.Pure : Prop := ∀ (a0 : ByteArray) (a1 : ByteArray) (a2 : Bool), a0.size ≤ 1048576 → a1.size ≤ 1048576 → ∃ k, bobbinetkeep_SpaceOnce.f k a0 a1 a2 = some true
theorem bobbinetkeep_SpaceOnce.walk (P : bobbinetkeep_SpaceOnce.Pure) (a0 : ByteArray) (a1 : ByteArray) (a2 : Bool) (w : World) (w0 : a0.size ≤ 1048576) (w1 : a1.size ≤ 1048576) :
    Calls Try.prog 9 #[.string a0, .string a1, .bool a2] w fun e w' => e = .returned (.bool true) ∧ Below w.heap.size w w' := by
  obtain ⟨k, h⟩ := P a0 a1 a2 w0 w1
  refine (bobbinetkeep_SpaceOnce.calls k a0 a1 a2 true w h).mono ?_
  rintro e w' ⟨rfl, hd⟩
  exact ⟨rfl, hd⟩

end Go.Proofs.Ythimfdojpgbmbaa.X
