/- Parts of the proof of RefNumbers that are needed, put together by pack.py. -/
import Derived.Test.YteimhgbihpbhaaaDoorQRefNumbersaf
import Derived.Test.YteimhgbihpbhaaaDoorQRefNumbersai
import Derived.Test.YteimhgbihpbhaaaDoorQRefNumbersaj
import Derived.Test.YteimhgbihpbhaaaDoorQRefNumbersag
import Derived.Test.YteimhgbihpbhaaaDoorQRefNumbersah
import Derived.Test.YteimhgbihpbhaaaDoorQRefNumbersaa
section
namespace Go.Proofs.YteimhgbihpbhaaaDoor.X
open Go.RowKit Go.Proofs.YteimhgbihpbhaaaDoorW.PrintWords Go.Proofs.YteimhgbihpbhaaaDoorW.PrintLast Go.Proofs.YteimhgbihpbhaaaDoorW.PrintMore
attribute [local go_sem] max2_int min2_int max_two min_two max_three min_three max_four min_four   -- for this text's walks alone
set_option linter.unusedVariables false
set_option linter.unusedSimpArgs false
def ref_named.f (a0 : ByteArray) : Option (Int) := if a0.toList = ([97, 109, 112] : List UInt8) then (some 38) else (if a0.toList = ([108, 116] : List UInt8) then (some 60) else (if a0.toList = ([103, 116] : List UInt8) then (some 62) else (if a0.toList = ([113, 117, 111, 116] : List UInt8) then (some 34) else (if a0.toList = ([110, 98, 115, 112] : List UInt8) then (some 160) else (if a0.toList = ([99, 111, 112, 121] : List UInt8) then (some 169) else (some 0))))))
set_option maxHeartbeats 8000000 in
set_option maxRecDepth 100000 in
theorem ref_named.calls (a0 : ByteArray) (r : Int) (w : World) (h : ref_named.f a0 = some r) :
    Calls Tryd.prog 61 #[.string a0] w fun e w' => e = .returned (.int .i32 r) ∧ Drawn0 w w' := by
  have H : (if a0.toList = ([97, 109, 112] : List UInt8) then (some 38) else (if a0.toList = ([108, 116] : List UInt8) then (some 60) else (if a0.toList = ([103, 116] : List UInt8) then (some 62) else (if a0.toList = ([113, 117, 111, 116] : List UInt8) then (some 34) else (if a0.toList = ([110, 98, 115, 112] : List UInt8) then (some 160) else (if a0.toList = ([99, 111, 112, 121] : List UInt8) then (some 169) else (some 0))))))) = some r := h
  clear h
  by_cases c2 : a0.toList = ([97, 109, 112] : List UInt8)
  · rw [if_pos c2] at H
    have c2b0 : (a0.toList == ([97, 109, 112] : List UInt8)) = true := beq_iff_eq.mpr c2
    have c2b1 : (a0.toList != ([97, 109, 112] : List UInt8)) = false := bne_eq_false_iff_eq.mpr c2
    clear c2
    obtain rfl := Option.some.inj H
    go_enter Tryd.func61, Tryd.ntmps61
    go_wp2
    go_ret
    exact ⟨by first | rfl | (simp; done) | (simp [*]; done), by repeat (first | exact Drawn0.refl _ | apply Drawn0.step)⟩
  · rw [if_neg c2] at H
    have c2b0 : (a0.toList == ([97, 109, 112] : List UInt8)) = false := beq_eq_false_iff_ne.mpr c2
    have c2b1 : (a0.toList != ([97, 109, 112] : List UInt8)) = true := bne_iff_ne.mpr c2
    by_cases c3 : a0.toList = ([108, 116] : List UInt8)
    · rw [if_pos c3] at H
      have c3b0 : (a0.toList == ([108, 116] : List UInt8)) = true := beq_iff_eq.mpr c3
      have c3b1 : (a0.toList != ([108, 116] : List UInt8)) = false := bne_eq_false_iff_eq.mpr c3
      clear c3
      obtain rfl := Option.some.inj H
      go_enter Tryd.func61, Tryd.ntmps61
      go_wp2
      go_ret
      exact ⟨by first | rfl | (simp; done) | (simp [*]; done), by repeat (first | exact Drawn0.refl _ | apply Drawn0.step)⟩
    · rw [if_neg c3] at H
      have c3b0 : (a0.toList == ([108, 116] : List UInt8)) = false := beq_eq_false_iff_ne.mpr c3
      have c3b1 : (a0.toList != ([108, 116] : List UInt8)) = true := bne_iff_ne.mpr c3
      by_cases c4 : a0.toList = ([103, 116] : List UInt8)
      · rw [if_pos c4] at H
        have c4b0 : (a0.toList == ([103, 116] : List UInt8)) = true := beq_iff_eq.mpr c4
        have c4b1 : (a0.toList != ([103, 116] : List UInt8)) = false := bne_eq_false_iff_eq.mpr c4
        clear c4
        obtain rfl := Option.some.inj H
        go_enter Tryd.func61, Tryd.ntmps61
        go_wp2
        go_ret
        exact ⟨by first | rfl | (simp; done) | (simp [*]; done), by repeat (first | exact Drawn0.refl _ | apply Drawn0.step)⟩
      · rw [if_neg c4] at H
        have c4b0 : (a0.toList == ([103, 116] : List UInt8)) = false := beq_eq_false_iff_ne.mpr c4
        have c4b1 : (a0.toList != ([103, 116] : List UInt8)) = true := bne_iff_ne.mpr c4
        by_cases c5 : a0.toList = ([113, 117, 111, 116] : List UInt8)
        · rw [if_pos c5] at H
          have c5b0 : (a0.toList == ([113, 117, 111, 116] : List UInt8)) = true := beq_iff_eq.mpr c5
          have c5b1 : (a0.toList != ([113, 117, 111, 116] : List UInt8)) = false := bne_eq_false_iff_eq.mpr c5
          clear c5
          obtain rfl := Option.some.inj H
          go_enter Tryd.func61, Tryd.ntmps61
          go_wp2
          go_ret
          exact ⟨by first | rfl | (simp; done) | (simp [*]; done), by repeat (first | exact Drawn0.refl _ | apply Drawn0.step)⟩
        · rw [if_neg c5] at H
          have c5b0 : (a0.toList == ([113, 117, 111, 116] : List UInt8)) = false := beq_eq_false_iff_ne.mpr c5
          have c5b1 : (a0.toList != ([113, 117, 111, 116] : List UInt8)) = true := bne_iff_ne.mpr c5
          by_cases c6 : a0.toList = ([110, 98, 115, 112] : List UInt8)
          · rw [if_pos c6] at H
            have c6b0 : (a0.toList == ([110, 98, 115, 112] : List UInt8)) = true := beq_iff_eq.mpr c6
            have c6b1 : (a0.toList != ([110, 98, 115, 112] : List UInt8)) = false := bne_eq_false_iff_eq.mpr c6
            clear c6
            obtain rfl := Option.some.inj H
            go_enter Tryd.func61, Tryd.ntmps61
            go_wp2
            go_ret
            exact ⟨by first | rfl | (simp; done) | (simp [*]; done), by repeat (first | exact Drawn0.refl _ | apply Drawn0.step)⟩
          · rw [if_neg c6] at H
            have c6b0 : (a0.toList == ([110, 98, 115, 112] : List UInt8)) = false := beq_eq_false_iff_ne.mpr c6
            have c6b1 : (a0.toList != ([110, 98, 115, 112] : List UInt8)) = true := bne_iff_ne.mpr c6
            by_cases c7 : a0.toList = ([99, 111, 112, 121] : List UInt8)
            · rw [if_pos c7] at H
              have c7b0 : (a0.toList == ([99, 111, 112, 121] : List UInt8)) = true := beq_iff_eq.mpr c7
              have c7b1 : (a0.toList != ([99, 111, 112, 121] : List UInt8)) = false := bne_eq_false_iff_eq.mpr c7
              clear c7
              obtain rfl := Option.some.inj H
              go_enter Tryd.func61, Tryd.ntmps61
              go_wp2
              go_ret
              exact ⟨by first | rfl | (simp; done) | (simp [*]; done), by repeat (first | exact Drawn0.refl _ | apply Drawn0.step)⟩
            · rw [if_neg c7] at H
              have c7b0 : (a0.toList == ([99, 111, 112, 121] : List UInt8)) = false := beq_eq_false_iff_ne.mpr c7
              have c7b1 : (a0.toList != ([99, 111, 112, 121] : List UInt8)) = true := bne_iff_ne.mpr c7
              obtain rfl := Option.some.inj H
              go_enter Tryd.func61, Tryd.ntmps61
              go_wp2
              go_ret
              exact ⟨by first | rfl | (simp; done) | (simp [*]; done), by repeat (first | exact Drawn0.refl _ | apply Drawn0.step)⟩
end Go.Proofs.YteimhgbihpbhaaaDoor.X
end
section
namespace Go.Proofs.YteimhgbihpbhaaaDoor.X
open Go.RowKit Go.Proofs.YteimhgbihpbhaaaDoorW.PrintWords Go.Proofs.YteimhgbihpbhaaaDoorW.PrintLast Go.Proofs.YteimhgbihpbhaaaDoorW.PrintMore
attribute [local go_sem] max2_int min2_int max_two min_two max_three min_three max_four min_four   -- for this text's walks alone
set_option linter.unusedVariables false
set_option linter.unusedSimpArgs false
def ref_letter.j0 : Nat → ByteArray → Bool → Option (Int × Bool)
  | 0, _, _ => none
  | k + 1, x4, x24 => if x24 = true then ((ref_numbered.f x4 10 7).bind fun bt139 => (some (bt139.1, bt139.2))) else (if 1 ≤ (x4.size : Int) then ((ref_numbered.f (x4.extract 1 x4.size) 16 6).bind fun bt141 => (some (bt141.1, bt141.2))) else (none))
def ref_letter.f (k : Nat) (a0 : ByteArray) : Option (Int × Bool) := (strings_CutPrefix.f a0 (⟨#[35]⟩ : ByteArray)).bind fun bt137 => (if bt137.2 = true then (if bt137.1.toList = ([] : List UInt8) then (ref_letter.j0 k bt137.1 true) else (if 0 < (bt137.1.size : Int) then (if (bt bt137.1 0) = 120 then (ref_letter.j0 k bt137.1 false) else (ref_letter.j0 k bt137.1 ((bt bt137.1 0) != 88))) else (none))) else ((ref_named.f a0).bind fun t143 => (some (t143, (t143 != 0)))))
set_option maxHeartbeats 8000000 in
set_option maxRecDepth 100000 in
theorem ref_letter.calls (k : Nat) (a0 : ByteArray) (r1 : Int) (r2 : Bool) (w : World) (h : ref_letter.f k a0 = some (r1, r2)) :
    Calls Tryd.prog 39 #[.string a0] w fun e w' => e = .returned (.tuple #[.int .i32 r1, .bool r2]) ∧ Below w.heap.size w w' := by
  have HB := Aside0.mk (Below.refl w.heap.size w)
  have H : ((strings_CutPrefix.f a0 (⟨#[35]⟩ : ByteArray)).bind fun bt137 => (if bt137.2 = true then (if bt137.1.toList = ([] : List UInt8) then (ref_letter.j0 k bt137.1 true) else (if 0 < (bt137.1.size : Int) then (if (bt bt137.1 0) = 120 then (ref_letter.j0 k bt137.1 false) else (ref_letter.j0 k bt137.1 ((bt bt137.1 0) != 88))) else (none))) else ((ref_named.f a0).bind fun t143 => (some (t143, (t143 != 0)))))) = some (r1, r2) := h
  clear h
  replace H := Option.bind_eq_some_iff.mp H
  obtain ⟨⟨t137, t138⟩, A20, H⟩ := H
  replace H : (if t138 = true then (if t137.toList = ([] : List UInt8) then (ref_letter.j0 k t137 true) else (if 0 < (t137.size : Int) then (if (bt t137 0) = 120 then (ref_letter.j0 k t137 false) else (ref_letter.j0 k t137 ((bt t137 0) != 88))) else (none))) else ((ref_named.f a0).bind fun t143 => (some (t143, (t143 != 0))))) = some (r1, r2) := H
  have A2 := Aside0.mk A20
  clear A20
  by_cases c3 : t138 = true
  · subst c3
    have H1 : (if t137.toList = ([] : List UInt8) then (ref_letter.j0 k t137 true) else (if 0 < (t137.size : Int) then (if (bt t137 0) = 120 then (ref_letter.j0 k t137 false) else (ref_letter.j0 k t137 ((bt t137 0) != 88))) else (none))) = some (r1, r2) := by rw [if_pos rfl] at H; exact H
    clear H
    have H := H1
    clear H1
    have HC4 := Aside0.mk H
    clear H
    go_enter Tryd.func39, Tryd.ntmps39
    go_upto_region 3 with (first | ((with_reducible refine gate_callee (f := 59) rfl ?_); refine goesL_ (some 9) rfl rfl Tryd.func59 (by kernel_rfl) rfl #[.string a0, .string (⟨#[35]⟩ : ByteArray)] rfl (by (try simp only [List.map_toArray, List.map_cons, List.map_nil]); first | done | rfl | (simp only [List.length_drop, List.length_take]; rfl)) ?_; (with_reducible refine (strings_CutPrefix.calls a0 (⟨#[35]⟩ : ByteArray) t137 true _ A2.out).mono ?_); rintro e w' ⟨rfl, ⟨nd, rfl⟩⟩; refine ⟨_, rfl, ?_⟩))
    (try simp only [Act.put, List.setIfInBounds_toArray, List.set_cons_zero, List.set_cons_succ])
    go_cut [24] (fun v24 wc => ∃ (kq : Nat) (x24_3 : Bool), v24 = .bool x24_3 ∧ Aside0 (ref_letter.j0 kq t137 x24_3 = some (r1, r2)) ∧ Aside0 (kq ≤ k) ∧ Aside0 (Below w.heap.size w wc))
    case first =>
      have H := HC4.out
      clear HC4
      by_cases c5 : t137.toList = ([] : List UInt8)
      · rw [if_pos c5] at H
        have c5b0 : (t137.toList == ([] : List UInt8)) = true := beq_iff_eq.mpr c5
        have c5b1 : (t137.toList != ([] : List UInt8)) = false := bne_eq_false_iff_eq.mpr c5
        clear c5
        (first | rw [c5b0] | (simp only [i64_w, i32_w]; rw [c5b0]) | rw [c5b1] | skip)
        have H' := Aside0.mk H
        clear H
        go_wp2
        go_meet
        case rel => exact ⟨_, (true), (by first | rfl | (simp; done) | (simp [*]; done) | (simp [bne]; done)), H', ⟨by first | omega | exact Nat.le_refl _⟩, ⟨by repeat (first | (with_reducible first | exact HB.out | apply below_alloc | apply pw_below_drewN | apply below_drew1) | exact HB.out)⟩⟩
      · rw [if_neg c5] at H
        have c5b0 : (t137.toList == ([] : List UInt8)) = false := beq_eq_false_iff_ne.mpr c5
        have c5b1 : (t137.toList != ([] : List UInt8)) = true := bne_iff_ne.mpr c5
        (first | rw [c5b0] | (simp only [i64_w, i32_w]; rw [c5b0]) | rw [c5b1] | skip)
        by_cases c6 : 0 < (t137.size : Int)
        · rw [if_pos c6] at H
          have c6b0 : decide (0 < (t137.size : Int)) = true := decide_eq_true c6
          have c6b1 : decide (0 < t137.size) = true := decide_eq_true (by omega)
          clear c6
          by_cases c8 : (bt t137 0) = 120
          · rw [if_pos c8] at H
            have c8b0 : ((bt t137 0) == 120) = true := beq_iff_eq.mpr c8
            have c8b1 : ((bt t137 0) != 120) = false := bne_eq_false_iff_eq.mpr c8
            clear c8
            have H' := Aside0.mk H
            clear H
            have p7 : 0 ≤ (0 : Int) := (by omega)
            have q7 : 0 < t137.size := (by have : (0 : Int) < (t137.size : Int) := of_decide_eq_true (by first | (with_reducible assumption) | assumption); omega)
            have hx7 : ∀ h : 0 < t137.size, ((t137[0]'h).toNat : Int) = bt t137 0 := bt_at t137 0
            clear p7
            have qi7 : (0 < (t137.size : Int)) = True := eq_true (of_decide_eq_true (by first | (with_reducible assumption) | assumption))
            replace q7 := eq_true q7
            go_wp2
            go_meet
            case rel => exact ⟨_, (false), (by first | rfl | (simp; done) | (simp [*]; done) | (simp [bne]; done)), H', ⟨by first | omega | exact Nat.le_refl _⟩, ⟨by repeat (first | (with_reducible first | exact HB.out | apply below_alloc | apply pw_below_drewN | apply below_drew1) | exact HB.out)⟩⟩
          · rw [if_neg c8] at H
            have c8b0 : ((bt t137 0) == 120) = false := beq_eq_false_iff_ne.mpr c8
            have c8b1 : ((bt t137 0) != 120) = true := bne_iff_ne.mpr c8
            have H' := Aside0.mk H
            clear H
            have p7 : 0 ≤ (0 : Int) := (by omega)
            have q7 : 0 < t137.size := (by have : (0 : Int) < (t137.size : Int) := of_decide_eq_true (by first | (with_reducible assumption) | assumption); omega)
            have hx7 : ∀ h : 0 < t137.size, ((t137[0]'h).toNat : Int) = bt t137 0 := bt_at t137 0
            clear p7
            have qi7 : (0 < (t137.size : Int)) = True := eq_true (of_decide_eq_true (by first | (with_reducible assumption) | assumption))
            replace q7 := eq_true q7
            have p9 : 0 ≤ (0 : Int) := (by omega)
            have q9 : 0 < t137.size := (by have : (0 : Int) < (t137.size : Int) := of_decide_eq_true (by first | (with_reducible assumption) | assumption); omega)
            have hx9 : ∀ h : 0 < t137.size, ((t137[0]'h).toNat : Int) = bt t137 0 := bt_at t137 0
            clear p9
            have qi9 : (0 < (t137.size : Int)) = True := eq_true (of_decide_eq_true (by first | (with_reducible assumption) | assumption))
            replace q9 := eq_true q9
            go_wp2
            go_meet
            case rel => exact ⟨_, (((bt t137 0) != 88)), (by first | rfl | (simp; done) | (simp [*]; done) | (simp [bne]; done)), H', ⟨by first | omega | exact Nat.le_refl _⟩, ⟨by repeat (first | (with_reducible first | exact HB.out | apply below_alloc | apply pw_below_drewN | apply below_drew1) | exact HB.out)⟩⟩
        · rw [if_neg c6] at H
          exact absurd H (by simp)
    case rest =>
      clear HC4
      try clear p2
      try clear c3
      try clear c5
      try clear c5b0
      try clear c5b1
      try clear c6
      try clear c6b0
      try clear c6b1
      try clear p7
      try clear q7
      try clear hx7
      try clear qi7
      try clear c8
      try clear c8b0
      try clear c8b1
      try clear p9
      try clear q9
      try clear hx9
      try clear qi9
      try clear p7
      try clear p9
      try clear q7
      try clear q9
      obtain ⟨kq, x24_3, rfl, HA, HJ3, HB⟩ := hcut
      cases kq with
      | zero => exact absurd HA.out (by simp [ref_letter.j0])
      | succ kj3 =>
        have H := HA.out
        clear HA
        simp only [ref_letter.j0] at H
        by_cases c10 : x24_3 = true
        · subst c10
          have H1 : ((ref_numbered.f t137 10 7).bind fun bt139 => (some (bt139.1, bt139.2))) = some (r1, r2) := by rw [if_pos rfl] at H; exact H
          clear H
          have H := H1
          clear H1
          replace H := Option.bind_eq_some_iff.mp H
          obtain ⟨⟨t139, t140⟩, A110, H⟩ := H
          replace H : (some (t139, t140)) = some (r1, r2) := H
          have A11 := Aside0.mk A110
          clear A110
          simp only [Option.some.injEq, Prod.mk.injEq] at H
          obtain ⟨rfl, rfl⟩ := H
          go_wp2_with (first | ((with_reducible refine gate_callee (f := 60) rfl ?_); refine goesL_ (some 26) rfl rfl Tryd.func60 (by kernel_rfl) rfl #[.string t137, .int .i64 10, .int .i64 7] rfl (by (try simp only [List.map_toArray, List.map_cons, List.map_nil]); first | done | rfl | (simp only [List.length_drop, List.length_take]; rfl)) ?_; (with_reducible refine (ref_numbered.calls t137 10 7 t139 t140 _ A11.out).mono ?_); rintro e w12 ⟨rfl, hb⟩; refine ⟨_, rfl, ?_⟩; have n0_ := Aside0.mk (below_step (by repeat (first | (with_reducible first | exact HB.out | apply below_alloc | apply pw_below_drewN | apply below_drew1) | exact HB.out)) hb); clear HB; have HB := n0_; clear n0_; (try clear hb); (try clear hb2); (try clear hk); (try clear hi)))
          go_ret2
          exact ⟨by first | rfl | (simp [errW_none, errW_some] <;> rfl) | (simp [*, errW_none, errW_some] <;> rfl), by repeat (first | (with_reducible first | exact HB.out | apply below_alloc | apply pw_below_drewN | apply below_drew1) | exact HB.out)⟩
        · replace c10 := Bool.eq_false_iff.mpr c10
          subst c10
          have H1 : (if 1 ≤ (t137.size : Int) then ((ref_numbered.f (t137.extract 1 t137.size) 16 6).bind fun bt141 => (some (bt141.1, bt141.2))) else (none)) = some (r1, r2) := by rw [if_neg (show ¬ (false = true) by decide)] at H; exact H
          clear H
          have H := H1
          clear H1
          by_cases c13 : 1 ≤ (t137.size : Int)
          · rw [if_pos c13] at H
            have c13b0 := eq_true c13
            have c13b1 : decide (1 ≤ (t137.size : Int)) = true := decide_eq_true c13
            clear c13
            replace H := Option.bind_eq_some_iff.mp H
            obtain ⟨⟨t141, t142⟩, A140, H⟩ := H
            replace H : (some (t141, t142)) = some (r1, r2) := H
            have A14 := Aside0.mk A140
            clear A140
            simp only [Option.some.injEq, Prod.mk.injEq] at H
            obtain ⟨rfl, rfl⟩ := H
            go_wp2_with (first | ((with_reducible refine gate_callee (f := 60) rfl ?_); refine goesL_ (some 31) rfl rfl Tryd.func60 (by kernel_rfl) rfl #[.string (t137.extract 1 t137.size), .int .i64 16, .int .i64 6] rfl (by (try simp only [List.map_toArray, List.map_cons, List.map_nil]); first | done | rfl | (simp only [List.length_drop, List.length_take]; rfl)) ?_; (with_reducible refine (ref_numbered.calls (t137.extract 1 t137.size) 16 6 t141 t142 _ A14.out).mono ?_); rintro e w15 ⟨rfl, hb⟩; refine ⟨_, rfl, ?_⟩; have n0_ := Aside0.mk (below_step (by repeat (first | (with_reducible first | exact HB.out | apply below_alloc | apply pw_below_drewN | apply below_drew1) | exact HB.out)) hb); clear HB; have HB := n0_; clear n0_; (try clear hb); (try clear hb2); (try clear hk); (try clear hi)))
            go_ret2
            exact ⟨by first | rfl | (simp [errW_none, errW_some] <;> rfl) | (simp [*, errW_none, errW_some] <;> rfl), by repeat (first | (with_reducible first | exact HB.out | apply below_alloc | apply pw_below_drewN | apply below_drew1) | exact HB.out)⟩
          · rw [if_neg c13] at H
            exact absurd H (by simp)
  · replace c3 := Bool.eq_false_iff.mpr c3
    subst c3
    have H1 : ((ref_named.f a0).bind fun t143 => (some (t143, (t143 != 0)))) = some (r1, r2) := by rw [if_neg (show ¬ (false = true) by decide)] at H; exact H
    clear H
    have H := H1
    clear H1
    replace H := Option.bind_eq_some_iff.mp H
    obtain ⟨t143, A160, H⟩ := H
    replace H : (some (t143, (t143 != 0))) = some (r1, r2) := H
    have A16 := Aside0.mk A160
    clear A160
    simp only [Option.some.injEq, Prod.mk.injEq] at H
    obtain ⟨rfl, rfl⟩ := H
    go_enter Tryd.func39, Tryd.ntmps39
    go_wp2_with (first | ((with_reducible refine gate_callee (f := 59) rfl ?_); refine goesL_ (some 9) rfl rfl Tryd.func59 (by kernel_rfl) rfl #[.string a0, .string (⟨#[35]⟩ : ByteArray)] rfl (by (try simp only [List.map_toArray, List.map_cons, List.map_nil]); first | done | rfl | (simp only [List.length_drop, List.length_take]; rfl)) ?_; (with_reducible refine (strings_CutPrefix.calls a0 (⟨#[35]⟩ : ByteArray) t137 false _ A2.out).mono ?_); rintro e w' ⟨rfl, ⟨nd, rfl⟩⟩; refine ⟨_, rfl, ?_⟩) | ((with_reducible refine gate_callee (f := 61) rfl ?_); refine goesL_ (some 35) rfl rfl Tryd.func61 (by kernel_rfl) rfl #[.string a0] rfl (by (try simp only [List.map_toArray, List.map_cons, List.map_nil]); first | done | rfl | (simp only [List.length_drop, List.length_take]; rfl)) ?_; (with_reducible refine (ref_named.calls a0 t143 _ A16.out).mono ?_); rintro e w' ⟨rfl, ⟨nd, rfl⟩⟩; refine ⟨_, rfl, ?_⟩))
    go_ret2
    exact ⟨by first | rfl | (simp [errW_none, errW_some] <;> rfl) | (simp [*, errW_none, errW_some] <;> rfl), by repeat (first | (with_reducible first | exact HB.out | apply below_alloc | apply pw_below_drewN | apply below_drew1) | exact HB.out)⟩
end Go.Proofs.YteimhgbihpbhaaaDoor.X
end
section
namespace Go.Proofs.YteimhgbihpbhaaaDoor.X
open Go.RowKit Go.Proofs.YteimhgbihpbhaaaDoorW.PrintWords Go.Proofs.YteimhgbihpbhaaaDoorW.PrintLast Go.Proofs.YteimhgbihpbhaaaDoorW.PrintMore
attribute [local go_sem] max2_int min2_int max_two min_two max_three min_three max_four min_four   -- for this text's walks alone
set_option linter.unusedVariables false
set_option linter.unusedSimpArgs false
/-- the bytes of a letter -/
def ref_Unescape.encB (r : Int) : List UInt8 := (Bld.enc r).map fun x => x.toNat.toUInt8
theorem ref_Unescape.encB_cells (r : Int) (h0 : 0 ≤ r) (h1 : r ≤ 1114111) : Lib.byteCells (ref_Unescape.encB r) = (Bld.enc r).map (Value.int .u8) := by
  have hb : ∀ x ∈ Bld.enc r, 0 ≤ x ∧ x ≤ 255 := by
    intro x hx
    unfold Bld.enc at hx
    split at hx
    · simp at hx; omega
    · split at hx
      · simp at hx; omega
      · split at hx
        · simp at hx; omega
        · simp at hx; omega
  unfold ref_Unescape.encB Lib.byteCells
  rw [List.map_map]
  apply List.map_congr_left
  intro x hx
  have := hb x hx
  show Value.int .u8 ((x.toNat.toUInt8).toNat : Int) = Value.int .u8 x
  congr 1
  have h2 : x.toNat.toUInt8.toNat = x.toNat % 256 := rfl
  omega
theorem ref_Unescape.encB_len (r : Int) : 1 ≤ (ref_Unescape.encB r).length ∧ (ref_Unescape.encB r).length ≤ 4 := by unfold ref_Unescape.encB; rw [List.length_map]; exact Bld.enc_len r
def ref_Unescape.go : Nat → List UInt8 → Option (List UInt8)
  | _, [] => some []
  | 0, _ :: _ => none
  | fuel + 1, c :: l => if c = 38 ∧ 0 < Lib.indexByte (c :: l) 59 then
      ((ref_letter.f 3 ⟨(l.take ((Lib.indexByte (c :: l) 59).toNat - 1)).toArray⟩).bind fun t => if t.2 = true then (if 0 ≤ t.1 ∧ t.1 ≤ 1114111 ∧ (t.1 < 55296 ∨ 57343 < t.1) then (ref_Unescape.go fuel (l.drop (Lib.indexByte (c :: l) 59).toNat)).map (fun r => ref_Unescape.encB t.1 ++ r) else none) else (ref_Unescape.go fuel l).map (fun r => c :: r))
    else (ref_Unescape.go fuel l).map (fun r => c :: r)
def ref_Unescape.f (a0 : ByteArray) : Option ByteArray := if a0.size ≤ 17592186044416 then (ref_Unescape.go a0.size a0.data.toList).map (fun l => ⟨l.toArray⟩) else none
def ref_Unescape.iv : Value → Nat
  | .int _ i => i.toNat
  | _ => 0
set_option maxHeartbeats 4000000 in
set_option maxRecDepth 100000 in
theorem ref_Unescape.calls (a0 : ByteArray) (r : ByteArray) (w : World) (h : ref_Unescape.f a0 = some r) :
    Calls Tryd.prog 21 #[.string a0] w fun e w' => e = .returned (.string r) ∧ Below w.heap.size w w' := by
  obtain ⟨R, hr, rfl, hz⟩ : ∃ R, ref_Unescape.go a0.size a0.data.toList = some R ∧ (⟨R.toArray⟩ : ByteArray) = r ∧ a0.size ≤ 17592186044416 := by
    unfold ref_Unescape.f at h
    split at h
    · obtain ⟨R, h1, h2⟩ := Option.map_eq_some_iff.1 h
      exact ⟨R, h1, h2, by assumption⟩
    · cases h
  have HZ := Aside0.mk hz
  have HR := Aside0.mk hr
  clear h hz hr
  go_enter Tryd.func21, Tryd.ntmps21
  go_wp2
  go_loopw [4] (fun v4 wr => ∃ (i fuel : Nat) (acc rest : List UInt8), v4 = .int .i64 (i : Int) ∧ Aside0 (Bld.IsB w.heap.size w.heap.size (Lib.byteCells acc) wr) ∧ Aside0 (Below w.heap.size w wr) ∧ Aside0 (ref_Unescape.go fuel (a0.data.toList.drop i) = some rest) ∧ Aside0 (acc ++ rest = R) ∧ Aside0 (i ≤ a0.size) ∧ Aside0 (acc.length ≤ 4 * i)) (fun v4 wr => a0.size - ref_Unescape.iv v4)
  case atStart =>
    refine ⟨0, a0.size, [], R, rfl, ⟨?_⟩, ⟨?_⟩, HR, ⟨rfl⟩, ⟨by omega⟩, ⟨by simp⟩⟩
    · exact Lib.IsBuilderF.of (Lib.fresh_isBuilder 62 5 w)
    · exact (Below.refl _ w).alloc (Nat.le_refl _) _
  case round =>
    obtain ⟨i, fuel, acc, rest, rfl, HI, HB, HS, HA, HL, HN⟩ := hrel
    have hbs : w.heap.size ≤ wr.heap.size := HB.out.size
    have hlen : a0.data.toList.length = a0.size := Array.length_toList
    by_cases hi : i < a0.size
    · obtain ⟨c, l, hcl⟩ : ∃ c l, a0.data.toList.drop i = c :: l := by
        cases e : a0.data.toList.drop i with
        | nil => have := congrArg List.length e; simp at this; omega
        | cons c l => exact ⟨c, l, rfl⟩
      have hdl : ∀ n, a0.data.toList.drop (i + 1 + n) = l.drop n := by
        intro n
        have : a0.data.toList.drop (i + 1 + n) = ((a0.data.toList.drop i).drop 1).drop n := by rw [List.drop_drop, List.drop_drop, Nat.add_assoc]
        rw [this, hcl]; rfl
      have hll : l.length + i + 1 = a0.size := by
        have := congrArg List.length hcl
        simp at this
        omega
      have hx1 : ∀ h : i < a0.size, ((a0[i]'h).toNat : Int) = (c.toNat : Int) := by
        intro h
        have h2 : i < a0.data.toList.length := by omega
        have h3 : a0.data.toList[i]? = some c := by
          have := congrArg (fun z => z[0]?) hcl
          simpa [List.getElem?_drop] using this
        have h4 := List.getElem?_eq_getElem h2
        rw [h3] at h4
        have h5 : a0[i]'h = c := by
          have := Option.some.inj h4
          rw [this]
          simp
          rfl
        rw [h5]
      have HDL := Aside0.mk hdl
      have HLL := Aside0.mk hll
      have HCL := Aside0.mk hcl
      have c1 : decide ((i : Int) < (a0.size : Int)) = true := decide_eq_true (by omega)
      have p1 : (0 ≤ (i : Int)) = True := eq_true (by omega)
      have q1 : ((i : Int) < (a0.size : Int)) = True := eq_true (by omega)
      have hl4 : (Lib.byteCells acc).length + 4 ≤ 140737488355328 := by rw [Lib.byteCells_length]; have := HZ.out; have := HN.out; omega
      have hl1 : (Lib.byteCells acc).length + 1 ≤ 140737488355328 := by omega
      have ew : wrap64 ((i : Int) + 1) = ((i + 1 : Nat) : Int) := by have := HZ.out; unfold wrap64; omega
      clear hcl hdl hll hlen
      have HF : Aside0 ((c.toNat : Int) = 38 ↔ c = 38) := ⟨by
        constructor
        · intro h
          apply UInt8.toNat_inj.1
          have e : (38 : UInt8).toNat = 38 := rfl
          omega
        · rintro rfl; rfl⟩
      obtain ⟨fuel, rfl⟩ : ∃ f, fuel = f + 1 := by
        cases fuel with
        | zero => have := HS.out; rw [HCL.out] at this; simp [ref_Unescape.go] at this
        | succ f => exact ⟨f, rfl⟩
      have hs := HS.out
      rw [HCL.out, ref_Unescape.go] at hs
      clear HS
      have HD1 : Aside0 (a0.data.toList.drop (i + 1) = l) := ⟨by have := HDL.out 0; simpa using this⟩
      by_cases k38 : (c.toNat : Int) = 38
      · have f38 : ((c.toNat : Int) == 38) = true := beq_iff_eq.mpr k38
        have g38 : decide ((c.toNat : Int) = 38) = true := decide_eq_true k38
        have hc := HF.out.1 k38
        subst hc
        obtain ⟨n0, hn0⟩ : ∃ n0, Lib.indexByte (38 :: l) 59 = n0 := ⟨_, rfl⟩
        rw [hn0] at hs
        have hex : (a0.extract i a0.size).data.toList = 38 :: l := by
          rw [ByteArray.data_extract, Array.toList_extract, HCL.out.symm]
          simp only [List.extract]
          rw [List.take_of_length_le (by rw [List.length_drop, Array.length_toList]; exact Nat.le_refl _)]
        have HX : Aside0 (Calls Tryd.prog 38 #[.string (a0.extract i a0.size), .int .u8 59] wr fun e w' => e = .returned (.int .i64 n0) ∧ wr = w') := ⟨(Tryd.strings_IndexByte _ _ _).mono (fun e w' ⟨h1, h2⟩ => ⟨by rw [h1, hex]; exact congrArg (fun z => Ending.returned (.int .i64 z)) hn0, h2.symm⟩)⟩
        clear hex
        by_cases hpos : 0 < n0
        · obtain ⟨m, rfl⟩ : ∃ m : Nat, n0 = (m : Int) := ⟨n0.toNat, by omega⟩
          have hm0 : 1 ≤ m := by omega
          have hml : m ≤ l.length := by
            have := (Lib.indexByte_some hn0).1
            have h2 := (List.getElem?_eq_some_iff.1 this).1
            simp at h2
            omega
          rw [if_pos ⟨rfl, hpos⟩, Int.toNat_natCast] at hs
          obtain ⟨⟨r1, b1⟩, hl2, hs⟩ := Option.bind_eq_some_iff.1 hs
          have hex2 : a0.extract (i + 1) (i + m) = ⟨(l.take (m - 1)).toArray⟩ := by
            apply ByteArray.ext
            rw [ByteArray.data_extract]
            apply Array.toList_inj.1
            rw [Array.toList_extract, ← HD1.out]
            simp only [List.extract]
            congr 1
            omega
          have HL2 : Aside0 (Calls Tryd.prog 39 #[.string (a0.extract (i + 1) (i + m))] wr fun e w' => e = .returned (.tuple #[.int .i32 r1, .bool b1]) ∧ Below wr.heap.size wr w') := ⟨by rw [hex2]; exact ref_letter.calls 3 _ r1 b1 wr hl2⟩
          have hp0 : decide ((0 : Int) < (m : Int)) = true := decide_eq_true (by omega)
          have hp1 : decide (0 < m) = true := decide_eq_true (by omega)
          have b0 : (i : Int) + 1 ≤ (i : Int) + (m : Int) := by omega
          have b1' : (i : Int) + (m : Int) ≤ (a0.size : Int) := by have := HLL.out; omega
          have hz0 : (a0.size : Int) ≤ 17592186044416 := by have := HZ.out; omega
          have HM := Aside0.mk hml
          have HM0 := Aside0.mk hm0
          clear hpos hn0 hl2 hex2 hml hm0
          cases b1 with
          | true =>
            simp only [if_true] at hs
            by_cases hr : 0 ≤ r1 ∧ r1 ≤ 1114111 ∧ (r1 < 55296 ∨ 57343 < r1)
            · rw [if_pos hr] at hs
              obtain ⟨rest2, hs2, hs3⟩ := Option.map_eq_some_iff.1 hs
              have HS2 := Aside0.mk hs2
              have HS3 := Aside0.mk hs3
              obtain ⟨hr0, hr1, hr2⟩ := hr
              clear hs hs2 hs3
              go_wp2_with (first
                | (go_at_call 38; (with_reducible refine HX.out.mono ?_); rintro e w' ⟨rfl, rfl⟩)
                | (go_at_call 39; (with_reducible refine HL2.out.mono ?_); rintro e wl ⟨rfl, hbl⟩; have HBL := Aside0.mk hbl; have HIL := Aside0.mk (Bld.kept HI.out hbl); have hbs2 : w.heap.size ≤ wl.heap.size := Nat.le_trans hbs hbl.size; clear hbl)
                | (go_at_call 40; refine (Bld.writeRuneW w.heap.size w.heap.size (Lib.byteCells acc) r1 hr0 hr1 hr2 wl HIL.out hl4 hbs2).mono ?_; rintro e w2 ⟨rfl, HI2, HB2, _⟩))
              have HI3 : Bld.IsB w.heap.size w.heap.size (Lib.byteCells (acc ++ ref_Unescape.encB r1)) w2 := by
                rw [Lib.byteCells_append, ref_Unescape.encB_cells r1 hr0 hr1]
                exact HI2
              have HEL := ref_Unescape.encB_len r1
              go_roundw
              case rel => exact ⟨i + m + 1, fuel, acc ++ ref_Unescape.encB r1, rest2, by first | rfl | (congr 1; omega) | simp, ⟨HI3⟩, ⟨(HB.out.trans (HBL.out.mono hbs)).trans HB2⟩, ⟨by rw [show i + m + 1 = i + 1 + m by omega, HDL.out]; exact HS2.out⟩, ⟨by rw [List.append_assoc]; rw [← HA.out, ← HS3.out]⟩, ⟨by have := HLL.out; have := HM.out; omega⟩, ⟨by have := HN.out; simp; omega⟩⟩
              case measure => have := HLL.out; simp [ref_Unescape.iv]; omega
            · rw [if_neg hr] at hs; cases hs
          | false =>
            simp only [Bool.false_eq_true, if_false] at hs
            obtain ⟨rest2, hs2, hs3⟩ := Option.map_eq_some_iff.1 hs
            have HS2 := Aside0.mk hs2
            have HS3 := Aside0.mk hs3
            clear hs hs2 hs3
            go_wp2_with (first
              | (go_at_call 38; (with_reducible refine HX.out.mono ?_); rintro e w' ⟨rfl, rfl⟩)
              | (go_at_call 39; (with_reducible refine HL2.out.mono ?_); rintro e wl ⟨rfl, hbl⟩; have HBL := Aside0.mk hbl; have HIL := Aside0.mk (Bld.kept HI.out hbl); have hbs2 : w.heap.size ≤ wl.heap.size := Nat.le_trans hbs hbl.size; clear hbl)
              | (go_at_call 36; refine (Bld.writeByte w.heap.size w.heap.size (Lib.byteCells acc) 38 wl HIL.out hl1 hbs2).mono ?_; rintro e w2 ⟨rfl, HI2, HB2, _⟩))
            go_roundw
            case rel => exact ⟨i + 1, fuel, acc ++ [38], rest2, by first | (rw [← ew]; done) | rfl, ⟨by rw [Lib.byteCells_append]; exact HI2⟩, ⟨(HB.out.trans (HBL.out.mono hbs)).trans HB2⟩, ⟨by rw [HD1.out]; exact HS2.out⟩, ⟨by rw [List.append_assoc]; rw [← HA.out, ← HS3.out]; rfl⟩, ⟨by have := HLL.out; omega⟩, ⟨by have := HN.out; simp; omega⟩⟩
            case measure => have := HLL.out; simp only [ref_Unescape.iv, ew]; omega
        · rw [if_neg (fun h => hpos h.2)] at hs
          obtain ⟨rest2, hs2, hs3⟩ := Option.map_eq_some_iff.1 hs
          have HS2 := Aside0.mk hs2
          have HS3 := Aside0.mk hs3
          have hp0 : decide ((0 : Int) < n0) = false := decide_eq_false hpos
          clear hs hs2 hs3 hn0 hpos
          go_wp2_with (first
            | (go_at_call 38; (with_reducible refine HX.out.mono ?_); rintro e w' ⟨rfl, rfl⟩)
            | (go_at_call 36; refine (Bld.writeByte w.heap.size w.heap.size (Lib.byteCells acc) 38 wr HI.out hl1 hbs).mono ?_; rintro e w2 ⟨rfl, HI2, HB2, _⟩))
          go_roundw
          case rel => exact ⟨i + 1, fuel, acc ++ [38], rest2, by first | (rw [← ew]; done) | rfl, ⟨by rw [Lib.byteCells_append]; exact HI2⟩, ⟨HB.out.trans HB2⟩, ⟨by rw [HD1.out]; exact HS2.out⟩, ⟨by rw [List.append_assoc]; rw [← HA.out, ← HS3.out]; rfl⟩, ⟨by have := HLL.out; omega⟩, ⟨by have := HN.out; simp; omega⟩⟩
          case measure => have := HLL.out; simp only [ref_Unescape.iv, ew]; omega
      · have f38 : ((c.toNat : Int) == 38) = false := beq_eq_false_iff_ne.mpr k38
        have g38 : decide ((c.toNat : Int) = 38) = false := decide_eq_false k38
        rw [if_neg (fun h => k38 (HF.out.2 h.1))] at hs
        obtain ⟨rest2, hs2, hs3⟩ := Option.map_eq_some_iff.1 hs
        have HS2 := Aside0.mk hs2
        have HS3 := Aside0.mk hs3
        clear hs hs2 hs3
        go_wp2_with (go_at_call 36; refine (Bld.writeByte w.heap.size w.heap.size (Lib.byteCells acc) (c.toNat : Int) wr HI.out hl1 hbs).mono ?_; rintro e w2 ⟨rfl, HI2, HB2, _⟩)
        go_roundw
        case rel => exact ⟨i + 1, fuel, acc ++ [c], rest2, by first | (rw [← ew]; done) | rfl, ⟨by rw [Lib.byteCells_append]; exact HI2⟩, ⟨HB.out.trans HB2⟩, ⟨by rw [HD1.out]; exact HS2.out⟩, ⟨by rw [List.append_assoc]; rw [← HA.out, ← HS3.out]; rfl⟩, ⟨by have := HLL.out; omega⟩, ⟨by have := HN.out; simp; omega⟩⟩
        case measure => have := HLL.out; simp only [ref_Unescape.iv, ew]; omega
    · have c1 : decide ((i : Int) < (a0.size : Int)) = false := decide_eq_false (by omega)
      have hd : a0.data.toList.drop i = [] := List.drop_eq_nil_of_le (by omega)
      have HE : acc = R := by
        have h1 := HS.out
        rw [hd] at h1
        have h2 : rest = [] := by
          cases fuel with
          | zero => simpa [ref_Unescape.go] using h1.symm
          | succ f => simpa [ref_Unescape.go] using h1.symm
        rw [← HA.out, h2, List.append_nil]
      go_wp2_with (first | (go_at_call 37; refine (Bld.string_of w.heap.size w.heap.size acc _ HI.out hbs).mono ?_; rintro e w2 ⟨rfl, HI2, HB2, _⟩))
      go_ret
      exact ⟨by rw [← HE]; rfl, HB.out.trans HB2⟩
end Go.Proofs.YteimhgbihpbhaaaDoor.X
end
section
namespace Go.Proofs.YteimhgbihpbhaaaDoor.X
open Go.RowKit Go.Proofs.YteimhgbihpbhaaaDoorW.PrintWords Go.Proofs.YteimhgbihpbhaaaDoorW.PrintLast Go.Proofs.YteimhgbihpbhaaaDoorW.PrintMore
attribute [local go_sem] max2_int min2_int max_two min_two max_three min_three max_four min_four   -- for this text's walks alone
set_option linter.unusedVariables false
set_option linter.unusedSimpArgs false
def ref_Escape.esc (q : Bool) (c : UInt8) : List UInt8 := if c = 38 then [38, 97, 109, 112, 59] else if c = 60 then [38, 108, 116, 59] else if c = 62 then [38, 103, 116, 59] else if c = 34 ∧ q = true then [38, 113, 117, 111, 116, 59] else [c]
def ref_Escape.go (l : List UInt8) (q : Bool) : List UInt8 := l.flatMap (ref_Escape.esc q)
def ref_Escape.f (a0 : ByteArray) (a1 : Bool) : Option ByteArray := if a0.size ≤ 17592186044416 then some ⟨(ref_Escape.go a0.data.toList a1).toArray⟩ else none
def ref_Escape.iv : Value → Nat
  | .int _ i => i.toNat
  | _ => 0
theorem ref_Escape.esc_len (q : Bool) (c : UInt8) : (ref_Escape.esc q c).length ≤ 6 := by
  unfold ref_Escape.esc
  repeat' split
  all_goals simp
theorem ref_Escape.byte (c : UInt8) (n : Nat) (hn : n < 256) : ((c.toNat : Int) = n) ↔ c = UInt8.ofNat n := by
  constructor
  · intro h
    apply UInt8.toNat_inj.1
    rw [UInt8.toNat_ofNat']
    omega
  · rintro rfl
    rw [UInt8.toNat_ofNat']
    omega
theorem ref_Escape.cells (acc l : List UInt8) (s : ByteArray) (h : s.data.toList = l) : Lib.byteCells acc ++ Lib.strCells s = Lib.byteCells (acc ++ l) := by
  subst h
  simp [Lib.byteCells, Lib.strCells]
set_option maxHeartbeats 4000000 in
set_option maxRecDepth 100000 in
theorem ref_Escape.calls (a0 : ByteArray) (a1 : Bool) (r : ByteArray) (w : World) (h : ref_Escape.f a0 a1 = some r) :
    Calls Tryd.prog 20 #[.string a0, .bool a1] w fun e w' => e = .returned (.string r) ∧ Below w.heap.size w w' := by
  have hr : (⟨(ref_Escape.go a0.data.toList a1).toArray⟩ : ByteArray) = r ∧ a0.size ≤ 17592186044416 := by
    unfold ref_Escape.f at h
    split at h
    · cases h; exact ⟨rfl, by assumption⟩
    · cases h
  obtain ⟨rfl, hz⟩ := hr
  have HZ := Aside0.mk hz
  clear h hz
  go_enter Tryd.func20, Tryd.ntmps20
  go_wp2
  go_loopw [10] (fun v10 wr => ∃ (i : Nat) (acc : List UInt8), v10 = .int .i64 (i : Int) ∧ Aside0 (Bld.IsB w.heap.size w.heap.size (Lib.byteCells acc) wr) ∧ Aside0 (Below w.heap.size w wr) ∧ Aside0 (acc ++ ref_Escape.go (a0.data.toList.drop i) a1 = ref_Escape.go a0.data.toList a1) ∧ Aside0 (i ≤ a0.size) ∧ Aside0 (acc.length ≤ 6 * i)) (fun v10 wr => a0.size - ref_Escape.iv v10)
  case atStart =>
    refine ⟨0, [], rfl, ⟨?_⟩, ⟨?_⟩, ⟨by simp⟩, ⟨by omega⟩, ⟨by simp⟩⟩
    · exact Lib.IsBuilderF.of (Lib.fresh_isBuilder 62 5 w)
    · exact (Below.refl _ w).alloc (Nat.le_refl _) _
  case round =>
    obtain ⟨i, acc, rfl, HI, HB, HS, HL, HA⟩ := hrel
    have hbs : w.heap.size ≤ wr.heap.size := HB.out.size
    have hlen : a0.data.toList.length = a0.size := Array.length_toList
    by_cases hi : i < a0.size
    · obtain ⟨c, l, hcl⟩ : ∃ c l, a0.data.toList.drop i = c :: l := by
        cases e : a0.data.toList.drop i with
        | nil => have := congrArg List.length e; simp at this; omega
        | cons c l => exact ⟨c, l, rfl⟩
      have hdl : a0.data.toList.drop (i + 1) = l := by
        have : a0.data.toList.drop (i + 1) = (a0.data.toList.drop i).drop 1 := by rw [List.drop_drop]
        rw [this, hcl]; rfl
      have hx1 : ∀ h : i < a0.size, ((a0[i]'h).toNat : Int) = (c.toNat : Int) := by
        intro h
        have h2 : i < a0.data.toList.length := by omega
        have h3 : a0.data.toList[i]? = some c := by
          have := congrArg (fun z => z[0]?) hcl
          simpa [List.getElem?_drop] using this
        have h4 := List.getElem?_eq_getElem h2
        rw [h3] at h4
        have h5 : a0[i]'h = c := by
          have := Option.some.inj h4
          rw [this]
          simp
          rfl
        rw [h5]
      have ew : wrap64 ((i : Int) + 1) = ((i + 1 : Nat) : Int) := by have := HZ.out; unfold wrap64; omega
      have c1 : decide ((i : Int) < (a0.size : Int)) = true := decide_eq_true (by omega)
      have p1 : (0 ≤ (i : Int)) = True := eq_true (by omega)
      have q1 : ((i : Int) < (a0.size : Int)) = True := eq_true (by omega)
      have hl1 : (Lib.byteCells acc).length + 6 ≤ 140737488355328 := by rw [Lib.byteCells_length]; have := HZ.out; have := HA.out; omega
      have hl0 : (Lib.byteCells acc).length + 1 ≤ 140737488355328 := Nat.le_trans (Nat.add_le_add_left (n := 1) (m := 6) (by decide) (Lib.byteCells acc).length) hl1
      have hz4 : (Lib.byteCells acc).length + 4 ≤ 140737488355328 := Nat.le_trans (Nat.add_le_add_left (n := 4) (m := 6) (by decide) (Lib.byteCells acc).length) hl1
      have hz5 : (Lib.byteCells acc).length + 5 ≤ 140737488355328 := Nat.le_trans (Nat.add_le_add_left (n := 5) (m := 6) (by decide) (Lib.byteCells acc).length) hl1
      have hz6 := hl1
      have HEL := Aside0.mk (ref_Escape.esc_len a1 c)
      have HS2 : Aside0 ((acc ++ ref_Escape.esc a1 c) ++ ref_Escape.go l a1 = ref_Escape.go a0.data.toList a1) := ⟨by rw [← HS.out, hcl]; simp [ref_Escape.go]⟩
      clear HS
      have b1 : (c.toNat : Int) = 38 ↔ c = 38 := ref_Escape.byte c 38 (by decide)
      have b2 : (c.toNat : Int) = 60 ↔ c = 60 := ref_Escape.byte c 60 (by decide)
      have b3 : (c.toNat : Int) = 62 ↔ c = 62 := ref_Escape.byte c 62 (by decide)
      have b4 : (c.toNat : Int) = 34 ↔ c = 34 := ref_Escape.byte c 34 (by decide)
      by_cases k38 : (c.toNat : Int) = 38
      · have he : ref_Escape.esc a1 c = [38, 97, 109, 112, 59] := by unfold ref_Escape.esc; rw [if_pos (b1.1 k38)]
        have f38 : ((c.toNat : Int) == 38) = true := beq_iff_eq.mpr k38
        have g38 : decide ((c.toNat : Int) = 38) = true := decide_eq_true k38
        replace he := Aside0.mk he
        clear b1 b2 b3 b4 hcl hlen
        go_wp2_with (go_at_call 35; refine (Bld.writeString w.heap.size w.heap.size (Lib.byteCells acc) (⟨#[38, 97, 109, 112, 59]⟩ : ByteArray) wr HI.out hz5 hbs).mono ?_; rintro e w2 ⟨rfl, HI2, HB2, _⟩; rw [ref_Escape.cells acc [38, 97, 109, 112, 59] (⟨#[38, 97, 109, 112, 59]⟩ : ByteArray) rfl] at HI2; have HI3 : Bld.IsB w.heap.size w.heap.size (Lib.byteCells (acc ++ ref_Escape.esc a1 c)) w2 := (by rw [he.out]; exact HI2))
        go_roundw
        case rel => exact ⟨i + 1, acc ++ ref_Escape.esc a1 c, by rw [← ew], ⟨HI3⟩, ⟨HB.out.trans HB2⟩, ⟨by rw [hdl]; exact HS2.out⟩, ⟨by omega⟩, ⟨by have := HA.out; have := HEL.out; simp; omega⟩⟩
        case measure => simp only [ref_Escape.iv, ew]; omega
      · have f38 : ((c.toNat : Int) == 38) = false := beq_eq_false_iff_ne.mpr k38
        have g38 : decide ((c.toNat : Int) = 38) = false := decide_eq_false k38
        by_cases k60 : (c.toNat : Int) = 60
        · have he : ref_Escape.esc a1 c = [38, 108, 116, 59] := by unfold ref_Escape.esc; rw [if_neg (fun z => k38 (b1.2 z)), if_pos (b2.1 k60)]
          have f60 : ((c.toNat : Int) == 60) = true := beq_iff_eq.mpr k60
          have g60 : decide ((c.toNat : Int) = 60) = true := decide_eq_true k60
          replace he := Aside0.mk he
          clear b1 b2 b3 b4 hcl hlen
          go_wp2_with (go_at_call 35; refine (Bld.writeString w.heap.size w.heap.size (Lib.byteCells acc) (⟨#[38, 108, 116, 59]⟩ : ByteArray) wr HI.out hz4 hbs).mono ?_; rintro e w2 ⟨rfl, HI2, HB2, _⟩; rw [ref_Escape.cells acc [38, 108, 116, 59] (⟨#[38, 108, 116, 59]⟩ : ByteArray) rfl] at HI2; have HI3 : Bld.IsB w.heap.size w.heap.size (Lib.byteCells (acc ++ ref_Escape.esc a1 c)) w2 := (by rw [he.out]; exact HI2))
          go_roundw
          case rel => exact ⟨i + 1, acc ++ ref_Escape.esc a1 c, by rw [← ew], ⟨HI3⟩, ⟨HB.out.trans HB2⟩, ⟨by rw [hdl]; exact HS2.out⟩, ⟨by omega⟩, ⟨by have := HA.out; have := HEL.out; simp; omega⟩⟩
          case measure => simp only [ref_Escape.iv, ew]; omega
        · have f60 : ((c.toNat : Int) == 60) = false := beq_eq_false_iff_ne.mpr k60
          have g60 : decide ((c.toNat : Int) = 60) = false := decide_eq_false k60
          by_cases k62 : (c.toNat : Int) = 62
          · have he : ref_Escape.esc a1 c = [38, 103, 116, 59] := by unfold ref_Escape.esc; rw [if_neg (fun z => k38 (b1.2 z)), if_neg (fun z => k60 (b2.2 z)), if_pos (b3.1 k62)]
            have f62 : ((c.toNat : Int) == 62) = true := beq_iff_eq.mpr k62
            have g62 : decide ((c.toNat : Int) = 62) = true := decide_eq_true k62
            replace he := Aside0.mk he
            clear b1 b2 b3 b4 hcl hlen
            go_wp2_with (go_at_call 35; refine (Bld.writeString w.heap.size w.heap.size (Lib.byteCells acc) (⟨#[38, 103, 116, 59]⟩ : ByteArray) wr HI.out hz4 hbs).mono ?_; rintro e w2 ⟨rfl, HI2, HB2, _⟩; rw [ref_Escape.cells acc [38, 103, 116, 59] (⟨#[38, 103, 116, 59]⟩ : ByteArray) rfl] at HI2; have HI3 : Bld.IsB w.heap.size w.heap.size (Lib.byteCells (acc ++ ref_Escape.esc a1 c)) w2 := (by rw [he.out]; exact HI2))
            go_roundw
            case rel => exact ⟨i + 1, acc ++ ref_Escape.esc a1 c, by rw [← ew], ⟨HI3⟩, ⟨HB.out.trans HB2⟩, ⟨by rw [hdl]; exact HS2.out⟩, ⟨by omega⟩, ⟨by have := HA.out; have := HEL.out; simp; omega⟩⟩
            case measure => simp only [ref_Escape.iv, ew]; omega
          · have f62 : ((c.toNat : Int) == 62) = false := beq_eq_false_iff_ne.mpr k62
            have g62 : decide ((c.toNat : Int) = 62) = false := decide_eq_false k62
            by_cases k34 : (c.toNat : Int) = 34
            · have f34 : ((c.toNat : Int) == 34) = true := beq_iff_eq.mpr k34
              have g34 : decide ((c.toNat : Int) = 34) = true := decide_eq_true k34
              cases a1 with
              | true =>
                have he : ref_Escape.esc true c = [38, 113, 117, 111, 116, 59] := by unfold ref_Escape.esc; rw [if_neg (fun z => k38 (b1.2 z)), if_neg (fun z => k60 (b2.2 z)), if_neg (fun z => k62 (b3.2 z)), if_pos ⟨b4.1 k34, rfl⟩]
                replace he := Aside0.mk he
                clear b1 b2 b3 b4 hcl hlen
                go_wp2_with (go_at_call 35; refine (Bld.writeString w.heap.size w.heap.size (Lib.byteCells acc) (⟨#[38, 113, 117, 111, 116, 59]⟩ : ByteArray) wr HI.out hz6 hbs).mono ?_; rintro e w2 ⟨rfl, HI2, HB2, _⟩; rw [ref_Escape.cells acc [38, 113, 117, 111, 116, 59] (⟨#[38, 113, 117, 111, 116, 59]⟩ : ByteArray) rfl] at HI2; have HI3 : Bld.IsB w.heap.size w.heap.size (Lib.byteCells (acc ++ ref_Escape.esc true c)) w2 := (by rw [he.out]; exact HI2))
                go_roundw
                case rel => exact ⟨i + 1, acc ++ ref_Escape.esc true c, by rw [← ew], ⟨HI3⟩, ⟨HB.out.trans HB2⟩, ⟨by rw [hdl]; exact HS2.out⟩, ⟨by omega⟩, ⟨by have := HA.out; have := HEL.out; simp; omega⟩⟩
                case measure => simp only [ref_Escape.iv, ew]; omega
              | false =>
                have he : ref_Escape.esc false c = [c] := by unfold ref_Escape.esc; rw [if_neg (fun z => k38 (b1.2 z)), if_neg (fun z => k60 (b2.2 z)), if_neg (fun z => k62 (b3.2 z)), if_neg (by simp)]
                replace he := Aside0.mk he
                clear b1 b2 b3 b4 hcl hlen
                go_wp2_with (go_at_call 36; refine (Bld.writeByte w.heap.size w.heap.size (Lib.byteCells acc) 34 wr HI.out hl0 hbs).mono ?_; rintro e w2 ⟨rfl, HI2, HB2, _⟩; have HI3 : Bld.IsB w.heap.size w.heap.size (Lib.byteCells (acc ++ ref_Escape.esc false c)) w2 := (by rw [he.out, Lib.byteCells_append]; have e34 : Lib.byteCells [c] = [Value.int .u8 34] := (by simp only [Lib.byteCells, List.map_cons, List.map_nil]; rw [k34]); rw [e34]; exact HI2))
                go_roundw
                case rel => exact ⟨i + 1, acc ++ ref_Escape.esc false c, by rw [← ew], ⟨HI3⟩, ⟨HB.out.trans HB2⟩, ⟨by rw [hdl]; exact HS2.out⟩, ⟨by omega⟩, ⟨by have := HA.out; have := HEL.out; simp; omega⟩⟩
                case measure => simp only [ref_Escape.iv, ew]; omega
            · have f34 : ((c.toNat : Int) == 34) = false := beq_eq_false_iff_ne.mpr k34
              have g34 : decide ((c.toNat : Int) = 34) = false := decide_eq_false k34
              have he : ref_Escape.esc a1 c = [c] := by unfold ref_Escape.esc; rw [if_neg (fun z => k38 (b1.2 z)), if_neg (fun z => k60 (b2.2 z)), if_neg (fun z => k62 (b3.2 z)), if_neg (fun z => k34 (b4.2 z.1))]
              replace he := Aside0.mk he
              clear b1 b2 b3 b4 hcl hlen
              go_wp2_with (go_at_call 36; refine (Bld.writeByte w.heap.size w.heap.size (Lib.byteCells acc) (c.toNat : Int) wr HI.out hl0 hbs).mono ?_; rintro e w2 ⟨rfl, HI2, HB2, _⟩; have HI3 : Bld.IsB w.heap.size w.heap.size (Lib.byteCells (acc ++ ref_Escape.esc a1 c)) w2 := (by rw [he.out, Lib.byteCells_append]; exact HI2))
              go_roundw
              case rel => exact ⟨i + 1, acc ++ ref_Escape.esc a1 c, by rw [← ew], ⟨HI3⟩, ⟨HB.out.trans HB2⟩, ⟨by rw [hdl]; exact HS2.out⟩, ⟨by omega⟩, ⟨by have := HA.out; have := HEL.out; simp; omega⟩⟩
              case measure => simp only [ref_Escape.iv, ew]; omega
    · have c1 : decide ((i : Int) < (a0.size : Int)) = false := decide_eq_false (by omega)
      have hd : a0.data.toList.drop i = [] := List.drop_eq_nil_of_le (by omega)
      have HE : acc = ref_Escape.go a0.data.toList a1 := by
        have := HS.out
        rw [hd] at this
        simpa [ref_Escape.go] using this
      go_wp2_with (first | (go_at_call 37; refine (Bld.string_of w.heap.size w.heap.size acc _ HI.out hbs).mono ?_; rintro e w2 ⟨rfl, HI2, HB2, _⟩))
      go_ret
      exact ⟨by rw [← HE]; rfl, HB.out.trans HB2⟩
end Go.Proofs.YteimhgbihpbhaaaDoor.X
end
section
namespace Go.Proofs.YteimhgbihpbhaaaDoor.X
open Go.RowKit Go.Proofs.YteimhgbihpbhaaaDoorW.PrintWords Go.Proofs.YteimhgbihpbhaaaDoorW.PrintLast Go.Proofs.YteimhgbihpbhaaaDoorW.PrintMore
attribute [local go_sem] max2_int min2_int max_two min_two max_three min_three max_four min_four   -- for this text's walks alone
set_option linter.unusedVariables false
set_option linter.unusedSimpArgs false
def bobbinetkeep_refSure.f  : Option (Bool) := (ref_Escape.f (⟨#[60, 97]⟩ : ByteArray) true).bind fun t180 => (if t180.toList = ([38, 108, 116, 59, 97] : List UInt8) then ((ref_Unescape.f (⟨#[38, 108, 116, 59, 97]⟩ : ByteArray)).bind fun t181 => (some (t181.toList == ([60, 97] : List UInt8)))) else (some false))
set_option maxHeartbeats 8000000 in
set_option maxRecDepth 100000 in
theorem bobbinetkeep_refSure.calls  (r : Bool) (w : World) (h : bobbinetkeep_refSure.f  = some r) :
    Calls Tryd.prog 19 #[] w fun e w' => e = .returned (.bool r) ∧ Below w.heap.size w w' := by
  have HB := Aside0.mk (Below.refl w.heap.size w)
  have H : ((ref_Escape.f (⟨#[60, 97]⟩ : ByteArray) true).bind fun t180 => (if t180.toList = ([38, 108, 116, 59, 97] : List UInt8) then ((ref_Unescape.f (⟨#[38, 108, 116, 59, 97]⟩ : ByteArray)).bind fun t181 => (some (t181.toList == ([60, 97] : List UInt8)))) else (some false))) = some r := h
  clear h
  replace H := Option.bind_eq_some_iff.mp H
  obtain ⟨t180, A10, H⟩ := H
  replace H : (if t180.toList = ([38, 108, 116, 59, 97] : List UInt8) then ((ref_Unescape.f (⟨#[38, 108, 116, 59, 97]⟩ : ByteArray)).bind fun t181 => (some (t181.toList == ([60, 97] : List UInt8)))) else (some false)) = some r := H
  have A1 := Aside0.mk A10
  clear A10
  by_cases c2 : t180.toList = ([38, 108, 116, 59, 97] : List UInt8)
  · rw [if_pos c2] at H
    have c2b0 : (t180.toList == ([38, 108, 116, 59, 97] : List UInt8)) = true := beq_iff_eq.mpr c2
    have c2b1 : (t180.toList != ([38, 108, 116, 59, 97] : List UInt8)) = false := bne_eq_false_iff_eq.mpr c2
    clear c2
    replace H := Option.bind_eq_some_iff.mp H
    obtain ⟨t181, A30, H⟩ := H
    replace H : (some (t181.toList == ([60, 97] : List UInt8))) = some r := H
    have A3 := Aside0.mk A30
    clear A30
    obtain rfl := Option.some.inj H
    go_enter Tryd.func19, Tryd.ntmps19
    go_wp2_with (first | ((with_reducible refine gate_callee (f := 20) rfl ?_); refine goesL_ (some 1) rfl rfl Tryd.func20 (by kernel_rfl) rfl #[.string (⟨#[60, 97]⟩ : ByteArray), .bool true] rfl (by (try simp only [List.map_toArray, List.map_cons, List.map_nil]); first | done | rfl | (simp only [List.length_drop, List.length_take]; rfl)) ?_; (with_reducible refine (ref_Escape.calls (⟨#[60, 97]⟩ : ByteArray) true t180 _ A1.out).mono ?_); rintro e w4 ⟨rfl, hb⟩; refine ⟨_, rfl, ?_⟩; have n0_ := Aside0.mk (below_step (by repeat (first | (with_reducible first | exact HB.out | apply below_alloc | apply pw_below_drewN | apply below_drew1) | exact HB.out)) hb); clear HB; have HB := n0_; clear n0_; (try clear hb); (try clear hb2); (try clear hk); (try clear hi)) | (go_at_call 21; (with_reducible refine (ref_Unescape.calls (⟨#[38, 108, 116, 59, 97]⟩ : ByteArray) t181 _ A3.out).mono ?_); rintro e w5 ⟨rfl, hb⟩; have n0_ := Aside0.mk (below_step (by repeat (first | (with_reducible first | exact HB.out | apply below_alloc | apply pw_below_drewN | apply below_drew1) | exact HB.out)) hb); clear HB; have HB := n0_; clear n0_; (try clear hb); (try clear hb2); (try clear hk); (try clear hi)))
    go_ret
    exact ⟨by first | rfl | (simp [errW_none, errW_some] <;> rfl) | (simp [*, errW_none, errW_some] <;> rfl), by repeat (first | (with_reducible first | exact HB.out | apply below_alloc | apply pw_below_drewN | apply below_drew1) | exact HB.out)⟩
  · rw [if_neg c2] at H
    have c2b0 : (t180.toList == ([38, 108, 116, 59, 97] : List UInt8)) = false := beq_eq_false_iff_ne.mpr c2
    have c2b1 : (t180.toList != ([38, 108, 116, 59, 97] : List UInt8)) = true := bne_iff_ne.mpr c2
    obtain rfl := Option.some.inj H
    go_enter Tryd.func19, Tryd.ntmps19
    go_wp2_with (first | ((with_reducible refine gate_callee (f := 20) rfl ?_); refine goesL_ (some 1) rfl rfl Tryd.func20 (by kernel_rfl) rfl #[.string (⟨#[60, 97]⟩ : ByteArray), .bool true] rfl (by (try simp only [List.map_toArray, List.map_cons, List.map_nil]); first | done | rfl | (simp only [List.length_drop, List.length_take]; rfl)) ?_; (with_reducible refine (ref_Escape.calls (⟨#[60, 97]⟩ : ByteArray) true t180 _ A1.out).mono ?_); rintro e w6 ⟨rfl, hb⟩; refine ⟨_, rfl, ?_⟩; have n0_ := Aside0.mk (below_step (by repeat (first | (with_reducible first | exact HB.out | apply below_alloc | apply pw_below_drewN | apply below_drew1) | exact HB.out)) hb); clear HB; have HB := n0_; clear n0_; (try clear hb); (try clear hb2); (try clear hk); (try clear hi)))
    go_ret
    exact ⟨by first | rfl | (simp [errW_none, errW_some] <;> rfl) | (simp [*, errW_none, errW_some] <;> rfl), by repeat (first | (with_reducible first | exact HB.out | apply below_alloc | apply pw_below_drewN | apply below_drew1) | exact HB.out)⟩
end Go.Proofs.YteimhgbihpbhaaaDoor.X
end
section
namespace Go.Proofs.YteimhgbihpbhaaaDoor.X
open Go.RowKit Go.Proofs.YteimhgbihpbhaaaDoorW.PrintWords Go.Proofs.YteimhgbihpbhaaaDoorW.PrintLast Go.Proofs.YteimhgbihpbhaaaDoorW.PrintMore
attribute [local go_sem] max2_int min2_int max_two min_two max_three min_three max_four min_four   -- for this text's walks alone
set_option linter.unusedVariables false
set_option linter.unusedSimpArgs false
def bobbinetkeep_Picked.f (a0 : Int) (a1 : Int) : Option (Int) := if a1 = 0 then (none) else (if (Int.tmod a0 a1) < 0 then (some (wrap64 ((Int.tmod a0 a1) + a1))) else (some (Int.tmod a0 a1)))
set_option maxHeartbeats 8000000 in
set_option maxRecDepth 100000 in
theorem bobbinetkeep_Picked.calls (a0 : Int) (a1 : Int) (r : Int) (w : World) (h : bobbinetkeep_Picked.f a0 a1 = some r) :
    Calls Tryd.prog 14 #[.int .i64 a0, .int .i64 a1] w fun e w' => e = .returned (.int .i64 r) ∧ Drawn0 w w' := by
  have H : (if a1 = 0 then (none) else (if (Int.tmod a0 a1) < 0 then (some (wrap64 ((Int.tmod a0 a1) + a1))) else (some (Int.tmod a0 a1)))) = some r := h
  clear h
  by_cases c3 : a1 = 0
  · rw [if_pos c3] at H
    exact absurd H (by simp)
  · rw [if_neg c3] at H
    have c3b0 : (a1 == 0) = false := beq_eq_false_iff_ne.mpr c3
    have c3b1 : (a1 != 0) = true := bne_iff_ne.mpr c3
    by_cases c4 : (Int.tmod a0 a1) < 0
    · rw [if_pos c4] at H
      have c4b0 : decide ((Int.tmod a0 a1) < 0) = true := decide_eq_true c4
      clear c4
      obtain rfl := Option.some.inj H
      go_enter Tryd.func14, Tryd.ntmps14
      go_wp2
      go_ret
      exact ⟨by first | rfl | (simp; done) | (simp [*]; done), by repeat (first | exact Drawn0.refl _ | apply Drawn0.step)⟩
    · rw [if_neg c4] at H
      have c4b0 : decide ((Int.tmod a0 a1) < 0) = false := decide_eq_false c4
      clear c4
      obtain rfl := Option.some.inj H
      go_enter Tryd.func14, Tryd.ntmps14
      go_wp2
      go_ret
      exact ⟨by first | rfl | (simp; done) | (simp [*]; done), by repeat (first | exact Drawn0.refl _ | apply Drawn0.step)⟩
end Go.Proofs.YteimhgbihpbhaaaDoor.X
end
section
namespace Go.Proofs.YteimhgbihpbhaaaDoor.X
open Go.RowKit Go.Proofs.YteimhgbihpbhaaaDoorW.PrintWords Go.Proofs.YteimhgbihpbhaaaDoorW.PrintLast Go.Proofs.YteimhgbihpbhaaaDoorW.PrintMore
attribute [local go_sem] max2_int min2_int max_two min_two max_three min_three max_four min_four   -- for this text's walks alone
set_option linter.unusedVariables false
set_option linter.unusedSimpArgs false
mutual
def bobbinetkeep_Letters.l0 : Nat → List Int → Int → List Int → Int → Option (List Int)
 | 0, _, _, _, _ => none
 | k + 1, x0, x1, x5, x6 => if x6 < (x0.length : Int) then (bobbinetkeep_Letters.j1 k x0 x1 x5 x6 (decide (x6 < x1))) else (bobbinetkeep_Letters.j1 k x0 x1 x5 x6 false)
def bobbinetkeep_Letters.j1 : Nat → List Int → Int → List Int → Int → Bool → Option (List Int)
 | 0, _, _, _, _, _ => none
 | k + 1, x0, x1, x5, x6, x16 => if x16 = true then (if 0 ≤ x6 then (if x6 < (x0.length : Int) then ((some (([128, 300, 3000, 70000, 1114112] : List Int) : List Int)).bind fun y183 => ((bobbinetkeep_Picked.f (wrap64 (Int.tdiv (rd x0 x6) 7)) 5).bind fun t187 => (if 0 ≤ t187 then (if t187 < (y183.length : Int) then ((bobbinetkeep_Picked.f (rd x0 x6) (rd y183 t187)).bind fun t189 => (if t189 ≥ 55296 then (if t189 ≤ 57343 then (if x5.length < 17592186044416 then (bobbinetkeep_Letters.l0 k x0 x1 (x5 ++ [65]) (wrap64 (x6 + 1))) else (none)) else (if x5.length < 17592186044416 then (bobbinetkeep_Letters.l0 k x0 x1 (x5 ++ [t189]) (wrap64 (x6 + 1))) else (none))) else (if x5.length < 17592186044416 then (bobbinetkeep_Letters.l0 k x0 x1 (x5 ++ [t189]) (wrap64 (x6 + 1))) else (none)))) else (none)) else (none)))) else (none)) else (none)) else (some x5)
end
def bobbinetkeep_Letters.f (k : Nat) (l0 : List Int) (a1 : Int) : Option (List Int) := bobbinetkeep_Letters.l0 k l0 a1 ([] : List Int) 0
def bobbinetkeep_Letters.T5 : Bool × List (List Nat × List Nat) := (true, [([], []), ([], []), ([0, 1], [0, 1]), ([2], [2]), ([], []), ([], []), ([], []), ([5, 6], [5, 6]), ([7], [7]), ([8], [8]), ([9], [9]), ([4, 10], [4, 10]), ([11], [11]), ([3, 12, 10], [3, 12]), ([13, 13, 0, 1, 2, 3, 4, 5, 6, 7, 8, 9, 10, 11, 12, 13], [13])])
def bobbinetkeep_Letters.B5 : List Nat := [0, 0, 3, 7, 0, 0, 0, 96, 224, 480, 992, 2032, 4080, 8191, 16383]
theorem bobbinetkeep_Letters.tab5 : rtab .any (opsOf Tryd.f22 5) = bobbinetkeep_Letters.T5 := by kernel_rfl
theorem bobbinetkeep_Letters.bits5 : waitsOk bobbinetkeep_Letters.T5.2 bobbinetkeep_Letters.B5 = true := by kernel_rfl
set_option maxHeartbeats 8000000 in
set_option maxRecDepth 100000 in
theorem bobbinetkeep_Letters.calls (k : Nat) (A0 : Option Addr) (c0 : Nat) (l0 : List Int) (a1 : Int) (r : List Int) (w : World) (hr0 : Kd.C (Kd.int .i64) w A0 l0.length l0) (hc0 : l0.length ≤ c0) (h : bobbinetkeep_Letters.f k l0 a1 = some r) :
  Calls Tryd.prog 22 #[.slice A0 l0.length c0, .int .i64 a1] w fun e w' => ∃ v0_ : Value, e = .returned (v0_) ∧ Kd.R (Kd.int .i64) 3 w' w.heap.size (fun _ => True) v0_ r ∧ Below w.heap.size w w' := by
 have HR0 := Aside0.mk hr0
 have HC0 := Aside0.mk hc0
 clear hr0 hc0
 have HB := Aside0.mk (Below.refl w.heap.size w)
 have H : (bobbinetkeep_Letters.l0 k l0 a1 ([] : List Int) 0) = some r := h
 clear h
 have H' := Aside0.mk H
 clear H
 go_enter Tryd.func22, Tryd.ntmps22
 go_wp2
 go_loopg [5, 6] k (fun kq v5 v6 w' => ∃ (x5_1 : List Int) (x6_1 : Int), v6 = .int .i64 x6_1 ∧ Aside0 (bobbinetkeep_Letters.l0 kq l0 a1 x5_1 x6_1 = some r) ∧ Aside0 (kq ≤ k) ∧ Aside0 (Kd.R (Kd.int .i64) 3 w' w.heap.size (fun _ => True) v5 x5_1) ∧ Aside0 (Below w.heap.size w w'))
 case atStart => exact ⟨(([] : List Int)), (0), (by first | rfl | (simp; done) | (simp [*]; done) | (simp [bne]; done)), H', ⟨Nat.le_refl _⟩, ⟨by first | exact Kd.R_nil _ _ _ _ _ | exact Kd.N_nil _ _ _ _ _ | exact Kd.V_nil _ _ _ _ _ | exact Kd.Q_nil _ _ _ _ _ | exact Kd.S_nil _ _ _ _ _⟩, ⟨by repeat (first | (with_reducible first | exact HB.out | apply below_alloc | apply pw_below_drewN | apply below_drew1) | exact HB.out)⟩⟩
 case round =>
  clear H'
  try clear c2
  try clear p2
  obtain ⟨x5_1, x6_1, rfl, HA, HK1, HO_5, HB⟩ := hrel
  cases gk with
  | zero => exact absurd HA.out (by simp [bobbinetkeep_Letters.l0])
  | succ k1 =>
   have H := HA.out
   clear HA
   simp only [bobbinetkeep_Letters.l0] at H
   have HC3 := Aside0.mk H
   clear H
   go_upto_region 3 with (fail)
   go_cut [16] (fun v16 wc => ∃ (kq : Nat) (x16_2 : Bool), v16 = .bool x16_2 ∧ Aside0 (bobbinetkeep_Letters.j1 kq l0 a1 x5_1 x6_1 x16_2 = some r) ∧ Aside0 (kq ≤ k1) ∧ Aside0 (Kd.R (Kd.int .i64) 3 wc w.heap.size (fun _ => True) u5 x5_1) ∧ Aside0 (Below w.heap.size w wc))
   case first =>
    have H := HC3.out
    clear HC3
    by_cases c4 : x6_1 < (l0.length : Int)
    ·
     rw [if_pos c4] at H
     have c4b0 : decide (x6_1 < (l0.length : Int)) = true := decide_eq_true c4
     clear c4
     (first | rw [c4b0] | (simp only [i64_w, i32_w]; rw [c4b0]) | rw [c4b1] | skip)
     have H' := Aside0.mk H
     clear H
     go_wp2
     go_meet
     case rel => exact ⟨_, (decide (x6_1 < a1)), (by first | rfl | (simp; done) | (simp [*]; done) | (simp [bne]; done)), H', ⟨by have := HK1.out; first | omega | exact Nat.le_refl _⟩, ⟨by (with_reducible repeat (first | apply Kd.R_alloc | apply Kd.R_drewN | apply Kd.R_drew)); exact HO_5.out⟩, ⟨by repeat (first | (with_reducible first | exact HB.out | apply below_alloc | apply pw_below_drewN | apply below_drew1) | exact HB.out)⟩⟩
    ·
     rw [if_neg c4] at H
     have c4b0 : decide (x6_1 < (l0.length : Int)) = false := decide_eq_false c4
     clear c4
     (first | rw [c4b0] | (simp only [i64_w, i32_w]; rw [c4b0]) | rw [c4b1] | skip)
     have H' := Aside0.mk H
     clear H
     go_wp2
     go_meet
     case rel => exact ⟨_, (false), (by first | rfl | (simp; done) | (simp [*]; done) | (simp [bne]; done)), H', ⟨by have := HK1.out; first | omega | exact Nat.le_refl _⟩, ⟨by (with_reducible repeat (first | apply Kd.R_alloc | apply Kd.R_drewN | apply Kd.R_drew)); exact HO_5.out⟩, ⟨by repeat (first | (with_reducible first | exact HB.out | apply below_alloc | apply pw_below_drewN | apply below_drew1) | exact HB.out)⟩⟩
   case rest =>
    clear HC3
    try clear c2
    try clear p2
    try clear c4
    try clear c4b0
    try clear p2
    obtain ⟨kq, x16_2, rfl, HA, HJ2, HO_5, HB⟩ := hcut
    cases kq with
    | zero => exact absurd HA.out (by simp [bobbinetkeep_Letters.j1])
    | succ kj2 =>
     have H := HA.out
     clear HA
     simp only [bobbinetkeep_Letters.j1] at H
     by_cases c5 : x16_2 = true
     ·
      subst c5
      have H1 : (if 0 ≤ x6_1 then (if x6_1 < (l0.length : Int) then ((some (([128, 300, 3000, 70000, 1114112] : List Int) : List Int)).bind fun y183 => ((bobbinetkeep_Picked.f (wrap64 (Int.tdiv (rd l0 x6_1) 7)) 5).bind fun t187 => (if 0 ≤ t187 then (if t187 < (y183.length : Int) then ((bobbinetkeep_Picked.f (rd l0 x6_1) (rd y183 t187)).bind fun t189 => (if t189 ≥ 55296 then (if t189 ≤ 57343 then (if x5_1.length < 17592186044416 then (bobbinetkeep_Letters.l0 kj2 l0 a1 (x5_1 ++ [65]) (wrap64 (x6_1 + 1))) else (none)) else (if x5_1.length < 17592186044416 then (bobbinetkeep_Letters.l0 kj2 l0 a1 (x5_1 ++ [t189]) (wrap64 (x6_1 + 1))) else (none))) else (if x5_1.length < 17592186044416 then (bobbinetkeep_Letters.l0 kj2 l0 a1 (x5_1 ++ [t189]) (wrap64 (x6_1 + 1))) else (none)))) else (none)) else (none)))) else (none)) else (none)) = some r := by rw [if_pos rfl] at H; exact H
      clear H
      have H := H1
      clear H1
      by_cases c6 : 0 ≤ x6_1
      ·
       rw [if_pos c6] at H
       have c6b0 : decide (0 ≤ x6_1) = true := decide_eq_true c6
       clear c6
       by_cases c7 : x6_1 < (l0.length : Int)
       ·
        rw [if_pos c7] at H
        have c7b0 : decide (x6_1 < (l0.length : Int)) = true := decide_eq_true c7
        clear c7
        obtain ⟨y183, hy183⟩ : ∃ y_ : List Int, y_ = (([128, 300, 3000, 70000, 1114112] : List Int)) := ⟨_, rfl⟩
        replace H : ((bobbinetkeep_Picked.f (wrap64 (Int.tdiv (rd l0 x6_1) 7)) 5).bind fun t187 => (if 0 ≤ t187 then (if t187 < (y183.length : Int) then ((bobbinetkeep_Picked.f (rd l0 x6_1) (rd y183 t187)).bind fun t189 => (if t189 ≥ 55296 then (if t189 ≤ 57343 then (if x5_1.length < 17592186044416 then (bobbinetkeep_Letters.l0 kj2 l0 a1 (x5_1 ++ [65]) (wrap64 (x6_1 + 1))) else (none)) else (if x5_1.length < 17592186044416 then (bobbinetkeep_Letters.l0 kj2 l0 a1 (x5_1 ++ [t189]) (wrap64 (x6_1 + 1))) else (none))) else (if x5_1.length < 17592186044416 then (bobbinetkeep_Letters.l0 kj2 l0 a1 (x5_1 ++ [t189]) (wrap64 (x6_1 + 1))) else (none)))) else (none)) else (none))) = some r := by first | (rw [hy183]; with_reducible exact H) | (have H2_ := (Option.bind_some _ _).symm.trans H; rw [hy183]; with_reducible exact H2_) | (have H2_ := (Option.bind_some _ _).symm.trans H; with_reducible exact H2_) | with_reducible exact H | (rw [hy183]; exact H) | exact H
        have Ny183 := Aside0.mk hy183
        clear hy183
        replace H := Option.bind_eq_some_iff.mp H
        obtain ⟨t187, A80, H⟩ := H
        replace H : (if 0 ≤ t187 then (if t187 < (y183.length : Int) then ((bobbinetkeep_Picked.f (rd l0 x6_1) (rd y183 t187)).bind fun t189 => (if t189 ≥ 55296 then (if t189 ≤ 57343 then (if x5_1.length < 17592186044416 then (bobbinetkeep_Letters.l0 kj2 l0 a1 (x5_1 ++ [65]) (wrap64 (x6_1 + 1))) else (none)) else (if x5_1.length < 17592186044416 then (bobbinetkeep_Letters.l0 kj2 l0 a1 (x5_1 ++ [t189]) (wrap64 (x6_1 + 1))) else (none))) else (if x5_1.length < 17592186044416 then (bobbinetkeep_Letters.l0 kj2 l0 a1 (x5_1 ++ [t189]) (wrap64 (x6_1 + 1))) else (none)))) else (none)) else (none)) = some r := H
        have A8 := Aside0.mk A80
        clear A80
        by_cases c9 : 0 ≤ t187
        ·
         rw [if_pos c9] at H
         have c9b0 : decide (0 ≤ t187) = true := decide_eq_true c9
         clear c9
         by_cases c10 : t187 < (y183.length : Int)
         ·
          rw [if_pos c10] at H
          have c10b0 : decide (t187 < (y183.length : Int)) = true := decide_eq_true c10
          clear c10
          replace H := Option.bind_eq_some_iff.mp H
          obtain ⟨t189, A110, H⟩ := H
          replace H : (if t189 ≥ 55296 then (if t189 ≤ 57343 then (if x5_1.length < 17592186044416 then (bobbinetkeep_Letters.l0 kj2 l0 a1 (x5_1 ++ [65]) (wrap64 (x6_1 + 1))) else (none)) else (if x5_1.length < 17592186044416 then (bobbinetkeep_Letters.l0 kj2 l0 a1 (x5_1 ++ [t189]) (wrap64 (x6_1 + 1))) else (none))) else (if x5_1.length < 17592186044416 then (bobbinetkeep_Letters.l0 kj2 l0 a1 (x5_1 ++ [t189]) (wrap64 (x6_1 + 1))) else (none))) = some r := H
          have A11 := Aside0.mk A110
          clear A110
          by_cases c12 : t189 ≥ 55296
          ·
           rw [if_pos c12] at H
           have c12b0 : decide (55296 ≤ t189) = true := decide_eq_true c12
           clear c12
           by_cases c13 : t189 ≤ 57343
           ·
            rw [if_pos c13] at H
            have c13b0 : decide (t189 ≤ 57343) = true := decide_eq_true c13
            clear c13
            by_cases c14 : x5_1.length < 17592186044416
            ·
             rw [if_pos c14] at H
             have LMc14 := Aside0.mk c14
             clear c14
             obtain ⟨y190, hy190⟩ : ∃ y_ : List Int, y_ = (x5_1 ++ [65]) := ⟨_, rfl⟩
             replace H : (bobbinetkeep_Letters.l0 kj2 l0 a1 y190 (wrap64 (x6_1 + 1))) = some r := by first | (rw [hy190]; with_reducible exact H) | (have H2_ := (Option.bind_some _ _).symm.trans H; rw [hy190]; with_reducible exact H2_) | (have H2_ := (Option.bind_some _ _).symm.trans H; with_reducible exact H2_) | with_reducible exact H | (rw [hy190]; exact H) | exact H
             have Ny190 := Aside0.mk hy190
             clear hy190
             have H' := Aside0.mk H
             clear H
             try go_wp2
             have pi188 : (0 ≤ (t187 : Int)) = True := eq_true (of_decide_eq_true (by first | (with_reducible assumption) | assumption))
             have qi188 : (t187 < (y183.length : Int)) = True := eq_true (of_decide_eq_true (by first | (with_reducible assumption) | assumption))
             have n0_ := Aside0.mk (Kd.R_drew HO_5.out)
             have n1_ := Aside0.mk (below_drew1 HB.out)
             clear HO_5
             clear HB
             have HO_5 := n0_
             have HB := n1_
             clear n0_ n1_
             have p182 : 0 ≤ (x6_1 : Int) := of_decide_eq_true (by first | (with_reducible assumption) | assumption)
             have q182 : x6_1 < (l0.length : Int) := of_decide_eq_true (by first | (with_reducible assumption) | assumption)
             obtain ⟨ad182, e182, hx182_0⟩ := Kd.at_int HR0.out x6_1 p182 q182
             have hw182_0 := hx182_0
             cases e182
             replace hx182_0 := (HB.out.cell (World.block_lt_of_cell? w _ hx182_0)).trans hx182_0
             replace p182 := eq_true p182
             replace q182 := eq_true q182
             have p186 : 0 ≤ (x6_1 : Int) := of_decide_eq_true (by first | (with_reducible assumption) | assumption)
             have q186 : x6_1 < (l0.length : Int) := of_decide_eq_true (by first | (with_reducible assumption) | assumption)
             obtain ⟨ad186, e186, hx186_0⟩ := Kd.at_int HR0.out x6_1 p186 q186
             have hw186_0 := hx186_0
             obtain rfl : ad182 = ad186 := (by injection e186)
             replace hx186_0 := (HB.out.cell (World.block_lt_of_cell? w _ hx186_0)).trans hx186_0
             replace p186 := eq_true p186
             replace q186 := eq_true q186
             refine start_ (n := 15) (S := fun w' => w'.cell? (ad182.add (x6_1).toNat) = some (.int .i64 (rd l0 x6_1)) ∧ w'.cell? (ad182.add (x6_1).toNat) = some (.int .i64 (rd l0 x6_1))) (ds := []) #[false, false, false, false, false, false, false, false, false, false, false, false, false, false, false] (by kernel_rfl) rfl rfl ⟨((HB.out.cell (World.block_lt_of_cell? w _ hw182_0)).trans hw182_0), ((HB.out.cell (World.block_lt_of_cell? w _ hw186_0)).trans hw186_0)⟩ (fun hHeld => ?_); refine with_tabW bobbinetkeep_Letters.tab5 bobbinetkeep_Letters.bits5 (fun HT_ HW_ => ?_)
             generalize wc.drew = w15 at HO_5 HB hx182_0 hx186_0 hHeld ⊢
             refine pure_ (i := 0) (N := some 19) (v := ?_) (a' := ?_) #[true, false, false, false, false, false, false, false, false, false, false, false, false, false, false] rfl rfl (any_of HT_.out (by kernel_rfl)) (fun _ _ _ h => h) (Or.inl ⟨by rfl, ?_⟩) ?_ ?_
             rotate_left
             ·
              intro w'
              go_simp
              with_reducible rfl
             rotate_left
             ·
              simp only [Act.put, List.setIfInBounds_toArray, List.set_cons_zero, List.set_cons_succ, i64_w, i32_w]
              rfl
             refine pure_ (i := 1) (N := some 20) (v := ?_) (a' := ?_) #[true, true, false, false, false, false, false, false, false, false, false, false, false, false, false] rfl rfl (any_of HT_.out (by kernel_rfl)) (fun _ _ _ h => h) (Or.inl ⟨by rfl, ?_⟩) ?_ ?_
             rotate_left
             ·
              intro w'
              go_simp
              with_reducible rfl
             rotate_left
             ·
              simp only [Act.put, List.setIfInBounds_toArray, List.set_cons_zero, List.set_cons_succ, i64_w, i32_w]
              rfl
             refine pure_ (i := 2) (N := some 21) (v := ?_) (a' := ?_) #[true, true, true, false, false, false, false, false, false, false, false, false, false, false, false] rfl rfl (any_of HT_.out (by kernel_rfl)) (fun _ _ _ h => h) (Or.inl ⟨by rfl, ?_⟩) ?_ ?_
             rotate_left
             ·
              intro w'
              go_simp
              with_reducible rfl
             rotate_left
             ·
              simp only [Act.put, List.setIfInBounds_toArray, List.set_cons_zero, List.set_cons_succ, i64_w, i32_w]
              rfl
             refine pure_ (i := 5) (N := some 24) (v := ?_) (a' := ?_) #[true, true, true, false, false, true, false, false, false, false, false, false, false, false, false] rfl rfl (any_of HT_.out (by kernel_rfl)) (fun _ _ _ h => h) (Or.inl ⟨by rfl, ?_⟩) ?_ ?_
             rotate_left
             ·
              intro w'
              go_simp
              with_reducible rfl
             rotate_left
             ·
              simp only [Act.put, List.setIfInBounds_toArray, List.set_cons_zero, List.set_cons_succ, i64_w, i32_w]
              rfl
             refine pure_ (i := 6) (N := some 25) (v := ?_) (a' := ?_) #[true, true, true, false, false, true, true, false, false, false, false, false, false, false, false] rfl rfl (any_of HT_.out (by kernel_rfl)) (fun _ _ _ h => h) (Or.inl ⟨by rfl, ?_⟩) ?_ ?_
             rotate_left
             ·
              intro w'
              go_simp
              with_reducible rfl
             rotate_left
             ·
              simp only [Act.put, List.setIfInBounds_toArray, List.set_cons_zero, List.set_cons_succ, i64_w, i32_w]
              rfl
             refine pure_ (i := 7) (N := some 26) (v := ?_) (a' := ?_) #[true, true, true, false, false, true, true, true, false, false, false, false, false, false, false] rfl rfl (any_of HT_.out (by kernel_rfl)) (fun _ _ _ h => h) (Or.inl ⟨by rfl, ?_⟩) ?_ ?_
             rotate_left
             ·
              intro w'
              go_simp
              with_reducible rfl
             rotate_left
             ·
              simp only [Act.put, List.setIfInBounds_toArray, List.set_cons_zero, List.set_cons_succ, i64_w, i32_w]
              rfl
             refine take_ (i := 3) (N := some 22) (v := ?_) (a' := ?_) #[true, true, true, true, false, true, true, true, false, false, false, false, false, false, false] rfl rfl (take_ofW HT_.out HW_.out (by kernel_rfl)) (fun _ _ _ h => h) (Or.inl ⟨by rfl, ?_⟩) hHeld ?_ ?_
             rotate_left
             ·
              rintro w' ⟨s0, s1⟩
              go_simp
              with_reducible rfl
             rotate_left
             ·
              simp only [Act.put, List.setIfInBounds_toArray, List.set_cons_zero, List.set_cons_succ, i64_w, i32_w]
              rfl
             refine take_ (i := 8) (N := some 27) (v := ?_) (a' := ?_) #[true, true, true, true, false, true, true, true, true, false, false, false, false, false, false] rfl rfl (take_ofW HT_.out HW_.out (by kernel_rfl)) (fun _ _ _ h => h) (Or.inl ⟨by rfl, ?_⟩) hHeld ?_ ?_
             rotate_left
             ·
              rintro w' ⟨s0, s1⟩
              go_simp
              with_reducible rfl
             rotate_left
             ·
              simp only [Act.put, List.setIfInBounds_toArray, List.set_cons_zero, List.set_cons_succ, i64_w, i32_w]
              rfl
             refine pure_ (i := 9) (N := some 28) (v := ?_) (a' := ?_) #[true, true, true, true, false, true, true, true, true, true, false, false, false, false, false] rfl rfl (any_of HT_.out (by kernel_rfl)) (fun _ _ _ h => h) (Or.inl ⟨by rfl, ?_⟩) ?_ ?_
             rotate_left
             ·
              intro w'
              go_simp
              with_reducible rfl
             rotate_left
             ·
              simp only [Act.put, List.setIfInBounds_toArray, List.set_cons_zero, List.set_cons_succ, i64_w, i32_w]
              rfl
             refine join_ (σ := Value × Addr) 4 #[true, true, true, true, true, true, true, true, true, true, true, false, false, false, false] (fun s_ => [(23, s_.1), (29, .int .i64 t187)]) (fun s_ w' => (w'.cell? (ad182.add (x6_1).toNat) = some (.int .i64 (rd l0 x6_1)) ∧ w'.cell? (ad182.add (x6_1).toNat) = some (.int .i64 (rd l0 x6_1))) ∧ (Kd.R (Kd.int .i64) 3 w' w.heap.size (fun k_ => some k_ ≠ (u5 : Value).ownBlock) s_.1 y183) ∧ (Kd.R (Kd.int .i64) 3 w' w.heap.size (fun k_ => some k_ ≠ (s_.1 : Value).ownBlock) u5 x5_1) ∧ (∃ c_, (s_.1 : Value) = .slice (some s_.2) y183.length c_) ∧ (Below w.heap.size w w')) ?_ ?_
             rotate_left
             ·
              intro hCont
              refine two_ (i := 4) (j := 10) (Ni := some 23) (Nj := some 29) #[true, true, true, true, true, true, true, true, true, true, false, false, false, false, false] #[true, true, true, true, false, true, true, true, true, true, true, false, false, false, false] rfl rfl rfl rfl (two_of HT_.out (by kernel_rfl)) (by decide) (by decide) (fun K hK => ?_) (fun K hK => ?_)
              ·
               skip
               refine Kd.R_lit_step (Kd.int .i64) _ 3 ?hg (N := 23) ?hd (xs := ([128, 300, 3000, 70000, 1114112] : List Int)) (inner := [.int .i64 128, .int .i64 300, .int .i64 3000, .int .i64 70000, .int .i64 1114112]) (ok := fun _ => True) (okp := fun _ => True) ?hr ?hp (fun _ hk => hk) trivial (Below.refl _ _) (Nat.le_refl _) (by simp) ?_; (case hd => rfl); (case hg => rfl); (case hr => first | (go_simp; done) | (go_simp; rfl)); (case hp => exact (Reps.one (show Kd.M (Kd.int .i64) _ _ _ 128 [.int .i64 128] from rfl) (Reps.one (show Kd.M (Kd.int .i64) _ _ _ 300 [.int .i64 300] from rfl) (Reps.one (show Kd.M (Kd.int .i64) _ _ _ 3000 [.int .i64 3000] from rfl) (Reps.one (show Kd.M (Kd.int .i64) _ _ _ 70000 [.int .i64 70000] from rfl) (Reps.one (show Kd.M (Kd.int .i64) _ _ _ 1114112 [.int .i64 1114112] from rfl) (Reps.none _ _)))))))
               intro v184 w16 ho17 hb hg_ hnew_
               clear hg_ hnew_
               (first | rw [← Ny183.out] at ho17 | (simp only [Int.reduceToNat] at ho17; rw [← Ny183.out] at ho17))
               have n0_ := Aside0.mk (Kd.R_elder' (by (with_reducible repeat (first | apply Kd.R_alloc | apply Kd.R_drewN | apply Kd.R_drew)); exact HO_5.out) (Kd.R_base ho17) hb)
               have n1_ := Aside0.mk (Kd.R_lower (Kd.R_new' ho17 (Kd.R_lt (by (with_reducible repeat (first | apply Kd.R_alloc | apply Kd.R_drewN | apply Kd.R_drew)); exact HO_5.out))) (below_size (by repeat (first | (with_reducible first | exact HB.out | apply below_alloc | apply pw_below_drewN | apply below_drew1) | exact HB.out))))
               have n2_ := Aside0.mk (below_step (by repeat (first | (with_reducible first | exact HB.out | apply below_alloc | apply pw_below_drewN | apply below_drew1) | exact HB.out)) hb)
               clear HO_5
               clear HB
               have HO_5 := n0_
               have HO185 := n1_
               have HB := n2_
               clear n0_ n1_ n2_
               clear hb ho17
               obtain ⟨Ao18, co18, eo18⟩ := Kd.R_slice HO185.out
               subst eo18
               obtain ⟨ado18, fo18, _⟩ := Kd.at_int (Kd.R_reads' HO185.out).2.2 0 (by decide) (by rw [Ny183.out]; simp)
               cases fo18
               refine hK.out _ _ ⟨((HB.out.cell (World.block_lt_of_cell? w _ hw182_0)).trans hw182_0), ((HB.out.cell (World.block_lt_of_cell? w _ hw186_0)).trans hw186_0)⟩ (fun hHeld => ?_)
               clear hK K
               refine norm_ (a' := ?_) ?_ ?_
               rotate_left
               ·
                show Act.put _ (some 23) _ = _
                simp only [Act.put, List.setIfInBounds_toArray, List.set_cons_zero, List.set_cons_succ, i64_w, i32_w]
                rfl
               refine one_ (i := 10) (N := some 29) #[true, true, true, true, true, true, true, true, true, true, true, false, false, false, false] rfl rfl (one_of HT_.out (by kernel_rfl)) (by decide) (fun K hK => ?_)
               refine goes_ Tryd.func14 (by kernel_rfl) rfl #[.int .i64 (wrap64 (Int.tdiv (rd l0 x6_1) 7)), .int .i64 5] (by rfl) rfl rfl (by (try simp only [List.map_toArray, List.map_cons, List.map_nil]); first | done | rfl | (simp only [List.length_drop, List.length_take]; rfl)) ?_
               with_reducible refine (bobbinetkeep_Picked.calls (wrap64 (Int.tdiv (rd l0 x6_1) 7)) 5 t187 _ A8.out).mono ?_
               rintro e w' ⟨rfl, ⟨nd, rfl⟩⟩
               refine ⟨_, rfl, ?_⟩
               refine hK.out _ _ ⟨((HB.out.cell (World.block_lt_of_cell? w _ hw182_0)).trans hw182_0), ((HB.out.cell (World.block_lt_of_cell? w _ hw186_0)).trans hw186_0)⟩ (fun hHeld => ?_)
               clear hK K
               refine norm_ (a' := ?_) ?_ ?_
               rotate_left
               ·
                show Act.put _ (some 29) _ = _
                simp only [Act.put, List.setIfInBounds_toArray, List.set_cons_zero, List.set_cons_succ, i64_w, i32_w]
                rfl
               exact norm_ (by simp only [putAll, Act.put, List.setIfInBounds_toArray, List.set_cons_zero, List.set_cons_succ]) (hCont (.slice (some ado18) y183.length co18, ado18) _ ⟨hHeld, (by (with_reducible repeat (first | apply Kd.R_alloc | apply Kd.R_drewN | apply Kd.R_drew)); exact Kd.R_mono HO185.out (fun _ hk => hk.2)), (by (with_reducible repeat (first | apply Kd.R_alloc | apply Kd.R_drewN | apply Kd.R_drew)); exact Kd.R_mono HO_5.out (fun _ hk => hk.2)), ⟨_, rfl⟩, (by repeat (first | (with_reducible first | exact HB.out | apply below_alloc | apply pw_below_drewN | apply below_drew1) | exact HB.out))⟩)
              ·
               skip
               refine goes_ Tryd.func14 (by kernel_rfl) rfl #[.int .i64 (wrap64 (Int.tdiv (rd l0 x6_1) 7)), .int .i64 5] (by rfl) rfl rfl (by (try simp only [List.map_toArray, List.map_cons, List.map_nil]); first | done | rfl | (simp only [List.length_drop, List.length_take]; rfl)) ?_
               with_reducible refine (bobbinetkeep_Picked.calls (wrap64 (Int.tdiv (rd l0 x6_1) 7)) 5 t187 _ A8.out).mono ?_
               rintro e w' ⟨rfl, ⟨nd, rfl⟩⟩
               refine ⟨_, rfl, ?_⟩
               refine hK.out _ _ ⟨((HB.out.cell (World.block_lt_of_cell? w _ hw182_0)).trans hw182_0), ((HB.out.cell (World.block_lt_of_cell? w _ hw186_0)).trans hw186_0)⟩ (fun hHeld => ?_)
               clear hK K
               refine norm_ (a' := ?_) ?_ ?_
               rotate_left
               ·
                show Act.put _ (some 29) _ = _
                simp only [Act.put, List.setIfInBounds_toArray, List.set_cons_zero, List.set_cons_succ, i64_w, i32_w]
                rfl
               refine one_ (i := 4) (N := some 23) #[true, true, true, true, true, true, true, true, true, true, true, false, false, false, false] rfl rfl (one_of HT_.out (by kernel_rfl)) (by decide) (fun K hK => ?_)
               refine Kd.R_lit_step (Kd.int .i64) _ 3 ?hg (N := 23) ?hd (xs := ([128, 300, 3000, 70000, 1114112] : List Int)) (inner := [.int .i64 128, .int .i64 300, .int .i64 3000, .int .i64 70000, .int .i64 1114112]) (ok := fun _ => True) (okp := fun _ => True) ?hr ?hp (fun _ hk => hk) trivial (Below.refl _ _) (Nat.le_refl _) (by simp) ?_; (case hd => rfl); (case hg => rfl); (case hr => first | (go_simp; done) | (go_simp; rfl)); (case hp => exact (Reps.one (show Kd.M (Kd.int .i64) _ _ _ 128 [.int .i64 128] from rfl) (Reps.one (show Kd.M (Kd.int .i64) _ _ _ 300 [.int .i64 300] from rfl) (Reps.one (show Kd.M (Kd.int .i64) _ _ _ 3000 [.int .i64 3000] from rfl) (Reps.one (show Kd.M (Kd.int .i64) _ _ _ 70000 [.int .i64 70000] from rfl) (Reps.one (show Kd.M (Kd.int .i64) _ _ _ 1114112 [.int .i64 1114112] from rfl) (Reps.none _ _)))))))
               intro v184 w16 ho17 hb hg_ hnew_
               clear hg_ hnew_
               (first | rw [← Ny183.out] at ho17 | (simp only [Int.reduceToNat] at ho17; rw [← Ny183.out] at ho17))
               have n0_ := Aside0.mk (Kd.R_elder' (by (with_reducible repeat (first | apply Kd.R_alloc | apply Kd.R_drewN | apply Kd.R_drew)); exact HO_5.out) (Kd.R_base ho17) hb)
               have n1_ := Aside0.mk (Kd.R_lower (Kd.R_new' ho17 (Kd.R_lt (by (with_reducible repeat (first | apply Kd.R_alloc | apply Kd.R_drewN | apply Kd.R_drew)); exact HO_5.out))) (below_size (by repeat (first | (with_reducible first | exact HB.out | apply below_alloc | apply pw_below_drewN | apply below_drew1) | exact HB.out))))
               have n2_ := Aside0.mk (below_step (by repeat (first | (with_reducible first | exact HB.out | apply below_alloc | apply pw_below_drewN | apply below_drew1) | exact HB.out)) hb)
               clear HO_5
               clear HB
               have HO_5 := n0_
               have HO185 := n1_
               have HB := n2_
               clear n0_ n1_ n2_
               clear hb ho17
               obtain ⟨Ao18, co18, eo18⟩ := Kd.R_slice HO185.out
               subst eo18
               obtain ⟨ado18, fo18, _⟩ := Kd.at_int (Kd.R_reads' HO185.out).2.2 0 (by decide) (by rw [Ny183.out]; simp)
               cases fo18
               refine hK.out _ _ ⟨((HB.out.cell (World.block_lt_of_cell? w _ hw182_0)).trans hw182_0), ((HB.out.cell (World.block_lt_of_cell? w _ hw186_0)).trans hw186_0)⟩ (fun hHeld => ?_)
               clear hK K
               refine norm_ (a' := ?_) ?_ ?_
               rotate_left
               ·
                show Act.put _ (some 23) _ = _
                simp only [Act.put, List.setIfInBounds_toArray, List.set_cons_zero, List.set_cons_succ, i64_w, i32_w]
                rfl
               exact norm_ (by simp only [putAll, Act.put, List.setIfInBounds_toArray, List.set_cons_zero, List.set_cons_succ]) (hCont (.slice (some ado18) y183.length co18, ado18) _ ⟨hHeld, (by (with_reducible repeat (first | apply Kd.R_alloc | apply Kd.R_drewN | apply Kd.R_drew)); exact Kd.R_mono HO185.out (fun _ hk => hk.2)), (by (with_reducible repeat (first | apply Kd.R_alloc | apply Kd.R_drewN | apply Kd.R_drew)); exact Kd.R_mono HO_5.out (fun _ hk => hk.2)), ⟨_, rfl⟩, (by repeat (first | (with_reducible first | exact HB.out | apply below_alloc | apply pw_below_drewN | apply below_drew1) | exact HB.out))⟩)
             rintro ⟨v184, adz_v184⟩ w19 ⟨hS_, h0_, h1_, h2_, h3_⟩
             have n0_ : Aside0 (Kd.R (Kd.int .i64) 3 w19 w.heap.size (fun k_ => some k_ ≠ (u5 : Value).ownBlock) v184 y183) := ⟨h0_⟩
             have n1_ : Aside0 (Kd.R (Kd.int .i64) 3 w19 w.heap.size (fun k_ => some k_ ≠ (v184 : Value).ownBlock) u5 x5_1) := ⟨h1_⟩
             have n2_ : Aside0 (∃ c_, (v184 : Value) = .slice (some adz_v184) y183.length c_) := ⟨h2_⟩
             have n3_ : Aside0 (Below w.heap.size w w19) := ⟨h3_⟩
             clear HO_5
             clear HB
             clear h0_ h1_ h2_ h3_
             have HO185 := n0_
             have HO_5 := n1_
             have HA_HO185 := n2_
             have HB := n3_
             clear n0_ n1_ n2_ n3_
             have hHeld : w19.cell? (ad182.add (x6_1).toNat) = some (.int .i64 (rd l0 x6_1)) ∧ w19.cell? (ad182.add (x6_1).toNat) = some (.int .i64 (rd l0 x6_1)) := hS_
             obtain ⟨co20, eo20⟩ := HA_HO185.out
             clear HA_HO185
             subst eo20
             refine norm_ (a' := ?_) ?_ ?_
             rotate_left
             ·
              simp only [putAll, Act.put, List.setIfInBounds_toArray, List.set_cons_zero, List.set_cons_succ]
              rfl
             refine pure_ (i := 11) (N := some 30) (v := ?_) (a' := ?_) #[true, true, true, true, true, true, true, true, true, true, true, true, false, false, false] rfl rfl (any_of HT_.out (by kernel_rfl)) (fun _ _ _ h => h) (Or.inl ⟨by rfl, ?_⟩) ?_ ?_
             rotate_left
             ·
              intro w'
              go_simp
              with_reducible rfl
             rotate_left
             ·
              simp only [Act.put, List.setIfInBounds_toArray, List.set_cons_zero, List.set_cons_succ, i64_w, i32_w]
              rfl
             refine one_ (i := 12) (N := some 31) #[true, true, true, true, true, true, true, true, true, true, true, true, true, false, false] rfl rfl (one_of HT_.out (by kernel_rfl)) (by decide) (fun K hK => ?_)
             (have p188 : 0 ≤ (t187 : Int) := of_decide_eq_true (by first | (with_reducible assumption) | assumption); have q188 : t187 < (y183.length : Int) := of_decide_eq_true (by first | (with_reducible assumption) | assumption); obtain ⟨ad188, e188, hx188_0⟩ := Kd.at_int (Kd.R_reads' HO185.out).2.2 t187 p188 q188; obtain rfl : adz_v184 = ad188 := (by injection e188))
             refine value_ (w1 := ?_) (v := ?_) (by rfl) rfl ?_ ?_
             rotate_left 2
             ·
              go_simp
              constructor
              ·
               rfl
              ·
               rfl
             clear hx188_0
             refine hK.out _ _ ⟨((HB.out.cell (World.block_lt_of_cell? w _ hw182_0)).trans hw182_0), ((HB.out.cell (World.block_lt_of_cell? w _ hw186_0)).trans hw186_0)⟩ (fun hHeld => ?_)
             clear hK K
             refine norm_ (a' := ?_) ?_ ?_
             rotate_left
             ·
              show Act.put _ (some 31) _ = _
              simp only [Act.put, List.setIfInBounds_toArray, List.set_cons_zero, List.set_cons_succ, i64_w, i32_w]
              rfl
             refine one_ (i := 13) (N := some 32) #[true, true, true, true, true, true, true, true, true, true, true, true, true, true, false] rfl rfl (one_of HT_.out (by kernel_rfl)) (by decide) (fun K hK => ?_)
             refine goes_ Tryd.func14 (by kernel_rfl) rfl #[.int .i64 (rd l0 x6_1), .int .i64 (rd y183 t187)] (by rfl) rfl rfl (by (try simp only [List.map_toArray, List.map_cons, List.map_nil]); first | done | rfl | (simp only [List.length_drop, List.length_take]; rfl)) ?_
             with_reducible refine (bobbinetkeep_Picked.calls (rd l0 x6_1) (rd y183 t187) t189 _ A11.out).mono ?_
             rintro e w' ⟨rfl, ⟨nd, rfl⟩⟩
             refine ⟨_, rfl, ?_⟩
             refine hK.out _ _ ⟨((HB.out.cell (World.block_lt_of_cell? w _ hw182_0)).trans hw182_0), ((HB.out.cell (World.block_lt_of_cell? w _ hw186_0)).trans hw186_0)⟩ (fun hHeld => ?_)
             clear hK K
             refine norm_ (a' := ?_) ?_ ?_
             rotate_left
             ·
              show Act.put _ (some 32) _ = _
              simp only [Act.put, List.setIfInBounds_toArray, List.set_cons_zero, List.set_cons_succ, i64_w, i32_w]
              rfl
             refine pure_ (i := 14) (N := some 7) (v := ?_) (a' := ?_) #[true, true, true, true, true, true, true, true, true, true, true, true, true, true, true] rfl rfl (any_of HT_.out (by kernel_rfl)) (fun _ _ _ h => h) (Or.inl ⟨by rfl, ?_⟩) ?_ ?_
             rotate_left
             ·
              intro w'
              go_simp
              with_reducible rfl
             rotate_left
             ·
              simp only [Act.put, List.setIfInBounds_toArray, List.set_cons_zero, List.set_cons_succ, i64_w, i32_w]
              rfl
             refine done_ (done_of HT_.out (by kernel_rfl)) ?_
             try go_wp2_with (first | ((with_reducible refine gate_builtin (b := .append) (xs := #[.tmp 39, .tmp 41]) rfl ?_); at_builtin; refine Kd.R_append (Kd.int .i64) (w0 := w) w.heap.size rfl (.tmp 39) (.tmp 41) 22 3 (.int .i64 0) 8 rfl Tryd.underlying22 info3 rfl (by decide) (by omega) u5 x5_1 65 [.int .i64 65] (fun k_ => some k_ ≠ (.slice (some adz_v184) y183.length co20 : Value).ownBlock) (fun _ => False) rfl rfl ?aP (fun _ hk => hk.elim) ?aF ?aO ?aB ?aS ?aL ?_; (case aP => exact rfl); (case aB => exact (by repeat (first | (with_reducible first | exact HB.out | apply below_alloc | apply pw_below_drewN | apply below_drew1) | exact HB.out))); (case aF => exact (fun k_ hk => Kd.fresh' (Kd.R_lt (by (with_reducible repeat (first | apply Kd.R_alloc | apply Kd.R_drewN | apply Kd.R_drew)); exact HO185.out)) k_ hk)); (case aO => exact (by (with_reducible repeat (first | apply Kd.R_alloc | apply Kd.R_drewN | apply Kd.R_drew)); exact HO_5.out)); (case aS => exact (below_size (by repeat (first | (with_reducible first | exact HB.out | apply below_alloc | apply pw_below_drewN | apply below_drew1) | exact HB.out)))); (case aL => have := LMc14.out; omega); intro v191 w21 ho hb hg hat; rw [← Ny190.out] at ho; have n0_ := Aside0.mk (Kd.R_after (ok := (fun _ => True)) (by (with_reducible repeat (first | apply Kd.R_alloc | apply Kd.R_drewN | apply Kd.R_drew)); exact Kd.R_mono HO185.out (fun _ hk => ⟨trivial, hk⟩)) hg hat); have n1_ := Aside0.mk (hb); have n2_ := Aside0.mk (ho); clear HO185; clear HB; clear HO_5; have HO185 := n0_; have HB := n1_; have HO192 := n2_; clear n0_ n1_ n2_; clear ho hb hg hat))
             go_roundg kj2
             case measure => have := HK1.out; have := HJ2.out; omega
             case rel => exact ⟨(y190), (wrap64 (x6_1 + 1)), (by first | rfl | (simp; done) | (simp [*]; done) | (simp [bne]; done)), H', ⟨by have := HK1.out; have := HJ2.out; omega⟩, ⟨by (with_reducible repeat (first | apply Kd.R_alloc | apply Kd.R_drewN | apply Kd.R_drew)); exact Kd.R_mono HO192.out (fun _ hk => trivial)⟩, ⟨by repeat (first | (with_reducible first | exact HB.out | apply below_alloc | apply pw_below_drewN | apply below_drew1) | exact HB.out)⟩⟩
            ·
             rw [if_neg c14] at H
             exact absurd H (by simp)
           ·
            rw [if_neg c13] at H
            have c13b0 : decide (t189 ≤ 57343) = false := decide_eq_false c13
            clear c13
            by_cases c22 : x5_1.length < 17592186044416
            ·
             rw [if_pos c22] at H
             have LMc22 := Aside0.mk c22
             clear c22
             obtain ⟨y193, hy193⟩ : ∃ y_ : List Int, y_ = (x5_1 ++ [t189]) := ⟨_, rfl⟩
             replace H : (bobbinetkeep_Letters.l0 kj2 l0 a1 y193 (wrap64 (x6_1 + 1))) = some r := by first | (rw [hy193]; with_reducible exact H) | (have H2_ := (Option.bind_some _ _).symm.trans H; rw [hy193]; with_reducible exact H2_) | (have H2_ := (Option.bind_some _ _).symm.trans H; with_reducible exact H2_) | with_reducible exact H | (rw [hy193]; exact H) | exact H
             have Ny193 := Aside0.mk hy193
             clear hy193
             have H' := Aside0.mk H
             clear H
             try go_wp2
             have pi188 : (0 ≤ (t187 : Int)) = True := eq_true (of_decide_eq_true (by first | (with_reducible assumption) | assumption))
             have qi188 : (t187 < (y183.length : Int)) = True := eq_true (of_decide_eq_true (by first | (with_reducible assumption) | assumption))
             have n0_ := Aside0.mk (Kd.R_drew HO_5.out)
             have n1_ := Aside0.mk (below_drew1 HB.out)
             clear HO_5
             clear HB
             have HO_5 := n0_
             have HB := n1_
             clear n0_ n1_
             have p182 : 0 ≤ (x6_1 : Int) := of_decide_eq_true (by first | (with_reducible assumption) | assumption)
             have q182 : x6_1 < (l0.length : Int) := of_decide_eq_true (by first | (with_reducible assumption) | assumption)
             obtain ⟨ad182, e182, hx182_0⟩ := Kd.at_int HR0.out x6_1 p182 q182
             have hw182_0 := hx182_0
             cases e182
             replace hx182_0 := (HB.out.cell (World.block_lt_of_cell? w _ hx182_0)).trans hx182_0
             replace p182 := eq_true p182
             replace q182 := eq_true q182
             have p186 : 0 ≤ (x6_1 : Int) := of_decide_eq_true (by first | (with_reducible assumption) | assumption)
             have q186 : x6_1 < (l0.length : Int) := of_decide_eq_true (by first | (with_reducible assumption) | assumption)
             obtain ⟨ad186, e186, hx186_0⟩ := Kd.at_int HR0.out x6_1 p186 q186
             have hw186_0 := hx186_0
             obtain rfl : ad182 = ad186 := (by injection e186)
             replace hx186_0 := (HB.out.cell (World.block_lt_of_cell? w _ hx186_0)).trans hx186_0
             replace p186 := eq_true p186
             replace q186 := eq_true q186
             refine start_ (n := 15) (S := fun w' => w'.cell? (ad182.add (x6_1).toNat) = some (.int .i64 (rd l0 x6_1)) ∧ w'.cell? (ad182.add (x6_1).toNat) = some (.int .i64 (rd l0 x6_1))) (ds := []) #[false, false, false, false, false, false, false, false, false, false, false, false, false, false, false] (by kernel_rfl) rfl rfl ⟨((HB.out.cell (World.block_lt_of_cell? w _ hw182_0)).trans hw182_0), ((HB.out.cell (World.block_lt_of_cell? w _ hw186_0)).trans hw186_0)⟩ (fun hHeld => ?_); refine with_tabW bobbinetkeep_Letters.tab5 bobbinetkeep_Letters.bits5 (fun HT_ HW_ => ?_)
             generalize wc.drew = w23 at HO_5 HB hx182_0 hx186_0 hHeld ⊢
             refine pure_ (i := 0) (N := some 19) (v := ?_) (a' := ?_) #[true, false, false, false, false, false, false, false, false, false, false, false, false, false, false] rfl rfl (any_of HT_.out (by kernel_rfl)) (fun _ _ _ h => h) (Or.inl ⟨by rfl, ?_⟩) ?_ ?_
             rotate_left
             ·
              intro w'
              go_simp
              with_reducible rfl
             rotate_left
             ·
              simp only [Act.put, List.setIfInBounds_toArray, List.set_cons_zero, List.set_cons_succ, i64_w, i32_w]
              rfl
             refine pure_ (i := 1) (N := some 20) (v := ?_) (a' := ?_) #[true, true, false, false, false, false, false, false, false, false, false, false, false, false, false] rfl rfl (any_of HT_.out (by kernel_rfl)) (fun _ _ _ h => h) (Or.inl ⟨by rfl, ?_⟩) ?_ ?_
             rotate_left
             ·
              intro w'
              go_simp
              with_reducible rfl
             rotate_left
             ·
              simp only [Act.put, List.setIfInBounds_toArray, List.set_cons_zero, List.set_cons_succ, i64_w, i32_w]
              rfl
             refine pure_ (i := 2) (N := some 21) (v := ?_) (a' := ?_) #[true, true, true, false, false, false, false, false, false, false, false, false, false, false, false] rfl rfl (any_of HT_.out (by kernel_rfl)) (fun _ _ _ h => h) (Or.inl ⟨by rfl, ?_⟩) ?_ ?_
             rotate_left
             ·
              intro w'
              go_simp
              with_reducible rfl
             rotate_left
             ·
              simp only [Act.put, List.setIfInBounds_toArray, List.set_cons_zero, List.set_cons_succ, i64_w, i32_w]
              rfl
             refine pure_ (i := 5) (N := some 24) (v := ?_) (a' := ?_) #[true, true, true, false, false, true, false, false, false, false, false, false, false, false, false] rfl rfl (any_of HT_.out (by kernel_rfl)) (fun _ _ _ h => h) (Or.inl ⟨by rfl, ?_⟩) ?_ ?_
             rotate_left
             ·
              intro w'
              go_simp
              with_reducible rfl
             rotate_left
             ·
              simp only [Act.put, List.setIfInBounds_toArray, List.set_cons_zero, List.set_cons_succ, i64_w, i32_w]
              rfl
             refine pure_ (i := 6) (N := some 25) (v := ?_) (a' := ?_) #[true, true, true, false, false, true, true, false, false, false, false, false, false, false, false] rfl rfl (any_of HT_.out (by kernel_rfl)) (fun _ _ _ h => h) (Or.inl ⟨by rfl, ?_⟩) ?_ ?_
             rotate_left
             ·
              intro w'
              go_simp
              with_reducible rfl
             rotate_left
             ·
              simp only [Act.put, List.setIfInBounds_toArray, List.set_cons_zero, List.set_cons_succ, i64_w, i32_w]
              rfl
             refine pure_ (i := 7) (N := some 26) (v := ?_) (a' := ?_) #[true, true, true, false, false, true, true, true, false, false, false, false, false, false, false] rfl rfl (any_of HT_.out (by kernel_rfl)) (fun _ _ _ h => h) (Or.inl ⟨by rfl, ?_⟩) ?_ ?_
             rotate_left
             ·
              intro w'
              go_simp
              with_reducible rfl
             rotate_left
             ·
              simp only [Act.put, List.setIfInBounds_toArray, List.set_cons_zero, List.set_cons_succ, i64_w, i32_w]
              rfl
             refine take_ (i := 3) (N := some 22) (v := ?_) (a' := ?_) #[true, true, true, true, false, true, true, true, false, false, false, false, false, false, false] rfl rfl (take_ofW HT_.out HW_.out (by kernel_rfl)) (fun _ _ _ h => h) (Or.inl ⟨by rfl, ?_⟩) hHeld ?_ ?_
             rotate_left
             ·
              rintro w' ⟨s0, s1⟩
              go_simp
              with_reducible rfl
             rotate_left
             ·
              simp only [Act.put, List.setIfInBounds_toArray, List.set_cons_zero, List.set_cons_succ, i64_w, i32_w]
              rfl
             refine take_ (i := 8) (N := some 27) (v := ?_) (a' := ?_) #[true, true, true, true, false, true, true, true, true, false, false, false, false, false, false] rfl rfl (take_ofW HT_.out HW_.out (by kernel_rfl)) (fun _ _ _ h => h) (Or.inl ⟨by rfl, ?_⟩) hHeld ?_ ?_
             rotate_left
             ·
              rintro w' ⟨s0, s1⟩
              go_simp
              with_reducible rfl
             rotate_left
             ·
              simp only [Act.put, List.setIfInBounds_toArray, List.set_cons_zero, List.set_cons_succ, i64_w, i32_w]
              rfl
             refine pure_ (i := 9) (N := some 28) (v := ?_) (a' := ?_) #[true, true, true, true, false, true, true, true, true, true, false, false, false, false, false] rfl rfl (any_of HT_.out (by kernel_rfl)) (fun _ _ _ h => h) (Or.inl ⟨by rfl, ?_⟩) ?_ ?_
             rotate_left
             ·
              intro w'
              go_simp
              with_reducible rfl
             rotate_left
             ·
              simp only [Act.put, List.setIfInBounds_toArray, List.set_cons_zero, List.set_cons_succ, i64_w, i32_w]
              rfl
             refine join_ (σ := Value × Addr) 4 #[true, true, true, true, true, true, true, true, true, true, true, false, false, false, false] (fun s_ => [(23, s_.1), (29, .int .i64 t187)]) (fun s_ w' => (w'.cell? (ad182.add (x6_1).toNat) = some (.int .i64 (rd l0 x6_1)) ∧ w'.cell? (ad182.add (x6_1).toNat) = some (.int .i64 (rd l0 x6_1))) ∧ (Kd.R (Kd.int .i64) 3 w' w.heap.size (fun k_ => some k_ ≠ (u5 : Value).ownBlock) s_.1 y183) ∧ (Kd.R (Kd.int .i64) 3 w' w.heap.size (fun k_ => some k_ ≠ (s_.1 : Value).ownBlock) u5 x5_1) ∧ (∃ c_, (s_.1 : Value) = .slice (some s_.2) y183.length c_) ∧ (Below w.heap.size w w')) ?_ ?_
             rotate_left
             ·
              intro hCont
              refine two_ (i := 4) (j := 10) (Ni := some 23) (Nj := some 29) #[true, true, true, true, true, true, true, true, true, true, false, false, false, false, false] #[true, true, true, true, false, true, true, true, true, true, true, false, false, false, false] rfl rfl rfl rfl (two_of HT_.out (by kernel_rfl)) (by decide) (by decide) (fun K hK => ?_) (fun K hK => ?_)
              ·
               skip
               refine Kd.R_lit_step (Kd.int .i64) _ 3 ?hg (N := 23) ?hd (xs := ([128, 300, 3000, 70000, 1114112] : List Int)) (inner := [.int .i64 128, .int .i64 300, .int .i64 3000, .int .i64 70000, .int .i64 1114112]) (ok := fun _ => True) (okp := fun _ => True) ?hr ?hp (fun _ hk => hk) trivial (Below.refl _ _) (Nat.le_refl _) (by simp) ?_; (case hd => rfl); (case hg => rfl); (case hr => first | (go_simp; done) | (go_simp; rfl)); (case hp => exact (Reps.one (show Kd.M (Kd.int .i64) _ _ _ 128 [.int .i64 128] from rfl) (Reps.one (show Kd.M (Kd.int .i64) _ _ _ 300 [.int .i64 300] from rfl) (Reps.one (show Kd.M (Kd.int .i64) _ _ _ 3000 [.int .i64 3000] from rfl) (Reps.one (show Kd.M (Kd.int .i64) _ _ _ 70000 [.int .i64 70000] from rfl) (Reps.one (show Kd.M (Kd.int .i64) _ _ _ 1114112 [.int .i64 1114112] from rfl) (Reps.none _ _)))))))
               intro v184 w24 ho25 hb hg_ hnew_
               clear hg_ hnew_
               (first | rw [← Ny183.out] at ho25 | (simp only [Int.reduceToNat] at ho25; rw [← Ny183.out] at ho25))
               have n0_ := Aside0.mk (Kd.R_elder' (by (with_reducible repeat (first | apply Kd.R_alloc | apply Kd.R_drewN | apply Kd.R_drew)); exact HO_5.out) (Kd.R_base ho25) hb)
               have n1_ := Aside0.mk (Kd.R_lower (Kd.R_new' ho25 (Kd.R_lt (by (with_reducible repeat (first | apply Kd.R_alloc | apply Kd.R_drewN | apply Kd.R_drew)); exact HO_5.out))) (below_size (by repeat (first | (with_reducible first | exact HB.out | apply below_alloc | apply pw_below_drewN | apply below_drew1) | exact HB.out))))
               have n2_ := Aside0.mk (below_step (by repeat (first | (with_reducible first | exact HB.out | apply below_alloc | apply pw_below_drewN | apply below_drew1) | exact HB.out)) hb)
               clear HO_5
               clear HB
               have HO_5 := n0_
               have HO185 := n1_
               have HB := n2_
               clear n0_ n1_ n2_
               clear hb ho25
               obtain ⟨Ao26, co26, eo26⟩ := Kd.R_slice HO185.out
               subst eo26
               obtain ⟨ado26, fo26, _⟩ := Kd.at_int (Kd.R_reads' HO185.out).2.2 0 (by decide) (by rw [Ny183.out]; simp)
               cases fo26
               refine hK.out _ _ ⟨((HB.out.cell (World.block_lt_of_cell? w _ hw182_0)).trans hw182_0), ((HB.out.cell (World.block_lt_of_cell? w _ hw186_0)).trans hw186_0)⟩ (fun hHeld => ?_)
               clear hK K
               refine norm_ (a' := ?_) ?_ ?_
               rotate_left
               ·
                show Act.put _ (some 23) _ = _
                simp only [Act.put, List.setIfInBounds_toArray, List.set_cons_zero, List.set_cons_succ, i64_w, i32_w]
                rfl
               refine one_ (i := 10) (N := some 29) #[true, true, true, true, true, true, true, true, true, true, true, false, false, false, false] rfl rfl (one_of HT_.out (by kernel_rfl)) (by decide) (fun K hK => ?_)
               refine goes_ Tryd.func14 (by kernel_rfl) rfl #[.int .i64 (wrap64 (Int.tdiv (rd l0 x6_1) 7)), .int .i64 5] (by rfl) rfl rfl (by (try simp only [List.map_toArray, List.map_cons, List.map_nil]); first | done | rfl | (simp only [List.length_drop, List.length_take]; rfl)) ?_
               with_reducible refine (bobbinetkeep_Picked.calls (wrap64 (Int.tdiv (rd l0 x6_1) 7)) 5 t187 _ A8.out).mono ?_
               rintro e w' ⟨rfl, ⟨nd, rfl⟩⟩
               refine ⟨_, rfl, ?_⟩
               refine hK.out _ _ ⟨((HB.out.cell (World.block_lt_of_cell? w _ hw182_0)).trans hw182_0), ((HB.out.cell (World.block_lt_of_cell? w _ hw186_0)).trans hw186_0)⟩ (fun hHeld => ?_)
               clear hK K
               refine norm_ (a' := ?_) ?_ ?_
               rotate_left
               ·
                show Act.put _ (some 29) _ = _
                simp only [Act.put, List.setIfInBounds_toArray, List.set_cons_zero, List.set_cons_succ, i64_w, i32_w]
                rfl
               exact norm_ (by simp only [putAll, Act.put, List.setIfInBounds_toArray, List.set_cons_zero, List.set_cons_succ]) (hCont (.slice (some ado26) y183.length co26, ado26) _ ⟨hHeld, (by (with_reducible repeat (first | apply Kd.R_alloc | apply Kd.R_drewN | apply Kd.R_drew)); exact Kd.R_mono HO185.out (fun _ hk => hk.2)), (by (with_reducible repeat (first | apply Kd.R_alloc | apply Kd.R_drewN | apply Kd.R_drew)); exact Kd.R_mono HO_5.out (fun _ hk => hk.2)), ⟨_, rfl⟩, (by repeat (first | (with_reducible first | exact HB.out | apply below_alloc | apply pw_below_drewN | apply below_drew1) | exact HB.out))⟩)
              ·
               skip
               refine goes_ Tryd.func14 (by kernel_rfl) rfl #[.int .i64 (wrap64 (Int.tdiv (rd l0 x6_1) 7)), .int .i64 5] (by rfl) rfl rfl (by (try simp only [List.map_toArray, List.map_cons, List.map_nil]); first | done | rfl | (simp only [List.length_drop, List.length_take]; rfl)) ?_
               with_reducible refine (bobbinetkeep_Picked.calls (wrap64 (Int.tdiv (rd l0 x6_1) 7)) 5 t187 _ A8.out).mono ?_
               rintro e w' ⟨rfl, ⟨nd, rfl⟩⟩
               refine ⟨_, rfl, ?_⟩
               refine hK.out _ _ ⟨((HB.out.cell (World.block_lt_of_cell? w _ hw182_0)).trans hw182_0), ((HB.out.cell (World.block_lt_of_cell? w _ hw186_0)).trans hw186_0)⟩ (fun hHeld => ?_)
               clear hK K
               refine norm_ (a' := ?_) ?_ ?_
               rotate_left
               ·
                show Act.put _ (some 29) _ = _
                simp only [Act.put, List.setIfInBounds_toArray, List.set_cons_zero, List.set_cons_succ, i64_w, i32_w]
                rfl
               refine one_ (i := 4) (N := some 23) #[true, true, true, true, true, true, true, true, true, true, true, false, false, false, false] rfl rfl (one_of HT_.out (by kernel_rfl)) (by decide) (fun K hK => ?_)
               refine Kd.R_lit_step (Kd.int .i64) _ 3 ?hg (N := 23) ?hd (xs := ([128, 300, 3000, 70000, 1114112] : List Int)) (inner := [.int .i64 128, .int .i64 300, .int .i64 3000, .int .i64 70000, .int .i64 1114112]) (ok := fun _ => True) (okp := fun _ => True) ?hr ?hp (fun _ hk => hk) trivial (Below.refl _ _) (Nat.le_refl _) (by simp) ?_; (case hd => rfl); (case hg => rfl); (case hr => first | (go_simp; done) | (go_simp; rfl)); (case hp => exact (Reps.one (show Kd.M (Kd.int .i64) _ _ _ 128 [.int .i64 128] from rfl) (Reps.one (show Kd.M (Kd.int .i64) _ _ _ 300 [.int .i64 300] from rfl) (Reps.one (show Kd.M (Kd.int .i64) _ _ _ 3000 [.int .i64 3000] from rfl) (Reps.one (show Kd.M (Kd.int .i64) _ _ _ 70000 [.int .i64 70000] from rfl) (Reps.one (show Kd.M (Kd.int .i64) _ _ _ 1114112 [.int .i64 1114112] from rfl) (Reps.none _ _)))))))
               intro v184 w24 ho25 hb hg_ hnew_
               clear hg_ hnew_
               (first | rw [← Ny183.out] at ho25 | (simp only [Int.reduceToNat] at ho25; rw [← Ny183.out] at ho25))
               have n0_ := Aside0.mk (Kd.R_elder' (by (with_reducible repeat (first | apply Kd.R_alloc | apply Kd.R_drewN | apply Kd.R_drew)); exact HO_5.out) (Kd.R_base ho25) hb)
               have n1_ := Aside0.mk (Kd.R_lower (Kd.R_new' ho25 (Kd.R_lt (by (with_reducible repeat (first | apply Kd.R_alloc | apply Kd.R_drewN | apply Kd.R_drew)); exact HO_5.out))) (below_size (by repeat (first | (with_reducible first | exact HB.out | apply below_alloc | apply pw_below_drewN | apply below_drew1) | exact HB.out))))
               have n2_ := Aside0.mk (below_step (by repeat (first | (with_reducible first | exact HB.out | apply below_alloc | apply pw_below_drewN | apply below_drew1) | exact HB.out)) hb)
               clear HO_5
               clear HB
               have HO_5 := n0_
               have HO185 := n1_
               have HB := n2_
               clear n0_ n1_ n2_
               clear hb ho25
               obtain ⟨Ao26, co26, eo26⟩ := Kd.R_slice HO185.out
               subst eo26
               obtain ⟨ado26, fo26, _⟩ := Kd.at_int (Kd.R_reads' HO185.out).2.2 0 (by decide) (by rw [Ny183.out]; simp)
               cases fo26
               refine hK.out _ _ ⟨((HB.out.cell (World.block_lt_of_cell? w _ hw182_0)).trans hw182_0), ((HB.out.cell (World.block_lt_of_cell? w _ hw186_0)).trans hw186_0)⟩ (fun hHeld => ?_)
               clear hK K
               refine norm_ (a' := ?_) ?_ ?_
               rotate_left
               ·
                show Act.put _ (some 23) _ = _
                simp only [Act.put, List.setIfInBounds_toArray, List.set_cons_zero, List.set_cons_succ, i64_w, i32_w]
                rfl
               exact norm_ (by simp only [putAll, Act.put, List.setIfInBounds_toArray, List.set_cons_zero, List.set_cons_succ]) (hCont (.slice (some ado26) y183.length co26, ado26) _ ⟨hHeld, (by (with_reducible repeat (first | apply Kd.R_alloc | apply Kd.R_drewN | apply Kd.R_drew)); exact Kd.R_mono HO185.out (fun _ hk => hk.2)), (by (with_reducible repeat (first | apply Kd.R_alloc | apply Kd.R_drewN | apply Kd.R_drew)); exact Kd.R_mono HO_5.out (fun _ hk => hk.2)), ⟨_, rfl⟩, (by repeat (first | (with_reducible first | exact HB.out | apply below_alloc | apply pw_below_drewN | apply below_drew1) | exact HB.out))⟩)
             rintro ⟨v184, adz_v184⟩ w27 ⟨hS_, h0_, h1_, h2_, h3_⟩
             have n0_ : Aside0 (Kd.R (Kd.int .i64) 3 w27 w.heap.size (fun k_ => some k_ ≠ (u5 : Value).ownBlock) v184 y183) := ⟨h0_⟩
             have n1_ : Aside0 (Kd.R (Kd.int .i64) 3 w27 w.heap.size (fun k_ => some k_ ≠ (v184 : Value).ownBlock) u5 x5_1) := ⟨h1_⟩
             have n2_ : Aside0 (∃ c_, (v184 : Value) = .slice (some adz_v184) y183.length c_) := ⟨h2_⟩
             have n3_ : Aside0 (Below w.heap.size w w27) := ⟨h3_⟩
             clear HO_5
             clear HB
             clear h0_ h1_ h2_ h3_
             have HO185 := n0_
             have HO_5 := n1_
             have HA_HO185 := n2_
             have HB := n3_
             clear n0_ n1_ n2_ n3_
             have hHeld : w27.cell? (ad182.add (x6_1).toNat) = some (.int .i64 (rd l0 x6_1)) ∧ w27.cell? (ad182.add (x6_1).toNat) = some (.int .i64 (rd l0 x6_1)) := hS_
             obtain ⟨co28, eo28⟩ := HA_HO185.out
             clear HA_HO185
             subst eo28
             refine norm_ (a' := ?_) ?_ ?_
             rotate_left
             ·
              simp only [putAll, Act.put, List.setIfInBounds_toArray, List.set_cons_zero, List.set_cons_succ]
              rfl
             refine pure_ (i := 11) (N := some 30) (v := ?_) (a' := ?_) #[true, true, true, true, true, true, true, true, true, true, true, true, false, false, false] rfl rfl (any_of HT_.out (by kernel_rfl)) (fun _ _ _ h => h) (Or.inl ⟨by rfl, ?_⟩) ?_ ?_
             rotate_left
             ·
              intro w'
              go_simp
              with_reducible rfl
             rotate_left
             ·
              simp only [Act.put, List.setIfInBounds_toArray, List.set_cons_zero, List.set_cons_succ, i64_w, i32_w]
              rfl
             refine one_ (i := 12) (N := some 31) #[true, true, true, true, true, true, true, true, true, true, true, true, true, false, false] rfl rfl (one_of HT_.out (by kernel_rfl)) (by decide) (fun K hK => ?_)
             (have p188 : 0 ≤ (t187 : Int) := of_decide_eq_true (by first | (with_reducible assumption) | assumption); have q188 : t187 < (y183.length : Int) := of_decide_eq_true (by first | (with_reducible assumption) | assumption); obtain ⟨ad188, e188, hx188_0⟩ := Kd.at_int (Kd.R_reads' HO185.out).2.2 t187 p188 q188; obtain rfl : adz_v184 = ad188 := (by injection e188))
             refine value_ (w1 := ?_) (v := ?_) (by rfl) rfl ?_ ?_
             rotate_left 2
             ·
              go_simp
              constructor
              ·
               rfl
              ·
               rfl
             clear hx188_0
             refine hK.out _ _ ⟨((HB.out.cell (World.block_lt_of_cell? w _ hw182_0)).trans hw182_0), ((HB.out.cell (World.block_lt_of_cell? w _ hw186_0)).trans hw186_0)⟩ (fun hHeld => ?_)
             clear hK K
             refine norm_ (a' := ?_) ?_ ?_
             rotate_left
             ·
              show Act.put _ (some 31) _ = _
              simp only [Act.put, List.setIfInBounds_toArray, List.set_cons_zero, List.set_cons_succ, i64_w, i32_w]
              rfl
             refine one_ (i := 13) (N := some 32) #[true, true, true, true, true, true, true, true, true, true, true, true, true, true, false] rfl rfl (one_of HT_.out (by kernel_rfl)) (by decide) (fun K hK => ?_)
             refine goes_ Tryd.func14 (by kernel_rfl) rfl #[.int .i64 (rd l0 x6_1), .int .i64 (rd y183 t187)] (by rfl) rfl rfl (by (try simp only [List.map_toArray, List.map_cons, List.map_nil]); first | done | rfl | (simp only [List.length_drop, List.length_take]; rfl)) ?_
             with_reducible refine (bobbinetkeep_Picked.calls (rd l0 x6_1) (rd y183 t187) t189 _ A11.out).mono ?_
             rintro e w' ⟨rfl, ⟨nd, rfl⟩⟩
             refine ⟨_, rfl, ?_⟩
             refine hK.out _ _ ⟨((HB.out.cell (World.block_lt_of_cell? w _ hw182_0)).trans hw182_0), ((HB.out.cell (World.block_lt_of_cell? w _ hw186_0)).trans hw186_0)⟩ (fun hHeld => ?_)
             clear hK K
             refine norm_ (a' := ?_) ?_ ?_
             rotate_left
             ·
              show Act.put _ (some 32) _ = _
              simp only [Act.put, List.setIfInBounds_toArray, List.set_cons_zero, List.set_cons_succ, i64_w, i32_w]
              rfl
             refine pure_ (i := 14) (N := some 7) (v := ?_) (a' := ?_) #[true, true, true, true, true, true, true, true, true, true, true, true, true, true, true] rfl rfl (any_of HT_.out (by kernel_rfl)) (fun _ _ _ h => h) (Or.inl ⟨by rfl, ?_⟩) ?_ ?_
             rotate_left
             ·
              intro w'
              go_simp
              with_reducible rfl
             rotate_left
             ·
              simp only [Act.put, List.setIfInBounds_toArray, List.set_cons_zero, List.set_cons_succ, i64_w, i32_w]
              rfl
             refine done_ (done_of HT_.out (by kernel_rfl)) ?_
             try go_wp2_with (first | ((with_reducible refine gate_builtin (b := .append) (xs := #[.tmp 39, .tmp 41]) rfl ?_); at_builtin; refine Kd.R_append (Kd.int .i64) (w0 := w) w.heap.size rfl (.tmp 39) (.tmp 41) 22 3 (.int .i64 0) 8 rfl Tryd.underlying22 info3 rfl (by decide) (by omega) u5 x5_1 t189 [.int .i64 t189] (fun k_ => some k_ ≠ (.slice (some adz_v184) y183.length co28 : Value).ownBlock) (fun _ => False) rfl rfl ?aP (fun _ hk => hk.elim) ?aF ?aO ?aB ?aS ?aL ?_; (case aP => exact rfl); (case aB => exact (by repeat (first | (with_reducible first | exact HB.out | apply below_alloc | apply pw_below_drewN | apply below_drew1) | exact HB.out))); (case aF => exact (fun k_ hk => Kd.fresh' (Kd.R_lt (by (with_reducible repeat (first | apply Kd.R_alloc | apply Kd.R_drewN | apply Kd.R_drew)); exact HO185.out)) k_ hk)); (case aO => exact (by (with_reducible repeat (first | apply Kd.R_alloc | apply Kd.R_drewN | apply Kd.R_drew)); exact HO_5.out)); (case aS => exact (below_size (by repeat (first | (with_reducible first | exact HB.out | apply below_alloc | apply pw_below_drewN | apply below_drew1) | exact HB.out)))); (case aL => have := LMc22.out; omega); intro v194 w29 ho hb hg hat; rw [← Ny193.out] at ho; have n0_ := Aside0.mk (Kd.R_after (ok := (fun _ => True)) (by (with_reducible repeat (first | apply Kd.R_alloc | apply Kd.R_drewN | apply Kd.R_drew)); exact Kd.R_mono HO185.out (fun _ hk => ⟨trivial, hk⟩)) hg hat); have n1_ := Aside0.mk (hb); have n2_ := Aside0.mk (ho); clear HO185; clear HB; clear HO_5; have HO185 := n0_; have HB := n1_; have HO195 := n2_; clear n0_ n1_ n2_; clear ho hb hg hat))
             go_roundg kj2
             case measure => have := HK1.out; have := HJ2.out; omega
             case rel => exact ⟨(y193), (wrap64 (x6_1 + 1)), (by first | rfl | (simp; done) | (simp [*]; done) | (simp [bne]; done)), H', ⟨by have := HK1.out; have := HJ2.out; omega⟩, ⟨by (with_reducible repeat (first | apply Kd.R_alloc | apply Kd.R_drewN | apply Kd.R_drew)); exact Kd.R_mono HO195.out (fun _ hk => trivial)⟩, ⟨by repeat (first | (with_reducible first | exact HB.out | apply below_alloc | apply pw_below_drewN | apply below_drew1) | exact HB.out)⟩⟩
            ·
             rw [if_neg c22] at H
             exact absurd H (by simp)
          ·
           rw [if_neg c12] at H
           have c12b0 : decide (55296 ≤ t189) = false := decide_eq_false c12
           clear c12
           by_cases c30 : x5_1.length < 17592186044416
           ·
            rw [if_pos c30] at H
            have LMc30 := Aside0.mk c30
            clear c30
            obtain ⟨y196, hy196⟩ : ∃ y_ : List Int, y_ = (x5_1 ++ [t189]) := ⟨_, rfl⟩
            replace H : (bobbinetkeep_Letters.l0 kj2 l0 a1 y196 (wrap64 (x6_1 + 1))) = some r := by first | (rw [hy196]; with_reducible exact H) | (have H2_ := (Option.bind_some _ _).symm.trans H; rw [hy196]; with_reducible exact H2_) | (have H2_ := (Option.bind_some _ _).symm.trans H; with_reducible exact H2_) | with_reducible exact H | (rw [hy196]; exact H) | exact H
            have Ny196 := Aside0.mk hy196
            clear hy196
            have H' := Aside0.mk H
            clear H
            try go_wp2
            have pi188 : (0 ≤ (t187 : Int)) = True := eq_true (of_decide_eq_true (by first | (with_reducible assumption) | assumption))
            have qi188 : (t187 < (y183.length : Int)) = True := eq_true (of_decide_eq_true (by first | (with_reducible assumption) | assumption))
            have n0_ := Aside0.mk (Kd.R_drew HO_5.out)
            have n1_ := Aside0.mk (below_drew1 HB.out)
            clear HO_5
            clear HB
            have HO_5 := n0_
            have HB := n1_
            clear n0_ n1_
            have p182 : 0 ≤ (x6_1 : Int) := of_decide_eq_true (by first | (with_reducible assumption) | assumption)
            have q182 : x6_1 < (l0.length : Int) := of_decide_eq_true (by first | (with_reducible assumption) | assumption)
            obtain ⟨ad182, e182, hx182_0⟩ := Kd.at_int HR0.out x6_1 p182 q182
            have hw182_0 := hx182_0
            cases e182
            replace hx182_0 := (HB.out.cell (World.block_lt_of_cell? w _ hx182_0)).trans hx182_0
            replace p182 := eq_true p182
            replace q182 := eq_true q182
            have p186 : 0 ≤ (x6_1 : Int) := of_decide_eq_true (by first | (with_reducible assumption) | assumption)
            have q186 : x6_1 < (l0.length : Int) := of_decide_eq_true (by first | (with_reducible assumption) | assumption)
            obtain ⟨ad186, e186, hx186_0⟩ := Kd.at_int HR0.out x6_1 p186 q186
            have hw186_0 := hx186_0
            obtain rfl : ad182 = ad186 := (by injection e186)
            replace hx186_0 := (HB.out.cell (World.block_lt_of_cell? w _ hx186_0)).trans hx186_0
            replace p186 := eq_true p186
            replace q186 := eq_true q186
            refine start_ (n := 15) (S := fun w' => w'.cell? (ad182.add (x6_1).toNat) = some (.int .i64 (rd l0 x6_1)) ∧ w'.cell? (ad182.add (x6_1).toNat) = some (.int .i64 (rd l0 x6_1))) (ds := []) #[false, false, false, false, false, false, false, false, false, false, false, false, false, false, false] (by kernel_rfl) rfl rfl ⟨((HB.out.cell (World.block_lt_of_cell? w _ hw182_0)).trans hw182_0), ((HB.out.cell (World.block_lt_of_cell? w _ hw186_0)).trans hw186_0)⟩ (fun hHeld => ?_); refine with_tabW bobbinetkeep_Letters.tab5 bobbinetkeep_Letters.bits5 (fun HT_ HW_ => ?_)
            generalize wc.drew = w31 at HO_5 HB hx182_0 hx186_0 hHeld ⊢
            refine pure_ (i := 0) (N := some 19) (v := ?_) (a' := ?_) #[true, false, false, false, false, false, false, false, false, false, false, false, false, false, false] rfl rfl (any_of HT_.out (by kernel_rfl)) (fun _ _ _ h => h) (Or.inl ⟨by rfl, ?_⟩) ?_ ?_
            rotate_left
            ·
             intro w'
             go_simp
             with_reducible rfl
            rotate_left
            ·
             simp only [Act.put, List.setIfInBounds_toArray, List.set_cons_zero, List.set_cons_succ, i64_w, i32_w]
             rfl
            refine pure_ (i := 1) (N := some 20) (v := ?_) (a' := ?_) #[true, true, false, false, false, false, false, false, false, false, false, false, false, false, false] rfl rfl (any_of HT_.out (by kernel_rfl)) (fun _ _ _ h => h) (Or.inl ⟨by rfl, ?_⟩) ?_ ?_
            rotate_left
            ·
             intro w'
             go_simp
             with_reducible rfl
            rotate_left
            ·
             simp only [Act.put, List.setIfInBounds_toArray, List.set_cons_zero, List.set_cons_succ, i64_w, i32_w]
             rfl
            refine pure_ (i := 2) (N := some 21) (v := ?_) (a' := ?_) #[true, true, true, false, false, false, false, false, false, false, false, false, false, false, false] rfl rfl (any_of HT_.out (by kernel_rfl)) (fun _ _ _ h => h) (Or.inl ⟨by rfl, ?_⟩) ?_ ?_
            rotate_left
            ·
             intro w'
             go_simp
             with_reducible rfl
            rotate_left
            ·
             simp only [Act.put, List.setIfInBounds_toArray, List.set_cons_zero, List.set_cons_succ, i64_w, i32_w]
             rfl
            refine pure_ (i := 5) (N := some 24) (v := ?_) (a' := ?_) #[true, true, true, false, false, true, false, false, false, false, false, false, false, false, false] rfl rfl (any_of HT_.out (by kernel_rfl)) (fun _ _ _ h => h) (Or.inl ⟨by rfl, ?_⟩) ?_ ?_
            rotate_left
            ·
             intro w'
             go_simp
             with_reducible rfl
            rotate_left
            ·
             simp only [Act.put, List.setIfInBounds_toArray, List.set_cons_zero, List.set_cons_succ, i64_w, i32_w]
             rfl
            refine pure_ (i := 6) (N := some 25) (v := ?_) (a' := ?_) #[true, true, true, false, false, true, true, false, false, false, false, false, false, false, false] rfl rfl (any_of HT_.out (by kernel_rfl)) (fun _ _ _ h => h) (Or.inl ⟨by rfl, ?_⟩) ?_ ?_
            rotate_left
            ·
             intro w'
             go_simp
             with_reducible rfl
            rotate_left
            ·
             simp only [Act.put, List.setIfInBounds_toArray, List.set_cons_zero, List.set_cons_succ, i64_w, i32_w]
             rfl
            refine pure_ (i := 7) (N := some 26) (v := ?_) (a' := ?_) #[true, true, true, false, false, true, true, true, false, false, false, false, false, false, false] rfl rfl (any_of HT_.out (by kernel_rfl)) (fun _ _ _ h => h) (Or.inl ⟨by rfl, ?_⟩) ?_ ?_
            rotate_left
            ·
             intro w'
             go_simp
             with_reducible rfl
            rotate_left
            ·
             simp only [Act.put, List.setIfInBounds_toArray, List.set_cons_zero, List.set_cons_succ, i64_w, i32_w]
             rfl
            refine take_ (i := 3) (N := some 22) (v := ?_) (a' := ?_) #[true, true, true, true, false, true, true, true, false, false, false, false, false, false, false] rfl rfl (take_ofW HT_.out HW_.out (by kernel_rfl)) (fun _ _ _ h => h) (Or.inl ⟨by rfl, ?_⟩) hHeld ?_ ?_
            rotate_left
            ·
             rintro w' ⟨s0, s1⟩
             go_simp
             with_reducible rfl
            rotate_left
            ·
             simp only [Act.put, List.setIfInBounds_toArray, List.set_cons_zero, List.set_cons_succ, i64_w, i32_w]
             rfl
            refine take_ (i := 8) (N := some 27) (v := ?_) (a' := ?_) #[true, true, true, true, false, true, true, true, true, false, false, false, false, false, false] rfl rfl (take_ofW HT_.out HW_.out (by kernel_rfl)) (fun _ _ _ h => h) (Or.inl ⟨by rfl, ?_⟩) hHeld ?_ ?_
            rotate_left
            ·
             rintro w' ⟨s0, s1⟩
             go_simp
             with_reducible rfl
            rotate_left
            ·
             simp only [Act.put, List.setIfInBounds_toArray, List.set_cons_zero, List.set_cons_succ, i64_w, i32_w]
             rfl
            refine pure_ (i := 9) (N := some 28) (v := ?_) (a' := ?_) #[true, true, true, true, false, true, true, true, true, true, false, false, false, false, false] rfl rfl (any_of HT_.out (by kernel_rfl)) (fun _ _ _ h => h) (Or.inl ⟨by rfl, ?_⟩) ?_ ?_
            rotate_left
            ·
             intro w'
             go_simp
             with_reducible rfl
            rotate_left
            ·
             simp only [Act.put, List.setIfInBounds_toArray, List.set_cons_zero, List.set_cons_succ, i64_w, i32_w]
             rfl
            refine join_ (σ := Value × Addr) 4 #[true, true, true, true, true, true, true, true, true, true, true, false, false, false, false] (fun s_ => [(23, s_.1), (29, .int .i64 t187)]) (fun s_ w' => (w'.cell? (ad182.add (x6_1).toNat) = some (.int .i64 (rd l0 x6_1)) ∧ w'.cell? (ad182.add (x6_1).toNat) = some (.int .i64 (rd l0 x6_1))) ∧ (Kd.R (Kd.int .i64) 3 w' w.heap.size (fun k_ => some k_ ≠ (u5 : Value).ownBlock) s_.1 y183) ∧ (Kd.R (Kd.int .i64) 3 w' w.heap.size (fun k_ => some k_ ≠ (s_.1 : Value).ownBlock) u5 x5_1) ∧ (∃ c_, (s_.1 : Value) = .slice (some s_.2) y183.length c_) ∧ (Below w.heap.size w w')) ?_ ?_
            rotate_left
            ·
             intro hCont
             refine two_ (i := 4) (j := 10) (Ni := some 23) (Nj := some 29) #[true, true, true, true, true, true, true, true, true, true, false, false, false, false, false] #[true, true, true, true, false, true, true, true, true, true, true, false, false, false, false] rfl rfl rfl rfl (two_of HT_.out (by kernel_rfl)) (by decide) (by decide) (fun K hK => ?_) (fun K hK => ?_)
             ·
              skip
              refine Kd.R_lit_step (Kd.int .i64) _ 3 ?hg (N := 23) ?hd (xs := ([128, 300, 3000, 70000, 1114112] : List Int)) (inner := [.int .i64 128, .int .i64 300, .int .i64 3000, .int .i64 70000, .int .i64 1114112]) (ok := fun _ => True) (okp := fun _ => True) ?hr ?hp (fun _ hk => hk) trivial (Below.refl _ _) (Nat.le_refl _) (by simp) ?_; (case hd => rfl); (case hg => rfl); (case hr => first | (go_simp; done) | (go_simp; rfl)); (case hp => exact (Reps.one (show Kd.M (Kd.int .i64) _ _ _ 128 [.int .i64 128] from rfl) (Reps.one (show Kd.M (Kd.int .i64) _ _ _ 300 [.int .i64 300] from rfl) (Reps.one (show Kd.M (Kd.int .i64) _ _ _ 3000 [.int .i64 3000] from rfl) (Reps.one (show Kd.M (Kd.int .i64) _ _ _ 70000 [.int .i64 70000] from rfl) (Reps.one (show Kd.M (Kd.int .i64) _ _ _ 1114112 [.int .i64 1114112] from rfl) (Reps.none _ _)))))))
              intro v184 w32 ho33 hb hg_ hnew_
              clear hg_ hnew_
              (first | rw [← Ny183.out] at ho33 | (simp only [Int.reduceToNat] at ho33; rw [← Ny183.out] at ho33))
              have n0_ := Aside0.mk (Kd.R_elder' (by (with_reducible repeat (first | apply Kd.R_alloc | apply Kd.R_drewN | apply Kd.R_drew)); exact HO_5.out) (Kd.R_base ho33) hb)
              have n1_ := Aside0.mk (Kd.R_lower (Kd.R_new' ho33 (Kd.R_lt (by (with_reducible repeat (first | apply Kd.R_alloc | apply Kd.R_drewN | apply Kd.R_drew)); exact HO_5.out))) (below_size (by repeat (first | (with_reducible first | exact HB.out | apply below_alloc | apply pw_below_drewN | apply below_drew1) | exact HB.out))))
              have n2_ := Aside0.mk (below_step (by repeat (first | (with_reducible first | exact HB.out | apply below_alloc | apply pw_below_drewN | apply below_drew1) | exact HB.out)) hb)
              clear HO_5
              clear HB
              have HO_5 := n0_
              have HO185 := n1_
              have HB := n2_
              clear n0_ n1_ n2_
              clear hb ho33
              obtain ⟨Ao34, co34, eo34⟩ := Kd.R_slice HO185.out
              subst eo34
              obtain ⟨ado34, fo34, _⟩ := Kd.at_int (Kd.R_reads' HO185.out).2.2 0 (by decide) (by rw [Ny183.out]; simp)
              cases fo34
              refine hK.out _ _ ⟨((HB.out.cell (World.block_lt_of_cell? w _ hw182_0)).trans hw182_0), ((HB.out.cell (World.block_lt_of_cell? w _ hw186_0)).trans hw186_0)⟩ (fun hHeld => ?_)
              clear hK K
              refine norm_ (a' := ?_) ?_ ?_
              rotate_left
              ·
               show Act.put _ (some 23) _ = _
               simp only [Act.put, List.setIfInBounds_toArray, List.set_cons_zero, List.set_cons_succ, i64_w, i32_w]
               rfl
              refine one_ (i := 10) (N := some 29) #[true, true, true, true, true, true, true, true, true, true, true, false, false, false, false] rfl rfl (one_of HT_.out (by kernel_rfl)) (by decide) (fun K hK => ?_)
              refine goes_ Tryd.func14 (by kernel_rfl) rfl #[.int .i64 (wrap64 (Int.tdiv (rd l0 x6_1) 7)), .int .i64 5] (by rfl) rfl rfl (by (try simp only [List.map_toArray, List.map_cons, List.map_nil]); first | done | rfl | (simp only [List.length_drop, List.length_take]; rfl)) ?_
              with_reducible refine (bobbinetkeep_Picked.calls (wrap64 (Int.tdiv (rd l0 x6_1) 7)) 5 t187 _ A8.out).mono ?_
              rintro e w' ⟨rfl, ⟨nd, rfl⟩⟩
              refine ⟨_, rfl, ?_⟩
              refine hK.out _ _ ⟨((HB.out.cell (World.block_lt_of_cell? w _ hw182_0)).trans hw182_0), ((HB.out.cell (World.block_lt_of_cell? w _ hw186_0)).trans hw186_0)⟩ (fun hHeld => ?_)
              clear hK K
              refine norm_ (a' := ?_) ?_ ?_
              rotate_left
              ·
               show Act.put _ (some 29) _ = _
               simp only [Act.put, List.setIfInBounds_toArray, List.set_cons_zero, List.set_cons_succ, i64_w, i32_w]
               rfl
              exact norm_ (by simp only [putAll, Act.put, List.setIfInBounds_toArray, List.set_cons_zero, List.set_cons_succ]) (hCont (.slice (some ado34) y183.length co34, ado34) _ ⟨hHeld, (by (with_reducible repeat (first | apply Kd.R_alloc | apply Kd.R_drewN | apply Kd.R_drew)); exact Kd.R_mono HO185.out (fun _ hk => hk.2)), (by (with_reducible repeat (first | apply Kd.R_alloc | apply Kd.R_drewN | apply Kd.R_drew)); exact Kd.R_mono HO_5.out (fun _ hk => hk.2)), ⟨_, rfl⟩, (by repeat (first | (with_reducible first | exact HB.out | apply below_alloc | apply pw_below_drewN | apply below_drew1) | exact HB.out))⟩)
             ·
              skip
              refine goes_ Tryd.func14 (by kernel_rfl) rfl #[.int .i64 (wrap64 (Int.tdiv (rd l0 x6_1) 7)), .int .i64 5] (by rfl) rfl rfl (by (try simp only [List.map_toArray, List.map_cons, List.map_nil]); first | done | rfl | (simp only [List.length_drop, List.length_take]; rfl)) ?_
              with_reducible refine (bobbinetkeep_Picked.calls (wrap64 (Int.tdiv (rd l0 x6_1) 7)) 5 t187 _ A8.out).mono ?_
              rintro e w' ⟨rfl, ⟨nd, rfl⟩⟩
              refine ⟨_, rfl, ?_⟩
              refine hK.out _ _ ⟨((HB.out.cell (World.block_lt_of_cell? w _ hw182_0)).trans hw182_0), ((HB.out.cell (World.block_lt_of_cell? w _ hw186_0)).trans hw186_0)⟩ (fun hHeld => ?_)
              clear hK K
              refine norm_ (a' := ?_) ?_ ?_
              rotate_left
              ·
               show Act.put _ (some 29) _ = _
               simp only [Act.put, List.setIfInBounds_toArray, List.set_cons_zero, List.set_cons_succ, i64_w, i32_w]
               rfl
              refine one_ (i := 4) (N := some 23) #[true, true, true, true, true, true, true, true, true, true, true, false, false, false, false] rfl rfl (one_of HT_.out (by kernel_rfl)) (by decide) (fun K hK => ?_)
              refine Kd.R_lit_step (Kd.int .i64) _ 3 ?hg (N := 23) ?hd (xs := ([128, 300, 3000, 70000, 1114112] : List Int)) (inner := [.int .i64 128, .int .i64 300, .int .i64 3000, .int .i64 70000, .int .i64 1114112]) (ok := fun _ => True) (okp := fun _ => True) ?hr ?hp (fun _ hk => hk) trivial (Below.refl _ _) (Nat.le_refl _) (by simp) ?_; (case hd => rfl); (case hg => rfl); (case hr => first | (go_simp; done) | (go_simp; rfl)); (case hp => exact (Reps.one (show Kd.M (Kd.int .i64) _ _ _ 128 [.int .i64 128] from rfl) (Reps.one (show Kd.M (Kd.int .i64) _ _ _ 300 [.int .i64 300] from rfl) (Reps.one (show Kd.M (Kd.int .i64) _ _ _ 3000 [.int .i64 3000] from rfl) (Reps.one (show Kd.M (Kd.int .i64) _ _ _ 70000 [.int .i64 70000] from rfl) (Reps.one (show Kd.M (Kd.int .i64) _ _ _ 1114112 [.int .i64 1114112] from rfl) (Reps.none _ _)))))))
              intro v184 w32 ho33 hb hg_ hnew_
              clear hg_ hnew_
              (first | rw [← Ny183.out] at ho33 | (simp only [Int.reduceToNat] at ho33; rw [← Ny183.out] at ho33))
              have n0_ := Aside0.mk (Kd.R_elder' (by (with_reducible repeat (first | apply Kd.R_alloc | apply Kd.R_drewN | apply Kd.R_drew)); exact HO_5.out) (Kd.R_base ho33) hb)
              have n1_ := Aside0.mk (Kd.R_lower (Kd.R_new' ho33 (Kd.R_lt (by (with_reducible repeat (first | apply Kd.R_alloc | apply Kd.R_drewN | apply Kd.R_drew)); exact HO_5.out))) (below_size (by repeat (first | (with_reducible first | exact HB.out | apply below_alloc | apply pw_below_drewN | apply below_drew1) | exact HB.out))))
              have n2_ := Aside0.mk (below_step (by repeat (first | (with_reducible first | exact HB.out | apply below_alloc | apply pw_below_drewN | apply below_drew1) | exact HB.out)) hb)
              clear HO_5
              clear HB
              have HO_5 := n0_
              have HO185 := n1_
              have HB := n2_
              clear n0_ n1_ n2_
              clear hb ho33
              obtain ⟨Ao34, co34, eo34⟩ := Kd.R_slice HO185.out
              subst eo34
              obtain ⟨ado34, fo34, _⟩ := Kd.at_int (Kd.R_reads' HO185.out).2.2 0 (by decide) (by rw [Ny183.out]; simp)
              cases fo34
              refine hK.out _ _ ⟨((HB.out.cell (World.block_lt_of_cell? w _ hw182_0)).trans hw182_0), ((HB.out.cell (World.block_lt_of_cell? w _ hw186_0)).trans hw186_0)⟩ (fun hHeld => ?_)
              clear hK K
              refine norm_ (a' := ?_) ?_ ?_
              rotate_left
              ·
               show Act.put _ (some 23) _ = _
               simp only [Act.put, List.setIfInBounds_toArray, List.set_cons_zero, List.set_cons_succ, i64_w, i32_w]
               rfl
              exact norm_ (by simp only [putAll, Act.put, List.setIfInBounds_toArray, List.set_cons_zero, List.set_cons_succ]) (hCont (.slice (some ado34) y183.length co34, ado34) _ ⟨hHeld, (by (with_reducible repeat (first | apply Kd.R_alloc | apply Kd.R_drewN | apply Kd.R_drew)); exact Kd.R_mono HO185.out (fun _ hk => hk.2)), (by (with_reducible repeat (first | apply Kd.R_alloc | apply Kd.R_drewN | apply Kd.R_drew)); exact Kd.R_mono HO_5.out (fun _ hk => hk.2)), ⟨_, rfl⟩, (by repeat (first | (with_reducible first | exact HB.out | apply below_alloc | apply pw_below_drewN | apply below_drew1) | exact HB.out))⟩)
            rintro ⟨v184, adz_v184⟩ w35 ⟨hS_, h0_, h1_, h2_, h3_⟩
            have n0_ : Aside0 (Kd.R (Kd.int .i64) 3 w35 w.heap.size (fun k_ => some k_ ≠ (u5 : Value).ownBlock) v184 y183) := ⟨h0_⟩
            have n1_ : Aside0 (Kd.R (Kd.int .i64) 3 w35 w.heap.size (fun k_ => some k_ ≠ (v184 : Value).ownBlock) u5 x5_1) := ⟨h1_⟩
            have n2_ : Aside0 (∃ c_, (v184 : Value) = .slice (some adz_v184) y183.length c_) := ⟨h2_⟩
            have n3_ : Aside0 (Below w.heap.size w w35) := ⟨h3_⟩
            clear HO_5
            clear HB
            clear h0_ h1_ h2_ h3_
            have HO185 := n0_
            have HO_5 := n1_
            have HA_HO185 := n2_
            have HB := n3_
            clear n0_ n1_ n2_ n3_
            have hHeld : w35.cell? (ad182.add (x6_1).toNat) = some (.int .i64 (rd l0 x6_1)) ∧ w35.cell? (ad182.add (x6_1).toNat) = some (.int .i64 (rd l0 x6_1)) := hS_
            obtain ⟨co36, eo36⟩ := HA_HO185.out
            clear HA_HO185
            subst eo36
            refine norm_ (a' := ?_) ?_ ?_
            rotate_left
            ·
             simp only [putAll, Act.put, List.setIfInBounds_toArray, List.set_cons_zero, List.set_cons_succ]
             rfl
            refine pure_ (i := 11) (N := some 30) (v := ?_) (a' := ?_) #[true, true, true, true, true, true, true, true, true, true, true, true, false, false, false] rfl rfl (any_of HT_.out (by kernel_rfl)) (fun _ _ _ h => h) (Or.inl ⟨by rfl, ?_⟩) ?_ ?_
            rotate_left
            ·
             intro w'
             go_simp
             with_reducible rfl
            rotate_left
            ·
             simp only [Act.put, List.setIfInBounds_toArray, List.set_cons_zero, List.set_cons_succ, i64_w, i32_w]
             rfl
            refine one_ (i := 12) (N := some 31) #[true, true, true, true, true, true, true, true, true, true, true, true, true, false, false] rfl rfl (one_of HT_.out (by kernel_rfl)) (by decide) (fun K hK => ?_)
            (have p188 : 0 ≤ (t187 : Int) := of_decide_eq_true (by first | (with_reducible assumption) | assumption); have q188 : t187 < (y183.length : Int) := of_decide_eq_true (by first | (with_reducible assumption) | assumption); obtain ⟨ad188, e188, hx188_0⟩ := Kd.at_int (Kd.R_reads' HO185.out).2.2 t187 p188 q188; obtain rfl : adz_v184 = ad188 := (by injection e188))
            refine value_ (w1 := ?_) (v := ?_) (by rfl) rfl ?_ ?_
            rotate_left 2
            ·
             go_simp
             constructor
             ·
              rfl
             ·
              rfl
            clear hx188_0
            refine hK.out _ _ ⟨((HB.out.cell (World.block_lt_of_cell? w _ hw182_0)).trans hw182_0), ((HB.out.cell (World.block_lt_of_cell? w _ hw186_0)).trans hw186_0)⟩ (fun hHeld => ?_)
            clear hK K
            refine norm_ (a' := ?_) ?_ ?_
            rotate_left
            ·
             show Act.put _ (some 31) _ = _
             simp only [Act.put, List.setIfInBounds_toArray, List.set_cons_zero, List.set_cons_succ, i64_w, i32_w]
             rfl
            refine one_ (i := 13) (N := some 32) #[true, true, true, true, true, true, true, true, true, true, true, true, true, true, false] rfl rfl (one_of HT_.out (by kernel_rfl)) (by decide) (fun K hK => ?_)
            refine goes_ Tryd.func14 (by kernel_rfl) rfl #[.int .i64 (rd l0 x6_1), .int .i64 (rd y183 t187)] (by rfl) rfl rfl (by (try simp only [List.map_toArray, List.map_cons, List.map_nil]); first | done | rfl | (simp only [List.length_drop, List.length_take]; rfl)) ?_
            with_reducible refine (bobbinetkeep_Picked.calls (rd l0 x6_1) (rd y183 t187) t189 _ A11.out).mono ?_
            rintro e w' ⟨rfl, ⟨nd, rfl⟩⟩
            refine ⟨_, rfl, ?_⟩
            refine hK.out _ _ ⟨((HB.out.cell (World.block_lt_of_cell? w _ hw182_0)).trans hw182_0), ((HB.out.cell (World.block_lt_of_cell? w _ hw186_0)).trans hw186_0)⟩ (fun hHeld => ?_)
            clear hK K
            refine norm_ (a' := ?_) ?_ ?_
            rotate_left
            ·
             show Act.put _ (some 32) _ = _
             simp only [Act.put, List.setIfInBounds_toArray, List.set_cons_zero, List.set_cons_succ, i64_w, i32_w]
             rfl
            refine pure_ (i := 14) (N := some 7) (v := ?_) (a' := ?_) #[true, true, true, true, true, true, true, true, true, true, true, true, true, true, true] rfl rfl (any_of HT_.out (by kernel_rfl)) (fun _ _ _ h => h) (Or.inl ⟨by rfl, ?_⟩) ?_ ?_
            rotate_left
            ·
             intro w'
             go_simp
             with_reducible rfl
            rotate_left
            ·
             simp only [Act.put, List.setIfInBounds_toArray, List.set_cons_zero, List.set_cons_succ, i64_w, i32_w]
             rfl
            refine done_ (done_of HT_.out (by kernel_rfl)) ?_
            try go_wp2_with (first | ((with_reducible refine gate_builtin (b := .append) (xs := #[.tmp 39, .tmp 41]) rfl ?_); at_builtin; refine Kd.R_append (Kd.int .i64) (w0 := w) w.heap.size rfl (.tmp 39) (.tmp 41) 22 3 (.int .i64 0) 8 rfl Tryd.underlying22 info3 rfl (by decide) (by omega) u5 x5_1 t189 [.int .i64 t189] (fun k_ => some k_ ≠ (.slice (some adz_v184) y183.length co36 : Value).ownBlock) (fun _ => False) rfl rfl ?aP (fun _ hk => hk.elim) ?aF ?aO ?aB ?aS ?aL ?_; (case aP => exact rfl); (case aB => exact (by repeat (first | (with_reducible first | exact HB.out | apply below_alloc | apply pw_below_drewN | apply below_drew1) | exact HB.out))); (case aF => exact (fun k_ hk => Kd.fresh' (Kd.R_lt (by (with_reducible repeat (first | apply Kd.R_alloc | apply Kd.R_drewN | apply Kd.R_drew)); exact HO185.out)) k_ hk)); (case aO => exact (by (with_reducible repeat (first | apply Kd.R_alloc | apply Kd.R_drewN | apply Kd.R_drew)); exact HO_5.out)); (case aS => exact (below_size (by repeat (first | (with_reducible first | exact HB.out | apply below_alloc | apply pw_below_drewN | apply below_drew1) | exact HB.out)))); (case aL => have := LMc30.out; omega); intro v197 w37 ho hb hg hat; rw [← Ny196.out] at ho; have n0_ := Aside0.mk (Kd.R_after (ok := (fun _ => True)) (by (with_reducible repeat (first | apply Kd.R_alloc | apply Kd.R_drewN | apply Kd.R_drew)); exact Kd.R_mono HO185.out (fun _ hk => ⟨trivial, hk⟩)) hg hat); have n1_ := Aside0.mk (hb); have n2_ := Aside0.mk (ho); clear HO185; clear HB; clear HO_5; have HO185 := n0_; have HB := n1_; have HO198 := n2_; clear n0_ n1_ n2_; clear ho hb hg hat))
            go_roundg kj2
            case measure => have := HK1.out; have := HJ2.out; omega
            case rel => exact ⟨(y196), (wrap64 (x6_1 + 1)), (by first | rfl | (simp; done) | (simp [*]; done) | (simp [bne]; done)), H', ⟨by have := HK1.out; have := HJ2.out; omega⟩, ⟨by (with_reducible repeat (first | apply Kd.R_alloc | apply Kd.R_drewN | apply Kd.R_drew)); exact Kd.R_mono HO198.out (fun _ hk => trivial)⟩, ⟨by repeat (first | (with_reducible first | exact HB.out | apply below_alloc | apply pw_below_drewN | apply below_drew1) | exact HB.out)⟩⟩
           ·
            rw [if_neg c30] at H
            exact absurd H (by simp)
         ·
          rw [if_neg c10] at H
          exact absurd H (by simp)
        ·
         rw [if_neg c9] at H
         exact absurd H (by simp)
       ·
        rw [if_neg c7] at H
        exact absurd H (by simp)
      ·
       rw [if_neg c6] at H
       exact absurd H (by simp)
     ·
      replace c5 := Bool.eq_false_iff.mpr c5
      subst c5
      have H1 : (some x5_1) = some r := by rw [if_neg (show ¬ (false = true) by decide)] at H; exact H
      clear H
      have H := H1
      clear H1
      obtain rfl := Option.some.inj H
      go_wp2
      go_ret
      exact ⟨_, by first | rfl | (simp [errW_none, errW_some] <;> rfl) | (simp [*, errW_none, errW_some] <;> rfl), by (with_reducible repeat (first | apply Kd.R_alloc | apply Kd.R_drewN | apply Kd.R_drew)); exact HO_5.out, by repeat (first | (with_reducible first | exact HB.out | apply below_alloc | apply pw_below_drewN | apply below_drew1) | exact HB.out)⟩
end Go.Proofs.YteimhgbihpbhaaaDoor.X
end
section
namespace Go.Proofs.YteimhgbihpbhaaaDoor.X
open Go.RowKit Go.Proofs.YteimhgbihpbhaaaDoorW.PrintWords Go.Proofs.YteimhgbihpbhaaaDoorW.PrintLast Go.Proofs.YteimhgbihpbhaaaDoorW.PrintMore
attribute [local go_sem] max2_int min2_int max_two min_two max_three min_three max_four min_four   -- for this text's walks alone
set_option linter.unusedVariables false
set_option linter.unusedSimpArgs false
mutual
def bobbinetkeep_RefNumbers.l0 : Nat → Int → ByteArray → Int → Option (Bool)
 | 0, _, _, _ => none
 | k + 1, x3, x4, x5 => if x5 > 0 then (if 0 ≤ (Int.tmod x5 10) then (if (Int.tmod x5 10) ≤ 10 then (if 0 ≤ 1 then (if 1 ≤ (((⟨#[48, 49, 50, 51, 52, 53, 54, 55, 56, 57]⟩ : ByteArray).extract ((Int.tmod x5 10) : Int).toNat (⟨#[48, 49, 50, 51, 52, 53, 54, 55, 56, 57]⟩ : ByteArray).size).size : Int) then (if (((⟨#[48, 49, 50, 51, 52, 53, 54, 55, 56, 57]⟩ : ByteArray).extract ((Int.tmod x5 10) : Int).toNat (⟨#[48, 49, 50, 51, 52, 53, 54, 55, 56, 57]⟩ : ByteArray).size).extract 0 1).size + x4.size ≤ 9223372036854775807 then (bobbinetkeep_RefNumbers.l0 k x3 ((((⟨#[48, 49, 50, 51, 52, 53, 54, 55, 56, 57]⟩ : ByteArray).extract ((Int.tmod x5 10) : Int).toNat (⟨#[48, 49, 50, 51, 52, 53, 54, 55, 56, 57]⟩ : ByteArray).size).extract 0 1) ++ x4) (wrap64 (Int.tdiv x5 10))) else (none)) else (none)) else (none)) else (none)) else (none)) else (bobbinetkeep_RefNumbers.l1 k x4 (⟨#[]⟩ : ByteArray) x3)
def bobbinetkeep_RefNumbers.l1 : Nat → ByteArray → ByteArray → Int → Option (Bool)
 | 0, _, _, _ => none
 | k + 1, x4, x6, x7 => if x7 > 0 then (if 0 ≤ (Int.tmod x7 16) then (if (Int.tmod x7 16) ≤ 16 then (if 0 ≤ 1 then (if 1 ≤ (((⟨#[48, 49, 50, 51, 52, 53, 54, 55, 56, 57, 97, 98, 99, 100, 101, 102]⟩ : ByteArray).extract ((Int.tmod x7 16) : Int).toNat (⟨#[48, 49, 50, 51, 52, 53, 54, 55, 56, 57, 97, 98, 99, 100, 101, 102]⟩ : ByteArray).size).size : Int) then (if (((⟨#[48, 49, 50, 51, 52, 53, 54, 55, 56, 57, 97, 98, 99, 100, 101, 102]⟩ : ByteArray).extract ((Int.tmod x7 16) : Int).toNat (⟨#[48, 49, 50, 51, 52, 53, 54, 55, 56, 57, 97, 98, 99, 100, 101, 102]⟩ : ByteArray).size).extract 0 1).size + x6.size ≤ 9223372036854775807 then (bobbinetkeep_RefNumbers.l1 k x4 ((((⟨#[48, 49, 50, 51, 52, 53, 54, 55, 56, 57, 97, 98, 99, 100, 101, 102]⟩ : ByteArray).extract ((Int.tmod x7 16) : Int).toNat (⟨#[48, 49, 50, 51, 52, 53, 54, 55, 56, 57, 97, 98, 99, 100, 101, 102]⟩ : ByteArray).size).extract 0 1) ++ x6) (wrap64 (Int.tdiv x7 16))) else (none)) else (none)) else (none)) else (none)) else (none)) else (if 2 + x4.size ≤ 9223372036854775807 then (if ((⟨#[38, 35]⟩ : ByteArray) ++ x4).size + 1 ≤ 9223372036854775807 then ((ref_Unescape.f (((⟨#[38, 35]⟩ : ByteArray) ++ x4) ++ (⟨#[59]⟩ : ByteArray))).bind fun t207 => ((bobbinetkeep_refSure.f).bind fun t208 => (if t208 = true then (if 3 + x6.size ≤ 9223372036854775807 then (if ((⟨#[38, 35, 120]⟩ : ByteArray) ++ x6).size + 1 ≤ 9223372036854775807 then ((ref_Unescape.f (((⟨#[38, 35, 120]⟩ : ByteArray) ++ x6) ++ (⟨#[59]⟩ : ByteArray))).bind fun t209 => (if t207.toList = t209.toList then (if ((⟨#[38, 35, 88]⟩ : ByteArray) ++ x6).size + 1 ≤ 9223372036854775807 then ((ref_Unescape.f (((⟨#[38, 35, 88]⟩ : ByteArray) ++ x6) ++ (⟨#[59]⟩ : ByteArray))).bind fun t210 => (if t207.toList = t210.toList then (if (t207.size : Int) > 0 then ((ref_Unescape.f ((⟨#[38, 35]⟩ : ByteArray) ++ x4)).bind fun t211 => (some (t211.toList == ((⟨#[38, 35]⟩ : ByteArray) ++ x4).toList))) else (none)) else (none))) else (none)) else (none))) else (none)) else (none)) else (none)))) else (none)) else (none))
end
def bobbinetkeep_RefNumbers.f (k : Nat) (a0 : Int) : Option (Bool) := (bobbinetkeep_Letters.f k (([a0] : List Int)) 1).bind fun t202 => (if 0 < (t202.length : Int) then (if (rd t202 0) = 0 then ((bobbinetkeep_refSure.f).bind fun t206 => (some t206)) else (bobbinetkeep_RefNumbers.l0 k (rd t202 0) (⟨#[]⟩ : ByteArray) (rd t202 0))) else (none))
set_option maxHeartbeats 8000000 in
set_option maxRecDepth 100000 in
theorem bobbinetkeep_RefNumbers.calls (k : Nat) (a0 : Int) (r : Bool) (w : World) (h : bobbinetkeep_RefNumbers.f k a0 = some r) :
  Calls Tryd.prog 10 #[.int .i64 a0] w fun e w' => e = .returned (.bool r) ∧ Below w.heap.size w w' := by
 have HB := Aside0.mk (Below.refl w.heap.size w)
 have H : ((bobbinetkeep_Letters.f k (([a0] : List Int)) 1).bind fun t202 => (if 0 < (t202.length : Int) then (if (rd t202 0) = 0 then ((bobbinetkeep_refSure.f).bind fun t206 => (some t206)) else (bobbinetkeep_RefNumbers.l0 k (rd t202 0) (⟨#[]⟩ : ByteArray) (rd t202 0))) else (none))) = some r := h
 clear h
 obtain ⟨y199, hy199⟩ : ∃ y_ : List Int, y_ = (([a0] : List Int)) := ⟨_, rfl⟩
 replace H : ((bobbinetkeep_Letters.f k y199 1).bind fun t202 => (if 0 < (t202.length : Int) then (if (rd t202 0) = 0 then ((bobbinetkeep_refSure.f).bind fun t206 => (some t206)) else (bobbinetkeep_RefNumbers.l0 k (rd t202 0) (⟨#[]⟩ : ByteArray) (rd t202 0))) else (none))) = some r := by first | (rw [hy199]; with_reducible exact H) | (have H2_ := (Option.bind_some _ _).symm.trans H; rw [hy199]; with_reducible exact H2_) | (have H2_ := (Option.bind_some _ _).symm.trans H; with_reducible exact H2_) | with_reducible exact H | (rw [hy199]; exact H) | exact H
 have Ny199 := Aside0.mk hy199
 clear hy199
 replace H := Option.bind_eq_some_iff.mp H
 obtain ⟨t202, A20, H⟩ := H
 replace H : (if 0 < (t202.length : Int) then (if (rd t202 0) = 0 then ((bobbinetkeep_refSure.f).bind fun t206 => (some t206)) else (bobbinetkeep_RefNumbers.l0 k (rd t202 0) (⟨#[]⟩ : ByteArray) (rd t202 0))) else (none)) = some r := H
 have A2 := Aside0.mk A20
 clear A20
 by_cases c3 : 0 < (t202.length : Int)
 ·
  rw [if_pos c3] at H
  have c3b0 : decide (0 < (t202.length : Int)) = true := decide_eq_true c3
  have c3b1 : decide (0 < t202.length) = true := decide_eq_true (by omega)
  clear c3
  by_cases c4 : (rd t202 0) = 0
  ·
   rw [if_pos c4] at H
   have c4b0 : ((rd t202 0) == 0) = true := beq_iff_eq.mpr c4
   have c4b1 : ((rd t202 0) != 0) = false := bne_eq_false_iff_eq.mpr c4
   clear c4
   replace H := Option.bind_eq_some_iff.mp H
   obtain ⟨t206, A50, H⟩ := H
   replace H : (some t206) = some r := H
   have A5 := Aside0.mk A50
   clear A50
   obtain rfl := Option.some.inj H
   go_enter Tryd.func10, Tryd.ntmps10
   go_wp2_with (first | ((with_reducible refine gate_dst (N := 10) rfl ?_); (try (refine gate_guard (by rfl) ?_; dsimp only)); refine Kd.R_lit (Kd.int .i64) _ 3 ?hg (N := 10) ?hd (xs := ([a0] : List Int)) (inner := [.int .i64 a0]) (ok := fun _ => True) (okp := fun _ => True) ?hr ?hp (fun _ hk => hk) trivial (Below.refl _ _) (Nat.le_refl _) (by simp) ?_; (case hd => rfl); (case hg => rfl); (case hr => first | (go_simp; done) | (go_simp; rfl)); (case hp => exact (Reps.one (show Kd.M (Kd.int .i64) _ _ _ a0 [.int .i64 a0] from rfl) (Reps.none _ _))); intro v200 w6 ho7 hb hg_ hnew_; clear hg_ hnew_; (first | rw [← Ny199.out] at ho7 | (simp only [Int.reduceToNat] at ho7; rw [← Ny199.out] at ho7)); have n0_ := Aside0.mk (Kd.R_lower ho7 (below_size (by repeat (first | (with_reducible first | exact HB.out | apply below_alloc | apply pw_below_drewN | apply below_drew1) | exact HB.out)))); have n1_ := Aside0.mk (below_step (by repeat (first | (with_reducible first | exact HB.out | apply below_alloc | apply pw_below_drewN | apply below_drew1) | exact HB.out)) hb); clear HB; have HO201 := n0_; have HB := n1_; clear n0_ n1_; clear hb ho7; obtain ⟨Ao8, co8, eo8⟩ := Kd.R_slice HO201.out; subst eo8) | ((with_reducible refine gate_callee (f := 22) rfl ?_); refine goesL_ (some 11) rfl rfl Tryd.func22 (by kernel_rfl) rfl #[.slice Ao8 y199.length co8, .int .i64 1] rfl (by (try simp only [List.map_toArray, List.map_cons, List.map_nil]); first | done | rfl | (simp only [List.length_drop, List.length_take]; rfl)) ?_; (with_reducible refine (bobbinetkeep_Letters.calls k _ _ y199 1 t202 _ ?side1 ?side2 A2.out).mono ?_); (case side1 => repeat (first | exact (Kd.R_reads' HO201.out).2.2 | (with_reducible refine Kd.C_alloc ?_ _) | (with_reducible refine Kd.C_drewN ?_ _) | (with_reducible refine Kd.C_drew ?_))); (case side2 => exact (Kd.R_reads' HO201.out).2.1); rintro e w9 ⟨v203, rfl, ho0, hb⟩; refine ⟨_, rfl, ?_⟩; have n0_ := Aside0.mk (Kd.R_elder' (by (with_reducible repeat (first | apply Kd.R_alloc | apply Kd.R_drewN | apply Kd.R_drew)); exact HO201.out) (Kd.R_base ho0) hb); have n1_ := Aside0.mk (Kd.R_lower (Kd.R_new' ho0 (Kd.R_lt (by (with_reducible repeat (first | apply Kd.R_alloc | apply Kd.R_drewN | apply Kd.R_drew)); exact HO201.out))) (below_size (by repeat (first | (with_reducible first | exact HB.out | apply below_alloc | apply pw_below_drewN | apply below_drew1) | exact HB.out)))); have n2_ := Aside0.mk (below_step (by repeat (first | (with_reducible first | exact HB.out | apply below_alloc | apply pw_below_drewN | apply below_drew1) | exact HB.out)) hb); clear HO201; clear HB; have HO201 := n0_; have HO204 := n1_; have HB := n2_; clear n0_ n1_ n2_; (try clear hb); (try clear hb2); (try clear hk); (try clear hi); (try clear ho0); obtain ⟨Ao10, co10, eo10⟩ := Kd.R_slice HO204.out; subst eo10; have p205 : 0 ≤ (0 : Int) := (by omega); have q205 : 0 < (t202.length : Int) := of_decide_eq_true (by first | (with_reducible assumption) | assumption); obtain ⟨ad205, e205, hx205_0⟩ := Kd.at_int (Kd.R_reads' HO204.out).2.2 0 p205 q205; cases e205; have qi205 : (0 < t202.length) = True := eq_true (by omega); (try rw [show ((0 : Int)).toNat = 0 from rfl] at hx205_0); (try rw [Addr.add_zero'] at hx205_0); replace p205 := eq_true p205; replace q205 := eq_true q205) | ((with_reducible refine gate_callee (f := 19) rfl ?_); refine goesL_ (some 16) rfl rfl Tryd.func19 (by kernel_rfl) rfl #[] rfl (by (try simp only [List.map_toArray, List.map_cons, List.map_nil]); first | done | rfl | (simp only [List.length_drop, List.length_take]; rfl)) ?_; (with_reducible refine (bobbinetkeep_refSure.calls  t206 _ A5.out).mono ?_); rintro e w11 ⟨rfl, hb⟩; refine ⟨_, rfl, ?_⟩; have n0_ := Aside0.mk (Kd.R_below (by (with_reducible repeat (first | apply Kd.R_alloc | apply Kd.R_drewN | apply Kd.R_drew)); exact HO201.out) hb); have n1_ := Aside0.mk (Kd.R_below (by (with_reducible repeat (first | apply Kd.R_alloc | apply Kd.R_drewN | apply Kd.R_drew)); exact HO204.out) hb); have n2_ := Aside0.mk (below_step (by repeat (first | (with_reducible first | exact HB.out | apply below_alloc | apply pw_below_drewN | apply below_drew1) | exact HB.out)) hb); clear HO201; clear HO204; clear HB; have HO201 := n0_; have HO204 := n1_; have HB := n2_; clear n0_ n1_ n2_; (try clear hb); (try clear hb2); (try clear hk); (try clear hi)))
   go_ret
   exact ⟨by first | rfl | (simp [errW_none, errW_some] <;> rfl) | (simp [*, errW_none, errW_some] <;> rfl), by repeat (first | (with_reducible first | exact HB.out | apply below_alloc | apply pw_below_drewN | apply below_drew1) | exact HB.out)⟩
  ·
   rw [if_neg c4] at H
   have c4b0 : ((rd t202 0) == 0) = false := beq_eq_false_iff_ne.mpr c4
   have c4b1 : ((rd t202 0) != 0) = true := bne_iff_ne.mpr c4
   have H' := Aside0.mk H
   clear H
   go_enter Tryd.func10, Tryd.ntmps10
   go_wp2_with (first | ((with_reducible refine gate_dst (N := 10) rfl ?_); (try (refine gate_guard (by rfl) ?_; dsimp only)); refine Kd.R_lit (Kd.int .i64) _ 3 ?hg (N := 10) ?hd (xs := ([a0] : List Int)) (inner := [.int .i64 a0]) (ok := fun _ => True) (okp := fun _ => True) ?hr ?hp (fun _ hk => hk) trivial (Below.refl _ _) (Nat.le_refl _) (by simp) ?_; (case hd => rfl); (case hg => rfl); (case hr => first | (go_simp; done) | (go_simp; rfl)); (case hp => exact (Reps.one (show Kd.M (Kd.int .i64) _ _ _ a0 [.int .i64 a0] from rfl) (Reps.none _ _))); intro v200 w12 ho13 hb hg_ hnew_; clear hg_ hnew_; (first | rw [← Ny199.out] at ho13 | (simp only [Int.reduceToNat] at ho13; rw [← Ny199.out] at ho13)); have n0_ := Aside0.mk (Kd.R_lower ho13 (below_size (by repeat (first | (with_reducible first | exact HB.out | apply below_alloc | apply pw_below_drewN | apply below_drew1) | exact HB.out)))); have n1_ := Aside0.mk (below_step (by repeat (first | (with_reducible first | exact HB.out | apply below_alloc | apply pw_below_drewN | apply below_drew1) | exact HB.out)) hb); clear HB; have HO201 := n0_; have HB := n1_; clear n0_ n1_; clear hb ho13; obtain ⟨Ao14, co14, eo14⟩ := Kd.R_slice HO201.out; subst eo14) | ((with_reducible refine gate_callee (f := 22) rfl ?_); refine goesL_ (some 11) rfl rfl Tryd.func22 (by kernel_rfl) rfl #[.slice Ao14 y199.length co14, .int .i64 1] rfl (by (try simp only [List.map_toArray, List.map_cons, List.map_nil]); first | done | rfl | (simp only [List.length_drop, List.length_take]; rfl)) ?_; (with_reducible refine (bobbinetkeep_Letters.calls k _ _ y199 1 t202 _ ?side1 ?side2 A2.out).mono ?_); (case side1 => repeat (first | exact (Kd.R_reads' HO201.out).2.2 | (with_reducible refine Kd.C_alloc ?_ _) | (with_reducible refine Kd.C_drewN ?_ _) | (with_reducible refine Kd.C_drew ?_))); (case side2 => exact (Kd.R_reads' HO201.out).2.1); rintro e w15 ⟨v203, rfl, ho0, hb⟩; refine ⟨_, rfl, ?_⟩; have n0_ := Aside0.mk (Kd.R_elder' (by (with_reducible repeat (first | apply Kd.R_alloc | apply Kd.R_drewN | apply Kd.R_drew)); exact HO201.out) (Kd.R_base ho0) hb); have n1_ := Aside0.mk (Kd.R_lower (Kd.R_new' ho0 (Kd.R_lt (by (with_reducible repeat (first | apply Kd.R_alloc | apply Kd.R_drewN | apply Kd.R_drew)); exact HO201.out))) (below_size (by repeat (first | (with_reducible first | exact HB.out | apply below_alloc | apply pw_below_drewN | apply below_drew1) | exact HB.out)))); have n2_ := Aside0.mk (below_step (by repeat (first | (with_reducible first | exact HB.out | apply below_alloc | apply pw_below_drewN | apply below_drew1) | exact HB.out)) hb); clear HO201; clear HB; have HO201 := n0_; have HO204 := n1_; have HB := n2_; clear n0_ n1_ n2_; (try clear hb); (try clear hb2); (try clear hk); (try clear hi); (try clear ho0); obtain ⟨Ao16, co16, eo16⟩ := Kd.R_slice HO204.out; subst eo16; have p205 : 0 ≤ (0 : Int) := (by omega); have q205 : 0 < (t202.length : Int) := of_decide_eq_true (by first | (with_reducible assumption) | assumption); obtain ⟨ad205, e205, hx205_0⟩ := Kd.at_int (Kd.R_reads' HO204.out).2.2 0 p205 q205; cases e205; have qi205 : (0 < t202.length) = True := eq_true (by omega); (try rw [show ((0 : Int)).toNat = 0 from rfl] at hx205_0); (try rw [Addr.add_zero'] at hx205_0); replace p205 := eq_true p205; replace q205 := eq_true q205))
   go_loopg [4, 5] k (fun kq v4 v5 w' => ∃ (x4_1 : ByteArray) (x5_1 : Int), v4 = .string x4_1 ∧ v5 = .int .i64 x5_1 ∧ Aside0 (bobbinetkeep_RefNumbers.l0 kq (rd t202 0) x4_1 x5_1 = some r) ∧ Aside0 (kq ≤ k) ∧ Aside0 (Below w.heap.size w w'))
   case atStart => exact ⟨((⟨#[]⟩ : ByteArray)), (rd t202 0), (by first | rfl | (simp; done) | (simp [*]; done) | (simp [bne]; done)), (by first | rfl | (simp; done) | (simp [*]; done) | (simp [bne]; done)), H', ⟨Nat.le_refl _⟩, ⟨by repeat (first | (with_reducible first | exact HB.out | apply below_alloc | apply pw_below_drewN | apply below_drew1) | exact HB.out)⟩⟩
   case round =>
    clear H'
    try clear c1
    try clear c2
    try clear p2
    try clear q2
    try clear hx2
    try clear qi2
    try clear c3
    try clear c3b0
    try clear c3b1
    try clear c4
    try clear c4b0
    try clear c4b1
    try clear c10
    try clear hx205_0
    try clear p205
    try clear q205
    obtain ⟨x4_1, x5_1, rfl, rfl, HA, HK1, HB⟩ := hrel
    cases gk with
    | zero => exact absurd HA.out (by simp [bobbinetkeep_RefNumbers.l0])
    | succ k1 =>
     have H := HA.out
     clear HA
     simp only [bobbinetkeep_RefNumbers.l0] at H
     by_cases c17 : x5_1 > 0
     ·
      rw [if_pos c17] at H
      have c17b0 : decide (0 < x5_1) = true := decide_eq_true c17
      clear c17
      obtain ⟨ji18, hji18⟩ : ∃ j_ : Int, (Int.tmod x5_1 10) = j_ := ⟨_, rfl⟩
      replace H : (if 0 ≤ (ji18) then (if (ji18) ≤ 10 then (if 0 ≤ 1 then (if 1 ≤ (((⟨#[48, 49, 50, 51, 52, 53, 54, 55, 56, 57]⟩ : ByteArray).extract ((ji18) : Int).toNat (⟨#[48, 49, 50, 51, 52, 53, 54, 55, 56, 57]⟩ : ByteArray).size).size : Int) then (if (((⟨#[48, 49, 50, 51, 52, 53, 54, 55, 56, 57]⟩ : ByteArray).extract ((ji18) : Int).toNat (⟨#[48, 49, 50, 51, 52, 53, 54, 55, 56, 57]⟩ : ByteArray).size).extract 0 1).size + x4_1.size ≤ 9223372036854775807 then (bobbinetkeep_RefNumbers.l0 k1 (rd t202 0) ((((⟨#[48, 49, 50, 51, 52, 53, 54, 55, 56, 57]⟩ : ByteArray).extract ((ji18) : Int).toNat (⟨#[48, 49, 50, 51, 52, 53, 54, 55, 56, 57]⟩ : ByteArray).size).extract 0 1) ++ x4_1) (wrap64 (Int.tdiv x5_1 10))) else (none)) else (none)) else (none)) else (none)) else (none)) = some r := by first | (rw [hji18] at H; exact H) | (simp only [hji18] at H ⊢; exact H)
      by_cases c19 : 0 ≤ (ji18)
      ·
       rw [if_pos c19] at H
       have c19b0 := eq_true c19
       have c19b1 : decide (0 ≤ (ji18)) = true := decide_eq_true c19
       clear c19
       by_cases c20 : (ji18) ≤ 10
       ·
        rw [if_pos c20] at H
        have c20b0 := eq_true c20
        have c20b1 : decide ((ji18) ≤ 10) = true := decide_eq_true c20
        clear c20
        by_cases c21 : 0 ≤ 1
        ·
         rw [if_pos c21] at H
         have c21b0 := eq_true c21
         have c21b1 : decide (0 ≤ 1) = true := decide_eq_true c21
         clear c21
         by_cases c22 : 1 ≤ (((⟨#[48, 49, 50, 51, 52, 53, 54, 55, 56, 57]⟩ : ByteArray).extract ((ji18) : Int).toNat (⟨#[48, 49, 50, 51, 52, 53, 54, 55, 56, 57]⟩ : ByteArray).size).size : Int)
         ·
          rw [if_pos c22] at H
          have c22b0 := eq_true c22
          have c22b1 : decide (1 ≤ (((⟨#[48, 49, 50, 51, 52, 53, 54, 55, 56, 57]⟩ : ByteArray).extract ((ji18) : Int).toNat (⟨#[48, 49, 50, 51, 52, 53, 54, 55, 56, 57]⟩ : ByteArray).size).size : Int)) = true := decide_eq_true c22
          have zc22 : (ji18).toNat < 10 := by have z_ := of_eq_true c22b0; rw [ByteArray.size_extract, show (⟨#[48, 49, 50, 51, 52, 53, 54, 55, 56, 57]⟩ : ByteArray).size = 10 from rfl] at z_; omega
          have yc220 : (((10 - (ji18).toNat : Nat) : Int) < 1) = False := eq_false (by omega)
          have yc221 : (1 ≤ ((10 - (ji18).toNat : Nat) : Int)) = True := eq_true (by omega)
          clear c22
          by_cases c23 : (((⟨#[48, 49, 50, 51, 52, 53, 54, 55, 56, 57]⟩ : ByteArray).extract ((ji18) : Int).toNat (⟨#[48, 49, 50, 51, 52, 53, 54, 55, 56, 57]⟩ : ByteArray).size).extract 0 1).size + x4_1.size ≤ 9223372036854775807
          ·
           rw [if_pos c23] at H
           have c23b0 := eq_true c23
           have c23b1 : decide ((((⟨#[48, 49, 50, 51, 52, 53, 54, 55, 56, 57]⟩ : ByteArray).extract ((ji18) : Int).toNat (⟨#[48, 49, 50, 51, 52, 53, 54, 55, 56, 57]⟩ : ByteArray).size).extract 0 1).size + x4_1.size ≤ 9223372036854775807) = true := decide_eq_true c23
           have yc23 := eq_true (show min 1 (10 - (ji18).toNat) + x4_1.size ≤ 9223372036854775807 by have z_ := of_eq_true c23b0; rw [ByteArray.size_extract, ByteArray.size_extract, show (⟨#[48, 49, 50, 51, 52, 53, 54, 55, 56, 57]⟩ : ByteArray).size = 10 from rfl] at z_; omega)
           have ync23 : (9223372036854775807 < min 1 (10 - (ji18).toNat) + x4_1.size) = False := eq_false (by have z_ := of_eq_true yc23; omega)
           try have c23b2 : (9223372036854775807 < (((⟨#[48, 49, 50, 51, 52, 53, 54, 55, 56, 57]⟩ : ByteArray).extract ((ji18) : Int).toNat (⟨#[48, 49, 50, 51, 52, 53, 54, 55, 56, 57]⟩ : ByteArray).size).extract 0 1).size + x4_1.size) = False := eq_false (Nat.not_lt.2 c23)
           have H' := Aside0.mk H
           clear H
           go_wp2
           go_roundg k1
           case measure => have := HK1.out; omega
           case rel => exact ⟨((((⟨#[48, 49, 50, 51, 52, 53, 54, 55, 56, 57]⟩ : ByteArray).extract ((ji18) : Int).toNat (⟨#[48, 49, 50, 51, 52, 53, 54, 55, 56, 57]⟩ : ByteArray).size).extract 0 1) ++ x4_1), (wrap64 (Int.tdiv x5_1 10)), (by first | rfl | (simp; done) | (simp only [← hji18] <;> (first | rfl | simp)) | (simp [*]; done)), (by first | rfl | (simp; done) | (simp [*]; done) | (simp [bne]; done)), H', ⟨by have := HK1.out; omega⟩, ⟨by repeat (first | (with_reducible first | exact HB.out | apply below_alloc | apply pw_below_drewN | apply below_drew1) | exact HB.out)⟩⟩
          ·
           rw [if_neg c23] at H
           exact absurd H (by simp)
         ·
          rw [if_neg c22] at H
          exact absurd H (by simp)
        ·
         rw [if_neg c21] at H
         exact absurd H (by simp)
       ·
        rw [if_neg c20] at H
        exact absurd H (by simp)
      ·
       rw [if_neg c19] at H
       exact absurd H (by simp)
     ·
      rw [if_neg c17] at H
      have c17b0 : decide (0 < x5_1) = false := decide_eq_false c17
      clear c17
      have H' := Aside0.mk H
      clear H
      go_wp2
      go_loopg [6, 7] k1 (fun kq v6 v7 w' => ∃ (x6_2 : ByteArray) (x7_2 : Int), v6 = .string x6_2 ∧ v7 = .int .i64 x7_2 ∧ Aside0 (bobbinetkeep_RefNumbers.l1 kq x4_1 x6_2 x7_2 = some r) ∧ Aside0 (kq ≤ k1) ∧ Aside0 (Below w.heap.size w w'))
      case atStart => exact ⟨((⟨#[]⟩ : ByteArray)), ((rd t202 0)), (by first | rfl | (simp; done) | (simp [*]; done) | (simp [bne]; done)), (by first | rfl | (simp; done) | (simp [*]; done) | (simp [bne]; done)), H', ⟨Nat.le_refl _⟩, ⟨by repeat (first | (with_reducible first | exact HB.out | apply below_alloc | apply pw_below_drewN | apply below_drew1) | exact HB.out)⟩⟩
      case round =>
       clear H'
       try clear c1
       try clear c2
       try clear p2
       try clear q2
       try clear hx2
       try clear qi2
       try clear c3
       try clear c3b0
       try clear c3b1
       try clear c4
       try clear c4b0
       try clear c4b1
       try clear p6
       try clear c10
       try clear c17
       try clear c17b0
       try clear c19
       try clear c19b0
       try clear c19b1
       try clear c20
       try clear c20b0
       try clear c20b1
       try clear p20
       try clear q20
       try clear hx20
       try clear qi20
       try clear c21
       try clear c21b0
       try clear c21b1
       try clear c22
       try clear c22b0
       try clear c22b1
       try clear c23
       try clear c23b0
       try clear c23b1
       try clear c23b2
       try clear hx205_0
       try clear p2
       try clear p205
       try clear q2
       try clear q205
       obtain ⟨x6_2, x7_2, rfl, rfl, HA, HK2, HB⟩ := hrel
       cases gk with
       | zero => exact absurd HA.out (by simp [bobbinetkeep_RefNumbers.l1])
       | succ k2 =>
        have H := HA.out
        clear HA
        simp only [bobbinetkeep_RefNumbers.l1] at H
        by_cases c24 : x7_2 > 0
        ·
         rw [if_pos c24] at H
         have c24b0 : decide (0 < x7_2) = true := decide_eq_true c24
         clear c24
         obtain ⟨ji25, hji25⟩ : ∃ j_ : Int, (Int.tmod x7_2 16) = j_ := ⟨_, rfl⟩
         replace H : (if 0 ≤ (ji25) then (if (ji25) ≤ 16 then (if 0 ≤ 1 then (if 1 ≤ (((⟨#[48, 49, 50, 51, 52, 53, 54, 55, 56, 57, 97, 98, 99, 100, 101, 102]⟩ : ByteArray).extract ((ji25) : Int).toNat (⟨#[48, 49, 50, 51, 52, 53, 54, 55, 56, 57, 97, 98, 99, 100, 101, 102]⟩ : ByteArray).size).size : Int) then (if (((⟨#[48, 49, 50, 51, 52, 53, 54, 55, 56, 57, 97, 98, 99, 100, 101, 102]⟩ : ByteArray).extract ((ji25) : Int).toNat (⟨#[48, 49, 50, 51, 52, 53, 54, 55, 56, 57, 97, 98, 99, 100, 101, 102]⟩ : ByteArray).size).extract 0 1).size + x6_2.size ≤ 9223372036854775807 then (bobbinetkeep_RefNumbers.l1 k2 x4_1 ((((⟨#[48, 49, 50, 51, 52, 53, 54, 55, 56, 57, 97, 98, 99, 100, 101, 102]⟩ : ByteArray).extract ((ji25) : Int).toNat (⟨#[48, 49, 50, 51, 52, 53, 54, 55, 56, 57, 97, 98, 99, 100, 101, 102]⟩ : ByteArray).size).extract 0 1) ++ x6_2) (wrap64 (Int.tdiv x7_2 16))) else (none)) else (none)) else (none)) else (none)) else (none)) = some r := by first | (rw [hji25] at H; exact H) | (simp only [hji25] at H ⊢; exact H)
         by_cases c26 : 0 ≤ (ji25)
         ·
          rw [if_pos c26] at H
          have c26b0 := eq_true c26
          have c26b1 : decide (0 ≤ (ji25)) = true := decide_eq_true c26
          clear c26
          by_cases c27 : (ji25) ≤ 16
          ·
           rw [if_pos c27] at H
           have c27b0 := eq_true c27
           have c27b1 : decide ((ji25) ≤ 16) = true := decide_eq_true c27
           clear c27
           by_cases c28 : 0 ≤ 1
           ·
            rw [if_pos c28] at H
            have c28b0 := eq_true c28
            have c28b1 : decide (0 ≤ 1) = true := decide_eq_true c28
            clear c28
            by_cases c29 : 1 ≤ (((⟨#[48, 49, 50, 51, 52, 53, 54, 55, 56, 57, 97, 98, 99, 100, 101, 102]⟩ : ByteArray).extract ((ji25) : Int).toNat (⟨#[48, 49, 50, 51, 52, 53, 54, 55, 56, 57, 97, 98, 99, 100, 101, 102]⟩ : ByteArray).size).size : Int)
            ·
             rw [if_pos c29] at H
             have c29b0 := eq_true c29
             have c29b1 : decide (1 ≤ (((⟨#[48, 49, 50, 51, 52, 53, 54, 55, 56, 57, 97, 98, 99, 100, 101, 102]⟩ : ByteArray).extract ((ji25) : Int).toNat (⟨#[48, 49, 50, 51, 52, 53, 54, 55, 56, 57, 97, 98, 99, 100, 101, 102]⟩ : ByteArray).size).size : Int)) = true := decide_eq_true c29
             have zc29 : (ji25).toNat < 16 := by have z_ := of_eq_true c29b0; rw [ByteArray.size_extract, show (⟨#[48, 49, 50, 51, 52, 53, 54, 55, 56, 57, 97, 98, 99, 100, 101, 102]⟩ : ByteArray).size = 16 from rfl] at z_; omega
             have yc290 : (((16 - (ji25).toNat : Nat) : Int) < 1) = False := eq_false (by omega)
             have yc291 : (1 ≤ ((16 - (ji25).toNat : Nat) : Int)) = True := eq_true (by omega)
             clear c29
             by_cases c30 : (((⟨#[48, 49, 50, 51, 52, 53, 54, 55, 56, 57, 97, 98, 99, 100, 101, 102]⟩ : ByteArray).extract ((ji25) : Int).toNat (⟨#[48, 49, 50, 51, 52, 53, 54, 55, 56, 57, 97, 98, 99, 100, 101, 102]⟩ : ByteArray).size).extract 0 1).size + x6_2.size ≤ 9223372036854775807
             ·
              rw [if_pos c30] at H
              have c30b0 := eq_true c30
              have c30b1 : decide ((((⟨#[48, 49, 50, 51, 52, 53, 54, 55, 56, 57, 97, 98, 99, 100, 101, 102]⟩ : ByteArray).extract ((ji25) : Int).toNat (⟨#[48, 49, 50, 51, 52, 53, 54, 55, 56, 57, 97, 98, 99, 100, 101, 102]⟩ : ByteArray).size).extract 0 1).size + x6_2.size ≤ 9223372036854775807) = true := decide_eq_true c30
              have yc30 := eq_true (show min 1 (16 - (ji25).toNat) + x6_2.size ≤ 9223372036854775807 by have z_ := of_eq_true c30b0; rw [ByteArray.size_extract, ByteArray.size_extract, show (⟨#[48, 49, 50, 51, 52, 53, 54, 55, 56, 57, 97, 98, 99, 100, 101, 102]⟩ : ByteArray).size = 16 from rfl] at z_; omega)
              have ync30 : (9223372036854775807 < min 1 (16 - (ji25).toNat) + x6_2.size) = False := eq_false (by have z_ := of_eq_true yc30; omega)
              try have c30b2 : (9223372036854775807 < (((⟨#[48, 49, 50, 51, 52, 53, 54, 55, 56, 57, 97, 98, 99, 100, 101, 102]⟩ : ByteArray).extract ((ji25) : Int).toNat (⟨#[48, 49, 50, 51, 52, 53, 54, 55, 56, 57, 97, 98, 99, 100, 101, 102]⟩ : ByteArray).size).extract 0 1).size + x6_2.size) = False := eq_false (Nat.not_lt.2 c30)
              have H' := Aside0.mk H
              clear H
              go_wp2
              go_roundg k2
              case measure => have := HK1.out; have := HK2.out; omega
              case rel => exact ⟨((((⟨#[48, 49, 50, 51, 52, 53, 54, 55, 56, 57, 97, 98, 99, 100, 101, 102]⟩ : ByteArray).extract ((ji25) : Int).toNat (⟨#[48, 49, 50, 51, 52, 53, 54, 55, 56, 57, 97, 98, 99, 100, 101, 102]⟩ : ByteArray).size).extract 0 1) ++ x6_2), (wrap64 (Int.tdiv x7_2 16)), (by first | rfl | (simp; done) | (simp only [← hji25] <;> (first | rfl | simp)) | (simp [*]; done)), (by first | rfl | (simp; done) | (simp [*]; done) | (simp [bne]; done)), H', ⟨by have := HK1.out; have := HK2.out; omega⟩, ⟨by repeat (first | (with_reducible first | exact HB.out | apply below_alloc | apply pw_below_drewN | apply below_drew1) | exact HB.out)⟩⟩
             ·
              rw [if_neg c30] at H
              exact absurd H (by simp)
            ·
             rw [if_neg c29] at H
             exact absurd H (by simp)
           ·
            rw [if_neg c28] at H
            exact absurd H (by simp)
          ·
           rw [if_neg c27] at H
           exact absurd H (by simp)
         ·
          rw [if_neg c26] at H
          exact absurd H (by simp)
        ·
         rw [if_neg c24] at H
         have c24b0 : decide (0 < x7_2) = false := decide_eq_false c24
         clear c24
         by_cases c31 : 2 + x4_1.size ≤ 9223372036854775807
         ·
          rw [if_pos c31] at H
          have c31b0 := eq_true c31
          have c31b1 : decide (2 + x4_1.size ≤ 9223372036854775807) = true := decide_eq_true c31
          try have c31b2 : (9223372036854775807 < 2 + x4_1.size) = False := eq_false (Nat.not_lt.2 c31)
          by_cases c32 : ((⟨#[38, 35]⟩ : ByteArray) ++ x4_1).size + 1 ≤ 9223372036854775807
          ·
           rw [if_pos c32] at H
           have c32b0 := eq_true c32
           have c32b1 : decide (((⟨#[38, 35]⟩ : ByteArray) ++ x4_1).size + 1 ≤ 9223372036854775807) = true := decide_eq_true c32
           try have c32b2 : (9223372036854775807 < ((⟨#[38, 35]⟩ : ByteArray) ++ x4_1).size + 1) = False := eq_false (Nat.not_lt.2 c32)
           try (have c32b3 := c32b2; simp only [ByteArray.size_append] at c32b3)
           try (have c32b4 := c32b2; simp only [ByteArray.size_append, show (⟨#[38, 35]⟩ : ByteArray).size = 2 from rfl] at c32b4)
           replace H := Option.bind_eq_some_iff.mp H
           obtain ⟨t207, A330, H⟩ := H
           replace H : ((bobbinetkeep_refSure.f).bind fun t208 => (if t208 = true then (if 3 + x6_2.size ≤ 9223372036854775807 then (if ((⟨#[38, 35, 120]⟩ : ByteArray) ++ x6_2).size + 1 ≤ 9223372036854775807 then ((ref_Unescape.f (((⟨#[38, 35, 120]⟩ : ByteArray) ++ x6_2) ++ (⟨#[59]⟩ : ByteArray))).bind fun t209 => (if t207.toList = t209.toList then (if ((⟨#[38, 35, 88]⟩ : ByteArray) ++ x6_2).size + 1 ≤ 9223372036854775807 then ((ref_Unescape.f (((⟨#[38, 35, 88]⟩ : ByteArray) ++ x6_2) ++ (⟨#[59]⟩ : ByteArray))).bind fun t210 => (if t207.toList = t210.toList then (if (t207.size : Int) > 0 then ((ref_Unescape.f ((⟨#[38, 35]⟩ : ByteArray) ++ x4_1)).bind fun t211 => (some (t211.toList == ((⟨#[38, 35]⟩ : ByteArray) ++ x4_1).toList))) else (none)) else (none))) else (none)) else (none))) else (none)) else (none)) else (none))) = some r := H
           have A33 := Aside0.mk A330
           clear A330
           replace H := Option.bind_eq_some_iff.mp H
           obtain ⟨t208, A340, H⟩ := H
           replace H : (if t208 = true then (if 3 + x6_2.size ≤ 9223372036854775807 then (if ((⟨#[38, 35, 120]⟩ : ByteArray) ++ x6_2).size + 1 ≤ 9223372036854775807 then ((ref_Unescape.f (((⟨#[38, 35, 120]⟩ : ByteArray) ++ x6_2) ++ (⟨#[59]⟩ : ByteArray))).bind fun t209 => (if t207.toList = t209.toList then (if ((⟨#[38, 35, 88]⟩ : ByteArray) ++ x6_2).size + 1 ≤ 9223372036854775807 then ((ref_Unescape.f (((⟨#[38, 35, 88]⟩ : ByteArray) ++ x6_2) ++ (⟨#[59]⟩ : ByteArray))).bind fun t210 => (if t207.toList = t210.toList then (if (t207.size : Int) > 0 then ((ref_Unescape.f ((⟨#[38, 35]⟩ : ByteArray) ++ x4_1)).bind fun t211 => (some (t211.toList == ((⟨#[38, 35]⟩ : ByteArray) ++ x4_1).toList))) else (none)) else (none))) else (none)) else (none))) else (none)) else (none)) else (none)) = some r := H
           have A34 := Aside0.mk A340
           clear A340
           by_cases c35 : t208 = true
           ·
            subst c35
            have H1 : (if 3 + x6_2.size ≤ 9223372036854775807 then (if ((⟨#[38, 35, 120]⟩ : ByteArray) ++ x6_2).size + 1 ≤ 9223372036854775807 then ((ref_Unescape.f (((⟨#[38, 35, 120]⟩ : ByteArray) ++ x6_2) ++ (⟨#[59]⟩ : ByteArray))).bind fun t209 => (if t207.toList = t209.toList then (if ((⟨#[38, 35, 88]⟩ : ByteArray) ++ x6_2).size + 1 ≤ 9223372036854775807 then ((ref_Unescape.f (((⟨#[38, 35, 88]⟩ : ByteArray) ++ x6_2) ++ (⟨#[59]⟩ : ByteArray))).bind fun t210 => (if t207.toList = t210.toList then (if (t207.size : Int) > 0 then ((ref_Unescape.f ((⟨#[38, 35]⟩ : ByteArray) ++ x4_1)).bind fun t211 => (some (t211.toList == ((⟨#[38, 35]⟩ : ByteArray) ++ x4_1).toList))) else (none)) else (none))) else (none)) else (none))) else (none)) else (none)) = some r := by rw [if_pos rfl] at H; exact H
            clear H
            have H := H1
            clear H1
            by_cases c36 : 3 + x6_2.size ≤ 9223372036854775807
            ·
             rw [if_pos c36] at H
             have c36b0 := eq_true c36
             have c36b1 : decide (3 + x6_2.size ≤ 9223372036854775807) = true := decide_eq_true c36
             try have c36b2 : (9223372036854775807 < 3 + x6_2.size) = False := eq_false (Nat.not_lt.2 c36)
             by_cases c37 : ((⟨#[38, 35, 120]⟩ : ByteArray) ++ x6_2).size + 1 ≤ 9223372036854775807
             ·
              rw [if_pos c37] at H
              have c37b0 := eq_true c37
              have c37b1 : decide (((⟨#[38, 35, 120]⟩ : ByteArray) ++ x6_2).size + 1 ≤ 9223372036854775807) = true := decide_eq_true c37
              try have c37b2 : (9223372036854775807 < ((⟨#[38, 35, 120]⟩ : ByteArray) ++ x6_2).size + 1) = False := eq_false (Nat.not_lt.2 c37)
              try (have c37b3 := c37b2; simp only [ByteArray.size_append] at c37b3)
              try (have c37b4 := c37b2; simp only [ByteArray.size_append, show (⟨#[38, 35, 120]⟩ : ByteArray).size = 3 from rfl] at c37b4)
              replace H := Option.bind_eq_some_iff.mp H
              obtain ⟨t209, A380, H⟩ := H
              replace H : (if t207.toList = t209.toList then (if ((⟨#[38, 35, 88]⟩ : ByteArray) ++ x6_2).size + 1 ≤ 9223372036854775807 then ((ref_Unescape.f (((⟨#[38, 35, 88]⟩ : ByteArray) ++ x6_2) ++ (⟨#[59]⟩ : ByteArray))).bind fun t210 => (if t207.toList = t210.toList then (if (t207.size : Int) > 0 then ((ref_Unescape.f ((⟨#[38, 35]⟩ : ByteArray) ++ x4_1)).bind fun t211 => (some (t211.toList == ((⟨#[38, 35]⟩ : ByteArray) ++ x4_1).toList))) else (none)) else (none))) else (none)) else (none)) = some r := H
              have A38 := Aside0.mk A380
              clear A380
              by_cases c39 : t207.toList = t209.toList
              ·
               rw [if_pos c39] at H
               have c39b0 : (t207.toList == t209.toList) = true := beq_iff_eq.mpr c39
               have c39b1 : (t207.toList != t209.toList) = false := bne_eq_false_iff_eq.mpr c39
               clear c39
               by_cases c40 : ((⟨#[38, 35, 88]⟩ : ByteArray) ++ x6_2).size + 1 ≤ 9223372036854775807
               ·
                rw [if_pos c40] at H
                have c40b0 := eq_true c40
                have c40b1 : decide (((⟨#[38, 35, 88]⟩ : ByteArray) ++ x6_2).size + 1 ≤ 9223372036854775807) = true := decide_eq_true c40
                try have c40b2 : (9223372036854775807 < ((⟨#[38, 35, 88]⟩ : ByteArray) ++ x6_2).size + 1) = False := eq_false (Nat.not_lt.2 c40)
                try (have c40b3 := c40b2; simp only [ByteArray.size_append] at c40b3)
                try (have c40b4 := c40b2; simp only [ByteArray.size_append, show (⟨#[38, 35, 88]⟩ : ByteArray).size = 3 from rfl] at c40b4)
                replace H := Option.bind_eq_some_iff.mp H
                obtain ⟨t210, A410, H⟩ := H
                replace H : (if t207.toList = t210.toList then (if (t207.size : Int) > 0 then ((ref_Unescape.f ((⟨#[38, 35]⟩ : ByteArray) ++ x4_1)).bind fun t211 => (some (t211.toList == ((⟨#[38, 35]⟩ : ByteArray) ++ x4_1).toList))) else (none)) else (none)) = some r := H
                have A41 := Aside0.mk A410
                clear A410
                by_cases c42 : t207.toList = t210.toList
                ·
                 rw [if_pos c42] at H
                 have c42b0 : (t207.toList == t210.toList) = true := beq_iff_eq.mpr c42
                 have c42b1 : (t207.toList != t210.toList) = false := bne_eq_false_iff_eq.mpr c42
                 clear c42
                 by_cases c43 : (t207.size : Int) > 0
                 ·
                  rw [if_pos c43] at H
                  have c43b0 : decide (0 < (t207.size : Int)) = true := decide_eq_true c43
                  have c43b1 : decide (0 < t207.size) = true := decide_eq_true (by omega)
                  clear c43
                  replace H := Option.bind_eq_some_iff.mp H
                  obtain ⟨t211, A440, H⟩ := H
                  replace H : (some (t211.toList == ((⟨#[38, 35]⟩ : ByteArray) ++ x4_1).toList)) = some r := H
                  have A44 := Aside0.mk A440
                  clear A440
                  obtain rfl := Option.some.inj H
                  go_wp2_with (first | ((with_reducible refine gate_callee (f := 21) rfl ?_); refine goesL_ (some 42) rfl rfl Tryd.func21 (by kernel_rfl) rfl #[.string (((⟨#[38, 35]⟩ : ByteArray) ++ x4_1) ++ (⟨#[59]⟩ : ByteArray))] rfl (by (try simp only [List.map_toArray, List.map_cons, List.map_nil]); first | done | rfl | (simp only [List.length_drop, List.length_take]; rfl)) ?_; (with_reducible refine (ref_Unescape.calls (((⟨#[38, 35]⟩ : ByteArray) ++ x4_1) ++ (⟨#[59]⟩ : ByteArray)) t207 _ A33.out).mono ?_); rintro e w45 ⟨rfl, hb⟩; refine ⟨_, rfl, ?_⟩; have n0_ := Aside0.mk (below_step (by repeat (first | (with_reducible first | exact HB.out | apply below_alloc | apply pw_below_drewN | apply below_drew1) | exact HB.out)) hb); clear HB; have HB := n0_; clear n0_; (try clear hb); (try clear hb2); (try clear hk); (try clear hi)) | ((with_reducible refine gate_callee (f := 19) rfl ?_); refine goesL_ (some 43) rfl rfl Tryd.func19 (by kernel_rfl) rfl #[] rfl (by (try simp only [List.map_toArray, List.map_cons, List.map_nil]); first | done | rfl | (simp only [List.length_drop, List.length_take]; rfl)) ?_; (with_reducible refine (bobbinetkeep_refSure.calls  true _ A34.out).mono ?_); rintro e w46 ⟨rfl, hb⟩; refine ⟨_, rfl, ?_⟩; have n0_ := Aside0.mk (below_step (by repeat (first | (with_reducible first | exact HB.out | apply below_alloc | apply pw_below_drewN | apply below_drew1) | exact HB.out)) hb); clear HB; have HB := n0_; clear n0_; (try clear hb); (try clear hb2); (try clear hk); (try clear hi)) | (go_at_call 21; (with_reducible refine (ref_Unescape.calls (((⟨#[38, 35, 120]⟩ : ByteArray) ++ x6_2) ++ (⟨#[59]⟩ : ByteArray)) t209 _ A38.out).mono ?_); rintro e w47 ⟨rfl, hb⟩; have n0_ := Aside0.mk (below_step (by repeat (first | (with_reducible first | exact HB.out | apply below_alloc | apply pw_below_drewN | apply below_drew1) | exact HB.out)) hb); clear HB; have HB := n0_; clear n0_; (try clear hb); (try clear hb2); (try clear hk); (try clear hi)) | (go_at_call 21; (with_reducible refine (ref_Unescape.calls (((⟨#[38, 35, 88]⟩ : ByteArray) ++ x6_2) ++ (⟨#[59]⟩ : ByteArray)) t210 _ A41.out).mono ?_); rintro e w48 ⟨rfl, hb⟩; have n0_ := Aside0.mk (below_step (by repeat (first | (with_reducible first | exact HB.out | apply below_alloc | apply pw_below_drewN | apply below_drew1) | exact HB.out)) hb); clear HB; have HB := n0_; clear n0_; (try clear hb); (try clear hb2); (try clear hk); (try clear hi)) | (go_at_call 21; (with_reducible refine (ref_Unescape.calls ((⟨#[38, 35]⟩ : ByteArray) ++ x4_1) t211 _ A44.out).mono ?_); rintro e w49 ⟨rfl, hb⟩; have n0_ := Aside0.mk (below_step (by repeat (first | (with_reducible first | exact HB.out | apply below_alloc | apply pw_below_drewN | apply below_drew1) | exact HB.out)) hb); clear HB; have HB := n0_; clear n0_; (try clear hb); (try clear hb2); (try clear hk); (try clear hi)))
                  go_ret
                  exact ⟨by first | rfl | (simp [errW_none, errW_some] <;> rfl) | (simp [*, errW_none, errW_some] <;> rfl), by repeat (first | (with_reducible first | exact HB.out | apply below_alloc | apply pw_below_drewN | apply below_drew1) | exact HB.out)⟩
                 ·
                  rw [if_neg c43] at H
                  exact absurd H (by simp)
                ·
                 rw [if_neg c42] at H
                 exact absurd H (by simp)
               ·
                rw [if_neg c40] at H
                exact absurd H (by simp)
              ·
               rw [if_neg c39] at H
               exact absurd H (by simp)
             ·
              rw [if_neg c37] at H
              exact absurd H (by simp)
            ·
             rw [if_neg c36] at H
             exact absurd H (by simp)
           ·
            replace c35 := Bool.eq_false_iff.mpr c35
            subst c35
            have H1 : (none) = some r := by rw [if_neg (show ¬ (false = true) by decide)] at H; exact H
            clear H
            have H := H1
            clear H1
            exact absurd H (by simp)
          ·
           rw [if_neg c32] at H
           exact absurd H (by simp)
         ·
          rw [if_neg c31] at H
          exact absurd H (by simp)
 ·
  rw [if_neg c3] at H
  exact absurd H (by simp)
/-- THE ONE PURE STATEMENT of bobbinetkeep_RefNumbers: yours. -/
def bobbinetkeep_RefNumbers.Pure : Prop := ∀ (a0 : Int), (Lit.int .i64 a0).wf = true → ∃ k, bobbinetkeep_RefNumbers.f k a0 = some true
theorem bobbinetkeep_RefNumbers.walk (P : bobbinetkeep_RefNumbers.Pure) (a0 : Int) (w : World) (w0 : (Lit.int .i64 a0).wf = true) :
  Calls Tryd.prog 10 #[.int .i64 a0] w fun e w' => e = .returned (.bool true) ∧ Below w.heap.size w w' := by
 obtain ⟨k, h⟩ := P a0 w0
 refine (bobbinetkeep_RefNumbers.calls k a0 true w h).mono ?_
 rintro e w' ⟨rfl, hd⟩
 exact ⟨rfl, hd⟩
end Go.Proofs.YteimhgbihpbhaaaDoor.X
end
section
namespace Go.Proofs.YteimhgbihpbhaaaDoor.Base
open Go.RowKit Go.Proofs.YteimhgbihpbhaaaDoorW.PrintWords
theorem toList_loop (s : ByteArray) : ∀ (n i : Nat) (r : List UInt8), s.size - i = n → ByteArray.toList.loop s i r = r.reverse ++ s.data.toList.drop i
  | 0, i, r, h => by
    unfold ByteArray.toList.loop
    have h1 : s.data.toList.drop i = [] := List.drop_eq_nil_of_le (by rw [Array.length_toList]; show s.size ≤ i; omega)
    rw [if_neg (by omega), h1, List.append_nil]
  | n + 1, i, r, h => by
    unfold ByteArray.toList.loop
    have hi : i < s.size := by omega
    have hl : i < s.data.toList.length := by rw [Array.length_toList]; exact hi
    have hg : s.get! i = s.data.toList[i] := by
      obtain ⟨d⟩ := s
      show d[i]! = _
      rw [getElem!_pos d i hi]
      simp
    rw [if_pos hi, toList_loop s n (i + 1) _ (by omega), hg, List.drop_eq_getElem_cons hl, List.reverse_cons, List.append_assoc]
    rfl
theorem toList_eq (s : ByteArray) : s.toList = s.data.toList := by
  unfold ByteArray.toList
  rw [toList_loop s _ 0 [] rfl]
  rfl
theorem toList_inj {s t : ByteArray} : s.toList = t.toList ↔ s = t := by
  rw [toList_eq, toList_eq]
  constructor
  · intro h
    exact ByteArray.ext (Array.toList_inj.1 h)
  · rintro rfl; rfl
theorem Ev.ite_pos {α : Type} {c : Prop} [Decidable c] {g f : Nat → Option α} {r : α} (h : c) (k : Ev g r) : Ev (fun n => if c then g n else f n) r := by
  simpa only [if_pos h] using k
theorem Ev.ite_neg {α : Type} {c : Prop} [Decidable c] {g f : Nat → Option α} {r : α} (h : ¬ c) (k : Ev f r) : Ev (fun n => if c then g n else f n) r := by
  simpa only [if_neg h] using k
theorem Ev.some {α : Type} (r : α) : Ev (fun _ => Option.some r) r := ⟨0, fun _ _ => rfl⟩
/-- one round: what is told of k + 1 rounds -/
theorem Ev.one {α : Type} {g f : Nat → Option α} {r : α} (h : ∀ k, g (k + 1) = f k) (k : Ev f r) : Ev g r := by
  obtain ⟨K, hK⟩ := k
  refine ⟨K + 1, fun k hk => ?_⟩
  obtain ⟨m, rfl⟩ : ∃ m, k = m + 1 := ⟨k - 1, by omega⟩
  rw [h m]
  exact hK m (by omega)
theorem Ev.bnd {α β : Type} {g : Nat → Option α} {f : Nat → α → Option β} {a : α} {r : β} (h : Ev g a) (k : Ev (fun n => f n a) r) : Ev (fun n => (g n).bind (f n)) r := by
  obtain ⟨K, hK⟩ := h
  obtain ⟨L, hL⟩ := k
  refine ⟨K + L, fun n hn => ?_⟩
  show (g n).bind (f n) = _
  rw [hK n (by omega)]
  exact hL n (by omega)
theorem Ev.bnd0 {α β : Type} {g : Option α} {f : Nat → α → Option β} {a : α} {r : β} (h : g = Option.some a) (k : Ev (fun n => f n a) r) : Ev (fun n => g.bind (f n)) r := by
  subst h
  exact k
theorem wrap_id {i : Int} (h0 : -9223372036854775808 ≤ i) (h1 : i ≤ 9223372036854775807) : wrap64 i = i := by unfold wrap64; omega
theorem wrap_succ {i : Nat} {n : Nat} (h : i < n) (hn : n ≤ 9223372036854775807) : wrap64 ((i : Int) + 1) = ((i + 1 : Nat) : Int) := by unfold wrap64; omega
/-- Go's remainder, brought above 0 -/
theorem picked_eq (a n : Int) (h : 0 < n) (hn : n ≤ 4294967296) : (if Int.tmod a n < 0 then wrap64 (Int.tmod a n + n) else Int.tmod a n) = a % n := by
  have he := Int.tmod_eq_emod (a := a) (b := n)
  have h1 := Int.emod_nonneg a (show n ≠ 0 by omega)
  have h2 := Int.emod_lt_of_pos a h
  rw [he]
  split
  · rename_i hc
    rw [if_neg (by simp; omega)]
    simp
  · rename_i hc
    have hn2 : (n.natAbs : Int) = n := by omega
    rw [hn2, if_pos (by omega), wrap_id (by omega) (by omega)]
    omega
end Go.Proofs.YteimhgbihpbhaaaDoor.Base
end
section
namespace Go.Proofs.YteimhgbihpbhaaaDoor.RefN
open Go.RowKit Go.Proofs.YteimhgbihpbhaaaDoor.X Go.Proofs.YteimhgbihpbhaaaDoorW.PrintWords Go.Proofs.YteimhgbihpbhaaaDoorW.PrintLast Go.Proofs.YteimhgbihpbhaaaDoor.Base
set_option linter.unusedVariables false
set_option linter.unusedSimpArgs false
def vld (c : Nat) : Prop := c < 55296 ∨ (57344 ≤ c ∧ c ≤ 1114111)
def ints (l : List Nat) : List Int := l.map Int.ofNat
theorem ints_length (l : List Nat) : (ints l).length = l.length := by simp [ints]
theorem ints_append (l m : List Nat) : ints (l ++ m) = ints l ++ ints m := by simp [ints]
theorem rdI_mid (pre : List Int) (d : Int) (suf : List Int) : rd (pre ++ d :: suf) (pre.length : Int) = d := by
  simp [rd, List.getD]
theorem picked_f (a n : Int) (h : 0 < n) (hn : n ≤ 4294967296) : bobbinetkeep_Picked.f a n = some (a % n) := by
  have := picked_eq a n h hn
  unfold bobbinetkeep_Picked.f
  rw [if_neg (by omega), ← this]
  split <;> rfl
theorem letters_ev (n : Nat) (hn : n ≤ 100) : ∀ (suf pre : List Int) (acc : List Nat), (∀ c ∈ acc, vld c) → (pre ++ suf).length ≤ 17592186044416 → acc.length = pre.length → pre.length ≤ n →
    ∃ r : List Nat, (∀ c ∈ r, vld c) ∧ r.length ≤ n ∧ (pre.length + suf.length ≤ n → r.length = pre.length + suf.length) ∧ Ev (fun k => bobbinetkeep_Letters.l0 k (pre ++ suf) (n : Int) (ints acc) (pre.length : Int)) (ints r)
  | [], pre, acc, hv, h, ha, hp => ⟨acc, hv, by omega, fun _ => by rw [ha]; rfl, by
    refine Ev.one (fun k => ?_) (Ev.one (g := fun k => bobbinetkeep_Letters.j1 k (pre ++ []) (n : Int) (ints acc) (pre.length : Int) false) (fun k => ?_) (Ev.some (ints acc)))
    · simp only [bobbinetkeep_Letters.l0]
      rw [if_neg (by simp)]
    · simp only [bobbinetkeep_Letters.j1]
      simp⟩
  | x :: suf, pre, acc, hv, h, ha, hp => by
    have hl : (pre ++ x :: suf).length = pre.length + suf.length + 1 := by simp; omega
    by_cases hc : pre.length < n
    · have p1 := picked_f (wrap64 (Int.tdiv x 7)) 5 (by omega) (by omega)
      have b1 := Int.emod_nonneg (wrap64 (Int.tdiv x 7)) (show (5 : Int) ≠ 0 by omega)
      have b2 := Int.emod_lt_of_pos (wrap64 (Int.tdiv x 7)) (show (0 : Int) < 5 by omega)
      generalize wrap64 (Int.tdiv x 7) % 5 = i at p1 b1 b2
      obtain ⟨m, hm0, hm1, hrd⟩ : ∃ m : Int, 0 < m ∧ m ≤ 1114112 ∧ rd [128, 300, 3000, 70000, 1114112] i = m := by
        have : i = 0 ∨ i = 1 ∨ i = 2 ∨ i = 3 ∨ i = 4 := by omega
        rcases this with rfl | rfl | rfl | rfl | rfl
        · exact ⟨128, by omega, by omega, rfl⟩
        · exact ⟨300, by omega, by omega, rfl⟩
        · exact ⟨3000, by omega, by omega, rfl⟩
        · exact ⟨70000, by omega, by omega, rfl⟩
        · exact ⟨1114112, by omega, by omega, rfl⟩
      have p2 := picked_f x m hm0 (by omega)
      have b3 := Int.emod_nonneg x (show m ≠ 0 by omega)
      have b4 := Int.emod_lt_of_pos x hm0
      generalize x % m = q at p2 b3 b4
      obtain ⟨c, rfl⟩ : ∃ c : Nat, q = (c : Int) := ⟨q.toNat, by omega⟩
      have step : ∀ c' : Nat, vld c' → ∃ r : List Nat, (∀ c ∈ r, vld c) ∧ r.length ≤ n ∧ (pre.length + (suf.length + 1) ≤ n → r.length = pre.length + (suf.length + 1)) ∧ Ev (fun k => bobbinetkeep_Letters.l0 k (pre ++ x :: suf) (n : Int) (ints acc ++ [(c' : Int)]) ((pre.length + 1 : Nat) : Int)) (ints r) := by
        intro c' hc'
        obtain ⟨r, hr, hrn, hre, ih⟩ := letters_ev n hn suf (pre ++ [x]) (acc ++ [c']) (by
          intro y hy
          rcases List.mem_append.1 hy with hy | hy
          · exact hv y hy
          · rw [List.mem_singleton.1 hy]; exact hc') (by simpa using h) (by simp [ha]) (by simp; omega)
        refine ⟨r, hr, hrn, fun hq => by rw [hre (by simp; omega)]; simp; omega, ?_⟩
        rw [ints_append] at ih
        simpa [ints] using ih
      have round : ∀ c' : Nat, c' = (if 55296 ≤ c ∧ c ≤ 57343 then 65 else c) → ∀ k, bobbinetkeep_Letters.j1 (k + 1) (pre ++ x :: suf) (n : Int) (ints acc) (pre.length : Int) true = bobbinetkeep_Letters.l0 k (pre ++ x :: suf) (n : Int) (ints acc ++ [(c' : Int)]) ((pre.length + 1 : Nat) : Int) := by
        intro c' hc' k
        simp only [bobbinetkeep_Letters.j1, if_true, Option.bind_some]
        rw [if_pos (by omega), if_pos (by omega), rdI_mid, p1]
        simp only [Option.bind_some]
        rw [if_pos b1, if_pos (by simp; omega), hrd, p2]
        simp only [Option.bind_some]
        rw [if_pos (show (ints acc).length < 17592186044416 by rw [ints_length]; omega), if_pos (show (ints acc).length < 17592186044416 by rw [ints_length]; omega), wrap_succ (n := (pre ++ x :: suf).length) (by omega) (by omega), hc']
        by_cases h1 : 55296 ≤ c
        · rw [if_pos (by omega)]
          by_cases h2 : c ≤ 57343
          · rw [if_pos (by omega), if_pos ⟨h1, h2⟩]; rfl
          · rw [if_neg (by omega), if_neg (by omega)]
        · rw [if_neg (by omega), if_neg (by omega)]
      obtain ⟨r, hr, hrn, hre, hs⟩ := step (if 55296 ≤ c ∧ c ≤ 57343 then 65 else c) (by unfold vld; split <;> omega)
      refine ⟨r, hr, hrn, hre, Ev.one (fun k => ?_) (Ev.one (g := fun k => bobbinetkeep_Letters.j1 k (pre ++ x :: suf) (n : Int) (ints acc) (pre.length : Int) true) (round _ rfl) hs)⟩
      simp only [bobbinetkeep_Letters.l0]
      rw [if_pos (by omega), decide_eq_true (by omega)]
    · refine ⟨acc, hv, by omega, fun hq => by simp at hq; omega, Ev.one (fun k => ?_) (Ev.one (g := fun k => bobbinetkeep_Letters.j1 k (pre ++ x :: suf) (n : Int) (ints acc) (pre.length : Int) false) (fun k => ?_) (Ev.some (ints acc)))⟩
      · simp only [bobbinetkeep_Letters.l0]
        rw [if_pos (by omega), decide_eq_false (by omega)]
      · simp only [bobbinetkeep_Letters.j1]
        simp
/-- a letter of a number -/
theorem letter_one (x : Int) : ∃ c : Nat, vld c ∧ Ev (fun k => bobbinetkeep_Letters.f k [x] 1) [(c : Int)] := by
  simp only [bobbinetkeep_Letters.f]
  obtain ⟨r, h1, h2, h4, h3⟩ := letters_ev 1 (by omega) [x] [] [] (by simp) (by simp) rfl (by simp)
  have h5 := h4 (by simp)
  match r, h5 with
  | [c], _ => exact ⟨c, h1 c List.mem_cons_self, h3⟩
end Go.Proofs.YteimhgbihpbhaaaDoor.RefN
end
section
namespace Go.Proofs.YteimhgbihpbhaaaDoor.RefN
open Go.RowKit Go.Proofs.YteimhgbihpbhaaaDoor.X Go.Proofs.YteimhgbihpbhaaaDoorW.PrintWords Go.Proofs.YteimhgbihpbhaaaDoorW.PrintLast Go.Proofs.YteimhgbihpbhaaaDoor.Base
set_option linter.unusedVariables false
set_option linter.unusedSimpArgs false
abbrev L := List UInt8
def mk (l : L) : ByteArray := ⟨l.toArray⟩
theorem mk_data (l : L) : (mk l).data.toList = l := rfl
theorem mk_size (l : L) : (mk l).size = l.length := by show l.toArray.size = _; simp
theorem mk_app (a b : L) : mk a ++ mk b = mk (a ++ b) := by
  apply ByteArray.ext
  rw [ByteArray.data_append]
  exact List.append_toArray a b
theorem sure : bobbinetkeep_refSure.f = some true := by decide +kernel
def digit (m : Nat) : UInt8 := if m < 10 then UInt8.ofNat (48 + m) else UInt8.ofNat (87 + m)
theorem digit_all : ∀ m < 16, ((48 ≤ (digit m).toNat ∧ (digit m).toNat ≤ 57 ∧ (digit m).toNat - 48 = m) ∨ (¬ (48 ≤ (digit m).toNat ∧ (digit m).toNat ≤ 57) ∧ 97 ≤ ref_numbered.low (digit m) ∧ ref_numbered.low (digit m) ≤ 122 ∧ ref_numbered.low (digit m) - 87 = m)) ∧ digit m ≠ 59 ∧ digit m ≠ 38 ∧ (digit m).toNat < 128 ∧ digit m ≠ 43 ∧ digit m ≠ 45 ∧ digit m ≠ 95 ∧ (m < 10 → (digit m).toNat ≤ 57) := by decide +kernel
theorem dig_digit {b m : Nat} (hb : b ≤ 16) (hm : m < b) : ref_numbered.dig b (digit m) = some m := by
  obtain ⟨h, _⟩ := digit_all m (by omega)
  unfold ref_numbered.dig
  rcases h with ⟨h1, h2, h3⟩ | ⟨h1, h2, h3, h4⟩
  · rw [if_pos ⟨h1, h2⟩, h3, if_pos hm]
  · rw [if_neg h1, if_pos ⟨h2, h3⟩, h4, if_pos hm]
def Dig (b : Nat) (D : L) : Prop := ∀ c ∈ D, ∃ m, m < b ∧ m < 16 ∧ c = digit m
theorem Dig.nil (b : Nat) : Dig b [] := by intro c h; cases h
theorem Dig.cons {b : Nat} {D : L} (h : Dig b D) {m : Nat} (hm : m < b) (h16 : m < 16) : Dig b ([digit m] ++ D) := by
  intro c hc
  rcases List.mem_append.1 hc with hc | hc
  · exact ⟨m, hm, h16, List.mem_singleton.1 hc⟩
  · exact h c hc
theorem num_cons {b q m x : Nat} {H : L} {l : Nat} (hb : b ≤ 16) (hm : m < b) (hq : x = q * b + m) (h : ref_numbered.num b x H = some l) : ref_numbered.num b q ([digit m] ++ H) = some l := by
  show ref_numbered.num b q (digit m :: H) = some l
  rw [ref_numbered.num, dig_digit hb hm, Option.bind_some, ← hq]
  exact h
theorem split_num {b d x n K : Nat} (hb : 2 ≤ b) (hb16 : b ≤ 16) (h0 : x ≠ 0) (hx : x ≤ d + 1) (hl : n ≤ K) (hlt : x < b ^ (K - n)) (hK : K ≤ 7) :
    ∃ q m, x = q * b + m ∧ m < b ∧ q ≤ d ∧ wrap64 (Int.tdiv (x : Int) (b : Int)) = (q : Int) ∧ Int.tmod (x : Int) (b : Int) = (m : Int) ∧ q < b ^ (K - n - 1) ∧ n < K := by
  have hnK : n < K := by
    rcases Nat.lt_or_ge n K with h | h
    · exact h
    · rw [show K - n = 0 by omega, Nat.pow_zero] at hlt; omega
  have hbig : x < 268435456 := by
    have h1 : b ^ (K - n) ≤ 16 ^ 7 := Nat.le_trans (Nat.pow_le_pow_left hb16 _) (Nat.pow_le_pow_right (by decide) (by omega))
    have h2 : (16 : Nat) ^ 7 = 268435456 := by decide
    omega
  have hd : x / b * b + x % b = x := by rw [Nat.mul_comm]; exact Nat.div_add_mod x b
  have hm : x % b < b := Nat.mod_lt _ (by omega)
  have hq1 : x / b < x := Nat.div_lt_self (by omega) (by omega)
  refine ⟨x / b, x % b, hd.symm, hm, by omega, ?_, ?_, ?_, hnK⟩
  · have e : Int.tdiv (x : Int) (b : Int) = ((x / b : Nat) : Int) := by rw [Int.ofNat_tdiv]
    rw [e]
    obtain ⟨q, hq⟩ : ∃ q, x / b = q := ⟨_, rfl⟩
    rw [hq] at hq1 ⊢
    exact wrap_id (by omega) (by omega)
  · rw [Int.ofNat_tmod]
  · rw [Nat.div_lt_iff_lt_mul (by omega), ← Nat.pow_succ, Nat.succ_eq_add_one, show K - n - 1 + 1 = K - n by omega]
    exact hlt
theorem index_end : ∀ (p r : L), (∀ c ∈ p, c ≠ 59) → Lib.indexByte (p ++ 59 :: r) 59 = (p.length : Int)
  | [], r, _ => by simp [Lib.indexByte]
  | c :: p, r, h => by
    have h1 : (c == 59) = false := by simpa using h c List.mem_cons_self
    have ih := index_end p r (fun d hd => h d (List.mem_cons_of_mem _ hd))
    rw [List.cons_append, Lib.indexByte, h1, ih]
    have h2 : (((p.length : Int)) == -1) = false := by rw [beq_eq_false_iff_ne]; omega
    rw [h2]
    simp
theorem index_none : ∀ (p : L), (∀ c ∈ p, c ≠ 59) → Lib.indexByte p 59 = -1
  | [], _ => rfl
  | c :: p, h => by
    have h1 : (c == 59) = false := by simpa using h c List.mem_cons_self
    rw [Lib.indexByte, h1, index_none p (fun d hd => h d (List.mem_cons_of_mem _ hd))]
    rfl
theorem Dig.ne {b : Nat} {D : L} (h : Dig b D) : ∀ c ∈ D, c ≠ 59 ∧ c ≠ 38 := fun c hc => by
  obtain ⟨m, _, h16, rfl⟩ := h c hc
  obtain ⟨_, h1, h2, _⟩ := digit_all m h16
  exact ⟨h1, h2⟩
theorem Dig.okS {b : Nat} {D : L} (h : Dig b D) : ref_numbered.okS D = true := by
  unfold ref_numbered.okS
  rw [List.all_eq_true]
  intro c hc
  obtain ⟨m, _, h16, rfl⟩ := h c hc
  obtain ⟨_, _, _, h1, h2, h3, h4, _⟩ := digit_all m h16
  simp [h1, h2, h3, h4]
theorem numbered_ev {b : Nat} {most : Int} {D : L} {l : Nat} (hb : b = 10 ∨ b = 16) (hD : Dig b D) (h0 : 0 < D.length) (h7 : D.length ≤ 7) (hm : (D.length : Int) ≤ most) (hn : ref_numbered.num b 0 D = some l) (hp : 0 < l) (hl : l < 1114112) (hs : ¬ (55296 ≤ l ∧ l ≤ 57343)) : ref_numbered.f (mk D) (b : Int) most = some ((l : Int), true) := by
  unfold ref_numbered.f
  rw [if_pos ⟨by rw [mk_size]; exact h0, by rw [mk_size]; exact h7, by rw [mk_size]; exact hm, by omega, by rw [mk_data]; exact hD.okS⟩, mk_data, Int.toNat_natCast, hn]
  show some (ref_numbered.rune l, true) = _
  unfold ref_numbered.rune
  rw [if_neg (by omega)]
theorem num_pos {b l : Nat} {D : L} (h : ref_numbered.num b 0 D = some l) (hp : 0 < l) : 0 < D.length := by
  cases D with
  | nil => obtain rfl := Option.some.inj h; omega
  | cons c D => simp
theorem cutp (D : L) : strings_CutPrefix.f (mk (35 :: D)) (⟨#[35]⟩ : ByteArray) = some (mk D, true) := by
  unfold strings_CutPrefix.f
  have h1 : Lib.hasPrefix (mk (35 :: D)).data.toList (⟨#[35]⟩ : ByteArray).data.toList = true := by
    show List.isPrefixOf [35] (35 :: D) = true
    simp
  unfold Lib.trimPrefix
  rw [h1, if_pos rfl]
  rfl
theorem bt_zero (c : UInt8) (D : L) : bt (mk (c :: D)) 0 = (c.toNat : Int) := by
  rw [← bt_at (mk (c :: D)) 0 (by rw [mk_size]; exact Nat.succ_pos _)]
  rfl
theorem letter_dec {D : L} {l : Nat} (hD : Dig 10 D) (h7 : D.length ≤ 7) (hn : ref_numbered.num 10 0 D = some l) (hp : 0 < l) (hl : l < 1114112) (hs : ¬ (55296 ≤ l ∧ l ≤ 57343)) : ref_letter.f 3 (mk (35 :: D)) = some ((l : Int), true) := by
  have h0 := num_pos hn hp
  have hN := numbered_ev (most := 7) (.inl rfl) hD h0 h7 (by omega) hn hp hl hs
  unfold ref_letter.f
  rw [cutp, Option.bind_some, if_pos rfl]
  cases D with
  | nil => simp at h0
  | cons c D =>
    obtain ⟨m, hm, h16, hc⟩ := hD c List.mem_cons_self
    obtain ⟨_, _, _, _, _, _, _, h57⟩ := digit_all m h16
    have h57 := h57 hm
    rw [← hc] at h57
    have hne : ¬ ((mk (c :: D)).toList = ([] : List UInt8)) := by rw [toList_eq, mk_data]; simp
    rw [if_neg hne, if_pos (by rw [mk_size, List.length_cons]; omega), bt_zero, if_neg (by omega)]
    have e : (((c.toNat : Int)) != 88) = true := by simp; omega
    rw [e, ref_letter.j0, if_pos rfl]
    have hN' : ref_numbered.f (mk (c :: D)) 10 7 = some ((l : Int), true) := hN
    rw [hN']
    rfl
theorem letter_hex (x : UInt8) (hx : x = 120 ∨ x = 88) {H : L} {l : Nat} (hH : Dig 16 H) (h6 : H.length ≤ 6) (hn : ref_numbered.num 16 0 H = some l) (hp : 0 < l) (hl : l < 1114112) (hs : ¬ (55296 ≤ l ∧ l ≤ 57343)) : ref_letter.f 3 (mk (35 :: x :: H)) = some ((l : Int), true) := by
  have h0 := num_pos hn hp
  have hN := numbered_ev (most := 6) (.inr rfl) hH h0 (by omega) (by omega) hn hp hl hs
  have hN' : ref_numbered.f (mk H) 16 6 = some ((l : Int), true) := hN
  have hex : (mk (x :: H)).extract 1 (mk (x :: H)).size = mk H := by
    apply ByteArray.ext
    rw [ByteArray.data_extract]
    apply Array.toList_inj.1
    rw [Array.toList_extract, List.extract_eq_take_drop]
    show List.take _ (List.drop 1 (x :: H)) = H
    rw [mk_size, List.length_cons, List.drop_one, List.tail_cons, List.take_of_length_le (by omega)]
  have hj : ref_letter.j0 3 (mk (x :: H)) false = some ((l : Int), true) := by
    rw [ref_letter.j0, if_neg (by simp), if_pos (by rw [mk_size, List.length_cons]; omega), hex, hN']
    rfl
  unfold ref_letter.f
  have hne : ¬ ((mk (x :: H)).toList = ([] : List UInt8)) := by rw [toList_eq, mk_data]; simp
  rw [cutp, Option.bind_some, if_pos rfl, if_neg hne, if_pos (by rw [mk_size, List.length_cons]; omega), bt_zero]
  rcases hx with rfl | rfl
  · rw [if_pos (by decide)]; exact hj
  · rw [if_neg (by decide)]; exact hj
theorem un_ref {p : L} {l : Nat} (hp : ∀ c ∈ p, c ≠ 59) (hlen : p.length ≤ 1000) (h1 : ref_letter.f 3 (mk p) = some ((l : Int), true)) (hl : l < 1114112) (hs : ¬ (55296 ≤ l ∧ l ≤ 57343)) : ref_Unescape.f (mk (38 :: (p ++ [59]))) = some (mk (ref_Unescape.encB (l : Int))) := by
  have hix : Lib.indexByte (38 :: (p ++ [59])) 59 = ((p.length + 1 : Nat) : Int) := by
    have := index_end (38 :: p) [] (fun c hc => by
      rcases List.mem_cons.1 hc with rfl | hc
      · decide
      · exact hp c hc)
    simpa using this
  have hsz : (mk (38 :: (p ++ [59]))).size = p.length + 1 + 1 := by rw [mk_size]; simp
  unfold ref_Unescape.f
  rw [if_pos (by rw [hsz]; omega), hsz, mk_data, ref_Unescape.go, hix, if_pos ⟨rfl, by omega⟩, Int.toNat_natCast]
  have ht : (p ++ [59]).take (p.length + 1 - 1) = p := by rw [Nat.add_sub_cancel, List.take_left]
  have hd : (p ++ [59]).drop (p.length + 1) = [] := by simp
  rw [ht, hd]
  have h1' : ref_letter.f 3 (⟨p.toArray⟩ : ByteArray) = some ((l : Int), true) := h1
  rw [h1', Option.bind_some, if_pos rfl, if_pos (by omega)]
  have hg : ref_Unescape.go (p.length + 1) [] = some [] := by rw [ref_Unescape.go]
  rw [hg]
  show some (mk (ref_Unescape.encB (l : Int) ++ [])) = _
  rw [List.append_nil]
theorem un_dec {D : L} {l : Nat} (hp : 0 < l) (hl : l < 1114112) (hs : ¬ (55296 ≤ l ∧ l ≤ 57343)) (hD : Dig 10 D) (h7 : D.length ≤ 7) (hn : ref_numbered.num 10 0 D = some l) : ref_Unescape.f (mk ([38, 35] ++ D ++ [59])) = some (mk (ref_Unescape.encB (l : Int))) :=
  un_ref (p := 35 :: D) (fun c hc => by
    rcases List.mem_cons.1 hc with rfl | hc
    · decide
    · exact (hD.ne c hc).1) (by simp; omega) (letter_dec hD h7 hn hp hl hs) hl hs
theorem un_hex (x : UInt8) (hx : x = 120 ∨ x = 88) {H : L} {l : Nat} (hp : 0 < l) (hl : l < 1114112) (hs : ¬ (55296 ≤ l ∧ l ≤ 57343)) (hH : Dig 16 H) (h6 : H.length ≤ 6) (hn : ref_numbered.num 16 0 H = some l) : ref_Unescape.f (mk ([38, 35, x] ++ H ++ [59])) = some (mk (ref_Unescape.encB (l : Int))) :=
  un_ref (p := 35 :: x :: H) (fun c hc => by
    rcases List.mem_cons.1 hc with rfl | hc
    · decide
    · rcases List.mem_cons.1 hc with rfl | hc
      · rcases hx with rfl | rfl <;> decide
      · exact (hH.ne c hc).1) (by simp; omega) (letter_hex x hx hH h6 hn hp hl hs) hl hs
theorem go_plain : ∀ (l : L) (n : Nat), l.length ≤ n → (∀ c ∈ l, c ≠ 38) → ref_Unescape.go n l = some l
  | [], n, _, _ => by cases n <;> rw [ref_Unescape.go]
  | c :: l, 0, h, _ => by simp at h
  | c :: l, n + 1, h, hc => by
    rw [ref_Unescape.go, if_neg (fun h => hc c List.mem_cons_self h.1), go_plain l n (by simpa using h) (fun d hd => hc d (List.mem_cons_of_mem _ hd))]
    rfl
theorem un_open {D : L} (hD : Dig 10 D) (h7 : D.length ≤ 7) : ref_Unescape.f (mk ([38, 35] ++ D)) = some (mk ([38, 35] ++ D)) := by
  have hix : Lib.indexByte (38 :: (35 :: D)) 59 = -1 := index_none _ (fun c hc => by
    rcases List.mem_cons.1 hc with rfl | hc
    · decide
    · rcases List.mem_cons.1 hc with rfl | hc
      · decide
      · exact (hD.ne c hc).1)
  have hsz : (mk (38 :: (35 :: D))).size = D.length + 1 + 1 := by rw [mk_size]; simp
  show ref_Unescape.f (mk (38 :: (35 :: D))) = some (mk (38 :: (35 :: D)))
  unfold ref_Unescape.f
  rw [if_pos (by rw [hsz]; omega), hsz, mk_data, ref_Unescape.go, hix, if_neg (fun h => absurd h.2 (by decide)), go_plain (35 :: D) _ (by simp) (fun c hc => by
    rcases List.mem_cons.1 hc with rfl | hc
    · decide
    · exact (hD.ne c hc).2)]
  rfl
end Go.Proofs.YteimhgbihpbhaaaDoor.RefN
end
section
namespace Go.Proofs.YteimhgbihpbhaaaDoor.Pure
open Go.RowKit Go.Proofs.YteimhgbihpbhaaaDoor.X Go.Proofs.YteimhgbihpbhaaaDoorW.PrintWords Go.Proofs.YteimhgbihpbhaaaDoorW.PrintLast Go.Proofs.YteimhgbihpbhaaaDoor.Base Go.Proofs.YteimhgbihpbhaaaDoor.RefN
abbrev decs : ByteArray := ⟨#[48, 49, 50, 51, 52, 53, 54, 55, 56, 57]⟩
abbrev hexs : ByteArray := ⟨#[48, 49, 50, 51, 52, 53, 54, 55, 56, 57, 97, 98, 99, 100, 101, 102]⟩
theorem cut_dec : ∀ m < 10, (decs.extract m decs.size).extract 0 1 = mk [digit m] := by decide +kernel
theorem cut_hex : ∀ m < 16, (hexs.extract m hexs.size).extract 0 1 = mk [digit m] := by decide +kernel
theorem RefNumbers : bobbinetkeep_RefNumbers.Pure := by
  intro a0 h0
  obtain ⟨l, hv, hl⟩ := letter_one a0
  have hlt : l < 1114112 := by unfold vld at hv; omega
  have hns : ¬ (55296 ≤ l ∧ l ≤ 57343) := by unfold vld at hv; omega
  -- behind both loops
  have last : ∀ (D H : L), 0 < l → Dig 10 D → Dig 16 H → D.length ≤ 7 → H.length ≤ 6 → ref_numbered.num 10 0 D = some l → ref_numbered.num 16 0 H = some l → Ev (fun k => bobbinetkeep_RefNumbers.l1 k (mk D) (mk H) 0) true := by
    intro D H hpos hD hH hDl hHl hDn hHn
    refine Ev.one (fun k => by rw [bobbinetkeep_RefNumbers.l1]) (Ev.ite_neg (by decide) ?_)
    have e1 : ((⟨#[38, 35]⟩ : ByteArray) ++ mk D) = mk ([38, 35] ++ D) := mk_app [38, 35] D
    have e2 : (mk ([38, 35] ++ D) ++ (⟨#[59]⟩ : ByteArray)) = mk ([38, 35] ++ D ++ [59]) := mk_app _ [59]
    have e3 : ((⟨#[38, 35, 120]⟩ : ByteArray) ++ mk H) = mk ([38, 35, 120] ++ H) := mk_app [38, 35, 120] H
    have e4 : (mk ([38, 35, 120] ++ H) ++ (⟨#[59]⟩ : ByteArray)) = mk ([38, 35, 120] ++ H ++ [59]) := mk_app _ [59]
    have e5 : ((⟨#[38, 35, 88]⟩ : ByteArray) ++ mk H) = mk ([38, 35, 88] ++ H) := mk_app [38, 35, 88] H
    have e6 : (mk ([38, 35, 88] ++ H) ++ (⟨#[59]⟩ : ByteArray)) = mk ([38, 35, 88] ++ H ++ [59]) := mk_app _ [59]
    rw [e1, e2, e3, e4, e5, e6]
    have u1 := un_dec hpos hlt hns hD hDl hDn
    have u2 := un_hex 120 (.inl rfl) hpos hlt hns hH hHl hHn
    have u3 := un_hex 88 (.inr rfl) hpos hlt hns hH hHl hHn
    have u4 := un_open hD hDl
    have hel := ref_Unescape.encB_len (l : Int)
    refine Ev.ite_pos (by rw [mk_size]; omega) (Ev.ite_pos (by rw [mk_size]; simp; omega) (Ev.bnd0 u1 (Ev.bnd0 sure (Ev.ite_pos rfl (Ev.ite_pos (by rw [mk_size]; omega) (Ev.ite_pos (by rw [mk_size]; simp; omega) (Ev.bnd0 u2 (Ev.ite_pos rfl (Ev.ite_pos (by rw [mk_size]; simp; omega) (Ev.bnd0 u3 (Ev.ite_pos rfl (Ev.ite_pos (by rw [mk_size]; omega) (Ev.bnd0 u4 ?_)))))))))))))
    rw [beq_self_eq_true]
    exact Ev.now _
  have loop1 : ∀ (d x : Nat) (D H : L), x ≤ d → 0 < l → Dig 10 D → Dig 16 H → D.length ≤ 7 → ref_numbered.num 10 0 D = some l → ref_numbered.num 16 x H = some l → H.length ≤ 6 → x < 16 ^ (6 - H.length) → Ev (fun k => bobbinetkeep_RefNumbers.l1 k (mk D) (mk H) (x : Int)) true := by
    intro d
    induction d with
    | zero =>
      intro x D H hx hpos hD hH hDl hDn hHn hHl _
      obtain rfl : x = 0 := by omega
      exact last D H hpos hD hH hDl hHl hDn hHn
    | succ d ih =>
      intro x D H hx hpos hD hH hDl hDn hHn hHl hb
      by_cases h0 : x = 0
      · subst h0; exact last D H hpos hD hH hDl hHl hDn hHn
      · obtain ⟨q, m, hq, hm, hqd, hw, ht, hb2, hl2⟩ := split_num (b := 16) (by omega) (by omega) h0 hx hHl hb (by omega)
        refine Ev.one (fun k => by rw [bobbinetkeep_RefNumbers.l1]) (Ev.ite_pos (by omega) ?_)
        rw [show Int.tmod (x : Int) 16 = (m : Int) from ht, show wrap64 (Int.tdiv (x : Int) 16) = (q : Int) from hw, Int.toNat_natCast]
        have z1 : (hexs.extract m hexs.size).size = 16 - m := by rw [ByteArray.size_extract]; show min 16 16 - m = _; omega
        rw [z1, cut_hex m hm, mk_app]
        have s1 : (mk [digit m]).size = 1 := mk_size _
        clear z1
        refine Ev.ite_pos (by omega) (Ev.ite_pos (by omega) (Ev.ite_pos (by decide) (Ev.ite_pos (by omega) (Ev.ite_pos (by rw [s1, mk_size]; omega) ?_))))
        exact ih q D ([digit m] ++ H) hqd hpos hD (hH.cons hm (by omega)) hDl hDn (num_cons (by omega) hm hq hHn) (by simp; omega) (by simpa [Nat.sub_sub, Nat.add_comm] using hb2)
  have loop0 : ∀ (d x : Nat) (D : L), x ≤ d → 0 < l → Dig 10 D → ref_numbered.num 10 x D = some l → D.length ≤ 7 → x < 10 ^ (7 - D.length) → Ev (fun k => bobbinetkeep_RefNumbers.l0 k (l : Int) (mk D) (x : Int)) true := by
    have done : ∀ D : L, 0 < l → Dig 10 D → ref_numbered.num 10 0 D = some l → D.length ≤ 7 → Ev (fun k => bobbinetkeep_RefNumbers.l0 k (l : Int) (mk D) 0) true := by
      intro D hpos hD hDn hDl
      refine Ev.one (fun k => by rw [bobbinetkeep_RefNumbers.l0]) (Ev.ite_neg (by decide) ?_)
      exact loop1 l l D [] (Nat.le_refl _) hpos hD (Dig.nil _) hDl hDn rfl (by simp) (by simp; omega)
    intro d
    induction d with
    | zero =>
      intro x D hx hpos hD hDn hDl _
      obtain rfl : x = 0 := by omega
      exact done D hpos hD hDn hDl
    | succ d ih =>
      intro x D hx hpos hD hDn hDl hb
      by_cases h0 : x = 0
      · subst h0; exact done D hpos hD hDn hDl
      · obtain ⟨q, m, hq, hm, hqd, hw, ht, hb2, hl2⟩ := split_num (b := 10) (by omega) (by omega) h0 hx hDl hb (by omega)
        refine Ev.one (fun k => by rw [bobbinetkeep_RefNumbers.l0]) (Ev.ite_pos (by omega) ?_)
        rw [show Int.tmod (x : Int) 10 = (m : Int) from ht, show wrap64 (Int.tdiv (x : Int) 10) = (q : Int) from hw, Int.toNat_natCast]
        have z1 : (decs.extract m decs.size).size = 10 - m := by rw [ByteArray.size_extract]; show min 10 10 - m = _; omega
        rw [z1, cut_dec m hm, mk_app]
        have s1 : (mk [digit m]).size = 1 := mk_size _
        clear z1
        refine Ev.ite_pos (by omega) (Ev.ite_pos (by omega) (Ev.ite_pos (by decide) (Ev.ite_pos (by omega) (Ev.ite_pos (by rw [s1, mk_size]; omega) ?_))))
        exact ih q ([digit m] ++ D) hqd hpos (hD.cons hm (by omega)) (num_cons (by omega) hm hq hDn) (by simp; omega) (by simpa [Nat.sub_sub, Nat.add_comm] using hb2)
  have main : Ev (fun k => bobbinetkeep_RefNumbers.f k a0) true := by
    refine Ev.bnd hl (Ev.ite_pos (by simp) ?_)
    have hrd : rd [(l : Int)] 0 = (l : Int) := rfl
    rw [hrd]
    by_cases hz : l = 0
    · refine Ev.ite_pos (by omega) (Ev.bnd0 sure (Ev.now _))
    · refine Ev.ite_neg (by omega) ?_
      exact loop0 l l [] (Nat.le_refl _) (by omega) (Dig.nil _) rfl (by simp) (by simp; omega)
  obtain ⟨K, hK⟩ := main
  exact ⟨K, hK K (Nat.le_refl _)⟩
end Go.Proofs.YteimhgbihpbhaaaDoor.Pure
end
