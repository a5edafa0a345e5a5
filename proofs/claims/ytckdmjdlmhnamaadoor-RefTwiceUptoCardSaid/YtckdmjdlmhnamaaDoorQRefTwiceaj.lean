/- Parts of the proof of RefTwice that are needed, put together by pack.py. -/
import Derived.Test.YtckdmjdlmhnamaaDoorQRefTwiceai
import Derived.Test.YtckdmjdlmhnamaaDoorQRefTwiceaf
import Derived.Test.YtckdmjdlmhnamaaDoorQRefTwiceag
import Derived.Test.YtckdmjdlmhnamaaDoorQRefTwiceah
import Derived.Test.YtckdmjdlmhnamaaDoorQRefTwiceaa
section
namespace Go.Proofs.YtckdmjdlmhnamaaDoor.X
open Go.RowKit Go.Proofs.YtckdmjdlmhnamaaDoorW.PrintWords Go.Proofs.YtckdmjdlmhnamaaDoorW.PrintLast Go.Proofs.YtckdmjdlmhnamaaDoorW.PrintMore
attribute [local go_sem] max2_int min2_int max_two min_two max_three min_three max_four min_four   -- for this text's walks alone
set_option linter.unusedVariables false
set_option linter.unusedSimpArgs false
def strings_CutPrefix.f (a0 a1 : ByteArray) : Option (ByteArray × Bool) := some (⟨(Lib.trimPrefix a0.data.toList a1.data.toList).toArray⟩, Lib.hasPrefix a0.data.toList a1.data.toList)
theorem strings_CutPrefix.calls (a0 a1 : ByteArray) (r1 : ByteArray) (r2 : Bool) (w : World) (h : strings_CutPrefix.f a0 a1 = some (r1, r2)) :
    Calls Tryd.prog 61 #[.string a0, .string a1] w fun e w' => e = .returned (.tuple #[.string r1, .bool r2]) ∧ Drawn0 w w' := by
  obtain ⟨rfl, rfl⟩ := Prod.mk.inj (Option.some.inj h)
  exact (Tryd.strings_CutPrefix a0 a1 w).mono (fun e w' ⟨h1, h2⟩ => ⟨h1, by rw [h2]; exact Drawn0.refl _⟩)
end Go.Proofs.YtckdmjdlmhnamaaDoor.X
end
section
namespace Go.Proofs.YtckdmjdlmhnamaaDoor.X
open Go.RowKit Go.Proofs.YtckdmjdlmhnamaaDoorW.PrintWords Go.Proofs.YtckdmjdlmhnamaaDoorW.PrintLast Go.Proofs.YtckdmjdlmhnamaaDoorW.PrintMore
attribute [local go_sem] max2_int min2_int max_two min_two max_three min_three max_four min_four   -- for this text's walks alone
set_option linter.unusedVariables false
set_option linter.unusedSimpArgs false
def ref_numbered.f (a0 : ByteArray) (a1 a2 : Int) : Option (Int × Bool) := none
theorem ref_numbered.calls (a0 : ByteArray) (a1 a2 : Int) (r1 : Int) (r2 : Bool) (w : World) (h : ref_numbered.f a0 a1 a2 = some (r1, r2)) :
    Calls Tryd.prog 62 #[.string a0, .int .i64 a1, .int .i64 a2] w fun e w' => e = .returned (.tuple #[.int .i32 r1, .bool r2]) ∧ Drawn0 w w' := by cases h
end Go.Proofs.YtckdmjdlmhnamaaDoor.X
end
section
namespace Go.Proofs.YtckdmjdlmhnamaaDoor.X
open Go.RowKit Go.Proofs.YtckdmjdlmhnamaaDoorW.PrintWords Go.Proofs.YtckdmjdlmhnamaaDoorW.PrintLast Go.Proofs.YtckdmjdlmhnamaaDoorW.PrintMore
attribute [local go_sem] max2_int min2_int max_two min_two max_three min_three max_four min_four   -- for this text's walks alone
set_option linter.unusedVariables false
set_option linter.unusedSimpArgs false
def ref_named.f (a0 : ByteArray) : Option (Int) := if a0.toList = ([97, 109, 112] : List UInt8) then (some 38) else (if a0.toList = ([108, 116] : List UInt8) then (some 60) else (if a0.toList = ([103, 116] : List UInt8) then (some 62) else (if a0.toList = ([113, 117, 111, 116] : List UInt8) then (some 34) else (if a0.toList = ([110, 98, 115, 112] : List UInt8) then (some 160) else (if a0.toList = ([99, 111, 112, 121] : List UInt8) then (some 169) else (some 0))))))
set_option maxHeartbeats 8000000 in
set_option maxRecDepth 100000 in
theorem ref_named.calls (a0 : ByteArray) (r : Int) (w : World) (h : ref_named.f a0 = some r) :
    Calls Tryd.prog 63 #[.string a0] w fun e w' => e = .returned (.int .i32 r) ∧ Drawn0 w w' := by
  have H : (if a0.toList = ([97, 109, 112] : List UInt8) then (some 38) else (if a0.toList = ([108, 116] : List UInt8) then (some 60) else (if a0.toList = ([103, 116] : List UInt8) then (some 62) else (if a0.toList = ([113, 117, 111, 116] : List UInt8) then (some 34) else (if a0.toList = ([110, 98, 115, 112] : List UInt8) then (some 160) else (if a0.toList = ([99, 111, 112, 121] : List UInt8) then (some 169) else (some 0))))))) = some r := h
  clear h
  by_cases c2 : a0.toList = ([97, 109, 112] : List UInt8)
  · rw [if_pos c2] at H
    have c2b0 : (a0.toList == ([97, 109, 112] : List UInt8)) = true := beq_iff_eq.mpr c2
    have c2b1 : (a0.toList != ([97, 109, 112] : List UInt8)) = false := bne_eq_false_iff_eq.mpr c2
    clear c2
    obtain rfl := Option.some.inj H
    go_enter Tryd.func63, Tryd.ntmps63
    go_wp2
    go_ret
    exact ⟨by first | rfl | (simp; done) | (simp [*]; done), by repeat (first | exact Drawn0.refl _ | apply Drawn0.step)⟩
  · rw [if_neg c2] at H
    have c2b0 : (a0.toList == ([97, 109, 112] : List UInt8)) = false := beq_eq_false_iff_ne.mpr c2
    have c2b1 : (a0.toList != ([97, 109, 112] : List UInt8)) = true := bne_iff_ne.mpr c2
    by_cases c3 : a0.toList = ([108, 116] : List UInt8)
    · rw [if_pos c3] at H
      have c3b0 : (a0.toList == ([108, 116] : List UInt8)) = true := beq_iff_eq.mpr c3
      have c3b1 : (a0.toList != ([108, 116] : List UInt8)) = false := bne_eq_false_iff_eq.mpr c3
      clear c3
      obtain rfl := Option.some.inj H
      go_enter Tryd.func63, Tryd.ntmps63
      go_wp2
      go_ret
      exact ⟨by first | rfl | (simp; done) | (simp [*]; done), by repeat (first | exact Drawn0.refl _ | apply Drawn0.step)⟩
    · rw [if_neg c3] at H
      have c3b0 : (a0.toList == ([108, 116] : List UInt8)) = false := beq_eq_false_iff_ne.mpr c3
      have c3b1 : (a0.toList != ([108, 116] : List UInt8)) = true := bne_iff_ne.mpr c3
      by_cases c4 : a0.toList = ([103, 116] : List UInt8)
      · rw [if_pos c4] at H
        have c4b0 : (a0.toList == ([103, 116] : List UInt8)) = true := beq_iff_eq.mpr c4
        have c4b1 : (a0.toList != ([103, 116] : List UInt8)) = false := bne_eq_false_iff_eq.mpr c4
        clear c4
        obtain rfl := Option.some.inj H
        go_enter Tryd.func63, Tryd.ntmps63
        go_wp2
        go_ret
        exact ⟨by first | rfl | (simp; done) | (simp [*]; done), by repeat (first | exact Drawn0.refl _ | apply Drawn0.step)⟩
      · rw [if_neg c4] at H
        have c4b0 : (a0.toList == ([103, 116] : List UInt8)) = false := beq_eq_false_iff_ne.mpr c4
        have c4b1 : (a0.toList != ([103, 116] : List UInt8)) = true := bne_iff_ne.mpr c4
        by_cases c5 : a0.toList = ([113, 117, 111, 116] : List UInt8)
        · rw [if_pos c5] at H
          have c5b0 : (a0.toList == ([113, 117, 111, 116] : List UInt8)) = true := beq_iff_eq.mpr c5
          have c5b1 : (a0.toList != ([113, 117, 111, 116] : List UInt8)) = false := bne_eq_false_iff_eq.mpr c5
          clear c5
          obtain rfl := Option.some.inj H
          go_enter Tryd.func63, Tryd.ntmps63
          go_wp2
          go_ret
          exact ⟨by first | rfl | (simp; done) | (simp [*]; done), by repeat (first | exact Drawn0.refl _ | apply Drawn0.step)⟩
        · rw [if_neg c5] at H
          have c5b0 : (a0.toList == ([113, 117, 111, 116] : List UInt8)) = false := beq_eq_false_iff_ne.mpr c5
          have c5b1 : (a0.toList != ([113, 117, 111, 116] : List UInt8)) = true := bne_iff_ne.mpr c5
          by_cases c6 : a0.toList = ([110, 98, 115, 112] : List UInt8)
          · rw [if_pos c6] at H
            have c6b0 : (a0.toList == ([110, 98, 115, 112] : List UInt8)) = true := beq_iff_eq.mpr c6
            have c6b1 : (a0.toList != ([110, 98, 115, 112] : List UInt8)) = false := bne_eq_false_iff_eq.mpr c6
            clear c6
            obtain rfl := Option.some.inj H
            go_enter Tryd.func63, Tryd.ntmps63
            go_wp2
            go_ret
            exact ⟨by first | rfl | (simp; done) | (simp [*]; done), by repeat (first | exact Drawn0.refl _ | apply Drawn0.step)⟩
          · rw [if_neg c6] at H
            have c6b0 : (a0.toList == ([110, 98, 115, 112] : List UInt8)) = false := beq_eq_false_iff_ne.mpr c6
            have c6b1 : (a0.toList != ([110, 98, 115, 112] : List UInt8)) = true := bne_iff_ne.mpr c6
            by_cases c7 : a0.toList = ([99, 111, 112, 121] : List UInt8)
            · rw [if_pos c7] at H
              have c7b0 : (a0.toList == ([99, 111, 112, 121] : List UInt8)) = true := beq_iff_eq.mpr c7
              have c7b1 : (a0.toList != ([99, 111, 112, 121] : List UInt8)) = false := bne_eq_false_iff_eq.mpr c7
              clear c7
              obtain rfl := Option.some.inj H
              go_enter Tryd.func63, Tryd.ntmps63
              go_wp2
              go_ret
              exact ⟨by first | rfl | (simp; done) | (simp [*]; done), by repeat (first | exact Drawn0.refl _ | apply Drawn0.step)⟩
            · rw [if_neg c7] at H
              have c7b0 : (a0.toList == ([99, 111, 112, 121] : List UInt8)) = false := beq_eq_false_iff_ne.mpr c7
              have c7b1 : (a0.toList != ([99, 111, 112, 121] : List UInt8)) = true := bne_iff_ne.mpr c7
              obtain rfl := Option.some.inj H
              go_enter Tryd.func63, Tryd.ntmps63
              go_wp2
              go_ret
              exact ⟨by first | rfl | (simp; done) | (simp [*]; done), by repeat (first | exact Drawn0.refl _ | apply Drawn0.step)⟩
end Go.Proofs.YtckdmjdlmhnamaaDoor.X
end
section
namespace Go.Proofs.YtckdmjdlmhnamaaDoor.X
open Go.RowKit Go.Proofs.YtckdmjdlmhnamaaDoorW.PrintWords Go.Proofs.YtckdmjdlmhnamaaDoorW.PrintLast Go.Proofs.YtckdmjdlmhnamaaDoorW.PrintMore
attribute [local go_sem] max2_int min2_int max_two min_two max_three min_three max_four min_four   -- for this text's walks alone
set_option linter.unusedVariables false
set_option linter.unusedSimpArgs false
def ref_letter.j0 : Nat → ByteArray → Bool → Option (Int × Bool)
  | 0, _, _ => none
  | k + 1, x4, x24 => if x24 = true then ((ref_numbered.f x4 10 7).bind fun bt139 => (some (bt139.1, bt139.2))) else (if 1 ≤ (x4.size : Int) then ((ref_numbered.f (x4.extract 1 x4.size) 16 6).bind fun bt141 => (some (bt141.1, bt141.2))) else (none))
def ref_letter.f (k : Nat) (a0 : ByteArray) : Option (Int × Bool) := (strings_CutPrefix.f a0 (⟨#[35]⟩ : ByteArray)).bind fun bt137 => (if bt137.2 = true then (if bt137.1.toList = ([] : List UInt8) then (ref_letter.j0 k bt137.1 true) else (if 0 < (bt137.1.size : Int) then (if (bt bt137.1 0) = 120 then (ref_letter.j0 k bt137.1 false) else (ref_letter.j0 k bt137.1 ((bt bt137.1 0) != 88))) else (none))) else ((ref_named.f a0).bind fun t143 => (some (t143, (t143 != 0)))))
set_option maxHeartbeats 8000000 in
set_option maxRecDepth 100000 in
theorem ref_letter.calls (k : Nat) (a0 : ByteArray) (r1 : Int) (r2 : Bool) (w : World) (h : ref_letter.f k a0 = some (r1, r2)) :
    Calls Tryd.prog 41 #[.string a0] w fun e w' => e = .returned (.tuple #[.int .i32 r1, .bool r2]) ∧ Drawn0 w w' := by
  have H : ((strings_CutPrefix.f a0 (⟨#[35]⟩ : ByteArray)).bind fun bt137 => (if bt137.2 = true then (if bt137.1.toList = ([] : List UInt8) then (ref_letter.j0 k bt137.1 true) else (if 0 < (bt137.1.size : Int) then (if (bt bt137.1 0) = 120 then (ref_letter.j0 k bt137.1 false) else (ref_letter.j0 k bt137.1 ((bt bt137.1 0) != 88))) else (none))) else ((ref_named.f a0).bind fun t143 => (some (t143, (t143 != 0)))))) = some (r1, r2) := h
  clear h
  replace H := Option.bind_eq_some_iff.mp H
  obtain ⟨⟨t137, t138⟩, A20, H⟩ := H
  replace H : (if t138 = true then (if t137.toList = ([] : List UInt8) then (ref_letter.j0 k t137 true) else (if 0 < (t137.size : Int) then (if (bt t137 0) = 120 then (ref_letter.j0 k t137 false) else (ref_letter.j0 k t137 ((bt t137 0) != 88))) else (none))) else ((ref_named.f a0).bind fun t143 => (some (t143, (t143 != 0))))) = some (r1, r2) := H
  have A2 := Aside0.mk A20
  clear A20
  by_cases c3 : t138 = true
  · subst c3
    have H1 : (if t137.toList = ([] : List UInt8) then (ref_letter.j0 k t137 true) else (if 0 < (t137.size : Int) then (if (bt t137 0) = 120 then (ref_letter.j0 k t137 false) else (ref_letter.j0 k t137 ((bt t137 0) != 88))) else (none))) = some (r1, r2) := by rw [if_pos rfl] at H; exact H
    clear H
    have H := H1
    clear H1
    have HC4 := Aside0.mk H
    clear H
    go_enter Tryd.func41, Tryd.ntmps41
    go_upto_region 3 with (first | ((with_reducible refine gate_callee (f := 61) rfl ?_); refine goesL_ (some 9) rfl rfl Tryd.func61 (by kernel_rfl) rfl #[.string a0, .string (⟨#[35]⟩ : ByteArray)] rfl (by (try simp only [List.map_toArray, List.map_cons, List.map_nil]); first | done | rfl | (simp only [List.length_drop, List.length_take]; rfl)) ?_; (with_reducible refine (strings_CutPrefix.calls a0 (⟨#[35]⟩ : ByteArray) t137 true _ A2.out).mono ?_); rintro e w' ⟨rfl, ⟨nd, rfl⟩⟩; refine ⟨_, rfl, ?_⟩))
    (try simp only [Act.put, List.setIfInBounds_toArray, List.set_cons_zero, List.set_cons_succ])
    go_cut [24] (fun v24 wc => ∃ (kq : Nat) (x24_3 : Bool), v24 = .bool x24_3 ∧ Aside0 (ref_letter.j0 kq t137 x24_3 = some (r1, r2)) ∧ Aside0 (kq ≤ k) ∧ Drawn0 w wc)
    case first =>
      have H := HC4.out
      clear HC4
      by_cases c5 : t137.toList = ([] : List UInt8)
      · rw [if_pos c5] at H
        have c5b0 : (t137.toList == ([] : List UInt8)) = true := beq_iff_eq.mpr c5
        have c5b1 : (t137.toList != ([] : List UInt8)) = false := bne_eq_false_iff_eq.mpr c5
        clear c5
        (first | rw [c5b0] | (simp only [i64_w, i32_w]; rw [c5b0]) | rw [c5b1] | skip)
        have H' := Aside0.mk H
        clear H
        go_wp2
        go_meet
        case rel => exact ⟨_, (true), (by first | rfl | (simp; done) | (simp [*]; done) | (simp [bne]; done)), H', ⟨by first | omega | exact Nat.le_refl _⟩, by repeat (first | exact Drawn0.refl _ | apply Drawn0.step)⟩
      · rw [if_neg c5] at H
        have c5b0 : (t137.toList == ([] : List UInt8)) = false := beq_eq_false_iff_ne.mpr c5
        have c5b1 : (t137.toList != ([] : List UInt8)) = true := bne_iff_ne.mpr c5
        (first | rw [c5b0] | (simp only [i64_w, i32_w]; rw [c5b0]) | rw [c5b1] | skip)
        by_cases c6 : 0 < (t137.size : Int)
        · rw [if_pos c6] at H
          have c6b0 : decide (0 < (t137.size : Int)) = true := decide_eq_true c6
          have c6b1 : decide (0 < t137.size) = true := decide_eq_true (by omega)
          clear c6
          by_cases c8 : (bt t137 0) = 120
          · rw [if_pos c8] at H
            have c8b0 : ((bt t137 0) == 120) = true := beq_iff_eq.mpr c8
            have c8b1 : ((bt t137 0) != 120) = false := bne_eq_false_iff_eq.mpr c8
            clear c8
            have H' := Aside0.mk H
            clear H
            have p7 : 0 ≤ (0 : Int) := (by omega)
            have q7 : 0 < t137.size := (by have : (0 : Int) < (t137.size : Int) := of_decide_eq_true (by first | (with_reducible assumption) | assumption); omega)
            have hx7 : ∀ h : 0 < t137.size, ((t137[0]'h).toNat : Int) = bt t137 0 := bt_at t137 0
            clear p7
            have qi7 : (0 < (t137.size : Int)) = True := eq_true (of_decide_eq_true (by first | (with_reducible assumption) | assumption))
            replace q7 := eq_true q7
            go_wp2
            go_meet
            case rel => exact ⟨_, (false), (by first | rfl | (simp; done) | (simp [*]; done) | (simp [bne]; done)), H', ⟨by first | omega | exact Nat.le_refl _⟩, by repeat (first | exact Drawn0.refl _ | apply Drawn0.step)⟩
          · rw [if_neg c8] at H
            have c8b0 : ((bt t137 0) == 120) = false := beq_eq_false_iff_ne.mpr c8
            have c8b1 : ((bt t137 0) != 120) = true := bne_iff_ne.mpr c8
            have H' := Aside0.mk H
            clear H
            have p7 : 0 ≤ (0 : Int) := (by omega)
            have q7 : 0 < t137.size := (by have : (0 : Int) < (t137.size : Int) := of_decide_eq_true (by first | (with_reducible assumption) | assumption); omega)
            have hx7 : ∀ h : 0 < t137.size, ((t137[0]'h).toNat : Int) = bt t137 0 := bt_at t137 0
            clear p7
            have qi7 : (0 < (t137.size : Int)) = True := eq_true (of_decide_eq_true (by first | (with_reducible assumption) | assumption))
            replace q7 := eq_true q7
            have p9 : 0 ≤ (0 : Int) := (by omega)
            have q9 : 0 < t137.size := (by have : (0 : Int) < (t137.size : Int) := of_decide_eq_true (by first | (with_reducible assumption) | assumption); omega)
            have hx9 : ∀ h : 0 < t137.size, ((t137[0]'h).toNat : Int) = bt t137 0 := bt_at t137 0
            clear p9
            have qi9 : (0 < (t137.size : Int)) = True := eq_true (of_decide_eq_true (by first | (with_reducible assumption) | assumption))
            replace q9 := eq_true q9
            go_wp2
            go_meet
            case rel => exact ⟨_, (((bt t137 0) != 88)), (by first | rfl | (simp; done) | (simp [*]; done) | (simp [bne]; done)), H', ⟨by first | omega | exact Nat.le_refl _⟩, by repeat (first | exact Drawn0.refl _ | apply Drawn0.step)⟩
        · rw [if_neg c6] at H
          exact absurd H (by simp)
    case rest =>
      clear HC4
      try clear p2
      try clear c3
      try clear c4
      try clear c5
      try clear c5b0
      try clear c5b1
      try clear c6
      try clear c6b0
      try clear c6b1
      try clear p7
      try clear q7
      try clear hx7
      try clear qi7
      try clear c8
      try clear c8b0
      try clear c8b1
      try clear p9
      try clear q9
      try clear hx9
      try clear qi9
      try clear p7
      try clear p9
      try clear q7
      try clear q9
      obtain ⟨kq, x24_3, rfl, HA, HJ3, ⟨mc3, rfl⟩⟩ := hcut
      cases kq with
      | zero => exact absurd HA.out (by simp [ref_letter.j0])
      | succ kj3 =>
        have H := HA.out
        clear HA
        simp only [ref_letter.j0] at H
        by_cases c10 : x24_3 = true
        · subst c10
          have H1 : ((ref_numbered.f t137 10 7).bind fun bt139 => (some (bt139.1, bt139.2))) = some (r1, r2) := by rw [if_pos rfl] at H; exact H
          clear H
          have H := H1
          clear H1
          replace H := Option.bind_eq_some_iff.mp H
          obtain ⟨⟨t139, t140⟩, A110, H⟩ := H
          replace H : (some (t139, t140)) = some (r1, r2) := H
          have A11 := Aside0.mk A110
          clear A110
          simp only [Option.some.injEq, Prod.mk.injEq] at H
          obtain ⟨rfl, rfl⟩ := H
          go_wp2_with (first | ((with_reducible refine gate_callee (f := 62) rfl ?_); refine goesL_ (some 26) rfl rfl Tryd.func62 (by kernel_rfl) rfl #[.string t137, .int .i64 10, .int .i64 7] rfl (by (try simp only [List.map_toArray, List.map_cons, List.map_nil]); first | done | rfl | (simp only [List.length_drop, List.length_take]; rfl)) ?_; (with_reducible refine (ref_numbered.calls t137 10 7 t139 t140 _ A11.out).mono ?_); rintro e w' ⟨rfl, ⟨nd, rfl⟩⟩; refine ⟨_, rfl, ?_⟩))
          go_ret2
          exact ⟨by first | rfl | (simp; done) | (simp [*]; done), by repeat (first | exact Drawn0.refl _ | apply Drawn0.step)⟩
        · replace c10 := Bool.eq_false_iff.mpr c10
          subst c10
          have H1 : (if 1 ≤ (t137.size : Int) then ((ref_numbered.f (t137.extract 1 t137.size) 16 6).bind fun bt141 => (some (bt141.1, bt141.2))) else (none)) = some (r1, r2) := by rw [if_neg (show ¬ (false = true) by decide)] at H; exact H
          clear H
          have H := H1
          clear H1
          by_cases c12 : 1 ≤ (t137.size : Int)
          · rw [if_pos c12] at H
            have c12b0 := eq_true c12
            have c12b1 : decide (1 ≤ (t137.size : Int)) = true := decide_eq_true c12
            clear c12
            replace H := Option.bind_eq_some_iff.mp H
            obtain ⟨⟨t141, t142⟩, A130, H⟩ := H
            replace H : (some (t141, t142)) = some (r1, r2) := H
            have A13 := Aside0.mk A130
            clear A130
            simp only [Option.some.injEq, Prod.mk.injEq] at H
            obtain ⟨rfl, rfl⟩ := H
            go_wp2_with (first | ((with_reducible refine gate_callee (f := 62) rfl ?_); refine goesL_ (some 31) rfl rfl Tryd.func62 (by kernel_rfl) rfl #[.string (t137.extract 1 t137.size), .int .i64 16, .int .i64 6] rfl (by (try simp only [List.map_toArray, List.map_cons, List.map_nil]); first | done | rfl | (simp only [List.length_drop, List.length_take]; rfl)) ?_; (with_reducible refine (ref_numbered.calls (t137.extract 1 t137.size) 16 6 t141 t142 _ A13.out).mono ?_); rintro e w' ⟨rfl, ⟨nd, rfl⟩⟩; refine ⟨_, rfl, ?_⟩))
            go_ret2
            exact ⟨by first | rfl | (simp; done) | (simp [*]; done), by repeat (first | exact Drawn0.refl _ | apply Drawn0.step)⟩
          · rw [if_neg c12] at H
            exact absurd H (by simp)
  · replace c3 := Bool.eq_false_iff.mpr c3
    subst c3
    have H1 : ((ref_named.f a0).bind fun t143 => (some (t143, (t143 != 0)))) = some (r1, r2) := by rw [if_neg (show ¬ (false = true) by decide)] at H; exact H
    clear H
    have H := H1
    clear H1
    replace H := Option.bind_eq_some_iff.mp H
    obtain ⟨t143, A140, H⟩ := H
    replace H : (some (t143, (t143 != 0))) = some (r1, r2) := H
    have A14 := Aside0.mk A140
    clear A140
    simp only [Option.some.injEq, Prod.mk.injEq] at H
    obtain ⟨rfl, rfl⟩ := H
    go_enter Tryd.func41, Tryd.ntmps41
    go_wp2_with (first | ((with_reducible refine gate_callee (f := 61) rfl ?_); refine goesL_ (some 9) rfl rfl Tryd.func61 (by kernel_rfl) rfl #[.string a0, .string (⟨#[35]⟩ : ByteArray)] rfl (by (try simp only [List.map_toArray, List.map_cons, List.map_nil]); first | done | rfl | (simp only [List.length_drop, List.length_take]; rfl)) ?_; (with_reducible refine (strings_CutPrefix.calls a0 (⟨#[35]⟩ : ByteArray) t137 false _ A2.out).mono ?_); rintro e w' ⟨rfl, ⟨nd, rfl⟩⟩; refine ⟨_, rfl, ?_⟩) | ((with_reducible refine gate_callee (f := 63) rfl ?_); refine goesL_ (some 35) rfl rfl Tryd.func63 (by kernel_rfl) rfl #[.string a0] rfl (by (try simp only [List.map_toArray, List.map_cons, List.map_nil]); first | done | rfl | (simp only [List.length_drop, List.length_take]; rfl)) ?_; (with_reducible refine (ref_named.calls a0 t143 _ A14.out).mono ?_); rintro e w' ⟨rfl, ⟨nd, rfl⟩⟩; refine ⟨_, rfl, ?_⟩))
    go_ret2
    exact ⟨by first | rfl | (simp; done) | (simp [*]; done), by repeat (first | exact Drawn0.refl _ | apply Drawn0.step)⟩
end Go.Proofs.YtckdmjdlmhnamaaDoor.X
end
section
namespace Go.Proofs.YtckdmjdlmhnamaaDoor.X
open Go.RowKit Go.Proofs.YtckdmjdlmhnamaaDoorW.PrintWords Go.Proofs.YtckdmjdlmhnamaaDoorW.PrintLast Go.Proofs.YtckdmjdlmhnamaaDoorW.PrintMore
attribute [local go_sem] max2_int min2_int max_two min_two max_three min_three max_four min_four   -- for this text's walks alone
set_option linter.unusedVariables false
set_option linter.unusedSimpArgs false
def ref_Unescape.go : Nat → List UInt8 → Option (List UInt8)
  | _, [] => some []
  | 0, _ :: _ => none
  | fuel + 1, c :: l => if c = 38 ∧ 0 < Lib.indexByte (c :: l) 59 then
      ((ref_letter.f 3 ⟨(l.take ((Lib.indexByte (c :: l) 59).toNat - 1)).toArray⟩).bind fun t => if t.2 = true then (if 0 ≤ t.1 ∧ t.1 ≤ 127 then (ref_Unescape.go fuel (l.drop (Lib.indexByte (c :: l) 59).toNat)).map (fun r => t.1.toNat.toUInt8 :: r) else none) else (ref_Unescape.go fuel l).map (fun r => c :: r))
    else (ref_Unescape.go fuel l).map (fun r => c :: r)
def ref_Unescape.f (a0 : ByteArray) : Option ByteArray := if a0.size ≤ 17592186044416 then (ref_Unescape.go a0.size a0.data.toList).map (fun l => ⟨l.toArray⟩) else none
def ref_Unescape.iv : Value → Nat
  | .int _ i => i.toNat
  | _ => 0
set_option maxHeartbeats 4000000 in
set_option maxRecDepth 100000 in
theorem ref_Unescape.calls (a0 : ByteArray) (r : ByteArray) (w : World) (h : ref_Unescape.f a0 = some r) :
    Calls Tryd.prog 23 #[.string a0] w fun e w' => e = .returned (.string r) ∧ Below w.heap.size w w' := by
  obtain ⟨R, hr, rfl, hz⟩ : ∃ R, ref_Unescape.go a0.size a0.data.toList = some R ∧ (⟨R.toArray⟩ : ByteArray) = r ∧ a0.size ≤ 17592186044416 := by
    unfold ref_Unescape.f at h
    split at h
    · obtain ⟨R, h1, h2⟩ := Option.map_eq_some_iff.1 h
      exact ⟨R, h1, h2, by assumption⟩
    · cases h
  have HZ := Aside0.mk hz
  have HR := Aside0.mk hr
  clear h hz hr
  go_enter Tryd.func23, Tryd.ntmps23
  go_wp2
  go_loopw [4] (fun v4 wr => ∃ (i fuel : Nat) (acc rest : List UInt8), v4 = .int .i64 (i : Int) ∧ Aside0 (Bld.IsB w.heap.size w.heap.size (Lib.byteCells acc) wr) ∧ Aside0 (Below w.heap.size w wr) ∧ Aside0 (ref_Unescape.go fuel (a0.data.toList.drop i) = some rest) ∧ Aside0 (acc ++ rest = R) ∧ Aside0 (i ≤ a0.size) ∧ Aside0 (acc.length ≤ i)) (fun v4 wr => a0.size - ref_Unescape.iv v4)
  case atStart =>
    refine ⟨0, a0.size, [], R, rfl, ⟨?_⟩, ⟨?_⟩, HR, ⟨rfl⟩, ⟨by omega⟩, ⟨by simp⟩⟩
    · exact Lib.IsBuilderF.of (Lib.fresh_isBuilder 64 5 w)
    · exact (Below.refl _ w).alloc (Nat.le_refl _) _
  case round =>
    obtain ⟨i, fuel, acc, rest, rfl, HI, HB, HS, HA, HL, HN⟩ := hrel
    have hbs : w.heap.size ≤ wr.heap.size := HB.out.size
    have hlen : a0.data.toList.length = a0.size := Array.length_toList
    by_cases hi : i < a0.size
    · obtain ⟨c, l, hcl⟩ : ∃ c l, a0.data.toList.drop i = c :: l := by
        cases e : a0.data.toList.drop i with
        | nil => have := congrArg List.length e; simp at this; omega
        | cons c l => exact ⟨c, l, rfl⟩
      have hdl : ∀ n, a0.data.toList.drop (i + 1 + n) = l.drop n := by
        intro n
        have : a0.data.toList.drop (i + 1 + n) = ((a0.data.toList.drop i).drop 1).drop n := by rw [List.drop_drop, List.drop_drop, Nat.add_assoc]
        rw [this, hcl]; rfl
      have hll : l.length + i + 1 = a0.size := by
        have := congrArg List.length hcl
        simp at this
        omega
      have hx1 : ∀ h : i < a0.size, ((a0[i]'h).toNat : Int) = (c.toNat : Int) := by
        intro h
        have h2 : i < a0.data.toList.length := by omega
        have h3 : a0.data.toList[i]? = some c := by
          have := congrArg (fun z => z[0]?) hcl
          simpa [List.getElem?_drop] using this
        have h4 := List.getElem?_eq_getElem h2
        rw [h3] at h4
        have h5 : a0[i]'h = c := by
          have := Option.some.inj h4
          rw [this]
          simp
          rfl
        rw [h5]
      have HDL := Aside0.mk hdl
      have HLL := Aside0.mk hll
      have HCL := Aside0.mk hcl
      have c1 : decide ((i : Int) < (a0.size : Int)) = true := decide_eq_true (by omega)
      have p1 : (0 ≤ (i : Int)) = True := eq_true (by omega)
      have q1 : ((i : Int) < (a0.size : Int)) = True := eq_true (by omega)
      have hl1 : (Lib.byteCells acc).length + 1 ≤ 140737488355328 := by rw [Lib.byteCells_length]; have := HZ.out; have := HN.out; omega
      have ew : wrap64 ((i : Int) + 1) = ((i + 1 : Nat) : Int) := by have := HZ.out; unfold wrap64; omega
      clear hcl hdl hll hlen
      have HF : Aside0 ((c.toNat : Int) = 38 ↔ c = 38) := ⟨by
        constructor
        · intro h
          apply UInt8.toNat_inj.1
          have e : (38 : UInt8).toNat = 38 := rfl
          omega
        · rintro rfl; rfl⟩
      obtain ⟨fuel, rfl⟩ : ∃ f, fuel = f + 1 := by
        cases fuel with
        | zero => have := HS.out; rw [HCL.out] at this; simp [ref_Unescape.go] at this
        | succ f => exact ⟨f, rfl⟩
      have hs := HS.out
      rw [HCL.out, ref_Unescape.go] at hs
      clear HS
      have HD1 : Aside0 (a0.data.toList.drop (i + 1) = l) := ⟨by have := HDL.out 0; simpa using this⟩
      by_cases k38 : (c.toNat : Int) = 38
      · have f38 : ((c.toNat : Int) == 38) = true := beq_iff_eq.mpr k38
        have g38 : decide ((c.toNat : Int) = 38) = true := decide_eq_true k38
        have hc := HF.out.1 k38
        subst hc
        obtain ⟨n0, hn0⟩ : ∃ n0, Lib.indexByte (38 :: l) 59 = n0 := ⟨_, rfl⟩
        rw [hn0] at hs
        have hex : (a0.extract i a0.size).data.toList = 38 :: l := by
          rw [ByteArray.data_extract, Array.toList_extract, HCL.out.symm]
          simp only [List.extract]
          rw [List.take_of_length_le (by rw [List.length_drop, Array.length_toList]; exact Nat.le_refl _)]
        have HX : Aside0 (Calls Tryd.prog 40 #[.string (a0.extract i a0.size), .int .u8 59] wr fun e w' => e = .returned (.int .i64 n0) ∧ wr = w') := ⟨(Tryd.strings_IndexByte _ _ _).mono (fun e w' ⟨h1, h2⟩ => ⟨by rw [h1, hex]; exact congrArg (fun z => Ending.returned (.int .i64 z)) hn0, h2.symm⟩)⟩
        clear hex
        by_cases hpos : 0 < n0
        · obtain ⟨m, rfl⟩ : ∃ m : Nat, n0 = (m : Int) := ⟨n0.toNat, by omega⟩
          have hm0 : 1 ≤ m := by omega
          have hml : m ≤ l.length := by
            have := (Lib.indexByte_some hn0).1
            have h2 := (List.getElem?_eq_some_iff.1 this).1
            simp at h2
            omega
          rw [if_pos ⟨rfl, hpos⟩, Int.toNat_natCast] at hs
          obtain ⟨⟨r1, b1⟩, hl2, hs⟩ := Option.bind_eq_some_iff.1 hs
          have hex2 : a0.extract (i + 1) (i + m) = ⟨(l.take (m - 1)).toArray⟩ := by
            apply ByteArray.ext
            rw [ByteArray.data_extract]
            apply Array.toList_inj.1
            rw [Array.toList_extract, ← HD1.out]
            simp only [List.extract]
            congr 1
            omega
          have HL2 : Aside0 (Calls Tryd.prog 41 #[.string (a0.extract (i + 1) (i + m))] wr fun e w' => e = .returned (.tuple #[.int .i32 r1, .bool b1]) ∧ Drawn0 wr w') := ⟨by rw [hex2]; exact ref_letter.calls 3 _ r1 b1 wr hl2⟩
          have hp0 : decide ((0 : Int) < (m : Int)) = true := decide_eq_true (by omega)
          have hp1 : decide (0 < m) = true := decide_eq_true (by omega)
          have b0 : (i : Int) + 1 ≤ (i : Int) + (m : Int) := by omega
          have b1' : (i : Int) + (m : Int) ≤ (a0.size : Int) := by have := HLL.out; omega
          have hz0 : (a0.size : Int) ≤ 17592186044416 := by have := HZ.out; omega
          have HM := Aside0.mk hml
          have HM0 := Aside0.mk hm0
          clear hpos hn0 hl2 hex2 hml hm0
          cases b1 with
          | true =>
            simp only [if_true] at hs
            by_cases hr : 0 ≤ r1 ∧ r1 ≤ 127
            · rw [if_pos hr] at hs
              obtain ⟨rest2, hs2, hs3⟩ := Option.map_eq_some_iff.1 hs
              have HS2 := Aside0.mk hs2
              have HS3 := Aside0.mk hs3
              obtain ⟨hr0, hr1⟩ := hr
              clear hs hs2 hs3
              go_wp2_with (first
                | (go_at_call 40; (with_reducible refine HX.out.mono ?_); rintro e w' ⟨rfl, rfl⟩)
                | (go_at_call 41; (with_reducible refine HL2.out.mono ?_); rintro e w' ⟨rfl, ⟨⟨nd, rfl⟩⟩⟩)
                | (go_at_call 42; refine (Bld.writeRune w.heap.size w.heap.size (Lib.byteCells acc) r1 hr0 hr1 (wr.drewN nd) HI.out hl1 hbs).mono ?_; rintro e w2 ⟨rfl, HI2, HB2, _⟩))
              have HI3 : Bld.IsB w.heap.size w.heap.size (Lib.byteCells (acc ++ [r1.toNat.toUInt8])) w2 := by
                rw [Lib.byteCells_append]
                have e : Lib.byteCells [r1.toNat.toUInt8] = [Value.int .u8 r1] := by
                  simp only [Lib.byteCells, List.map_cons, List.map_nil]
                  congr 2
                  have : r1.toNat.toUInt8.toNat = r1.toNat % 256 := rfl
                  omega
                rw [e]
                exact HI2
              go_roundw
              case rel => exact ⟨i + m + 1, fuel, acc ++ [r1.toNat.toUInt8], rest2, by first | rfl | (congr 1; omega) | simp, ⟨HI3⟩, ⟨(pw_below_drewN HB.out nd).trans HB2⟩, ⟨by rw [show i + m + 1 = i + 1 + m by omega, HDL.out]; exact HS2.out⟩, ⟨by rw [List.append_assoc]; rw [← HA.out, ← HS3.out]; rfl⟩, ⟨by have := HLL.out; have := HM.out; omega⟩, ⟨by have := HN.out; simp; omega⟩⟩
              case measure => have := HLL.out; simp [ref_Unescape.iv]; omega
            · rw [if_neg hr] at hs; cases hs
          | false =>
            simp only [Bool.false_eq_true, if_false] at hs
            obtain ⟨rest2, hs2, hs3⟩ := Option.map_eq_some_iff.1 hs
            have HS2 := Aside0.mk hs2
            have HS3 := Aside0.mk hs3
            clear hs hs2 hs3
            go_wp2_with (first
              | (go_at_call 40; (with_reducible refine HX.out.mono ?_); rintro e w' ⟨rfl, rfl⟩)
              | (go_at_call 41; (with_reducible refine HL2.out.mono ?_); rintro e w' ⟨rfl, ⟨⟨nd, rfl⟩⟩⟩)
              | (go_at_call 38; refine (Bld.writeByte w.heap.size w.heap.size (Lib.byteCells acc) 38 (wr.drewN nd) HI.out hl1 hbs).mono ?_; rintro e w2 ⟨rfl, HI2, HB2, _⟩))
            go_roundw
            case rel => exact ⟨i + 1, fuel, acc ++ [38], rest2, by first | (rw [← ew]; done) | rfl, ⟨by rw [Lib.byteCells_append]; exact HI2⟩, ⟨(pw_below_drewN HB.out nd).trans HB2⟩, ⟨by rw [HD1.out]; exact HS2.out⟩, ⟨by rw [List.append_assoc]; rw [← HA.out, ← HS3.out]; rfl⟩, ⟨by have := HLL.out; omega⟩, ⟨by have := HN.out; simp; omega⟩⟩
            case measure => have := HLL.out; simp only [ref_Unescape.iv, ew]; omega
        · rw [if_neg (fun h => hpos h.2)] at hs
          obtain ⟨rest2, hs2, hs3⟩ := Option.map_eq_some_iff.1 hs
          have HS2 := Aside0.mk hs2
          have HS3 := Aside0.mk hs3
          have hp0 : decide ((0 : Int) < n0) = false := decide_eq_false hpos
          clear hs hs2 hs3 hn0 hpos
          go_wp2_with (first
            | (go_at_call 40; (with_reducible refine HX.out.mono ?_); rintro e w' ⟨rfl, rfl⟩)
            | (go_at_call 38; refine (Bld.writeByte w.heap.size w.heap.size (Lib.byteCells acc) 38 wr HI.out hl1 hbs).mono ?_; rintro e w2 ⟨rfl, HI2, HB2, _⟩))
          go_roundw
          case rel => exact ⟨i + 1, fuel, acc ++ [38], rest2, by first | (rw [← ew]; done) | rfl, ⟨by rw [Lib.byteCells_append]; exact HI2⟩, ⟨HB.out.trans HB2⟩, ⟨by rw [HD1.out]; exact HS2.out⟩, ⟨by rw [List.append_assoc]; rw [← HA.out, ← HS3.out]; rfl⟩, ⟨by have := HLL.out; omega⟩, ⟨by have := HN.out; simp; omega⟩⟩
          case measure => have := HLL.out; simp only [ref_Unescape.iv, ew]; omega
      · have f38 : ((c.toNat : Int) == 38) = false := beq_eq_false_iff_ne.mpr k38
        have g38 : decide ((c.toNat : Int) = 38) = false := decide_eq_false k38
        rw [if_neg (fun h => k38 (HF.out.2 h.1))] at hs
        obtain ⟨rest2, hs2, hs3⟩ := Option.map_eq_some_iff.1 hs
        have HS2 := Aside0.mk hs2
        have HS3 := Aside0.mk hs3
        clear hs hs2 hs3
        go_wp2_with (go_at_call 38; refine (Bld.writeByte w.heap.size w.heap.size (Lib.byteCells acc) (c.toNat : Int) wr HI.out hl1 hbs).mono ?_; rintro e w2 ⟨rfl, HI2, HB2, _⟩)
        go_roundw
        case rel => exact ⟨i + 1, fuel, acc ++ [c], rest2, by first | (rw [← ew]; done) | rfl, ⟨by rw [Lib.byteCells_append]; exact HI2⟩, ⟨HB.out.trans HB2⟩, ⟨by rw [HD1.out]; exact HS2.out⟩, ⟨by rw [List.append_assoc]; rw [← HA.out, ← HS3.out]; rfl⟩, ⟨by have := HLL.out; omega⟩, ⟨by have := HN.out; simp; omega⟩⟩
        case measure => have := HLL.out; simp only [ref_Unescape.iv, ew]; omega
    · have c1 : decide ((i : Int) < (a0.size : Int)) = false := decide_eq_false (by omega)
      have hd : a0.data.toList.drop i = [] := List.drop_eq_nil_of_le (by omega)
      have HE : acc = R := by
        have h1 := HS.out
        rw [hd] at h1
        have h2 : rest = [] := by
          cases fuel with
          | zero => simpa [ref_Unescape.go] using h1.symm
          | succ f => simpa [ref_Unescape.go] using h1.symm
        rw [← HA.out, h2, List.append_nil]
      go_wp2_with (first | (go_at_call 39; refine (Bld.string_of w.heap.size w.heap.size acc _ HI.out hbs).mono ?_; rintro e w2 ⟨rfl, HI2, HB2, _⟩))
      go_ret
      exact ⟨by rw [← HE]; rfl, HB.out.trans HB2⟩
end Go.Proofs.YtckdmjdlmhnamaaDoor.X
end
section
namespace Go.Proofs.YtckdmjdlmhnamaaDoor.X
open Go.RowKit Go.Proofs.YtckdmjdlmhnamaaDoorW.PrintWords Go.Proofs.YtckdmjdlmhnamaaDoorW.PrintLast Go.Proofs.YtckdmjdlmhnamaaDoorW.PrintMore
attribute [local go_sem] max2_int min2_int max_two min_two max_three min_three max_four min_four   -- for this text's walks alone
set_option linter.unusedVariables false
set_option linter.unusedSimpArgs false
def bobbinetkeep_refSure.f  : Option (Bool) := (ref_Escape.f (⟨#[60, 97]⟩ : ByteArray) true).bind fun t180 => (if t180.toList = ([38, 108, 116, 59, 97] : List UInt8) then ((ref_Unescape.f (⟨#[38, 108, 116, 59, 97]⟩ : ByteArray)).bind fun t181 => (some (t181.toList == ([60, 97] : List UInt8)))) else (some false))
set_option maxHeartbeats 8000000 in
set_option maxRecDepth 100000 in
theorem bobbinetkeep_refSure.calls  (r : Bool) (w : World) (h : bobbinetkeep_refSure.f  = some r) :
    Calls Tryd.prog 22 #[] w fun e w' => e = .returned (.bool r) ∧ Below w.heap.size w w' := by
  have HB := Aside0.mk (Below.refl w.heap.size w)
  have H : ((ref_Escape.f (⟨#[60, 97]⟩ : ByteArray) true).bind fun t180 => (if t180.toList = ([38, 108, 116, 59, 97] : List UInt8) then ((ref_Unescape.f (⟨#[38, 108, 116, 59, 97]⟩ : ByteArray)).bind fun t181 => (some (t181.toList == ([60, 97] : List UInt8)))) else (some false))) = some r := h
  clear h
  replace H := Option.bind_eq_some_iff.mp H
  obtain ⟨t180, A10, H⟩ := H
  replace H : (if t180.toList = ([38, 108, 116, 59, 97] : List UInt8) then ((ref_Unescape.f (⟨#[38, 108, 116, 59, 97]⟩ : ByteArray)).bind fun t181 => (some (t181.toList == ([60, 97] : List UInt8)))) else (some false)) = some r := H
  have A1 := Aside0.mk A10
  clear A10
  by_cases c2 : t180.toList = ([38, 108, 116, 59, 97] : List UInt8)
  · rw [if_pos c2] at H
    have c2b0 : (t180.toList == ([38, 108, 116, 59, 97] : List UInt8)) = true := beq_iff_eq.mpr c2
    have c2b1 : (t180.toList != ([38, 108, 116, 59, 97] : List UInt8)) = false := bne_eq_false_iff_eq.mpr c2
    clear c2
    replace H := Option.bind_eq_some_iff.mp H
    obtain ⟨t181, A30, H⟩ := H
    replace H : (some (t181.toList == ([60, 97] : List UInt8))) = some r := H
    have A3 := Aside0.mk A30
    clear A30
    obtain rfl := Option.some.inj H
    go_enter Tryd.func22, Tryd.ntmps22
    go_wp2_with (first | ((with_reducible refine gate_callee (f := 21) rfl ?_); refine goesL_ (some 1) rfl rfl Tryd.func21 (by kernel_rfl) rfl #[.string (⟨#[60, 97]⟩ : ByteArray), .bool true] rfl (by (try simp only [List.map_toArray, List.map_cons, List.map_nil]); first | done | rfl | (simp only [List.length_drop, List.length_take]; rfl)) ?_; (with_reducible refine (ref_Escape.calls (⟨#[60, 97]⟩ : ByteArray) true t180 _ A1.out).mono ?_); rintro e w4 ⟨rfl, hb⟩; refine ⟨_, rfl, ?_⟩; have n0_ := Aside0.mk (below_step (by repeat (first | (with_reducible first | exact HB.out | apply below_alloc | apply pw_below_drewN | apply below_drew1) | exact HB.out)) hb); clear HB; have HB := n0_; clear n0_; (try clear hb); (try clear hb2); (try clear hk); (try clear hi)) | (go_at_call 23; (with_reducible refine (ref_Unescape.calls (⟨#[38, 108, 116, 59, 97]⟩ : ByteArray) t181 _ A3.out).mono ?_); rintro e w5 ⟨rfl, hb⟩; have n0_ := Aside0.mk (below_step (by repeat (first | (with_reducible first | exact HB.out | apply below_alloc | apply pw_below_drewN | apply below_drew1) | exact HB.out)) hb); clear HB; have HB := n0_; clear n0_; (try clear hb); (try clear hb2); (try clear hk); (try clear hi)))
    go_ret
    exact ⟨by first | rfl | (simp [errW_none, errW_some] <;> rfl) | (simp [*, errW_none, errW_some] <;> rfl), by repeat (first | (with_reducible first | exact HB.out | apply below_alloc | apply pw_below_drewN | apply below_drew1) | exact HB.out)⟩
  · rw [if_neg c2] at H
    have c2b0 : (t180.toList == ([38, 108, 116, 59, 97] : List UInt8)) = false := beq_eq_false_iff_ne.mpr c2
    have c2b1 : (t180.toList != ([38, 108, 116, 59, 97] : List UInt8)) = true := bne_iff_ne.mpr c2
    obtain rfl := Option.some.inj H
    go_enter Tryd.func22, Tryd.ntmps22
    go_wp2_with (first | ((with_reducible refine gate_callee (f := 21) rfl ?_); refine goesL_ (some 1) rfl rfl Tryd.func21 (by kernel_rfl) rfl #[.string (⟨#[60, 97]⟩ : ByteArray), .bool true] rfl (by (try simp only [List.map_toArray, List.map_cons, List.map_nil]); first | done | rfl | (simp only [List.length_drop, List.length_take]; rfl)) ?_; (with_reducible refine (ref_Escape.calls (⟨#[60, 97]⟩ : ByteArray) true t180 _ A1.out).mono ?_); rintro e w6 ⟨rfl, hb⟩; refine ⟨_, rfl, ?_⟩; have n0_ := Aside0.mk (below_step (by repeat (first | (with_reducible first | exact HB.out | apply below_alloc | apply pw_below_drewN | apply below_drew1) | exact HB.out)) hb); clear HB; have HB := n0_; clear n0_; (try clear hb); (try clear hb2); (try clear hk); (try clear hi)))
    go_ret
    exact ⟨by first | rfl | (simp [errW_none, errW_some] <;> rfl) | (simp [*, errW_none, errW_some] <;> rfl), by repeat (first | (with_reducible first | exact HB.out | apply below_alloc | apply pw_below_drewN | apply below_drew1) | exact HB.out)⟩
end Go.Proofs.YtckdmjdlmhnamaaDoor.X
end
section
namespace Go.Proofs.YtckdmjdlmhnamaaDoor.X
open Go.RowKit Go.Proofs.YtckdmjdlmhnamaaDoorW.PrintWords Go.Proofs.YtckdmjdlmhnamaaDoorW.PrintLast Go.Proofs.YtckdmjdlmhnamaaDoorW.PrintMore
attribute [local go_sem] max2_int min2_int max_two min_two max_three min_three max_four min_four   -- for this text's walks alone
set_option linter.unusedVariables false
set_option linter.unusedSimpArgs false
def bobbinetkeep_RefTwice.l0 : Nat → ByteArray → ByteArray → ByteArray → Int → Option (Bool)
  | 0, _, _, _, _ => none
  | k + 1, x0, x7, x8, x9 => if x9 < (x0.size : Int) then (if 0 ≤ x9 then (if (bt x0 x9) = 38 then (bobbinetkeep_RefTwice.l0 k x0 x7 x8 (wrap64 (x9 + 1))) else (if x9 ≤ (wrap64 (x9 + 1)) then (if (wrap64 (x9 + 1)) ≤ (x0.size : Int) then (if x8.size + (x0.extract (x9 : Int).toNat ((wrap64 (x9 + 1)) : Int).toNat).size ≤ 9223372036854775807 then (bobbinetkeep_RefTwice.l0 k x0 x7 (x8 ++ (x0.extract (x9 : Int).toNat ((wrap64 (x9 + 1)) : Int).toNat)) (wrap64 (x9 + 1))) else (none)) else (none)) else (none))) else (none)) else ((bobbinetkeep_refSure.f).bind fun t187 => (if t187 = true then ((ref_Unescape.f x7).bind fun t188 => ((ref_Unescape.f t188).bind fun t189 => (if t189.toList = x0.toList then ((ref_Unescape.f x8).bind fun t190 => (some (t190.toList == x8.toList))) else (none)))) else (none)))
def bobbinetkeep_RefTwice.f (k : Nat) (a0 : ByteArray) (a1 : Bool) (a2 : Bool) : Option (Bool) := (ref_Escape.f a0 a1).bind fun t185 => ((ref_Escape.f t185 a2).bind fun t186 => (bobbinetkeep_RefTwice.l0 k a0 t186 (⟨#[]⟩ : ByteArray) 0))
set_option maxHeartbeats 8000000 in
set_option maxRecDepth 100000 in
theorem bobbinetkeep_RefTwice.calls (k : Nat) (a0 : ByteArray) (a1 : Bool) (a2 : Bool) (r : Bool) (w : World) (h : bobbinetkeep_RefTwice.f k a0 a1 a2 = some r) :
    Calls Tryd.prog 12 #[.string a0, .bool a1, .bool a2] w fun e w' => e = .returned (.bool r) ∧ Below w.heap.size w w' := by
  have HB := Aside0.mk (Below.refl w.heap.size w)
  have H : ((ref_Escape.f a0 a1).bind fun t185 => ((ref_Escape.f t185 a2).bind fun t186 => (bobbinetkeep_RefTwice.l0 k a0 t186 (⟨#[]⟩ : ByteArray) 0))) = some r := h
  clear h
  replace H := Option.bind_eq_some_iff.mp H
  obtain ⟨t185, A40, H⟩ := H
  replace H : ((ref_Escape.f t185 a2).bind fun t186 => (bobbinetkeep_RefTwice.l0 k a0 t186 (⟨#[]⟩ : ByteArray) 0)) = some r := H
  have A4 := Aside0.mk A40
  clear A40
  replace H := Option.bind_eq_some_iff.mp H
  obtain ⟨t186, A50, H⟩ := H
  replace H : (bobbinetkeep_RefTwice.l0 k a0 t186 (⟨#[]⟩ : ByteArray) 0) = some r := H
  have A5 := Aside0.mk A50
  clear A50
  have H' := Aside0.mk H
  clear H
  go_enter Tryd.func12, Tryd.ntmps12
  go_wp2_with (first | ((with_reducible refine gate_callee (f := 21) rfl ?_); refine goesL_ (some 12) rfl rfl Tryd.func21 (by kernel_rfl) rfl #[.string a0, .bool a1] rfl (by (try simp only [List.map_toArray, List.map_cons, List.map_nil]); first | done | rfl | (simp only [List.length_drop, List.length_take]; rfl)) ?_; (with_reducible refine (ref_Escape.calls a0 a1 t185 _ A4.out).mono ?_); rintro e w6 ⟨rfl, hb⟩; refine ⟨_, rfl, ?_⟩; have n0_ := Aside0.mk (below_step (by repeat (first | (with_reducible first | exact HB.out | apply below_alloc | apply pw_below_drewN | apply below_drew1) | exact HB.out)) hb); clear HB; have HB := n0_; clear n0_; (try clear hb); (try clear hb2); (try clear hk); (try clear hi)) | ((with_reducible refine gate_callee (f := 21) rfl ?_); refine goesL_ (some 14) rfl rfl Tryd.func21 (by kernel_rfl) rfl #[.string t185, .bool a2] rfl (by (try simp only [List.map_toArray, List.map_cons, List.map_nil]); first | done | rfl | (simp only [List.length_drop, List.length_take]; rfl)) ?_; (with_reducible refine (ref_Escape.calls t185 a2 t186 _ A5.out).mono ?_); rintro e w7 ⟨rfl, hb⟩; refine ⟨_, rfl, ?_⟩; have n0_ := Aside0.mk (below_step (by repeat (first | (with_reducible first | exact HB.out | apply below_alloc | apply pw_below_drewN | apply below_drew1) | exact HB.out)) hb); clear HB; have HB := n0_; clear n0_; (try clear hb); (try clear hb2); (try clear hk); (try clear hi)))
  go_loopg [8, 9] k (fun kq v8 v9 w' => ∃ (x8_1 : ByteArray) (x9_1 : Int), v8 = .string x8_1 ∧ v9 = .int .i64 x9_1 ∧ Aside0 (bobbinetkeep_RefTwice.l0 kq a0 t186 x8_1 x9_1 = some r) ∧ Aside0 (kq ≤ k) ∧ Aside0 (Below w.heap.size w w'))
  case atStart => exact ⟨((⟨#[]⟩ : ByteArray)), (0), (by first | rfl | (simp; done) | (simp [*]; done) | (simp [bne]; done)), (by first | rfl | (simp; done) | (simp [*]; done) | (simp [bne]; done)), H', ⟨Nat.le_refl _⟩, ⟨by repeat (first | (with_reducible first | exact HB.out | apply below_alloc | apply pw_below_drewN | apply below_drew1) | exact HB.out)⟩⟩
  case round =>
    clear H'
    try clear c1
    try clear c2
    try clear p2
    obtain ⟨x8_1, x9_1, rfl, rfl, HA, HK1, HB⟩ := hrel
    cases gk with
    | zero => exact absurd HA.out (by simp [bobbinetkeep_RefTwice.l0])
    | succ k1 =>
      have H := HA.out
      clear HA
      simp only [bobbinetkeep_RefTwice.l0] at H
      by_cases c8 : x9_1 < (a0.size : Int)
      · rw [if_pos c8] at H
        have c8b0 : decide (x9_1 < (a0.size : Int)) = true := decide_eq_true c8
        clear c8
        by_cases c9 : 0 ≤ x9_1
        · rw [if_pos c9] at H
          have c9b0 : decide (0 ≤ x9_1) = true := decide_eq_true c9
          clear c9
          by_cases c11 : (bt a0 x9_1) = 38
          · rw [if_pos c11] at H
            have c11b0 : ((bt a0 x9_1) == 38) = true := beq_iff_eq.mpr c11
            have c11b1 : ((bt a0 x9_1) != 38) = false := bne_eq_false_iff_eq.mpr c11
            clear c11
            have H' := Aside0.mk H
            clear H
            have p10 : 0 ≤ (x9_1 : Int) := of_decide_eq_true (by first | (with_reducible assumption) | assumption)
            have q10 : x9_1 < (a0.size : Int) := of_decide_eq_true (by first | (with_reducible assumption) | assumption)
            have hx10 := bt_at a0 x9_1
            replace p10 := eq_true p10
            replace q10 := eq_true q10
            go_wp2
            go_roundg k1
            case measure => have := HK1.out; omega
            case rel => exact ⟨(x8_1), (wrap64 (x9_1 + 1)), (by first | rfl | (simp; done) | (simp [*]; done) | (simp [bne]; done)), (by first | rfl | (simp; done) | (simp [*]; done) | (simp [bne]; done)), H', ⟨by have := HK1.out; omega⟩, ⟨by repeat (first | (with_reducible first | exact HB.out | apply below_alloc | apply pw_below_drewN | apply below_drew1) | exact HB.out)⟩⟩
          · rw [if_neg c11] at H
            have c11b0 : ((bt a0 x9_1) == 38) = false := beq_eq_false_iff_ne.mpr c11
            have c11b1 : ((bt a0 x9_1) != 38) = true := bne_iff_ne.mpr c11
            have c12b0 := eq_true (of_decide_eq_true (by first | (with_reducible assumption) | assumption) : 0 ≤ x9_1)
            by_cases c13 : x9_1 ≤ (wrap64 (x9_1 + 1))
            · rw [if_pos c13] at H
              have c13b0 := eq_true c13
              have c13b1 : decide (x9_1 ≤ (wrap64 (x9_1 + 1))) = true := decide_eq_true c13
              by_cases c14 : (wrap64 (x9_1 + 1)) ≤ (a0.size : Int)
              · rw [if_pos c14] at H
                have c14b0 := eq_true c14
                have c14b1 : decide ((wrap64 (x9_1 + 1)) ≤ (a0.size : Int)) = true := decide_eq_true c14
                by_cases c15 : x8_1.size + (a0.extract (x9_1 : Int).toNat ((wrap64 (x9_1 + 1)) : Int).toNat).size ≤ 9223372036854775807
                · rw [if_pos c15] at H
                  have c15b0 := eq_true c15
                  have c15b1 : decide (x8_1.size + (a0.extract (x9_1 : Int).toNat ((wrap64 (x9_1 + 1)) : Int).toNat).size ≤ 9223372036854775807) = true := decide_eq_true c15
                  try have c15b2 : (9223372036854775807 < x8_1.size + (a0.extract (x9_1 : Int).toNat ((wrap64 (x9_1 + 1)) : Int).toNat).size) = False := eq_false (Nat.not_lt.2 c15)
                  have H' := Aside0.mk H
                  clear H
                  have p10 : 0 ≤ (x9_1 : Int) := of_decide_eq_true (by first | (with_reducible assumption) | assumption)
                  have q10 : x9_1 < (a0.size : Int) := of_decide_eq_true (by first | (with_reducible assumption) | assumption)
                  have hx10 := bt_at a0 x9_1
                  replace p10 := eq_true p10
                  replace q10 := eq_true q10
                  go_wp2
                  go_roundg k1
                  case measure => have := HK1.out; omega
                  case rel => exact ⟨(x8_1 ++ (a0.extract (x9_1 : Int).toNat ((wrap64 (x9_1 + 1)) : Int).toNat)), (wrap64 (x9_1 + 1)), (by first | rfl | (simp; done) | (simp [*]; done) | (simp [bne]; done)), (by first | rfl | (simp; done) | (simp [*]; done) | (simp [bne]; done)), H', ⟨by have := HK1.out; omega⟩, ⟨by repeat (first | (with_reducible first | exact HB.out | apply below_alloc | apply pw_below_drewN | apply below_drew1) | exact HB.out)⟩⟩
                · rw [if_neg c15] at H
                  exact absurd H (by simp)
              · rw [if_neg c14] at H
                exact absurd H (by simp)
            · rw [if_neg c13] at H
              exact absurd H (by simp)
        · rw [if_neg c9] at H
          exact absurd H (by simp)
      · rw [if_neg c8] at H
        have c8b0 : decide (x9_1 < (a0.size : Int)) = false := decide_eq_false c8
        clear c8
        replace H := Option.bind_eq_some_iff.mp H
        obtain ⟨t187, A160, H⟩ := H
        replace H : (if t187 = true then ((ref_Unescape.f t186).bind fun t188 => ((ref_Unescape.f t188).bind fun t189 => (if t189.toList = a0.toList then ((ref_Unescape.f x8_1).bind fun t190 => (some (t190.toList == x8_1.toList))) else (none)))) else (none)) = some r := H
        have A16 := Aside0.mk A160
        clear A160
        by_cases c17 : t187 = true
        · subst c17
          have H1 : ((ref_Unescape.f t186).bind fun t188 => ((ref_Unescape.f t188).bind fun t189 => (if t189.toList = a0.toList then ((ref_Unescape.f x8_1).bind fun t190 => (some (t190.toList == x8_1.toList))) else (none)))) = some r := by rw [if_pos rfl] at H; exact H
          clear H
          have H := H1
          clear H1
          replace H := Option.bind_eq_some_iff.mp H
          obtain ⟨t188, A180, H⟩ := H
          replace H : ((ref_Unescape.f t188).bind fun t189 => (if t189.toList = a0.toList then ((ref_Unescape.f x8_1).bind fun t190 => (some (t190.toList == x8_1.toList))) else (none))) = some r := H
          have A18 := Aside0.mk A180
          clear A180
          replace H := Option.bind_eq_some_iff.mp H
          obtain ⟨t189, A190, H⟩ := H
          replace H : (if t189.toList = a0.toList then ((ref_Unescape.f x8_1).bind fun t190 => (some (t190.toList == x8_1.toList))) else (none)) = some r := H
          have A19 := Aside0.mk A190
          clear A190
          by_cases c20 : t189.toList = a0.toList
          · rw [if_pos c20] at H
            have c20b0 : (t189.toList == a0.toList) = true := beq_iff_eq.mpr c20
            have c20b1 : (t189.toList != a0.toList) = false := bne_eq_false_iff_eq.mpr c20
            clear c20
            replace H := Option.bind_eq_some_iff.mp H
            obtain ⟨t190, A210, H⟩ := H
            replace H : (some (t190.toList == x8_1.toList)) = some r := H
            have A21 := Aside0.mk A210
            clear A210
            obtain rfl := Option.some.inj H
            go_wp2_with (first | ((with_reducible refine gate_callee (f := 22) rfl ?_); refine goesL_ (some 32) rfl rfl Tryd.func22 (by kernel_rfl) rfl #[] rfl (by (try simp only [List.map_toArray, List.map_cons, List.map_nil]); first | done | rfl | (simp only [List.length_drop, List.length_take]; rfl)) ?_; (with_reducible refine (bobbinetkeep_refSure.calls  true _ A16.out).mono ?_); rintro e w22 ⟨rfl, hb⟩; refine ⟨_, rfl, ?_⟩; have n0_ := Aside0.mk (below_step (by repeat (first | (with_reducible first | exact HB.out | apply below_alloc | apply pw_below_drewN | apply below_drew1) | exact HB.out)) hb); clear HB; have HB := n0_; clear n0_; (try clear hb); (try clear hb2); (try clear hk); (try clear hi)) | (go_at_call 23; (with_reducible refine (ref_Unescape.calls t186 t188 _ A18.out).mono ?_); rintro e w23 ⟨rfl, hb⟩; have n0_ := Aside0.mk (below_step (by repeat (first | (with_reducible first | exact HB.out | apply below_alloc | apply pw_below_drewN | apply below_drew1) | exact HB.out)) hb); clear HB; have HB := n0_; clear n0_; (try clear hb); (try clear hb2); (try clear hk); (try clear hi)) | (go_at_call 23; (with_reducible refine (ref_Unescape.calls t188 t189 _ A19.out).mono ?_); rintro e w24 ⟨rfl, hb⟩; have n0_ := Aside0.mk (below_step (by repeat (first | (with_reducible first | exact HB.out | apply below_alloc | apply pw_below_drewN | apply below_drew1) | exact HB.out)) hb); clear HB; have HB := n0_; clear n0_; (try clear hb); (try clear hb2); (try clear hk); (try clear hi)) | (go_at_call 23; (with_reducible refine (ref_Unescape.calls x8_1 t190 _ A21.out).mono ?_); rintro e w25 ⟨rfl, hb⟩; have n0_ := Aside0.mk (below_step (by repeat (first | (with_reducible first | exact HB.out | apply below_alloc | apply pw_below_drewN | apply below_drew1) | exact HB.out)) hb); clear HB; have HB := n0_; clear n0_; (try clear hb); (try clear hb2); (try clear hk); (try clear hi)))
            go_ret
            exact ⟨by first | rfl | (simp [errW_none, errW_some] <;> rfl) | (simp [*, errW_none, errW_some] <;> rfl), by repeat (first | (with_reducible first | exact HB.out | apply below_alloc | apply pw_below_drewN | apply below_drew1) | exact HB.out)⟩
          · rw [if_neg c20] at H
            exact absurd H (by simp)
        · replace c17 := Bool.eq_false_iff.mpr c17
          subst c17
          have H1 : (none) = some r := by rw [if_neg (show ¬ (false = true) by decide)] at H; exact H
          clear H
          have H := H1
          clear H1
          exact absurd H (by simp)
/-- THE ONE PURE STATEMENT of bobbinetkeep_RefTwice: yours. -/
def bobbinetkeep_RefTwice.Pure : Prop := ∀ (a0 : ByteArray) (a1 : Bool) (a2 : Bool), a0.size ≤ 1048576 → ∃ k, bobbinetkeep_RefTwice.f k a0 a1 a2 = some true
theorem bobbinetkeep_RefTwice.walk (P : bobbinetkeep_RefTwice.Pure) (a0 : ByteArray) (a1 : Bool) (a2 : Bool) (w : World) (w0 : a0.size ≤ 1048576) :
    Calls Tryd.prog 12 #[.string a0, .bool a1, .bool a2] w fun e w' => e = .returned (.bool true) ∧ Below w.heap.size w w' := by
  obtain ⟨k, h⟩ := P a0 a1 a2 w0
  refine (bobbinetkeep_RefTwice.calls k a0 a1 a2 true w h).mono ?_
  rintro e w' ⟨rfl, hd⟩
  exact ⟨rfl, hd⟩
end Go.Proofs.YtckdmjdlmhnamaaDoor.X
end
section
namespace Go.Proofs.YtckdmjdlmhnamaaDoor.Base
open Go.RowKit Go.Proofs.YtckdmjdlmhnamaaDoorW.PrintWords
theorem toList_loop (s : ByteArray) : ∀ (n i : Nat) (r : List UInt8), s.size - i = n → ByteArray.toList.loop s i r = r.reverse ++ s.data.toList.drop i
  | 0, i, r, h => by
    unfold ByteArray.toList.loop
    have h1 : s.data.toList.drop i = [] := List.drop_eq_nil_of_le (by rw [Array.length_toList]; show s.size ≤ i; omega)
    rw [if_neg (by omega), h1, List.append_nil]
  | n + 1, i, r, h => by
    unfold ByteArray.toList.loop
    have hi : i < s.size := by omega
    have hl : i < s.data.toList.length := by rw [Array.length_toList]; exact hi
    have hg : s.get! i = s.data.toList[i] := by
      obtain ⟨d⟩ := s
      show d[i]! = _
      rw [getElem!_pos d i hi]
      simp
    rw [if_pos hi, toList_loop s n (i + 1) _ (by omega), hg, List.drop_eq_getElem_cons hl, List.reverse_cons, List.append_assoc]
    rfl
theorem toList_eq (s : ByteArray) : s.toList = s.data.toList := by
  unfold ByteArray.toList
  rw [toList_loop s _ 0 [] rfl]
  rfl
theorem toList_inj {s t : ByteArray} : s.toList = t.toList ↔ s = t := by
  rw [toList_eq, toList_eq]
  constructor
  · intro h
    exact ByteArray.ext (Array.toList_inj.1 h)
  · rintro rfl; rfl
theorem Ev.ite_pos {α : Type} {c : Prop} [Decidable c] {g f : Nat → Option α} {r : α} (h : c) (k : Ev g r) : Ev (fun n => if c then g n else f n) r := by
  simpa only [if_pos h] using k
theorem Ev.ite_neg {α : Type} {c : Prop} [Decidable c] {g f : Nat → Option α} {r : α} (h : ¬ c) (k : Ev f r) : Ev (fun n => if c then g n else f n) r := by
  simpa only [if_neg h] using k
theorem Ev.some {α : Type} (r : α) : Ev (fun _ => Option.some r) r := ⟨0, fun _ _ => rfl⟩
/-- one round: what is told of k + 1 rounds -/
theorem Ev.one {α : Type} {g f : Nat → Option α} {r : α} (h : ∀ k, g (k + 1) = f k) (k : Ev f r) : Ev g r := by
  obtain ⟨K, hK⟩ := k
  refine ⟨K + 1, fun k hk => ?_⟩
  obtain ⟨m, rfl⟩ : ∃ m, k = m + 1 := ⟨k - 1, by omega⟩
  rw [h m]
  exact hK m (by omega)
theorem Ev.bnd0 {α β : Type} {g : Option α} {f : Nat → α → Option β} {a : α} {r : β} (h : g = Option.some a) (k : Ev (fun n => f n a) r) : Ev (fun n => g.bind (f n)) r := by
  subst h
  exact k
theorem wrap_succ {i : Nat} {n : Nat} (h : i < n) (hn : n ≤ 9223372036854775807) : wrap64 ((i : Int) + 1) = ((i + 1 : Nat) : Int) := by unfold wrap64; omega
end Go.Proofs.YtckdmjdlmhnamaaDoor.Base
end
section
namespace Go.Proofs.YtckdmjdlmhnamaaDoor.RefX
open Go.RowKit Go.Proofs.YtckdmjdlmhnamaaDoor.X Go.Proofs.YtckdmjdlmhnamaaDoorW.PrintWords Go.Proofs.YtckdmjdlmhnamaaDoorW.PrintLast Go.Proofs.YtckdmjdlmhnamaaDoor.Base
theorem Ev.succ {α : Type} {g : Nat → Option α} {r : α} (h : Ev (fun k => g (k + 1)) r) : Ev g r := Ev.one (f := fun k => g (k + 1)) (fun _ => rfl) h
theorem letter_amp : ref_letter.f 3 (⟨#[97, 109, 112]⟩ : ByteArray) = some (38, true) := by decide +kernel
theorem letter_lt : ref_letter.f 3 (⟨#[108, 116]⟩ : ByteArray) = some (60, true) := by decide +kernel
theorem letter_gt : ref_letter.f 3 (⟨#[103, 116]⟩ : ByteArray) = some (62, true) := by decide +kernel
theorem letter_quot : ref_letter.f 3 (⟨#[113, 117, 111, 116]⟩ : ByteArray) = some (34, true) := by decide +kernel
theorem idx4 (l : List UInt8) : Lib.indexByte (38 :: 97 :: 109 :: 112 :: 59 :: l) 59 = 4 := by simp [Lib.indexByte]
theorem idxlt (l : List UInt8) : Lib.indexByte (38 :: 108 :: 116 :: 59 :: l) 59 = 3 := by simp [Lib.indexByte]
theorem idxgt (l : List UInt8) : Lib.indexByte (38 :: 103 :: 116 :: 59 :: l) 59 = 3 := by simp [Lib.indexByte]
theorem idxquot (l : List UInt8) : Lib.indexByte (38 :: 113 :: 117 :: 111 :: 116 :: 59 :: l) 59 = 5 := by simp [Lib.indexByte]
theorem un_amp (f : Nat) (l : List UInt8) : ref_Unescape.go (f + 1) (38 :: 97 :: 109 :: 112 :: 59 :: l) = (ref_Unescape.go f l).map (fun r => 38 :: r) := by
  rw [ref_Unescape.go, idx4, if_pos ⟨rfl, by decide⟩]
  show (ref_letter.f 3 (⟨#[97, 109, 112]⟩ : ByteArray)).bind _ = _
  rw [letter_amp]
  rfl
theorem un_lt (f : Nat) (l : List UInt8) : ref_Unescape.go (f + 1) (38 :: 108 :: 116 :: 59 :: l) = (ref_Unescape.go f l).map (fun r => 60 :: r) := by
  rw [ref_Unescape.go, idxlt, if_pos ⟨rfl, by decide⟩]
  show (ref_letter.f 3 (⟨#[108, 116]⟩ : ByteArray)).bind _ = _
  rw [letter_lt]
  rfl
theorem un_gt (f : Nat) (l : List UInt8) : ref_Unescape.go (f + 1) (38 :: 103 :: 116 :: 59 :: l) = (ref_Unescape.go f l).map (fun r => 62 :: r) := by
  rw [ref_Unescape.go, idxgt, if_pos ⟨rfl, by decide⟩]
  show (ref_letter.f 3 (⟨#[103, 116]⟩ : ByteArray)).bind _ = _
  rw [letter_gt]
  rfl
theorem un_quot (f : Nat) (l : List UInt8) : ref_Unescape.go (f + 1) (38 :: 113 :: 117 :: 111 :: 116 :: 59 :: l) = (ref_Unescape.go f l).map (fun r => 34 :: r) := by
  rw [ref_Unescape.go, idxquot, if_pos ⟨rfl, by decide⟩]
  show (ref_letter.f 3 (⟨#[113, 117, 111, 116]⟩ : ByteArray)).bind _ = _
  rw [letter_quot]
  rfl
theorem un_other (f : Nat) (c : UInt8) (l : List UInt8) (h : c ≠ 38) : ref_Unescape.go (f + 1) (c :: l) = (ref_Unescape.go f l).map (fun r => c :: r) := by
  rw [ref_Unescape.go, if_neg (fun k => h k.1)]
theorem esc_cons (c : UInt8) (l : List UInt8) (q : Bool) : ref_Escape.go (c :: l) q = ref_Escape.esc q c ++ ref_Escape.go l q := by simp [ref_Escape.go]
/-- what is escaped comes back, and what stands behind it is read by itself -/
theorem back_app (q : Bool) (s : List UInt8) : ∀ (l rest : List UInt8) (f : Nat), ref_Unescape.go f rest = some s → ref_Unescape.go (f + l.length) (ref_Escape.go l q ++ rest) = some (l ++ s)
  | [], rest, f, h => by simpa [ref_Escape.go] using h
  | c :: l, rest, f, h => by
    have ih := back_app q s l rest f h
    rw [esc_cons, List.append_assoc, List.length_cons, ← Nat.add_assoc]
    unfold ref_Escape.esc
    by_cases h1 : c = 38
    · subst h1
      rw [if_pos rfl]
      exact (un_amp _ _).trans (congrArg (Option.map (fun r => 38 :: r)) ih)
    · rw [if_neg h1]
      by_cases h2 : c = 60
      · subst h2
        rw [if_pos rfl]
        exact (un_lt _ _).trans (congrArg (Option.map (fun r => 60 :: r)) ih)
      · rw [if_neg h2]
        by_cases h3 : c = 62
        · subst h3
          rw [if_pos rfl]
          exact (un_gt _ _).trans (congrArg (Option.map (fun r => 62 :: r)) ih)
        · rw [if_neg h3]
          by_cases h4 : c = 34 ∧ q = true
          · obtain ⟨rfl, rfl⟩ := h4
            rw [if_pos ⟨rfl, rfl⟩]
            exact (un_quot _ _).trans (congrArg (Option.map (fun r => 34 :: r)) ih)
          · rw [if_neg h4]
            exact (un_other _ c _ h1).trans (congrArg (Option.map (fun r => c :: r)) ih)
theorem un_more : ∀ (f : Nat) (l s : List UInt8), ref_Unescape.go f l = some s → ref_Unescape.go (f + 1) l = some s
  | f, [], s, h => by cases f <;> simpa [ref_Unescape.go] using h
  | 0, c :: l, s, h => by simp [ref_Unescape.go] at h
  | f + 1, c :: l, s, h => by
    rw [ref_Unescape.go] at h ⊢
    split at h
    · rename_i hc
      rw [if_pos hc]
      obtain ⟨t, h1, h2⟩ := Option.bind_eq_some_iff.1 h
      rw [h1]
      show (if t.2 = true then _ else _) = _
      split at h2
      · rename_i ht
        rw [if_pos ht]
        split at h2
        · rename_i hr
          rw [if_pos hr]
          obtain ⟨r, h3, h4⟩ := Option.map_eq_some_iff.1 h2
          rw [un_more f _ r h3, Option.map_some, h4]
        · cases h2
      · rename_i ht
        rw [if_neg ht]
        obtain ⟨r, h3, h4⟩ := Option.map_eq_some_iff.1 h2
        rw [un_more f _ r h3, Option.map_some, h4]
    · rename_i hc
      rw [if_neg hc]
      obtain ⟨r, h3, h4⟩ := Option.map_eq_some_iff.1 h
      rw [un_more f _ r h3, Option.map_some, h4]
theorem un_le (l s : List UInt8) (f : Nat) (h : ref_Unescape.go f l = some s) : ∀ d, ref_Unescape.go (f + d) l = some s
  | 0 => h
  | d + 1 => un_more _ _ _ (un_le l s f h d)
theorem esc_ge (q : Bool) (l : List UInt8) : l.length ≤ (ref_Escape.go l q).length := by
  induction l with
  | nil => simp
  | cons c l ih =>
    rw [esc_cons, List.length_append, List.length_cons]
    have : 1 ≤ (ref_Escape.esc q c).length := by
      unfold ref_Escape.esc
      repeat' split
      all_goals simp
    omega
theorem esc_le (q : Bool) (l : List UInt8) : (ref_Escape.go l q).length ≤ 6 * l.length := by
  induction l with
  | nil => simp [ref_Escape.go]
  | cons c l ih =>
    rw [esc_cons, List.length_append, List.length_cons]
    have := ref_Escape.esc_len q c
    omega
theorem back (q : Bool) (l : List UInt8) : ref_Unescape.go (ref_Escape.go l q).length (ref_Escape.go l q) = some l := by
  have h := back_app q [] l [] 0 rfl
  rw [List.append_nil, List.append_nil, Nat.zero_add] at h
  have h2 := un_le _ _ _ h ((ref_Escape.go l q).length - l.length)
  have h3 := esc_ge q l
  rwa [show l.length + ((ref_Escape.go l q).length - l.length) = (ref_Escape.go l q).length by omega] at h2
theorem plain (l : List UInt8) (h : ∀ c ∈ l, c ≠ 38) : ref_Unescape.go l.length l = some l := by
  induction l with
  | nil => rfl
  | cons c l ih =>
    rw [List.length_cons, un_other _ _ _ (h c List.mem_cons_self), ih (fun d hd => h d (List.mem_cons_of_mem _ hd))]
    rfl
theorem esc_f (s : ByteArray) (q : Bool) (hs : s.size ≤ 17592186044416) : ref_Escape.f s q = some ⟨(ref_Escape.go s.data.toList q).toArray⟩ := if_pos hs
theorem back_f (s : ByteArray) (q : Bool) (hs : s.size ≤ 2199023255552) : ref_Unescape.f (⟨(ref_Escape.go s.data.toList q).toArray⟩ : ByteArray) = some s := by
  have h1 := esc_le q s.data.toList
  rw [Array.length_toList] at h1
  have h1 : (ref_Escape.go s.data.toList q).length ≤ 6 * s.size := h1
  unfold ref_Unescape.f
  have e : (⟨(ref_Escape.go s.data.toList q).toArray⟩ : ByteArray).size = (ref_Escape.go s.data.toList q).length := List.size_toArray
  rw [if_pos (by omega), e]
  show (ref_Unescape.go _ (ref_Escape.go s.data.toList q)).map _ = _
  rw [back]
  rfl
theorem sure : bobbinetkeep_refSure.f = some true := by decide +kernel
end Go.Proofs.YtckdmjdlmhnamaaDoor.RefX
end
section
namespace Go.Proofs.YtckdmjdlmhnamaaDoor.Pure
open Go.RowKit Go.Proofs.YtckdmjdlmhnamaaDoor.X Go.Proofs.YtckdmjdlmhnamaaDoorW.PrintWords Go.Proofs.YtckdmjdlmhnamaaDoorW.PrintLast Go.Proofs.YtckdmjdlmhnamaaDoor.Base Go.Proofs.YtckdmjdlmhnamaaDoor.RefX
theorem plain_f (s : ByteArray) (hs : s.size ≤ 17592186044416) (h : ∀ c ∈ s.data.toList, c ≠ 38) : ref_Unescape.f s = some s := by
  unfold ref_Unescape.f
  rw [if_pos hs]
  have e : s.size = s.data.toList.length := by rw [Array.length_toList]; rfl
  rw [e, plain _ h]
  rfl
theorem bt_data (s : ByteArray) (i : Nat) (hi : i < s.size) : ∃ c, s.data.toList[i]? = some c ∧ bt s (i : Int) = (c.toNat : Int) := by
  have h2 : i < s.data.toList.length := by rw [Array.length_toList]; exact hi
  refine ⟨s.data.toList[i], List.getElem?_eq_getElem h2, ?_⟩
  have := (bt_at s (i : Int) (by simpa using hi)).symm
  rw [this]
  simp
  rfl
theorem one_data (s : ByteArray) (i : Nat) (c : UInt8) (hc : s.data.toList[i]? = some c) : (s.extract i (i + 1)).data.toList = [c] := by
  obtain ⟨h, e⟩ := List.getElem?_eq_some_iff.1 hc
  rw [ByteArray.data_extract, Array.toList_extract]
  simp only [List.extract]
  rw [List.drop_eq_getElem_cons h, e]
  have : i + 1 - i = 1 := by omega
  rw [this]
  rfl
theorem refTwice_loop (s t u : ByteArray) (hs : s.size ≤ 1048576) (h1 : ref_Unescape.f t = some u) (h2 : ref_Unescape.f u = some s) : ∀ (d i : Nat) (p : ByteArray), i + d = s.size → p.size ≤ i → (∀ c ∈ p.data.toList, c ≠ 38) → Ev (fun k => bobbinetkeep_RefTwice.l0 k s t p (i : Int)) true
  | 0, i, p, h, hp, hn => by
    refine Ev.succ ?_
    simp only [bobbinetkeep_RefTwice.l0]
    refine Ev.ite_neg (by omega) (Ev.bnd0 sure (Ev.ite_pos rfl (Ev.bnd0 h1 (Ev.bnd0 h2 (Ev.ite_pos rfl (Ev.bnd0 (plain_f p (by omega) hn) ?_))))))
    simp only [beq_self_eq_true]
    exact Ev.now _
  | d + 1, i, p, h, hp, hn => by
    obtain ⟨c, hc, hb⟩ := bt_data s i (by omega)
    have hw : wrap64 ((i : Int) + 1) = ((i + 1 : Nat) : Int) := wrap_succ (n := i + 1) (by omega) (by omega)
    refine Ev.succ ?_
    simp only [bobbinetkeep_RefTwice.l0, hb, hw, Int.toNat_natCast]
    refine Ev.ite_pos (by omega) (Ev.ite_pos (by omega) ?_)
    by_cases k : (c.toNat : Int) = 38
    · exact Ev.ite_pos k (refTwice_loop s t u hs h1 h2 d (i + 1) p (by omega) (by omega) hn)
    · have ho := one_data s i c hc
      have hz : (s.extract i (i + 1)).size = 1 := by
        have := congrArg List.length ho
        rw [Array.length_toList] at this
        exact this
      have ih := refTwice_loop s t u hs h1 h2 d (i + 1) (p ++ s.extract i (i + 1)) (by omega) (by rw [ByteArray.size_append]; omega) (by
        intro x hx
        rw [ByteArray.data_append, Array.toList_append, ho] at hx
        rcases List.mem_append.1 hx with hx | hx
        · exact hn x hx
        · obtain rfl := List.mem_singleton.1 hx
          rintro rfl
          exact k rfl)
      exact Ev.ite_neg k (Ev.ite_pos (by omega) (Ev.ite_pos (by omega) (Ev.ite_pos (by omega) ih)))
theorem RefTwice : bobbinetkeep_RefTwice.Pure := by
  intro s a b hs
  have h1 := esc_le a s.data.toList
  rw [Array.length_toList] at h1
  have h1 : (ref_Escape.go s.data.toList a).length ≤ 6 * s.size := h1
  have e : (⟨(ref_Escape.go s.data.toList a).toArray⟩ : ByteArray).size = (ref_Escape.go s.data.toList a).length := List.size_toArray
  refine Ev.rounds ?_
  simp only [bobbinetkeep_RefTwice.f]
  refine Ev.bnd0 (esc_f s a (by omega)) (Ev.bnd0 (esc_f _ b (by omega)) ?_)
  exact refTwice_loop s _ _ hs (back_f _ b (by omega)) (back_f s a (by omega)) s.size 0 (⟨#[]⟩ : ByteArray) (Nat.zero_add _) (Nat.le_refl _) (by simp)
end Go.Proofs.YtckdmjdlmhnamaaDoor.Pure
end
