-- Written by xprint.py (a program of this repo) for seat Ythimfdojpgbmbaa.
import Derived.Test.YthimfdojpgbmbaaX0
import Derived.Test.YthimfdojpgbmbaaX6
namespace Go.Proofs.Ythimfdojpgbmbaa.X
open Go.RowKit Go.Proofs.YthimfdojpgbmbaaW.PrintWords Go.Proofs.YthimfdojpgbmbaaW.PrintLast Go.Proofs.YthimfdojpgbmbaaW.PrintMore
attribute [local go_sem] max2_int min2_int max_two min_two max_three min_three max_four min_four   -- for this text's walks alone
set_option linter.unusedVariables false
set_option linter.unusedSimpArgs false

/-! ### bobbinetkeep_spaceSure: function 22 -/
def bobbinetkeep_spaceSure.f  : Option (Bool) := (space_Text.f (⟨#[32, 97, 32, 32, 98]⟩ : ByteArray) true).bind fun t101 => (some (t101.toList == ([97, 32, 98] : List UInt8)))
set_option maxHeartbeats 8000000 in
set_option maxRecDepth 100000 in
theorem bobbinetkeep_spaceSure.calls  (r : Bool) (w : World) (h : bobbinetkeep_spaceSure.f  = some r) :
    Calls Try.prog 22 #[] w fun e w' => e = .returned (.bool r) ∧ Below w.heap.size w w' := by
  have HB := Aside0.mk (Below.refl w.heap.size w)
  have H : ((space_Text.f (⟨#[32, 97, 32, 32, 98]⟩ : ByteArray) true).bind fun t101 => (some (t101.toList == ([97, 32, 98] : List UInt8)))) = some r := h
  clear h
  replace H := Option.bind_eq_some_iff.mp H
  obtain ⟨t101, A10, H⟩ := H
  replace H : (some (t101.toList == ([97, 32, 98] : List UInt8))) = some r := H
  have A1 := Aside0.mk A10
  clear A10
  obtain rfl := Option.some.inj H
  go_enter Try.func22, Try.ntmps22
  go_wp2_with (first | ((with_reducible refine gate_callee (f := 20) rfl ?_); refine goesL_ (some 1) rfl rfl Try.func20 (by kernel_rfl) rfl #[.string (⟨#[32, 97, 32, 32, 98]⟩ : ByteArray), .bool true] rfl (by (try simp only [List.map_toArray, List.map_cons, List.map_nil]); first | done | rfl | (simp only [List.length_drop, List.length_take]; rfl)) ?_; (with_reducible refine (space_Text.calls (⟨#[32, 97, 32, 32, 98]⟩ : ByteArray) true t101 _ A1.out).mono ?_); rintro e w2 ⟨rfl, hb⟩; refine ⟨_, rfl, ?_⟩; have n0_ := Aside0.mk (below_step (by repeat (first | (with_reducible first | exact HB.out | apply below_alloc | apply pw_below_drewN | apply below_drew1) | exact HB.out)) hb); clear HB; have HB := n0_; clear n0_; (try clear hb); (try clear hb2); (try clear hk); (try clear hi)))
  go_ret
  exact ⟨by first | rfl | (simp [errW_none, errW_some] <;> rfl) | (simp [*, errW_none, errW_some] <;> rfl), by repeat (first | (with_reducible first | exact HB.out | apply below_alloc | apply pw_below_drewN | apply below_drew1) | exact HB.out)⟩

end Go.Proofs.Ythimfdojpgbmbaa.X
