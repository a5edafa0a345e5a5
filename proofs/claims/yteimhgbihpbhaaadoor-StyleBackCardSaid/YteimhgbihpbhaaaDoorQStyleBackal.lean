/- Parts of the proof of StyleBack that are needed, put together by pack.py. -/
import Derived.Test.YteimhgbihpbhaaaDoorQStyleBackah
import Derived.Test.YteimhgbihpbhaaaDoorQStyleBackaf
import Derived.Shelf.Strings.SlTrimAscii
section
namespace Go.Proofs.YteimhgbihpbhaaaDoor.X
open Go.RowKit Go.Proofs.YteimhgbihpbhaaaDoorW.PrintWords Go.Proofs.YteimhgbihpbhaaaDoorW.PrintLast Go.Proofs.YteimhgbihpbhaaaDoorW.PrintMore
attribute [local go_sem] max2_int min2_int max_two min_two max_three min_three max_four min_four   -- for this text's walks alone
set_option linter.unusedVariables false
set_option linter.unusedSimpArgs false
def strings_Trim.f (a0 a1 : ByteArray) : Option ByteArray := if a0.size ≤ 9223372036854775807 ∧ a1.size < 4294967281 ∧ (a1.data.toList.all fun b => decide (b.toNat < 128)) = true then some ⟨(Lib.trimS a0.data.toList a1.data.toList).toArray⟩ else none
theorem strings_Trim.calls (a0 a1 : ByteArray) (r : ByteArray) (w : World) (h : strings_Trim.f a0 a1 = some r) :
    Calls Tryd.prog 28 #[.string a0, .string a1] w fun e w' => e = .returned (.string r) ∧ Below w.heap.size w w' := by
  unfold strings_Trim.f at h
  by_cases hc : a0.size ≤ 9223372036854775807 ∧ a1.size < 4294967281 ∧ (a1.data.toList.all fun b => decide (b.toNat < 128)) = true
  · rw [if_pos hc] at h
    obtain rfl := Option.some.inj h
    refine Any.strings_Trim_laid Tryd.lays160 (by kernel_rfl) a0 a1 w hc.1 hc.2.1 (fun j b hb => ?_)
    have := List.all_eq_true.1 hc.2.2 b (List.mem_of_getElem? hb)
    simpa using this
  · rw [if_neg hc] at h; cases h
end Go.Proofs.YteimhgbihpbhaaaDoor.X
end
