/- Parts of the proof of MarksBack that are needed, put together by pack.py. -/
import Derived.Test.YtjmhihadgpdiaaaDoorQMarksBackah
import Derived.Test.YtjmhihadgpdiaaaDoorQMarksBackaf
section
namespace Go.Proofs.YtjmhihadgpdiaaaDoor.X
open Go.RowKit Go.Proofs.YtjmhihadgpdiaaaDoorW.PrintWords Go.Proofs.YtjmhihadgpdiaaaDoorW.PrintLast Go.Proofs.YtjmhihadgpdiaaaDoorW.PrintMore
attribute [local go_sem] max2_int min2_int max_two min_two max_three min_three max_four min_four   -- for this text's walks alone
set_option linter.unusedVariables false
set_option linter.unusedSimpArgs false
def strings_Fields.f (a0 : ByteArray) : Option (List ByteArray) := if a0.size ≤ 1000000 ∧ (a0.data.toList.all fun b => decide (b.toNat < 128)) = true then some ((Lib.fields a0.data.toList).map fun l => ⟨l.toArray⟩) else none
/-- the table of white space reads as the library lays it -/
def Glob (w : World) : Prop := Lib.TabIs Tryd.prog w "strings.asciiSpace" .u8 Lib.asciiSpaceTab
theorem Glob.below {w W : World} (h : Glob w) (hb : Below w.heap.size w W) : Glob W := by
  unfold Glob Lib.TabIs World.var? at h ⊢
  cases hg : Tryd.prog.globalNamed "strings.asciiSpace" with
  | none => rw [hg] at h; cases h
  | some g =>
    rw [hg, Option.bind_some] at h
    rw [Option.bind_some]
    cases hc : w.heap[g]? with
    | none => rw [hc] at h; cases h
    | some o => rw [hb.block g (blk_lt hc)]; exact h
theorem strings_Fields.cnt : ∀ (b : Bool) (l : List UInt8), Lib.cntF b l ≤ l.length
  | _, [] => Nat.le_refl _
  | b, c :: l => by
    have := strings_Fields.cnt (Lib.isSp c) l
    rw [Lib.cntF, List.length_cons]
    split <;> omega
theorem strings_Fields.few (s : List UInt8) : (Lib.fields s).length ≤ s.length := by rw [Lib.fields_length]; exact strings_Fields.cnt _ _
theorem strings_Fields.row (w : World) (xs : List ByteArray) (hm : xs.length ≤ maxLen) : Kd.R Kd.string 9 (w.alloc (.cells (xs.map Value.string).toArray 9)) w.heap.size (fun _ => True) (.slice (some ⟨w.heap.size, 0, none⟩) xs.length xs.length) xs := by
  refine ⟨fun _ _ => trivial, xs.map Value.string, ?_, ?_⟩
  · have h2 := World.ownsRow_lit (base := w.heap.size) (e := 9) (size := 1) w (xs.map Value.string).toArray xs.length (Nat.le_refl _) hm (by simp)
    have h4 : (w.alloc (.cells (xs.map Value.string).toArray 9)).ownsRow w.heap.size 9 1 (.slice (some ⟨w.heap.size, 0, none⟩) xs.length xs.length) xs.length (xs.map Value.string) := by simpa using h2
    exact h4
  · refine ⟨by show _ = xs.length * 1; simp, fun j p hj => ?_⟩
    obtain ⟨hjl, rfl⟩ := List.getElem?_eq_some_iff.1 hj
    show Kd.string.M _ _ _ _ _
    have e : ((xs.map Value.string).drop (j * Kd.string.sz)).take Kd.string.sz = [Value.string xs[j]] := by
      show ((xs.map Value.string).drop (j * 1)).take 1 = _
      rw [Nat.mul_one, List.drop_eq_getElem_cons (by simpa using hjl)]
      simp
    rw [e]
    rfl
theorem strings_Fields.calls (a0 : ByteArray) (r : List ByteArray) (w : World) (hG_ : Glob w) (h : strings_Fields.f a0 = some r) :
    Calls Tryd.prog 29 #[.string a0] w fun e w' => ∃ v0_ : Value, e = .returned (v0_) ∧ Kd.R Kd.string 9 w' w.heap.size (fun _ => True) v0_ r ∧ Below w.heap.size w w' := by
  unfold strings_Fields.f at h
  by_cases hc : a0.size ≤ 1000000 ∧ (a0.data.toList.all fun b => decide (b.toNat < 128)) = true
  · rw [if_pos hc] at h
    obtain rfl := Option.some.inj h
    have ha : ∀ (j : Nat) b, a0.data.toList[j]? = some b → b.toNat < 128 := by
      intro j b hb
      have := List.all_eq_true.1 hc.2 b (List.mem_of_getElem? hb)
      simpa using this
    refine (Tryd.strings_Fields a0 w (by omega) ha hG_).mono ?_
    rintro e w' ⟨rfl, rfl⟩
    have e1 : (Lib.fields a0.data.toList).map (fun l => Value.string ⟨l.toArray⟩) = ((Lib.fields a0.data.toList).map fun l => (⟨l.toArray⟩ : ByteArray)).map Value.string := by rw [List.map_map]; rfl
    have e2 : (Lib.fields a0.data.toList).length = ((Lib.fields a0.data.toList).map fun l => (⟨l.toArray⟩ : ByteArray)).length := by rw [List.length_map]
    refine ⟨_, rfl, ?_, below_alloc (Below.refl _ _) _⟩
    rw [e1, e2]
    refine strings_Fields.row w _ ?_
    have h3 := strings_Fields.few a0.data.toList
    rw [List.length_map]
    have h4 : a0.data.toList.length = a0.size := by rw [Array.length_toList]; rfl
    unfold maxLen
    omega
  · rw [if_neg hc] at h; cases h
end Go.Proofs.YtjmhihadgpdiaaaDoor.X
end
