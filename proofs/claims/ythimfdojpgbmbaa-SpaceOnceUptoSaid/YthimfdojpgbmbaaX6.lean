-- Written by xprint.py (a program of this repo) for seat Ythimfdojpgbmbaa.
import Derived.Test.YthimfdojpgbmbaaLibBld
import Derived.Test.YthimfdojpgbmbaaX0
import Derived.Test.YthimfdojpgbmbaaX1
namespace Go.Proofs.Ythimfdojpgbmbaa.X
open Go.RowKit Go.Proofs.YthimfdojpgbmbaaW.PrintWords Go.Proofs.YthimfdojpgbmbaaW.PrintLast Go.Proofs.YthimfdojpgbmbaaW.PrintMore
attribute [local go_sem] max2_int min2_int max_two min_two max_three min_three max_four min_four   -- for this text's walks alone
set_option linter.unusedVariables false
set_option linter.unusedSimpArgs false

/-! ### space_Text: function 20 -/
def space_Text.sp (c : UInt8) : Bool := c == 32 || c == 9 || c == 10 || c == 12
def space_Text.go : List UInt8 → Bool → List UInt8
  | [], _ => []
  | c :: l, ahead => if space_Text.sp c = true then (if ahead = true then space_Text.go l true else 32 :: space_Text.go l true) else c :: space_Text.go l false
def space_Text.f (a0 : ByteArray) (a1 : Bool) : Option ByteArray := if a0.size ≤ 70368744177664 then some ⟨(space_Text.go a0.data.toList a1).toArray⟩ else none
def space_Text.iv : Value → Nat
  | .int _ i => i.toNat
  | _ => 0
theorem space_Text.space (c : UInt8) : space_space.f (c.toNat : Int) = some (space_Text.sp c) := by
  have h : ∀ n : Nat, n < 256 → (((c.toNat : Int) = n) ↔ c = UInt8.ofNat n) := by
    intro n hn
    constructor
    · intro h
      apply UInt8.toNat_inj.1
      rw [UInt8.toNat_ofNat']
      omega
    · rintro rfl
      rw [UInt8.toNat_ofNat']
      omega
  have h1 : (c.toNat : Int) = 32 ↔ c = 32 := h 32 (by decide)
  have h2 : (c.toNat : Int) = 9 ↔ c = 9 := h 9 (by decide)
  have h3 : (c.toNat : Int) = 10 ↔ c = 10 := h 10 (by decide)
  have h4 : (c.toNat : Int) = 12 ↔ c = 12 := h 12 (by decide)
  unfold space_space.f space_Text.sp
  by_cases c1 : c = 32
  · rw [if_pos (h1.2 c1)]; subst c1; rfl
  · rw [if_neg (fun k => c1 (h1.1 k))]
    by_cases c2 : c = 9
    · rw [if_pos (h2.2 c2)]; subst c2; rfl
    · rw [if_neg (fun k => c2 (h2.1 k))]
      by_cases c3 : c = 10
      · rw [if_pos (h3.2 c3)]; subst c3; rfl
      · rw [if_neg (fun k => c3 (h3.1 k))]
        by_cases c4 : c = 12
        · subst c4; rfl
        · have e : ((c.toNat : Int) == 12) = false := by rw [beq_eq_false_iff_ne]; exact fun k => c4 (h4.1 k)
          rw [e]
          simp [c1, c2, c3, c4]
set_option maxHeartbeats 4000000 in
set_option maxRecDepth 100000 in
theorem space_Text.calls (a0 : ByteArray) (a1 : Bool) (r : ByteArray) (w : World) (h : space_Text.f a0 a1 = some r) :
    Calls Try.prog 20 #[.string a0, .bool a1] w fun e w' => e = .returned (.string r) ∧ Below w.heap.size w w' := by
  have hr : (⟨(space_Text.go a0.data.toList a1).toArray⟩ : ByteArray) = r ∧ a0.size ≤ 70368744177664 := by
    unfold space_Text.f at h
    split at h
    · cases h; exact ⟨rfl, by assumption⟩
    · cases h
  obtain ⟨rfl, hz⟩ := hr
  have HZ := Aside0.mk hz
  clear h hz
  go_enter Try.func20, Try.ntmps20
  go_wp2
  go_loopw [1, 9] (fun v1 v9 wr => ∃ (i : Nat) (ah : Bool) (acc : List UInt8), v9 = .int .i64 (i : Int) ∧ v1 = .bool ah ∧ Aside0 (Bld.IsB w.heap.size w.heap.size (Lib.byteCells acc) wr) ∧ Aside0 (Below w.heap.size w wr) ∧ Aside0 (acc ++ space_Text.go (a0.data.toList.drop i) ah = space_Text.go a0.data.toList a1) ∧ Aside0 (i ≤ a0.size) ∧ Aside0 (acc.length ≤ i)) (fun v1 v9 wr => a0.size - space_Text.iv v9)
  case atStart =>
    refine ⟨0, a1, [], rfl, rfl, ⟨?_⟩, ⟨?_⟩, ⟨by simp⟩, ⟨by omega⟩, ⟨by simp⟩⟩
    · exact Lib.IsBuilderF.of (Lib.fresh_isBuilder 66 5 w)
    · exact (Below.refl _ w).alloc (Nat.le_refl _) _
  case round =>
    obtain ⟨i, ah, acc, rfl, rfl, HI, HB, HS, HL, HA⟩ := hrel
    have hbs : w.heap.size ≤ wr.heap.size := HB.out.size
    have hlen : a0.data.toList.length = a0.size := Array.length_toList
    by_cases hi : i < a0.size
    · obtain ⟨c, l, hcl⟩ : ∃ c l, a0.data.toList.drop i = c :: l := by
        cases e : a0.data.toList.drop i with
        | nil => have := congrArg List.length e; simp at this; omega
        | cons c l => exact ⟨c, l, rfl⟩
      have hdl : a0.data.toList.drop (i + 1) = l := by
        have : a0.data.toList.drop (i + 1) = (a0.data.toList.drop i).drop 1 := by rw [List.drop_drop]
        rw [this, hcl]; rfl
      have hx1 : ∀ h : i < a0.size, ((a0[i]'h).toNat : Int) = (c.toNat : Int) := by
        intro h
        have h2 : i < a0.data.toList.length := by omega
        have h3 : a0.data.toList[i]? = some c := by
          have := congrArg (fun z => z[0]?) hcl
          simpa [List.getElem?_drop] using this
        have h4 := List.getElem?_eq_getElem h2
        rw [h3] at h4
        have h5 : a0[i]'h = c := by
          have := Option.some.inj h4
          rw [this]
          simp
          rfl
        rw [h5]
      have ew : wrap64 ((i : Int) + 1) = ((i + 1 : Nat) : Int) := by have := HZ.out; unfold wrap64; omega
      have c1 : decide ((i : Int) < (a0.size : Int)) = true := decide_eq_true (by omega)
      have p1 : (0 ≤ (i : Int)) = True := eq_true (by omega)
      have q1 : ((i : Int) < (a0.size : Int)) = True := eq_true (by omega)
      have hl1 : (Lib.byteCells acc).length + 1 ≤ 140737488355328 := by rw [Lib.byteCells_length]; have := HZ.out; have := HA.out; omega
      have HS2 := HS.out
      rw [hcl] at HS2
      simp only [space_Text.go] at HS2
      clear HS
      by_cases hs : space_Text.sp c = true
      · rw [if_pos hs] at HS2
        have hsp : space_space.f (c.toNat : Int) = some true := by rw [space_Text.space, hs]
        cases ah with
        | true =>
          rw [if_pos rfl] at HS2
          have HS3 := Aside0.mk HS2
          go_wp2_with (first | (go_at_call 35; (with_reducible refine (space_space.calls (c.toNat : Int) true _ hsp).mono ?_); rintro e w' ⟨rfl, ⟨nd, rfl⟩⟩))
          go_roundw
          case rel => exact ⟨i + 1, true, acc, by rw [← ew], rfl, ⟨HI.out⟩, ⟨pw_below_drewN HB.out _⟩, ⟨by rw [hdl]; exact HS3.out⟩, ⟨by omega⟩, ⟨by have := HA.out; omega⟩⟩
          case measure => simp only [space_Text.iv, ew]; omega
        | false =>
          rw [if_neg (by decide)] at HS2
          have HS3 := Aside0.mk HS2
          go_wp2_with (first | (go_at_call 35; (with_reducible refine (space_space.calls (c.toNat : Int) true _ hsp).mono ?_); rintro e w' ⟨rfl, ⟨nd, rfl⟩⟩) | (go_at_call 36; refine (Bld.writeByte w.heap.size w.heap.size (Lib.byteCells acc) 32 (wr.drewN nd) HI.out hl1 hbs).mono ?_; rintro e w2 ⟨rfl, HI2, HB2, _⟩))
          go_roundw
          case rel => exact ⟨i + 1, true, acc ++ [32], by rw [← ew], rfl, ⟨by rw [Lib.byteCells_append]; exact HI2⟩, ⟨(pw_below_drewN HB.out nd).trans HB2⟩, ⟨by rw [hdl, List.append_assoc]; exact HS3.out⟩, ⟨by omega⟩, ⟨by have := HA.out; simp; omega⟩⟩
          case measure => simp only [space_Text.iv, ew]; omega
      · rw [if_neg hs] at HS2
        have HS3 := Aside0.mk HS2
        have hsp : space_space.f (c.toNat : Int) = some false := by rw [space_Text.space]; simp only [Bool.not_eq_true] at hs; rw [hs]
        go_wp2_with (first | (go_at_call 35; (with_reducible refine (space_space.calls (c.toNat : Int) false _ hsp).mono ?_); rintro e w' ⟨rfl, ⟨nd, rfl⟩⟩) | (go_at_call 36; refine (Bld.writeByte w.heap.size w.heap.size (Lib.byteCells acc) (c.toNat : Int) (wr.drewN nd) HI.out hl1 hbs).mono ?_; rintro e w2 ⟨rfl, HI2, HB2, _⟩))
        go_roundw
        case rel => exact ⟨i + 1, false, acc ++ [c], by rw [← ew], rfl, ⟨by rw [Lib.byteCells_append]; exact HI2⟩, ⟨(pw_below_drewN HB.out nd).trans HB2⟩, ⟨by rw [hdl, List.append_assoc]; exact HS3.out⟩, ⟨by omega⟩, ⟨by have := HA.out; simp; omega⟩⟩
        case measure => simp only [space_Text.iv, ew]; omega
    · have c1 : decide ((i : Int) < (a0.size : Int)) = false := decide_eq_false (by omega)
      have hd : a0.data.toList.drop i = [] := List.drop_eq_nil_of_le (by omega)
      have HE : acc = space_Text.go a0.data.toList a1 := by
        have := HS.out
        rw [hd] at this
        simpa [space_Text.go] using this
      go_wp2_with (first | (go_at_call 37; refine (Bld.string_of w.heap.size w.heap.size acc _ HI.out hbs).mono ?_; rintro e w2 ⟨rfl, HI2, HB2, _⟩))
      go_ret
      exact ⟨by rw [← HE]; rfl, HB.out.trans HB2⟩

end Go.Proofs.Ythimfdojpgbmbaa.X
