/- Parts of the proof of PickLast that are needed, put together by pack.py. -/
import Derived.Test.YtaibikajpacemaaQPickLastai
import Derived.Test.YtaibikajpacemaaQPickLastaf
section
namespace Go.Proofs.Ytaibikajpacemaa.X
open Go.RowKit Go.Proofs.YtaibikajpacemaaW.PrintWords Go.Proofs.YtaibikajpacemaaW.PrintLast Go.Proofs.YtaibikajpacemaaW.PrintMore
attribute [local go_sem] max2_int min2_int max_two min_two max_three min_three max_four min_four   -- for this text's walks alone
set_option linter.unusedVariables false
set_option linter.unusedSimpArgs false
def emit_Name.bad (n : Nat) : Bool := !((decide (97 ≤ n) && decide (n ≤ 122)) || (decide (48 ≤ n) && decide (n ≤ 57)) || n == 45)
def emit_Name.f (a0 : ByteArray) : Option Bool := if a0.toList = ([] : List UInt8) then some false else if (a0.size : Int) > 12 then some false else if bt a0 0 < 97 then some false else if bt a0 0 > 122 then some false else some (!(decide (0 ≤ Lib.idxFunc emit_Name.bad true a0)))
theorem emit_Name.eg : ∀ args w, (callFunc 53 args).run Try.prog w = .ok (.enter 53 args) w := fun args w => enters_ Try.func53 (by kernel_rfl) rfl args w
set_option maxHeartbeats 1000000 in
set_option maxRecDepth 100000 in
theorem emit_Name.one (w W : World) (x : Nat) : FnGives Try.prog 53 #[] #[.int .i32 (x : Int)] (.bool (emit_Name.bad x)) W := by
  show Calls Try.prog 53 #[.int .i32 (x : Int)] W fun e w' => e = .returned (.bool (emit_Name.bad x)) ∧ ∃ q, w' = W.drewN q
  go_enter Try.func53, Try.ntmps53
  by_cases c1 : 97 ≤ x
  · have e1 : decide (97 ≤ (x : Int)) = true := decide_eq_true (by omega)
    by_cases c2 : x ≤ 122
    · have e2 : decide ((x : Int) ≤ 122) = true := decide_eq_true (by omega)
      go_wp2
      go_ret
      exact ⟨by simp [emit_Name.bad, c1, c2], 0, rfl⟩
    · have e2 : decide ((x : Int) ≤ 122) = false := decide_eq_false (by omega)
      have e3 : decide (48 ≤ (x : Int)) = true := decide_eq_true (by omega)
      have e4 : decide ((x : Int) ≤ 57) = false := decide_eq_false (by omega)
      have e5 : ((x : Int) == 45) = false := beq_eq_false_iff_ne.mpr (by omega)
      have e6 : decide ((x : Int) = 45) = false := decide_eq_false (by omega)
      go_wp2
      go_ret
      exact ⟨by simp [emit_Name.bad, c1, c2]; omega, 0, rfl⟩
  · have e1 : decide (97 ≤ (x : Int)) = false := decide_eq_false (by omega)
    by_cases c3 : 48 ≤ x
    · have e3 : decide (48 ≤ (x : Int)) = true := decide_eq_true (by omega)
      by_cases c4 : x ≤ 57
      · have e4 : decide ((x : Int) ≤ 57) = true := decide_eq_true (by omega)
        go_wp2
        go_ret
        exact ⟨by simp [emit_Name.bad, c1, c3, c4], 0, rfl⟩
      · have e4 : decide ((x : Int) ≤ 57) = false := decide_eq_false (by omega)
        have e5 : ((x : Int) == 45) = false := beq_eq_false_iff_ne.mpr (by omega)
        have e6 : decide ((x : Int) = 45) = false := decide_eq_false (by omega)
        go_wp2
        go_ret
        exact ⟨by simp [emit_Name.bad, c1, c3, c4]; omega, 0, rfl⟩
    · have e3 : decide (48 ≤ (x : Int)) = false := decide_eq_false (by omega)
      by_cases c5 : x = 45
      · subst c5
        go_wp2
        go_ret
        exact ⟨by simp [emit_Name.bad], 0, rfl⟩
      · have e5 : ((x : Int) == 45) = false := beq_eq_false_iff_ne.mpr (by omega)
        have e6 : decide ((x : Int) = 45) = false := decide_eq_false (by omega)
        go_wp2
        go_ret
        exact ⟨by simp [emit_Name.bad, c1, c3, c5], 0, rfl⟩
set_option maxHeartbeats 1000000 in
set_option maxRecDepth 100000 in
theorem emit_Name.calls (a0 : ByteArray) (r : Bool) (w : World) (h : emit_Name.f a0 = some r) :
    Calls Try.prog 45 #[.string a0] w fun e w' => e = .returned (.bool r) ∧ Below w.heap.size w w' := by
  unfold emit_Name.f at h
  have hbl : Below w.heap.size w w := Below.refl _ _
  go_enter Try.func45, Try.ntmps45
  by_cases c1 : a0.toList = ([] : List UInt8)
  · rw [if_pos c1] at h
    obtain rfl := Option.some.inj h
    have e1 : (a0.toList == ([] : List UInt8)) = true := beq_iff_eq.mpr c1
    go_wp2
    go_ret
    exact ⟨rfl, hbl⟩
  · rw [if_neg c1] at h
    have e1 : (a0.toList == ([] : List UInt8)) = false := beq_eq_false_iff_ne.mpr c1
    by_cases c2 : (a0.size : Int) > 12
    · rw [if_pos c2] at h
      obtain rfl := Option.some.inj h
      have e2 : decide (12 < (a0.size : Int)) = true := decide_eq_true c2
      have e3 : decide (12 < a0.size) = true := decide_eq_true (by omega)
      go_wp2
      go_ret
      exact ⟨rfl, hbl⟩
    · rw [if_neg c2] at h
      have e2 : decide (12 < (a0.size : Int)) = false := decide_eq_false c2
      have e3 : decide (12 < a0.size) = false := decide_eq_false (by omega)
      have hz : 0 < a0.size := by
        rcases Nat.eq_zero_or_pos a0.size with h0 | h0
        · exact absurd (by
            have h1 : a0 = ByteArray.empty := by
              cases a0 with | mk d =>
              have : d.size = 0 := h0
              have : d = #[] := Array.size_eq_zero_iff.1 this
              subst this; rfl
            rw [h1]; simp [ByteArray.toList, ByteArray.toList.loop]) c1
        · exact h0
      have hx : ∀ h : 0 < a0.size, ((a0[0]'h).toNat : Int) = bt a0 0 := fun h => by have := bt_at a0 0 (by simpa using h); simpa using this
      have q1 : ((0 : Int) < (a0.size : Int)) = True := eq_true (by omega)
      have q2 : (0 < a0.size) = True := eq_true hz
      by_cases c4 : bt a0 0 < 97
      · rw [if_pos c4] at h
        obtain rfl := Option.some.inj h
        have e4 : decide (bt a0 0 < 97) = true := decide_eq_true c4
        go_wp2
        go_ret
        exact ⟨rfl, hbl⟩
      · rw [if_neg c4] at h
        have e4 : decide (bt a0 0 < 97) = false := decide_eq_false c4
        by_cases c5 : bt a0 0 > 122
        · rw [if_pos c5] at h
          obtain rfl := Option.some.inj h
          have e5 : decide (122 < bt a0 0) = true := decide_eq_true c5
          go_wp2
          go_ret
          exact ⟨rfl, hbl⟩
        · rw [if_neg c5] at h
          obtain rfl := Option.some.inj h
          have e5 : decide (122 < bt a0 0) = false := decide_eq_false c5
          go_wp2_with (go_at_call 52; refine (CF.strings_ContainsFunc_runes 53 #[] emit_Name.eg emit_Name.bad a0 _ (fun W x _ _ => emit_Name.one w W x)).mono ?_; rintro e w' ⟨rfl, hb⟩)
          go_ret
          exact ⟨rfl, hb⟩
end Go.Proofs.Ytaibikajpacemaa.X
end
section
namespace Go.Proofs.Ytaibikajpacemaa.X
open Go.RowKit Go.Proofs.YtaibikajpacemaaW.PrintWords Go.Proofs.YtaibikajpacemaaW.PrintLast Go.Proofs.YtaibikajpacemaaW.PrintMore
attribute [local go_sem] max2_int min2_int max_two min_two max_three min_three max_four min_four   -- for this text's walks alone
set_option linter.unusedVariables false
set_option linter.unusedSimpArgs false
def pick_check_1.f (a0 : ByteArray) : Option (Bool) := if a0.toList = ([] : List UInt8) then (some false) else ((emit_Name.f a0).bind fun t189 => (some (!t189)))
set_option maxHeartbeats 8000000 in
set_option maxRecDepth 100000 in
theorem pick_check_1.calls (a0 : ByteArray) (r : Bool) (w : World) (h : pick_check_1.f a0 = some r) :
    Calls Try.prog 44 #[.string a0] w fun e w' => e = .returned (.bool r) ∧ Below w.heap.size w w' := by
  have HB := Aside0.mk (Below.refl w.heap.size w)
  have H : (if a0.toList = ([] : List UInt8) then (some false) else ((emit_Name.f a0).bind fun t189 => (some (!t189)))) = some r := h
  clear h
  by_cases c2 : a0.toList = ([] : List UInt8)
  · rw [if_pos c2] at H
    have c2b0 : (a0.toList == ([] : List UInt8)) = true := beq_iff_eq.mpr c2
    have c2b1 : (a0.toList != ([] : List UInt8)) = false := bne_eq_false_iff_eq.mpr c2
    clear c2
    obtain rfl := Option.some.inj H
    go_enter Try.func44, Try.ntmps44
    go_wp2
    go_ret
    exact ⟨by first | rfl | (simp [errW_none, errW_some] <;> rfl) | (simp [*, errW_none, errW_some] <;> rfl), by repeat (first | (with_reducible first | exact HB.out | apply below_alloc | apply pw_below_drewN | apply below_drew1) | exact HB.out)⟩
  · rw [if_neg c2] at H
    have c2b0 : (a0.toList == ([] : List UInt8)) = false := beq_eq_false_iff_ne.mpr c2
    have c2b1 : (a0.toList != ([] : List UInt8)) = true := bne_iff_ne.mpr c2
    replace H := Option.bind_eq_some_iff.mp H
    obtain ⟨t189, A30, H⟩ := H
    replace H : (some (!t189)) = some r := H
    have A3 := Aside0.mk A30
    clear A30
    obtain rfl := Option.some.inj H
    go_enter Try.func44, Try.ntmps44
    go_wp2_with (first | (go_at_call 45; (with_reducible refine (emit_Name.calls a0 t189 _ A3.out).mono ?_); rintro e w4 ⟨rfl, hb⟩; have n0_ := Aside0.mk (below_step (by repeat (first | (with_reducible first | exact HB.out | apply below_alloc | apply pw_below_drewN | apply below_drew1) | exact HB.out)) hb); clear HB; have HB := n0_; clear n0_; (try clear hb); (try clear hb2); (try clear hk); (try clear hi)))
    go_ret
    exact ⟨by first | rfl | (simp [errW_none, errW_some] <;> rfl) | (simp [*, errW_none, errW_some] <;> rfl), by repeat (first | (with_reducible first | exact HB.out | apply below_alloc | apply pw_below_drewN | apply below_drew1) | exact HB.out)⟩
end Go.Proofs.Ytaibikajpacemaa.X
end
