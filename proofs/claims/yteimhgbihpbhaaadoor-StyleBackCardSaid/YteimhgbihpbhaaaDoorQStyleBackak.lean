/- Parts of the proof of StyleBack that are needed, put together by pack.py. -/
import Derived.Test.YteimhgbihpbhaaaDoorQStyleBackaj
import Derived.Test.YteimhgbihpbhaaaDoorQStyleBackaf
section
namespace Go.Proofs.YteimhgbihpbhaaaDoor.X
open Go.RowKit Go.Proofs.YteimhgbihpbhaaaDoorW.PrintWords Go.Proofs.YteimhgbihpbhaaaDoorW.PrintLast Go.Proofs.YteimhgbihpbhaaaDoorW.PrintMore
attribute [local go_sem] max2_int min2_int max_two min_two max_three min_three max_four min_four   -- for this text's walks alone
set_option linter.unusedVariables false
set_option linter.unusedSimpArgs false
def emit_Name.bad (n : Nat) : Bool := !((decide (97 ≤ n) && decide (n ≤ 122)) || (decide (48 ≤ n) && decide (n ≤ 57)) || n == 45)
def emit_Name.f (a0 : ByteArray) : Option Bool := if a0.toList = ([] : List UInt8) then some false else if (a0.size : Int) > 12 then some false else if bt a0 0 < 97 then some false else if bt a0 0 > 122 then some false else some (!(decide (0 ≤ Lib.idxFunc emit_Name.bad true a0)))
theorem emit_Name.eg : ∀ args w, (callFunc 42 args).run Tryd.prog w = .ok (.enter 42 args) w := fun args w => enters_ Tryd.func42 (by kernel_rfl) rfl args w
set_option maxHeartbeats 1000000 in
set_option maxRecDepth 100000 in
theorem emit_Name.one (w W : World) (x : Nat) : FnGives Tryd.prog 42 #[] #[.int .i32 (x : Int)] (.bool (emit_Name.bad x)) W := by
  show Calls Tryd.prog 42 #[.int .i32 (x : Int)] W fun e w' => e = .returned (.bool (emit_Name.bad x)) ∧ ∃ q, w' = W.drewN q
  go_enter Tryd.func42, Tryd.ntmps42
  by_cases c1 : 97 ≤ x
  · have e1 : decide (97 ≤ (x : Int)) = true := decide_eq_true (by omega)
    by_cases c2 : x ≤ 122
    · have e2 : decide ((x : Int) ≤ 122) = true := decide_eq_true (by omega)
      go_wp2
      go_ret
      exact ⟨by simp [emit_Name.bad, c1, c2], 0, rfl⟩
    · have e2 : decide ((x : Int) ≤ 122) = false := decide_eq_false (by omega)
      have e3 : decide (48 ≤ (x : Int)) = true := decide_eq_true (by omega)
      have e4 : decide ((x : Int) ≤ 57) = false := decide_eq_false (by omega)
      have e5 : ((x : Int) == 45) = false := beq_eq_false_iff_ne.mpr (by omega)
      have e6 : decide ((x : Int) = 45) = false := decide_eq_false (by omega)
      go_wp2
      go_ret
      exact ⟨by simp [emit_Name.bad, c1, c2]; omega, 0, rfl⟩
  · have e1 : decide (97 ≤ (x : Int)) = false := decide_eq_false (by omega)
    by_cases c3 : 48 ≤ x
    · have e3 : decide (48 ≤ (x : Int)) = true := decide_eq_true (by omega)
      by_cases c4 : x ≤ 57
      · have e4 : decide ((x : Int) ≤ 57) = true := decide_eq_true (by omega)
        go_wp2
        go_ret
        exact ⟨by simp [emit_Name.bad, c1, c3, c4], 0, rfl⟩
      · have e4 : decide ((x : Int) ≤ 57) = false := decide_eq_false (by omega)
        have e5 : ((x : Int) == 45) = false := beq_eq_false_iff_ne.mpr (by omega)
        have e6 : decide ((x : Int) = 45) = false := decide_eq_false (by omega)
        go_wp2
        go_ret
        exact ⟨by simp [emit_Name.bad, c1, c3, c4]; omega, 0, rfl⟩
    · have e3 : decide (48 ≤ (x : Int)) = false := decide_eq_false (by omega)
      by_cases c5 : x = 45
      · subst c5
        go_wp2
        go_ret
        exact ⟨by simp [emit_Name.bad], 0, rfl⟩
      · have e5 : ((x : Int) == 45) = false := beq_eq_false_iff_ne.mpr (by omega)
        have e6 : decide ((x : Int) = 45) = false := decide_eq_false (by omega)
        go_wp2
        go_ret
        exact ⟨by simp [emit_Name.bad, c1, c3, c5], 0, rfl⟩
set_option maxHeartbeats 1000000 in
set_option maxRecDepth 100000 in
theorem emit_Name.calls (a0 : ByteArray) (r : Bool) (w : World) (h : emit_Name.f a0 = some r) :
    Calls Tryd.prog 23 #[.string a0] w fun e w' => e = .returned (.bool r) ∧ Below w.heap.size w w' := by
  unfold emit_Name.f at h
  have hbl : Below w.heap.size w w := Below.refl _ _
  go_enter Tryd.func23, Tryd.ntmps23
  by_cases c1 : a0.toList = ([] : List UInt8)
  · rw [if_pos c1] at h
    obtain rfl := Option.some.inj h
    have e1 : (a0.toList == ([] : List UInt8)) = true := beq_iff_eq.mpr c1
    go_wp2
    go_ret
    exact ⟨rfl, hbl⟩
  · rw [if_neg c1] at h
    have e1 : (a0.toList == ([] : List UInt8)) = false := beq_eq_false_iff_ne.mpr c1
    by_cases c2 : (a0.size : Int) > 12
    · rw [if_pos c2] at h
      obtain rfl := Option.some.inj h
      have e2 : decide (12 < (a0.size : Int)) = true := decide_eq_true c2
      have e3 : decide (12 < a0.size) = true := decide_eq_true (by omega)
      go_wp2
      go_ret
      exact ⟨rfl, hbl⟩
    · rw [if_neg c2] at h
      have e2 : decide (12 < (a0.size : Int)) = false := decide_eq_false c2
      have e3 : decide (12 < a0.size) = false := decide_eq_false (by omega)
      have hz : 0 < a0.size := by
        rcases Nat.eq_zero_or_pos a0.size with h0 | h0
        · exact absurd (by
            have h1 : a0 = ByteArray.empty := by
              cases a0 with | mk d =>
              have : d.size = 0 := h0
              have : d = #[] := Array.size_eq_zero_iff.1 this
              subst this; rfl
            rw [h1]; simp [ByteArray.toList, ByteArray.toList.loop]) c1
        · exact h0
      have hx : ∀ h : 0 < a0.size, ((a0[0]'h).toNat : Int) = bt a0 0 := fun h => by have := bt_at a0 0 (by simpa using h); simpa using this
      have q1 : ((0 : Int) < (a0.size : Int)) = True := eq_true (by omega)
      have q2 : (0 < a0.size) = True := eq_true hz
      by_cases c4 : bt a0 0 < 97
      · rw [if_pos c4] at h
        obtain rfl := Option.some.inj h
        have e4 : decide (bt a0 0 < 97) = true := decide_eq_true c4
        go_wp2
        go_ret
        exact ⟨rfl, hbl⟩
      · rw [if_neg c4] at h
        have e4 : decide (bt a0 0 < 97) = false := decide_eq_false c4
        by_cases c5 : bt a0 0 > 122
        · rw [if_pos c5] at h
          obtain rfl := Option.some.inj h
          have e5 : decide (122 < bt a0 0) = true := decide_eq_true c5
          go_wp2
          go_ret
          exact ⟨rfl, hbl⟩
        · rw [if_neg c5] at h
          obtain rfl := Option.some.inj h
          have e5 : decide (122 < bt a0 0) = false := decide_eq_false c5
          go_wp2_with (go_at_call 41; refine (CF.strings_ContainsFunc_runes 42 #[] emit_Name.eg emit_Name.bad a0 _ (fun W x _ _ => emit_Name.one w W x)).mono ?_; rintro e w' ⟨rfl, hb⟩)
          go_ret
          exact ⟨rfl, hb⟩
end Go.Proofs.YteimhgbihpbhaaaDoor.X
end
section
namespace Go.Proofs.YteimhgbihpbhaaaDoor.X
open Go.RowKit Go.Proofs.YteimhgbihpbhaaaDoorW.PrintWords Go.Proofs.YteimhgbihpbhaaaDoorW.PrintLast Go.Proofs.YteimhgbihpbhaaaDoorW.PrintMore
attribute [local go_sem] max2_int min2_int max_two min_two max_three min_three max_four min_four   -- for this text's walks alone
set_option linter.unusedVariables false
set_option linter.unusedSimpArgs false
theorem eqA33 (d : Nat) (w : World) (x0 y0 : ByteArray) (x1 y1 : ByteArray) :
    (Op.equalIn (d + 2) 33 (.agg #[.string x0, .string x1]) (.agg #[.string y0, .string y1])).run Tryd.prog w = .ok (x0.toList == y0.toList && (x1.toList == y1.toList)) w := by
  refine eqA_of Tryd.underlying33 (by kernel_rfl) ?_
  refine eqf_cons (by rfl) (by go_simp; rfl) (by go_simp; rfl) (by go_simp) ?_
  exact eqf_last (by rfl) (by go_simp; rfl) (by go_simp; rfl) (by go_simp)
end Go.Proofs.YteimhgbihpbhaaaDoor.X
end
section
namespace Go.Proofs.YteimhgbihpbhaaaDoor.X
open Go.RowKit Go.Proofs.YteimhgbihpbhaaaDoorW.PrintWords Go.Proofs.YteimhgbihpbhaaaDoorW.PrintLast Go.Proofs.YteimhgbihpbhaaaDoorW.PrintMore
attribute [local go_sem] max2_int min2_int max_two min_two max_three min_three max_four min_four   -- for this text's walks alone
set_option linter.unusedVariables false
set_option linter.unusedSimpArgs false
attribute [local go_sem high] eqA33
def api_Decl.l0 : Nat → List (S33) → List (S33) → Int → Int → Option (Bool)
  | 0, _, _, _, _ => none
  | k + 1, x0, x1, x12, x13 => if x13 < x12 then (if 0 ≤ x13 then (if x13 < (x0.length : Int) then (if x13 < (x1.length : Int) then (if (!((((rd_T33 x0 x13).f0).toList) == (((rd_T33 x1 x13).f0).toList)) || (!((((rd_T33 x0 x13).f1).toList) == (((rd_T33 x1 x13).f1).toList)))) = true then (some false) else (api_Decl.l0 k x0 x1 x12 (wrap64 (x13 + 1)))) else (none)) else (none)) else (none)) else (some true)
def api_Decl.f (k : Nat) (l0 : List (S33)) (l1 : List (S33)) : Option (Bool) := if (l0.length : Int) = (l1.length : Int) then (api_Decl.l0 k l0 l1 (l0.length : Int) 0) else (some false)
set_option maxHeartbeats 8000000 in
set_option maxRecDepth 100000 in
theorem api_Decl.calls (k : Nat) (A0 : Option Addr) (c0 : Nat) (l0 : List (S33)) (A1 : Option Addr) (c1 : Nat) (l1 : List (S33)) (r : Bool) (w : World) (hr0 : Kd.C k33 w A0 l0.length l0) (hc0 : l0.length ≤ c0) (hr1 : Kd.C k33 w A1 l1.length l1) (hc1 : l1.length ≤ c1) (h : api_Decl.f k l0 l1 = some r) :
    Calls Tryd.prog 24 #[.slice A0 l0.length c0, .slice A1 l1.length c1] w fun e w' => e = .returned (.bool r) ∧ Drawn0 w w' := by
  have hu33 := Tryd.underlying33
  have HR0 := Aside0.mk hr0
  have HC0 := Aside0.mk hc0
  clear hr0 hc0
  have HR1 := Aside0.mk hr1
  have HC1 := Aside0.mk hc1
  clear hr1 hc1
  have H : (if (l0.length : Int) = (l1.length : Int) then (api_Decl.l0 k l0 l1 (l0.length : Int) 0) else (some false)) = some r := h
  clear h
  by_cases c3 : (l0.length : Int) = (l1.length : Int)
  · rw [if_pos c3] at H
    have c3b0 : ((l0.length : Int) == (l1.length : Int)) = true := beq_iff_eq.mpr c3
    have c3b1 : ((l0.length : Int) != (l1.length : Int)) = false := bne_eq_false_iff_eq.mpr c3
    have c3b2 : (l0.length == l1.length) = true := by first | simpa using c3 | (simp at c3 ⊢; omega)
    clear c3
    have H' := Aside0.mk H
    clear H
    go_enter Tryd.func24, Tryd.ntmps24
    go_wp2
    repeat (go_quiet (fail); try go_wp2)
    go_loopg [13] k (fun kq v13 w' => ∃ (x13_1 : Int), v13 = .int .i64 x13_1 ∧ Aside0 (api_Decl.l0 kq l0 l1 (l0.length : Int) x13_1 = some r) ∧ Aside0 (kq ≤ k) ∧ Drawn0 w w')
    case atStart => exact ⟨(0), (by first | rfl | (simp; done) | (simp [*]; done) | (simp [bne]; done)), H', ⟨Nat.le_refl _⟩, by repeat (first | exact Drawn0.refl _ | apply Drawn0.step)⟩
    case round =>
      clear H'
      try clear c1
      try clear c2
      try clear p2
      try clear c3
      try clear c3b0
      try clear c3b1
      try clear c3b2
      obtain ⟨x13_1, rfl, HA, HK1, ⟨m1, rfl⟩⟩ := hrel
      cases gk with
      | zero => exact absurd HA.out (by simp [api_Decl.l0])
      | succ k1 =>
        have H := HA.out
        clear HA
        simp only [api_Decl.l0] at H
        by_cases c4 : x13_1 < (l0.length : Int)
        · rw [if_pos c4] at H
          have c4b0 : decide (x13_1 < (l0.length : Int)) = true := decide_eq_true c4
          clear c4
          by_cases c5 : 0 ≤ x13_1
          · rw [if_pos c5] at H
            have c5b0 : decide (0 ≤ x13_1) = true := decide_eq_true c5
            clear c5
            by_cases c6 : x13_1 < (l0.length : Int)
            · rw [if_pos c6] at H
              have c6b0 : decide (x13_1 < (l0.length : Int)) = true := decide_eq_true c6
              clear c6
              by_cases c7 : x13_1 < (l1.length : Int)
              · rw [if_pos c7] at H
                have c7b0 : decide (x13_1 < (l1.length : Int)) = true := decide_eq_true c7
                clear c7
                by_cases c8 : (!((((rd_T33 l0 x13_1).f0).toList) == (((rd_T33 l1 x13_1).f0).toList)) || (!((((rd_T33 l0 x13_1).f1).toList) == (((rd_T33 l1 x13_1).f1).toList)))) = true
                · rw [if_pos c8] at H
                  have c8b0 : (!((((rd_T33 l0 x13_1).f0).toList) == (((rd_T33 l1 x13_1).f0).toList)) || (!((((rd_T33 l0 x13_1).f1).toList) == (((rd_T33 l1 x13_1).f1).toList)))) = true := c8
                  clear c8
                  obtain rfl := Option.some.inj H
                  have p116 : 0 ≤ (x13_1 : Int) := of_decide_eq_true (by first | (with_reducible assumption) | assumption)
                  have q116 : x13_1 < (l0.length : Int) := of_decide_eq_true (by first | (with_reducible assumption) | assumption)
                  obtain ⟨ad116, e116, hx116_0, hx116_1⟩ := at_T33 HR0.out x13_1 p116 q116
                  cases e116
                  replace p116 := eq_true p116
                  replace q116 := eq_true q116
                  have p117 : 0 ≤ (x13_1 : Int) := of_decide_eq_true (by first | (with_reducible assumption) | assumption)
                  have q117 : x13_1 < (l1.length : Int) := of_decide_eq_true (by first | (with_reducible assumption) | assumption)
                  obtain ⟨ad117, e117, hx117_0, hx117_1⟩ := at_T33 HR1.out x13_1 p117 q117
                  cases e117
                  replace p117 := eq_true p117
                  replace q117 := eq_true q117
                  go_wp2
                  repeat (go_quiet (fail); try go_wp2)
                  go_ret
                  exact ⟨by first | rfl | (simp; done) | (simp [*]; done), by repeat (first | exact Drawn0.refl _ | apply Drawn0.step)⟩
                · rw [if_neg c8] at H
                  have c8b0 : (!((((rd_T33 l0 x13_1).f0).toList) == (((rd_T33 l1 x13_1).f0).toList)) || (!((((rd_T33 l0 x13_1).f1).toList) == (((rd_T33 l1 x13_1).f1).toList)))) = false := by simpa using c8
                  clear c8
                  have H' := Aside0.mk H
                  clear H
                  have p116 : 0 ≤ (x13_1 : Int) := of_decide_eq_true (by first | (with_reducible assumption) | assumption)
                  have q116 : x13_1 < (l0.length : Int) := of_decide_eq_true (by first | (with_reducible assumption) | assumption)
                  obtain ⟨ad116, e116, hx116_0, hx116_1⟩ := at_T33 HR0.out x13_1 p116 q116
                  cases e116
                  replace p116 := eq_true p116
                  replace q116 := eq_true q116
                  have p117 : 0 ≤ (x13_1 : Int) := of_decide_eq_true (by first | (with_reducible assumption) | assumption)
                  have q117 : x13_1 < (l1.length : Int) := of_decide_eq_true (by first | (with_reducible assumption) | assumption)
                  obtain ⟨ad117, e117, hx117_0, hx117_1⟩ := at_T33 HR1.out x13_1 p117 q117
                  cases e117
                  replace p117 := eq_true p117
                  replace q117 := eq_true q117
                  go_wp2
                  repeat (go_quiet (fail); try go_wp2)
                  go_roundg k1
                  case measure => have := HK1.out; omega
                  case rel => exact ⟨(wrap64 (x13_1 + 1)), (by first | rfl | (simp; done) | (simp [*]; done) | (simp [bne]; done)), H', ⟨by have := HK1.out; omega⟩, by repeat (first | exact Drawn0.refl _ | apply Drawn0.step)⟩
              · rw [if_neg c7] at H
                exact absurd H (by simp)
            · rw [if_neg c6] at H
              exact absurd H (by simp)
          · rw [if_neg c5] at H
            exact absurd H (by simp)
        · rw [if_neg c4] at H
          have c4b0 : decide (x13_1 < (l0.length : Int)) = false := decide_eq_false c4
          clear c4
          obtain rfl := Option.some.inj H
          go_wp2
          repeat (go_quiet (fail); try go_wp2)
          go_ret
          exact ⟨by first | rfl | (simp; done) | (simp [*]; done), by repeat (first | exact Drawn0.refl _ | apply Drawn0.step)⟩
  · rw [if_neg c3] at H
    have c3b0 : ((l0.length : Int) == (l1.length : Int)) = false := beq_eq_false_iff_ne.mpr c3
    have c3b1 : ((l0.length : Int) != (l1.length : Int)) = true := bne_iff_ne.mpr c3
    have c3b2 : (l0.length == l1.length) = false := by first | simpa using c3 | (simp at c3 ⊢; omega)
    obtain rfl := Option.some.inj H
    go_enter Tryd.func24, Tryd.ntmps24
    go_wp2
    repeat (go_quiet (fail); try go_wp2)
    go_ret
    exact ⟨by first | rfl | (simp; done) | (simp [*]; done), by repeat (first | exact Drawn0.refl _ | apply Drawn0.step)⟩
end Go.Proofs.YteimhgbihpbhaaaDoor.X
end
