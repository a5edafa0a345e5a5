/- Parts of the proof of StripOnce that are needed, put together by pack.py. -/
import Derived.Test.YteimhgbihpbhaaaDoorQStripOnceaf
import Derived.Test.YteimhgbihpbhaaaDoorQStripOnceah
import Derived.Test.YteimhgbihpbhaaaDoorQStripOnceai
import Derived.Test.YteimhgbihpbhaaaDoorQStripOnceaj
import Derived.Test.YteimhgbihpbhaaaDoorQStripOnceaa
section
namespace Go.Proofs.YteimhgbihpbhaaaDoor.X
open Go.RowKit Go.Proofs.YteimhgbihpbhaaaDoorW.PrintWords Go.Proofs.YteimhgbihpbhaaaDoorW.PrintLast Go.Proofs.YteimhgbihpbhaaaDoorW.PrintMore
attribute [local go_sem] max2_int min2_int max_two min_two max_three min_three max_four min_four   -- for this text's walks alone
set_option linter.unusedVariables false
set_option linter.unusedSimpArgs false
mutual
def url_Scheme.l0 : Nat → ByteArray → Int → Int → Option (ByteArray × Bool)
  | 0, _, _, _ => none
  | k + 1, x0, x9, x10 => if x10 < x9 then (if 0 ≤ x10 then (if x10 < (x0.size : Int) then ((url_letter.f (bt x0 x10)).bind fun t105 => (if t105 = true then (url_Scheme.j1 k x0 x10 (bt x0 x10) x9 x10 t105) else (if x10 > 0 then (if (bt x0 x10) ≥ 48 then (if (bt x0 x10) ≤ 57 then (url_Scheme.j1 k x0 x10 (bt x0 x10) x9 x10 true) else (if (bt x0 x10) = 43 then (url_Scheme.j1 k x0 x10 (bt x0 x10) x9 x10 true) else (if (bt x0 x10) = 45 then (url_Scheme.j1 k x0 x10 (bt x0 x10) x9 x10 true) else (url_Scheme.j1 k x0 x10 (bt x0 x10) x9 x10 ((bt x0 x10) == 46))))) else (if (bt x0 x10) = 43 then (url_Scheme.j1 k x0 x10 (bt x0 x10) x9 x10 true) else (if (bt x0 x10) = 45 then (url_Scheme.j1 k x0 x10 (bt x0 x10) x9 x10 true) else (url_Scheme.j1 k x0 x10 (bt x0 x10) x9 x10 ((bt x0 x10) == 46))))) else (url_Scheme.j1 k x0 x10 (bt x0 x10) x9 x10 false)))) else (none)) else (none)) else (some ((⟨#[]⟩ : ByteArray), false))
def url_Scheme.j1 : Nat → ByteArray → Int → Int → Int → Int → Bool → Option (ByteArray × Bool)
  | 0, _, _, _, _, _, _ => none
  | k + 1, x0, x4, x5, x9, x10, x16 => if x16 = true then (url_Scheme.l0 k x0 x9 (wrap64 (x10 + 1))) else (if x5 = 58 then (if x4 > 0 then (if 0 ≤ x4 then (if x4 ≤ (x0.size : Int) then ((tok_Small.f (x0.extract 0 (x4 : Int).toNat)).bind fun t106 => (some (t106, true))) else (none)) else (none)) else (some ((⟨#[]⟩ : ByteArray), false))) else (some ((⟨#[]⟩ : ByteArray), false)))
end
def url_Scheme.f (k : Nat) (a0 : ByteArray) : Option (ByteArray × Bool) := (url_Strip.f a0).bind fun t104 => (url_Scheme.l0 k t104 (t104.size : Int) 0)
set_option maxHeartbeats 8000000 in
set_option maxRecDepth 100000 in
theorem url_Scheme.calls (k : Nat) (a0 : ByteArray) (r1 : ByteArray) (r2 : Bool) (w : World) (h : url_Scheme.f k a0 = some (r1, r2)) :
    Calls Tryd.prog 17 #[.string a0] w fun e w' => e = .returned (.tuple #[.string r1, .bool r2]) ∧ Below w.heap.size w w' := by
  have HB := Aside0.mk (Below.refl w.heap.size w)
  have H : ((url_Strip.f a0).bind fun t104 => (url_Scheme.l0 k t104 (t104.size : Int) 0)) = some (r1, r2) := h
  clear h
  replace H := Option.bind_eq_some_iff.mp H
  obtain ⟨t104, A20, H⟩ := H
  replace H : (url_Scheme.l0 k t104 (t104.size : Int) 0) = some (r1, r2) := H
  have A2 := Aside0.mk A20
  clear A20
  have H' := Aside0.mk H
  clear H
  go_enter Tryd.func17, Tryd.ntmps17
  go_wp2_with (first | ((with_reducible refine gate_callee (f := 16) rfl ?_); refine goesL_ (some 7) rfl rfl Tryd.func16 (by kernel_rfl) rfl #[.string a0] rfl (by (try simp only [List.map_toArray, List.map_cons, List.map_nil]); first | done | rfl | (simp only [List.length_drop, List.length_take]; rfl)) ?_; (with_reducible refine (url_Strip.calls a0 t104 _ A2.out).mono ?_); rintro e w3 ⟨rfl, hb⟩; refine ⟨_, rfl, ?_⟩; have n0_ := Aside0.mk (below_step (by repeat (first | (with_reducible first | exact HB.out | apply below_alloc | apply pw_below_drewN | apply below_drew1) | exact HB.out)) hb); clear HB; have HB := n0_; clear n0_; (try clear hb); (try clear hb2); (try clear hk); (try clear hi)))
  go_loopg [10] k (fun kq v10 w' => ∃ (x10_1 : Int), v10 = .int .i64 x10_1 ∧ Aside0 (url_Scheme.l0 kq t104 (t104.size : Int) x10_1 = some (r1, r2)) ∧ Aside0 (kq ≤ k) ∧ Aside0 (Below w.heap.size w w'))
  case atStart => exact ⟨(0), (by first | rfl | (simp; done) | (simp [*]; done) | (simp [bne]; done)), H', ⟨Nat.le_refl _⟩, ⟨by repeat (first | (with_reducible first | exact HB.out | apply below_alloc | apply pw_below_drewN | apply below_drew1) | exact HB.out)⟩⟩
  case round =>
    clear H'
    try clear c1
    try clear p2
    obtain ⟨x10_1, rfl, HA, HK1, HB⟩ := hrel
    cases gk with
    | zero => exact absurd HA.out (by simp [url_Scheme.l0])
    | succ k1 =>
      have H := HA.out
      clear HA
      simp only [url_Scheme.l0] at H
      by_cases c4 : x10_1 < (t104.size : Int)
      · rw [if_pos c4] at H
        have c4b0 : decide (x10_1 < (t104.size : Int)) = true := decide_eq_true c4
        clear c4
        by_cases c5 : 0 ≤ x10_1
        · rw [if_pos c5] at H
          have c5b0 : decide (0 ≤ x10_1) = true := decide_eq_true c5
          clear c5
          by_cases c6 : x10_1 < (t104.size : Int)
          · rw [if_pos c6] at H
            have c6b0 : decide (x10_1 < (t104.size : Int)) = true := decide_eq_true c6
            clear c6
            replace H := Option.bind_eq_some_iff.mp H
            obtain ⟨t105, A80, H⟩ := H
            replace H : (if t105 = true then (url_Scheme.j1 k1 t104 x10_1 (bt t104 x10_1) (t104.size : Int) x10_1 t105) else (if x10_1 > 0 then (if (bt t104 x10_1) ≥ 48 then (if (bt t104 x10_1) ≤ 57 then (url_Scheme.j1 k1 t104 x10_1 (bt t104 x10_1) (t104.size : Int) x10_1 true) else (if (bt t104 x10_1) = 43 then (url_Scheme.j1 k1 t104 x10_1 (bt t104 x10_1) (t104.size : Int) x10_1 true) else (if (bt t104 x10_1) = 45 then (url_Scheme.j1 k1 t104 x10_1 (bt t104 x10_1) (t104.size : Int) x10_1 true) else (url_Scheme.j1 k1 t104 x10_1 (bt t104 x10_1) (t104.size : Int) x10_1 ((bt t104 x10_1) == 46))))) else (if (bt t104 x10_1) = 43 then (url_Scheme.j1 k1 t104 x10_1 (bt t104 x10_1) (t104.size : Int) x10_1 true) else (if (bt t104 x10_1) = 45 then (url_Scheme.j1 k1 t104 x10_1 (bt t104 x10_1) (t104.size : Int) x10_1 true) else (url_Scheme.j1 k1 t104 x10_1 (bt t104 x10_1) (t104.size : Int) x10_1 ((bt t104 x10_1) == 46))))) else (url_Scheme.j1 k1 t104 x10_1 (bt t104 x10_1) (t104.size : Int) x10_1 false))) = some (r1, r2) := H
            have A8 := Aside0.mk A80
            clear A80
            have HC9 := Aside0.mk H
            clear H
            have p7 : 0 ≤ (x10_1 : Int) := of_decide_eq_true (by first | (with_reducible assumption) | assumption)
            have q7 : x10_1 < (t104.size : Int) := of_decide_eq_true (by first | (with_reducible assumption) | assumption)
            have hx7 := bt_at t104 x10_1
            replace p7 := eq_true p7
            replace q7 := eq_true q7
            go_upto_if 16 with (first | ((with_reducible refine gate_callee (f := 31) rfl ?_); refine goesL_ (some 18) rfl rfl Tryd.func31 (by kernel_rfl) rfl #[.int .u8 (bt t104 x10_1)] rfl (by (try simp only [List.map_toArray, List.map_cons, List.map_nil]); first | done | rfl | (simp only [List.length_drop, List.length_take]; rfl)) ?_; (with_reducible refine (url_letter.calls (bt t104 x10_1) t105 _ A8.out).mono ?_); rintro e w' ⟨rfl, ⟨nd, rfl⟩⟩; refine ⟨_, rfl, ?_⟩))
            (try simp only [Act.put, List.setIfInBounds_toArray, List.set_cons_zero, List.set_cons_succ])
            go_cut [16] (fun v16 wc => ∃ (kq : Nat) (x16_8 : Bool), v16 = .bool x16_8 ∧ Aside0 (url_Scheme.j1 kq t104 x10_1 (bt t104 x10_1) (t104.size : Int) x10_1 x16_8 = some (r1, r2)) ∧ Aside0 (kq ≤ k1) ∧ Aside0 (Below w.heap.size w wc))
            case first =>
              have H := HC9.out
              clear HC9
              by_cases c10 : t105 = true
              · subst c10
                have H1 : (url_Scheme.j1 k1 t104 x10_1 (bt t104 x10_1) (t104.size : Int) x10_1 true) = some (r1, r2) := by rw [if_pos rfl] at H; exact H
                clear H
                have H := H1
                clear H1
                have H' := Aside0.mk H
                clear H
                go_wp2
                go_meet
                case rel => exact ⟨_, (true), (by first | rfl | (simp; done) | (simp [*]; done) | (simp [bne]; done)), H', ⟨by have := HK1.out; first | omega | exact Nat.le_refl _⟩, ⟨by repeat (first | (with_reducible first | exact HB.out | apply below_alloc | apply pw_below_drewN | apply below_drew1) | exact HB.out)⟩⟩
              · replace c10 := Bool.eq_false_iff.mpr c10
                subst c10
                have H1 : (if x10_1 > 0 then (if (bt t104 x10_1) ≥ 48 then (if (bt t104 x10_1) ≤ 57 then (url_Scheme.j1 k1 t104 x10_1 (bt t104 x10_1) (t104.size : Int) x10_1 true) else (if (bt t104 x10_1) = 43 then (url_Scheme.j1 k1 t104 x10_1 (bt t104 x10_1) (t104.size : Int) x10_1 true) else (if (bt t104 x10_1) = 45 then (url_Scheme.j1 k1 t104 x10_1 (bt t104 x10_1) (t104.size : Int) x10_1 true) else (url_Scheme.j1 k1 t104 x10_1 (bt t104 x10_1) (t104.size : Int) x10_1 ((bt t104 x10_1) == 46))))) else (if (bt t104 x10_1) = 43 then (url_Scheme.j1 k1 t104 x10_1 (bt t104 x10_1) (t104.size : Int) x10_1 true) else (if (bt t104 x10_1) = 45 then (url_Scheme.j1 k1 t104 x10_1 (bt t104 x10_1) (t104.size : Int) x10_1 true) else (url_Scheme.j1 k1 t104 x10_1 (bt t104 x10_1) (t104.size : Int) x10_1 ((bt t104 x10_1) == 46))))) else (url_Scheme.j1 k1 t104 x10_1 (bt t104 x10_1) (t104.size : Int) x10_1 false)) = some (r1, r2) := by rw [if_neg (show ¬ (false = true) by decide)] at H; exact H
                clear H
                have H := H1
                clear H1
                by_cases c11 : x10_1 > 0
                · rw [if_pos c11] at H
                  have c11b0 : decide (0 < x10_1) = true := decide_eq_true c11
                  clear c11
                  (first | rw [c11b0] | (simp only [i64_w, i32_w]; rw [c11b0]) | rw [c11b1] | skip)
                  by_cases c12 : (bt t104 x10_1) ≥ 48
                  · rw [if_pos c12] at H
                    have c12b0 : decide (48 ≤ (bt t104 x10_1)) = true := decide_eq_true c12
                    clear c12
                    by_cases c13 : (bt t104 x10_1) ≤ 57
                    · rw [if_pos c13] at H
                      have c13b0 : decide ((bt t104 x10_1) ≤ 57) = true := decide_eq_true c13
                      clear c13
                      have H' := Aside0.mk H
                      clear H
                      go_wp2
                      go_meet
                      case rel => exact ⟨_, (true), (by first | rfl | (simp; done) | (simp [*]; done) | (simp [bne]; done)), H', ⟨by have := HK1.out; first | omega | exact Nat.le_refl _⟩, ⟨by repeat (first | (with_reducible first | exact HB.out | apply below_alloc | apply pw_below_drewN | apply below_drew1) | exact HB.out)⟩⟩
                    · rw [if_neg c13] at H
                      have c13b0 : decide ((bt t104 x10_1) ≤ 57) = false := decide_eq_false c13
                      clear c13
                      by_cases c14 : (bt t104 x10_1) = 43
                      · rw [if_pos c14] at H
                        have c14b0 : ((bt t104 x10_1) == 43) = true := beq_iff_eq.mpr c14
                        have c14b1 : ((bt t104 x10_1) != 43) = false := bne_eq_false_iff_eq.mpr c14
                        clear c14
                        have H' := Aside0.mk H
                        clear H
                        go_wp2
                        go_meet
                        case rel => exact ⟨_, (true), (by first | rfl | (simp; done) | (simp [*]; done) | (simp [bne]; done)), H', ⟨by have := HK1.out; first | omega | exact Nat.le_refl _⟩, ⟨by repeat (first | (with_reducible first | exact HB.out | apply below_alloc | apply pw_below_drewN | apply below_drew1) | exact HB.out)⟩⟩
                      · rw [if_neg c14] at H
                        have c14b0 : ((bt t104 x10_1) == 43) = false := beq_eq_false_iff_ne.mpr c14
                        have c14b1 : ((bt t104 x10_1) != 43) = true := bne_iff_ne.mpr c14
                        by_cases c15 : (bt t104 x10_1) = 45
                        · rw [if_pos c15] at H
                          have c15b0 : ((bt t104 x10_1) == 45) = true := beq_iff_eq.mpr c15
                          have c15b1 : ((bt t104 x10_1) != 45) = false := bne_eq_false_iff_eq.mpr c15
                          clear c15
                          have H' := Aside0.mk H
                          clear H
                          go_wp2
                          go_meet
                          case rel => exact ⟨_, (true), (by first | rfl | (simp; done) | (simp [*]; done) | (simp [bne]; done)), H', ⟨by have := HK1.out; first | omega | exact Nat.le_refl _⟩, ⟨by repeat (first | (with_reducible first | exact HB.out | apply below_alloc | apply pw_below_drewN | apply below_drew1) | exact HB.out)⟩⟩
                        · rw [if_neg c15] at H
                          have c15b0 : ((bt t104 x10_1) == 45) = false := beq_eq_false_iff_ne.mpr c15
                          have c15b1 : ((bt t104 x10_1) != 45) = true := bne_iff_ne.mpr c15
                          have H' := Aside0.mk H
                          clear H
                          go_wp2
                          go_meet
                          case rel => exact ⟨_, (((bt t104 x10_1) == 46)), (by first | rfl | (simp; done) | (simp [*]; done) | (simp [bne]; done)), H', ⟨by have := HK1.out; first | omega | exact Nat.le_refl _⟩, ⟨by repeat (first | (with_reducible first | exact HB.out | apply below_alloc | apply pw_below_drewN | apply below_drew1) | exact HB.out)⟩⟩
                  · rw [if_neg c12] at H
                    have c12b0 : decide (48 ≤ (bt t104 x10_1)) = false := decide_eq_false c12
                    clear c12
                    by_cases c16 : (bt t104 x10_1) = 43
                    · rw [if_pos c16] at H
                      have c16b0 : ((bt t104 x10_1) == 43) = true := beq_iff_eq.mpr c16
                      have c16b1 : ((bt t104 x10_1) != 43) = false := bne_eq_false_iff_eq.mpr c16
                      clear c16
                      have H' := Aside0.mk H
                      clear H
                      go_wp2
                      go_meet
                      case rel => exact ⟨_, (true), (by first | rfl | (simp; done) | (simp [*]; done) | (simp [bne]; done)), H', ⟨by have := HK1.out; first | omega | exact Nat.le_refl _⟩, ⟨by repeat (first | (with_reducible first | exact HB.out | apply below_alloc | apply pw_below_drewN | apply below_drew1) | exact HB.out)⟩⟩
                    · rw [if_neg c16] at H
                      have c16b0 : ((bt t104 x10_1) == 43) = false := beq_eq_false_iff_ne.mpr c16
                      have c16b1 : ((bt t104 x10_1) != 43) = true := bne_iff_ne.mpr c16
                      by_cases c17 : (bt t104 x10_1) = 45
                      · rw [if_pos c17] at H
                        have c17b0 : ((bt t104 x10_1) == 45) = true := beq_iff_eq.mpr c17
                        have c17b1 : ((bt t104 x10_1) != 45) = false := bne_eq_false_iff_eq.mpr c17
                        clear c17
                        have H' := Aside0.mk H
                        clear H
                        go_wp2
                        go_meet
                        case rel => exact ⟨_, (true), (by first | rfl | (simp; done) | (simp [*]; done) | (simp [bne]; done)), H', ⟨by have := HK1.out; first | omega | exact Nat.le_refl _⟩, ⟨by repeat (first | (with_reducible first | exact HB.out | apply below_alloc | apply pw_below_drewN | apply below_drew1) | exact HB.out)⟩⟩
                      · rw [if_neg c17] at H
                        have c17b0 : ((bt t104 x10_1) == 45) = false := beq_eq_false_iff_ne.mpr c17
                        have c17b1 : ((bt t104 x10_1) != 45) = true := bne_iff_ne.mpr c17
                        have H' := Aside0.mk H
                        clear H
                        go_wp2
                        go_meet
                        case rel => exact ⟨_, (((bt t104 x10_1) == 46)), (by first | rfl | (simp; done) | (simp [*]; done) | (simp [bne]; done)), H', ⟨by have := HK1.out; first | omega | exact Nat.le_refl _⟩, ⟨by repeat (first | (with_reducible first | exact HB.out | apply below_alloc | apply pw_below_drewN | apply below_drew1) | exact HB.out)⟩⟩
                · rw [if_neg c11] at H
                  have c11b0 : decide (0 < x10_1) = false := decide_eq_false c11
                  clear c11
                  (first | rw [c11b0] | (simp only [i64_w, i32_w]; rw [c11b0]) | rw [c11b1] | skip)
                  have H' := Aside0.mk H
                  clear H
                  go_wp2
                  go_meet
                  case rel => exact ⟨_, (false), (by first | rfl | (simp; done) | (simp [*]; done) | (simp [bne]; done)), H', ⟨by have := HK1.out; first | omega | exact Nat.le_refl _⟩, ⟨by repeat (first | (with_reducible first | exact HB.out | apply below_alloc | apply pw_below_drewN | apply below_drew1) | exact HB.out)⟩⟩
            case rest =>
              clear HC9
              try clear c1
              try clear p2
              try clear c3
              try clear c4
              try clear c4b0
              try clear c5
              try clear c5b0
              try clear c6
              try clear c6b0
              try clear p7
              try clear q7
              try clear hx7
              try clear c10
              try clear c11
              try clear c11b0
              try clear c12
              try clear c12b0
              try clear c13
              try clear c13b0
              try clear c14
              try clear c14b0
              try clear c14b1
              try clear c15
              try clear c15b0
              try clear c15b1
              try clear c16
              try clear c16b0
              try clear c16b1
              try clear c17
              try clear c17b0
              try clear c17b1
              try clear p2
              try clear p7
              try clear q7
              obtain ⟨kq, x16_8, rfl, HA, HJ8, HB⟩ := hcut
              cases kq with
              | zero => exact absurd HA.out (by simp [url_Scheme.j1])
              | succ kj8 =>
                have H := HA.out
                clear HA
                simp only [url_Scheme.j1] at H
                by_cases c18 : x16_8 = true
                · subst c18
                  have H1 : (url_Scheme.l0 kj8 t104 (t104.size : Int) (wrap64 (x10_1 + 1))) = some (r1, r2) := by rw [if_pos rfl] at H; exact H
                  clear H
                  have H := H1
                  clear H1
                  have H' := Aside0.mk H
                  clear H
                  go_wp2
                  go_roundg kj8
                  case measure => have := HK1.out; have := HJ8.out; omega
                  case rel => exact ⟨(wrap64 (x10_1 + 1)), (by first | rfl | (simp; done) | (simp [*]; done) | (simp [bne]; done)), H', ⟨by have := HK1.out; have := HJ8.out; omega⟩, ⟨by repeat (first | (with_reducible first | exact HB.out | apply below_alloc | apply pw_below_drewN | apply below_drew1) | exact HB.out)⟩⟩
                · replace c18 := Bool.eq_false_iff.mpr c18
                  subst c18
                  have H1 : (if (bt t104 x10_1) = 58 then (if x10_1 > 0 then (if 0 ≤ x10_1 then (if x10_1 ≤ (t104.size : Int) then ((tok_Small.f (t104.extract 0 (x10_1 : Int).toNat)).bind fun t106 => (some (t106, true))) else (none)) else (none)) else (some ((⟨#[]⟩ : ByteArray), false))) else (some ((⟨#[]⟩ : ByteArray), false))) = some (r1, r2) := by rw [if_neg (show ¬ (false = true) by decide)] at H; exact H
                  clear H
                  have H := H1
                  clear H1
                  by_cases c19 : (bt t104 x10_1) = 58
                  · rw [if_pos c19] at H
                    have c19b0 : ((bt t104 x10_1) == 58) = true := beq_iff_eq.mpr c19
                    have c19b1 : ((bt t104 x10_1) != 58) = false := bne_eq_false_iff_eq.mpr c19
                    clear c19
                    by_cases c20 : x10_1 > 0
                    · rw [if_pos c20] at H
                      have c20b0 : decide (0 < x10_1) = true := decide_eq_true c20
                      clear c20
                      by_cases c21 : 0 ≤ x10_1
                      · rw [if_pos c21] at H
                        have c21b0 := eq_true c21
                        have c21b1 : decide (0 ≤ x10_1) = true := decide_eq_true c21
                        clear c21
                        by_cases c22 : x10_1 ≤ (t104.size : Int)
                        · rw [if_pos c22] at H
                          have c22b0 := eq_true c22
                          have c22b1 : decide (x10_1 ≤ (t104.size : Int)) = true := decide_eq_true c22
                          clear c22
                          replace H := Option.bind_eq_some_iff.mp H
                          obtain ⟨t106, A230, H⟩ := H
                          replace H : (some (t106, true)) = some (r1, r2) := H
                          have A23 := Aside0.mk A230
                          clear A230
                          simp only [Option.some.injEq, Prod.mk.injEq] at H
                          obtain ⟨rfl, rfl⟩ := H
                          go_wp2_with (first | ((with_reducible refine gate_callee (f := 32) rfl ?_); refine goesL_ (some 51) rfl rfl Tryd.func32 (by kernel_rfl) rfl #[.string (t104.extract 0 (x10_1 : Int).toNat)] rfl (by (try simp only [List.map_toArray, List.map_cons, List.map_nil]); first | done | rfl | (simp only [List.length_drop, List.length_take]; rfl)) ?_; (with_reducible refine (tok_Small.calls (t104.extract 0 (x10_1 : Int).toNat) t106 _ A23.out).mono ?_); rintro e w24 ⟨rfl, hb⟩; refine ⟨_, rfl, ?_⟩; have n0_ := Aside0.mk (below_step (by repeat (first | (with_reducible first | exact HB.out | apply below_alloc | apply pw_below_drewN | apply below_drew1) | exact HB.out)) hb); clear HB; have HB := n0_; clear n0_; (try clear hb); (try clear hb2); (try clear hk); (try clear hi)))
                          go_ret2
                          exact ⟨by first | rfl | (simp [errW_none, errW_some] <;> rfl) | (simp [*, errW_none, errW_some] <;> rfl), by repeat (first | (with_reducible first | exact HB.out | apply below_alloc | apply pw_below_drewN | apply below_drew1) | exact HB.out)⟩
                        · rw [if_neg c22] at H
                          exact absurd H (by simp)
                      · rw [if_neg c21] at H
                        exact absurd H (by simp)
                    · rw [if_neg c20] at H
                      have c20b0 : decide (0 < x10_1) = false := decide_eq_false c20
                      clear c20
                      simp only [Option.some.injEq, Prod.mk.injEq] at H
                      obtain ⟨rfl, rfl⟩ := H
                      go_wp2
                      go_ret2
                      exact ⟨by first | rfl | (simp [errW_none, errW_some] <;> rfl) | (simp [*, errW_none, errW_some] <;> rfl), by repeat (first | (with_reducible first | exact HB.out | apply below_alloc | apply pw_below_drewN | apply below_drew1) | exact HB.out)⟩
                  · rw [if_neg c19] at H
                    have c19b0 : ((bt t104 x10_1) == 58) = false := beq_eq_false_iff_ne.mpr c19
                    have c19b1 : ((bt t104 x10_1) != 58) = true := bne_iff_ne.mpr c19
                    simp only [Option.some.injEq, Prod.mk.injEq] at H
                    obtain ⟨rfl, rfl⟩ := H
                    go_wp2
                    go_ret2
                    exact ⟨by first | rfl | (simp [errW_none, errW_some] <;> rfl) | (simp [*, errW_none, errW_some] <;> rfl), by repeat (first | (with_reducible first | exact HB.out | apply below_alloc | apply pw_below_drewN | apply below_drew1) | exact HB.out)⟩
          · rw [if_neg c6] at H
            exact absurd H (by simp)
        · rw [if_neg c5] at H
          exact absurd H (by simp)
      · rw [if_neg c4] at H
        have c4b0 : decide (x10_1 < (t104.size : Int)) = false := decide_eq_false c4
        clear c4
        simp only [Option.some.injEq, Prod.mk.injEq] at H
        obtain ⟨rfl, rfl⟩ := H
        go_wp2
        go_ret2
        exact ⟨by first | rfl | (simp [errW_none, errW_some] <;> rfl) | (simp [*, errW_none, errW_some] <;> rfl), by repeat (first | (with_reducible first | exact HB.out | apply below_alloc | apply pw_below_drewN | apply below_drew1) | exact HB.out)⟩
end Go.Proofs.YteimhgbihpbhaaaDoor.X
end
section
namespace Go.Proofs.YteimhgbihpbhaaaDoor.X
open Go.RowKit Go.Proofs.YteimhgbihpbhaaaDoorW.PrintWords Go.Proofs.YteimhgbihpbhaaaDoorW.PrintLast Go.Proofs.YteimhgbihpbhaaaDoorW.PrintMore
attribute [local go_sem] max2_int min2_int max_two min_two max_three min_three max_four min_four   -- for this text's walks alone
set_option linter.unusedVariables false
set_option linter.unusedSimpArgs false
def bobbinetkeep_StripOnce.f (k : Nat) (a0 : ByteArray) : Option (Bool) := (url_Strip.f a0).bind fun t107 => ((url_Scheme.f k a0).bind fun bt108 => ((url_Scheme.f k t107).bind fun bt110 => ((url_Strip.f (⟨#[32, 97, 32]⟩ : ByteArray)).bind fun t112 => (if t112.toList = ([97] : List UInt8) then ((url_Strip.f t107).bind fun t113 => (if t113.toList = t107.toList then (if (t107.size : Int) ≤ (a0.size : Int) then (if bt108.1.toList = bt110.1.toList then (some (bt108.2 == bt110.2)) else (none)) else (none)) else (none))) else (none)))))
set_option maxHeartbeats 8000000 in
set_option maxRecDepth 100000 in
theorem bobbinetkeep_StripOnce.calls (k : Nat) (a0 : ByteArray) (r : Bool) (w : World) (h : bobbinetkeep_StripOnce.f k a0 = some r) :
    Calls Tryd.prog 6 #[.string a0] w fun e w' => e = .returned (.bool r) ∧ Below w.heap.size w w' := by
  have HB := Aside0.mk (Below.refl w.heap.size w)
  have H : ((url_Strip.f a0).bind fun t107 => ((url_Scheme.f k a0).bind fun bt108 => ((url_Scheme.f k t107).bind fun bt110 => ((url_Strip.f (⟨#[32, 97, 32]⟩ : ByteArray)).bind fun t112 => (if t112.toList = ([97] : List UInt8) then ((url_Strip.f t107).bind fun t113 => (if t113.toList = t107.toList then (if (t107.size : Int) ≤ (a0.size : Int) then (if bt108.1.toList = bt110.1.toList then (some (bt108.2 == bt110.2)) else (none)) else (none)) else (none))) else (none)))))) = some r := h
  clear h
  replace H := Option.bind_eq_some_iff.mp H
  obtain ⟨t107, A20, H⟩ := H
  replace H : ((url_Scheme.f k a0).bind fun bt108 => ((url_Scheme.f k t107).bind fun bt110 => ((url_Strip.f (⟨#[32, 97, 32]⟩ : ByteArray)).bind fun t112 => (if t112.toList = ([97] : List UInt8) then ((url_Strip.f t107).bind fun t113 => (if t113.toList = t107.toList then (if (t107.size : Int) ≤ (a0.size : Int) then (if bt108.1.toList = bt110.1.toList then (some (bt108.2 == bt110.2)) else (none)) else (none)) else (none))) else (none))))) = some r := H
  have A2 := Aside0.mk A20
  clear A20
  replace H := Option.bind_eq_some_iff.mp H
  obtain ⟨⟨t108, t109⟩, A30, H⟩ := H
  replace H : ((url_Scheme.f k t107).bind fun bt110 => ((url_Strip.f (⟨#[32, 97, 32]⟩ : ByteArray)).bind fun t112 => (if t112.toList = ([97] : List UInt8) then ((url_Strip.f t107).bind fun t113 => (if t113.toList = t107.toList then (if (t107.size : Int) ≤ (a0.size : Int) then (if t108.toList = bt110.1.toList then (some (t109 == bt110.2)) else (none)) else (none)) else (none))) else (none)))) = some r := H
  have A3 := Aside0.mk A30
  clear A30
  replace H := Option.bind_eq_some_iff.mp H
  obtain ⟨⟨t110, t111⟩, A40, H⟩ := H
  replace H : ((url_Strip.f (⟨#[32, 97, 32]⟩ : ByteArray)).bind fun t112 => (if t112.toList = ([97] : List UInt8) then ((url_Strip.f t107).bind fun t113 => (if t113.toList = t107.toList then (if (t107.size : Int) ≤ (a0.size : Int) then (if t108.toList = t110.toList then (some (t109 == t111)) else (none)) else (none)) else (none))) else (none))) = some r := H
  have A4 := Aside0.mk A40
  clear A40
  replace H := Option.bind_eq_some_iff.mp H
  obtain ⟨t112, A50, H⟩ := H
  replace H : (if t112.toList = ([97] : List UInt8) then ((url_Strip.f t107).bind fun t113 => (if t113.toList = t107.toList then (if (t107.size : Int) ≤ (a0.size : Int) then (if t108.toList = t110.toList then (some (t109 == t111)) else (none)) else (none)) else (none))) else (none)) = some r := H
  have A5 := Aside0.mk A50
  clear A50
  by_cases c6 : t112.toList = ([97] : List UInt8)
  · rw [if_pos c6] at H
    have c6b0 : (t112.toList == ([97] : List UInt8)) = true := beq_iff_eq.mpr c6
    have c6b1 : (t112.toList != ([97] : List UInt8)) = false := bne_eq_false_iff_eq.mpr c6
    clear c6
    replace H := Option.bind_eq_some_iff.mp H
    obtain ⟨t113, A70, H⟩ := H
    replace H : (if t113.toList = t107.toList then (if (t107.size : Int) ≤ (a0.size : Int) then (if t108.toList = t110.toList then (some (t109 == t111)) else (none)) else (none)) else (none)) = some r := H
    have A7 := Aside0.mk A70
    clear A70
    by_cases c8 : t113.toList = t107.toList
    · rw [if_pos c8] at H
      have c8b0 : (t113.toList == t107.toList) = true := beq_iff_eq.mpr c8
      have c8b1 : (t113.toList != t107.toList) = false := bne_eq_false_iff_eq.mpr c8
      clear c8
      by_cases c9 : (t107.size : Int) ≤ (a0.size : Int)
      · rw [if_pos c9] at H
        have c9b0 : decide ((t107.size : Int) ≤ (a0.size : Int)) = true := decide_eq_true c9
        have c9b1 : decide (t107.size ≤ a0.size) = true := decide_eq_true (Int.ofNat_le.mp c9)
        clear c9
        by_cases c10 : t108.toList = t110.toList
        · rw [if_pos c10] at H
          have c10b0 : (t108.toList == t110.toList) = true := beq_iff_eq.mpr c10
          have c10b1 : (t108.toList != t110.toList) = false := bne_eq_false_iff_eq.mpr c10
          clear c10
          obtain rfl := Option.some.inj H
          go_enter Tryd.func6, Tryd.ntmps6
          go_wp2_with (first | ((with_reducible refine gate_callee (f := 16) rfl ?_); refine goesL_ (some 9) rfl rfl Tryd.func16 (by kernel_rfl) rfl #[.string a0] rfl (by (try simp only [List.map_toArray, List.map_cons, List.map_nil]); first | done | rfl | (simp only [List.length_drop, List.length_take]; rfl)) ?_; (with_reducible refine (url_Strip.calls a0 t107 _ A2.out).mono ?_); rintro e w11 ⟨rfl, hb⟩; refine ⟨_, rfl, ?_⟩; have n0_ := Aside0.mk (below_step (by repeat (first | (with_reducible first | exact HB.out | apply below_alloc | apply pw_below_drewN | apply below_drew1) | exact HB.out)) hb); clear HB; have HB := n0_; clear n0_; (try clear hb); (try clear hb2); (try clear hk); (try clear hi)) | ((with_reducible refine gate_callee (f := 17) rfl ?_); refine goesL_ (some 12) rfl rfl Tryd.func17 (by kernel_rfl) rfl #[.string a0] rfl (by (try simp only [List.map_toArray, List.map_cons, List.map_nil]); first | done | rfl | (simp only [List.length_drop, List.length_take]; rfl)) ?_; (with_reducible refine (url_Scheme.calls k a0 t108 t109 _ A3.out).mono ?_); rintro e w12 ⟨rfl, hb⟩; refine ⟨_, rfl, ?_⟩; have n0_ := Aside0.mk (below_step (by repeat (first | (with_reducible first | exact HB.out | apply below_alloc | apply pw_below_drewN | apply below_drew1) | exact HB.out)) hb); clear HB; have HB := n0_; clear n0_; (try clear hb); (try clear hb2); (try clear hk); (try clear hi)) | ((with_reducible refine gate_callee (f := 17) rfl ?_); refine goesL_ (some 17) rfl rfl Tryd.func17 (by kernel_rfl) rfl #[.string t107] rfl (by (try simp only [List.map_toArray, List.map_cons, List.map_nil]); first | done | rfl | (simp only [List.length_drop, List.length_take]; rfl)) ?_; (with_reducible refine (url_Scheme.calls k t107 t110 t111 _ A4.out).mono ?_); rintro e w13 ⟨rfl, hb⟩; refine ⟨_, rfl, ?_⟩; have n0_ := Aside0.mk (below_step (by repeat (first | (with_reducible first | exact HB.out | apply below_alloc | apply pw_below_drewN | apply below_drew1) | exact HB.out)) hb); clear HB; have HB := n0_; clear n0_; (try clear hb); (try clear hb2); (try clear hk); (try clear hi)) | ((with_reducible refine gate_callee (f := 16) rfl ?_); refine goesL_ (some 20) rfl rfl Tryd.func16 (by kernel_rfl) rfl #[.string (⟨#[32, 97, 32]⟩ : ByteArray)] rfl (by (try simp only [List.map_toArray, List.map_cons, List.map_nil]); first | done | rfl | (simp only [List.length_drop, List.length_take]; rfl)) ?_; (with_reducible refine (url_Strip.calls (⟨#[32, 97, 32]⟩ : ByteArray) t112 _ A5.out).mono ?_); rintro e w14 ⟨rfl, hb⟩; refine ⟨_, rfl, ?_⟩; have n0_ := Aside0.mk (below_step (by repeat (first | (with_reducible first | exact HB.out | apply below_alloc | apply pw_below_drewN | apply below_drew1) | exact HB.out)) hb); clear HB; have HB := n0_; clear n0_; (try clear hb); (try clear hb2); (try clear hk); (try clear hi)) | (go_at_call 16; (with_reducible refine (url_Strip.calls t107 t113 _ A7.out).mono ?_); rintro e w15 ⟨rfl, hb⟩; have n0_ := Aside0.mk (below_step (by repeat (first | (with_reducible first | exact HB.out | apply below_alloc | apply pw_below_drewN | apply below_drew1) | exact HB.out)) hb); clear HB; have HB := n0_; clear n0_; (try clear hb); (try clear hb2); (try clear hk); (try clear hi)))
          go_ret
          exact ⟨by first | rfl | (simp [errW_none, errW_some] <;> rfl) | (simp [*, errW_none, errW_some] <;> rfl), by repeat (first | (with_reducible first | exact HB.out | apply below_alloc | apply pw_below_drewN | apply below_drew1) | exact HB.out)⟩
        · rw [if_neg c10] at H
          exact absurd H (by simp)
      · rw [if_neg c9] at H
        exact absurd H (by simp)
    · rw [if_neg c8] at H
      exact absurd H (by simp)
  · rw [if_neg c6] at H
    exact absurd H (by simp)
/-- THE ONE PURE STATEMENT of bobbinetkeep_StripOnce: yours. -/
def bobbinetkeep_StripOnce.Pure : Prop := ∀ (a0 : ByteArray), a0.size ≤ 140737488351232 → ∃ k, bobbinetkeep_StripOnce.f k a0 = some true
theorem bobbinetkeep_StripOnce.walk (P : bobbinetkeep_StripOnce.Pure) (a0 : ByteArray) (w : World) (w0 : a0.size ≤ 140737488351232) :
    Calls Tryd.prog 6 #[.string a0] w fun e w' => e = .returned (.bool true) ∧ Below w.heap.size w w' := by
  obtain ⟨k, h⟩ := P a0 w0
  refine (bobbinetkeep_StripOnce.calls k a0 true w h).mono ?_
  rintro e w' ⟨rfl, hd⟩
  exact ⟨rfl, hd⟩
end Go.Proofs.YteimhgbihpbhaaaDoor.X
end
section
namespace Go.Proofs.YteimhgbihpbhaaaDoor.Base
open Go.RowKit Go.Proofs.YteimhgbihpbhaaaDoorW.PrintWords
theorem toList_loop (s : ByteArray) : ∀ (n i : Nat) (r : List UInt8), s.size - i = n → ByteArray.toList.loop s i r = r.reverse ++ s.data.toList.drop i
  | 0, i, r, h => by
    unfold ByteArray.toList.loop
    have h1 : s.data.toList.drop i = [] := List.drop_eq_nil_of_le (by rw [Array.length_toList]; show s.size ≤ i; omega)
    rw [if_neg (by omega), h1, List.append_nil]
  | n + 1, i, r, h => by
    unfold ByteArray.toList.loop
    have hi : i < s.size := by omega
    have hl : i < s.data.toList.length := by rw [Array.length_toList]; exact hi
    have hg : s.get! i = s.data.toList[i] := by
      obtain ⟨d⟩ := s
      show d[i]! = _
      rw [getElem!_pos d i hi]
      simp
    rw [if_pos hi, toList_loop s n (i + 1) _ (by omega), hg, List.drop_eq_getElem_cons hl, List.reverse_cons, List.append_assoc]
    rfl
theorem toList_eq (s : ByteArray) : s.toList = s.data.toList := by
  unfold ByteArray.toList
  rw [toList_loop s _ 0 [] rfl]
  rfl
theorem Ev.ite_pos {α : Type} {c : Prop} [Decidable c] {g f : Nat → Option α} {r : α} (h : c) (k : Ev g r) : Ev (fun n => if c then g n else f n) r := by
  simpa only [if_pos h] using k
theorem Ev.ite_neg {α : Type} {c : Prop} [Decidable c] {g f : Nat → Option α} {r : α} (h : ¬ c) (k : Ev f r) : Ev (fun n => if c then g n else f n) r := by
  simpa only [if_neg h] using k
theorem Ev.some {α : Type} (r : α) : Ev (fun _ => Option.some r) r := ⟨0, fun _ _ => rfl⟩
/-- one round: what is told of k + 1 rounds -/
theorem Ev.one {α : Type} {g f : Nat → Option α} {r : α} (h : ∀ k, g (k + 1) = f k) (k : Ev f r) : Ev g r := by
  obtain ⟨K, hK⟩ := k
  refine ⟨K + 1, fun k hk => ?_⟩
  obtain ⟨m, rfl⟩ : ∃ m, k = m + 1 := ⟨k - 1, by omega⟩
  rw [h m]
  exact hK m (by omega)
theorem Ev.bnd {α β : Type} {g : Nat → Option α} {f : Nat → α → Option β} {a : α} {r : β} (h : Ev g a) (k : Ev (fun n => f n a) r) : Ev (fun n => (g n).bind (f n)) r := by
  obtain ⟨K, hK⟩ := h
  obtain ⟨L, hL⟩ := k
  refine ⟨K + L, fun n hn => ?_⟩
  show (g n).bind (f n) = _
  rw [hK n (by omega)]
  exact hL n (by omega)
theorem Ev.bnd0 {α β : Type} {g : Option α} {f : Nat → α → Option β} {a : α} {r : β} (h : g = Option.some a) (k : Ev (fun n => f n a) r) : Ev (fun n => g.bind (f n)) r := by
  subst h
  exact k
theorem wrap_succ {i : Nat} {n : Nat} (h : i < n) (hn : n ≤ 9223372036854775807) : wrap64 ((i : Int) + 1) = ((i + 1 : Nat) : Int) := by unfold wrap64; omega
end Go.Proofs.YteimhgbihpbhaaaDoor.Base
end
section
namespace Go.Proofs.YteimhgbihpbhaaaDoor.Url
open Go.RowKit Go.Proofs.YteimhgbihpbhaaaDoor.X Go.Proofs.YteimhgbihpbhaaaDoorW.PrintWords Go.Proofs.YteimhgbihpbhaaaDoorW.PrintLast Go.Proofs.YteimhgbihpbhaaaDoor.Base
set_option linter.unusedVariables false
set_option linter.unusedSimpArgs false
abbrev L := List UInt8
def mk (l : L) : ByteArray := ⟨l.toArray⟩
theorem mk_data (l : L) : (mk l).data.toList = l := rfl
theorem mk_toList (l : L) : (mk l).toList = l := by rw [toList_eq, mk_data]
theorem mk_size (l : L) : (mk l).size = l.length := by show l.toArray.size = _; simp
theorem ext_mk (l : L) (b : Nat) : (mk l).extract 0 b = mk (l.take b) := by
  apply ByteArray.ext
  show ((mk l).extract 0 b).data = (l.take b).toArray
  rw [ByteArray.data_extract]
  simp [mk]
def cut : L := url_Strip.cutset.data.toList
theorem cut_eq : cut = (List.range 33).map UInt8.ofNat := by decide +kernel
theorem cut_iff (c : UInt8) : cut.contains c = decide (c.toNat ≤ 32) := by
  rw [Bool.eq_iff_iff, List.contains_iff_mem, cut_eq, List.mem_map, decide_eq_true_eq]
  constructor
  · rintro ⟨n, hn, rfl⟩
    rw [List.mem_range] at hn
    simp; omega
  · intro h
    exact ⟨c.toNat, List.mem_range.2 (by omega), by simp⟩
def gone (c : UInt8) : Bool := url_Strip.gone c
theorem gone_small {c : UInt8} (h : 32 < c.toNat) : gone c = false := by
  have e : ∀ n : Nat, n ≤ 32 → c ≠ UInt8.ofNat n := fun n hn e => by subst e; simp at h; omega
  have h9 := e 9 (by omega)
  have h10 := e 10 (by omega)
  have h13 := e 13 (by omega)
  simp only [gone, url_Strip.gone, Bool.or_eq_false_iff, beq_eq_false_iff_ne]
  exact ⟨⟨h9, h10⟩, h13⟩
def strip (l : L) : L := (Lib.trimS l cut).filter fun c => !gone c
theorem strip_f (s : ByteArray) (h : s.size ≤ 140737488355328) : url_Strip.f s = some (mk (strip s.data.toList)) := if_pos h
theorem left_keep {c : UInt8} {l : L} (h : 32 < c.toNat) : Lib.trimLeftS (c :: l) cut = c :: l := by
  unfold Lib.trimLeftS
  rw [List.dropWhile_cons, cut_iff, if_neg (by simp; omega)]
theorem right_keep {c : UInt8} {l q : L} (h : 32 < c.toNat) : Lib.trimRightS (l ++ c :: q) cut = l ++ c :: Lib.trimRightS q cut := by
  unfold Lib.trimRightS
  rw [List.reverse_append, List.reverse_cons, List.append_assoc, List.dropWhile_append]
  split
  · rename_i h0
    rw [List.isEmpty_iff.1 h0, List.singleton_append, List.dropWhile_cons, cut_iff, if_neg (by simp; omega)]
    simp
  · simp
/-- what begins and ends with what is not cut -/
def Ends (l : L) : Prop := (∀ c, l.head? = some c → 32 < c.toNat) ∧ (∀ c, l.getLast? = some c → 32 < c.toNat)
theorem left_head (l : L) : ∀ c, (Lib.trimLeftS l cut).head? = some c → 32 < c.toNat := by
  induction l with
  | nil => intro c h; cases h
  | cons d l ih =>
    intro c h
    unfold Lib.trimLeftS at h ih
    rw [List.dropWhile_cons, cut_iff] at h
    by_cases hd : d.toNat ≤ 32
    · rw [if_pos (by simpa using hd)] at h
      exact ih c h
    · rw [if_neg (by simpa using hd)] at h
      obtain rfl := Option.some.inj h
      omega
theorem left_last (l : L) : ∀ c, (Lib.trimLeftS l cut).getLast? = some c → l.getLast? = some c := by
  induction l with
  | nil => intro c h; cases h
  | cons d l ih =>
    intro c h
    unfold Lib.trimLeftS at h ih
    rw [List.dropWhile_cons] at h
    split at h
    · have h1 := ih c h
      rw [List.getLast?_cons, h1]
      rfl
    · exact h
theorem trim_ends (l : L) : Ends (Lib.trimS l cut) := by
  refine ⟨left_head _, fun c h => ?_⟩
  have h1 := left_last _ c h
  unfold Lib.trimRightS at h1
  rw [List.getLast?_reverse] at h1
  exact left_head l.reverse c h1
theorem Ends.trim {l : L} (h : Ends l) : Lib.trimS l cut = l := by
  have hr : Lib.trimRightS l cut = l := by
    rcases List.eq_nil_or_concat l with rfl | ⟨p, c, rfl⟩
    · rfl
    · rw [List.concat_eq_append] at h ⊢
      have := right_keep (c := c) (l := p) (q := []) (h.2 c (by simp))
      simpa [Lib.trimRightS] using this
  unfold Lib.trimS
  rw [hr]
  cases l with
  | nil => rfl
  | cons c l => exact left_keep (h.1 c rfl)
theorem Ends.filter {l : L} (h : Ends l) : Ends (l.filter fun c => !gone c) := by
  refine ⟨fun c hc => ?_, fun c hc => ?_⟩
  · cases l with
    | nil => cases hc
    | cons d l =>
      have hd := h.1 d rfl
      rw [List.filter_cons, if_pos (by simp [gone_small hd])] at hc
      obtain rfl := Option.some.inj hc
      exact hd
  · rcases List.eq_nil_or_concat l with rfl | ⟨p, d, rfl⟩
    · cases hc
    · rw [List.concat_eq_append] at h hc
      have hd := h.2 d (by simp)
      rw [List.filter_append, List.filter_cons, if_pos (by simp [gone_small hd]), List.filter_nil] at hc
      simp at hc
      exact hc ▸ hd
theorem strip_strip (l : L) : strip (strip l) = strip l := by
  have h : Ends (strip l) := (trim_ends l).filter
  unfold strip at h ⊢
  rw [h.trim, List.filter_filter]
  simp
theorem strip_len (l : L) : (strip l).length ≤ l.length := by
  have h1 : (Lib.trimRightS l cut).length ≤ l.length := by
    unfold Lib.trimRightS
    rw [List.length_reverse]
    have := (List.dropWhile_sublist (cut.contains ·) (l := l.reverse)).length_le
    rwa [List.length_reverse] at this
  exact Nat.le_trans (List.length_filter_le _ _) (Nat.le_trans ((List.dropWhile_sublist (cut.contains ·) (l := Lib.trimRightS l cut)).length_le) h1)
def isL (c : UInt8) : Bool := decide (97 ≤ c.toNat ∧ c.toNat ≤ 122) || decide (65 ≤ c.toNat ∧ c.toNat ≤ 90)
def isT (c : UInt8) : Bool := decide (48 ≤ c.toNat ∧ c.toNat ≤ 57) || decide (c.toNat = 43 ∨ c.toNat = 45 ∨ c.toNat = 46)
def go : L → L → L × Bool
  | _, [] => ([], false)
  | pre, c :: r => if isL c || (decide (pre ≠ []) && isT c) then go (pre ++ [c]) r else if c.toNat = 58 ∧ pre ≠ [] then (pre.map tok_Small.sm, true) else ([], false)
theorem letter_ev (c : UInt8) : url_letter.f (c.toNat : Int) = some (isL c) := by
  unfold url_letter.f isL
  by_cases h1 : 97 ≤ c.toNat
  · rw [if_pos (by omega)]
    by_cases h2 : c.toNat ≤ 122
    · rw [if_pos (by omega)]; simp [h1, h2]
    · rw [if_neg (by omega), if_pos (by omega)]
      congr 1
      rw [Bool.eq_iff_iff]
      simp
      omega
  · rw [if_neg (by omega)]
    by_cases h3 : 65 ≤ c.toNat
    · rw [if_pos (by omega)]
      congr 1
      rw [Bool.eq_iff_iff]
      simp
      omega
    · rw [if_neg (by omega)]
      congr 1
      rw [Bool.eq_iff_iff]
      simp
      omega
theorem bt_mid (pre : L) (c : UInt8) (r : L) : bt (mk (pre ++ c :: r)) (pre.length : Int) = (c.toNat : Int) := by
  rw [url_Strip.bt_get _ _ (by rw [mk_size]; simp), mk_data]
  simp [List.getD]
theorem scheme_l0 : ∀ (suf pre : L), (pre ++ suf).length ≤ 140737488355328 → Ev (fun k => url_Scheme.l0 k (mk (pre ++ suf)) ((pre ++ suf).length : Int) (pre.length : Int)) (mk (go pre suf).1, (go pre suf).2) := by
  intro suf
  induction suf with
  | nil =>
    intro pre h
    refine Ev.one (fun k => by rw [url_Scheme.l0]) ?_
    refine Ev.ite_neg (by simp) ?_
    exact Ev.now _
  | cons c r ih =>
    intro pre h
    have hl : (pre ++ c :: r).length = pre.length + r.length + 1 := by simp; omega
    have hw : wrap64 ((pre.length : Int) + 1) = ((pre ++ [c]).length : Int) := by rw [wrap_succ (n := pre.length + 1) (by omega) (by omega)]; simp
    have hih := ih (pre ++ [c]) (by simpa using h)
    rw [List.append_assoc, List.singleton_append] at hih
    -- the join, by whether the byte belongs to a scheme
    have hj : ∀ q : Bool, q = (isL c || (decide (pre ≠ []) && isT c)) → Ev (fun k => url_Scheme.j1 k (mk (pre ++ c :: r)) (pre.length : Int) (c.toNat : Int) ((pre ++ c :: r).length : Int) (pre.length : Int) q) (mk (go pre (c :: r)).1, (go pre (c :: r)).2) := by
      intro q hq
      refine Ev.one (fun k => by rw [url_Scheme.j1]) ?_
      by_cases hqt : q = true
      · have hgo : go pre (c :: r) = go (pre ++ [c]) r := by rw [go, ← hq, if_pos hqt]
        rw [hgo, hw]
        exact Ev.ite_pos hqt hih
      · refine Ev.ite_neg hqt ?_
        by_cases h58 : c.toNat = 58
        · refine Ev.ite_pos (by omega) ?_
          by_cases hp : pre = []
          · have hgo : go pre (c :: r) = ([], false) := by rw [go, ← hq, if_neg hqt, if_neg (fun h => h.2 hp)]
            rw [hgo]
            exact Ev.ite_neg (by rw [hp]; simp) (Ev.now _)
          · have hgo : go pre (c :: r) = (pre.map tok_Small.sm, true) := by rw [go, ← hq, if_neg hqt, if_pos ⟨h58, hp⟩]
            rw [hgo]
            have : pre.length ≠ 0 := fun h => hp (List.length_eq_zero_iff.1 h)
            refine Ev.ite_pos (by omega) (Ev.ite_pos (by omega) (Ev.ite_pos (by rw [mk_size]; omega) ?_))
            refine Ev.bnd0 (a := mk (pre.map tok_Small.sm)) ?_ (Ev.now _)
            rw [Int.toNat_natCast, ext_mk, List.take_left]
            refine (if_pos (by rw [mk_size]; omega)).trans ?_
            rfl
        · have hgo : go pre (c :: r) = ([], false) := by rw [go, ← hq, if_neg hqt, if_neg (fun h => h58 h.1)]
          rw [hgo]
          exact Ev.ite_neg (by omega) (Ev.now _)
    refine Ev.one (fun k => by rw [url_Scheme.l0]) ?_
    refine Ev.ite_pos (by omega) (Ev.ite_pos (by omega) (Ev.ite_pos (by rw [mk_size]; omega) ?_))
    rw [bt_mid]
    refine Ev.bnd0 (letter_ev c) ?_
    by_cases hL : isL c = true
    · rw [hL]
      exact Ev.ite_pos rfl (hj true (by rw [hL]; rfl))
    · have hL := Bool.eq_false_iff.2 hL
      rw [hL] at hj ⊢
      refine Ev.ite_neg (by simp) ?_
      by_cases hp : pre = []
      · refine Ev.ite_neg (by rw [hp]; simp) (hj false (by simp [hp]))
      · have : pre.length ≠ 0 := fun h => hp (List.length_eq_zero_iff.1 h)
        refine Ev.ite_pos (by omega) ?_
        have hdp : decide (pre ≠ []) = true := decide_eq_true hp
        rw [hdp] at hj
        by_cases h48 : 48 ≤ c.toNat
        · refine Ev.ite_pos (by omega) ?_
          by_cases h57 : c.toNat ≤ 57
          · exact Ev.ite_pos (by omega) (hj true (by simp [isT, h48, h57]))
          · refine Ev.ite_neg (by omega) (Ev.ite_neg (by omega) (Ev.ite_neg (by omega) ?_))
            have e : (((c.toNat : Int) == 46) : Bool) = false := by simp; omega
            rw [e]
            exact hj false (by simp [isT]; omega)
        · refine Ev.ite_neg (by omega) ?_
          by_cases h43 : c.toNat = 43
          · exact Ev.ite_pos (by omega) (hj true (by simp [isT, h43]))
          · refine Ev.ite_neg (by omega) ?_
            by_cases h45 : c.toNat = 45
            · exact Ev.ite_pos (by omega) (hj true (by simp [isT, h45]))
            · refine Ev.ite_neg (by omega) ?_
              refine hj _ ?_
              rw [Bool.eq_iff_iff]
              simp [isT]
              omega
theorem scheme_ev (s : ByteArray) (h : s.size ≤ 140737488355328) : Ev (fun k => url_Scheme.f k s) (mk (go [] (strip s.data.toList)).1, (go [] (strip s.data.toList)).2) := by
  have hl := strip_len s.data.toList
  have hs : s.data.toList.length = s.size := Array.length_toList
  have h0 := scheme_l0 (strip s.data.toList) [] (by simp only [List.nil_append]; omega)
  refine Ev.bnd0 (strip_f s h) ?_
  rw [mk_size]
  exact h0
end Go.Proofs.YteimhgbihpbhaaaDoor.Url
end
section
namespace Go.Proofs.YteimhgbihpbhaaaDoor.Pure
open Go.RowKit Go.Proofs.YteimhgbihpbhaaaDoor.X Go.Proofs.YteimhgbihpbhaaaDoorW.PrintWords Go.Proofs.YteimhgbihpbhaaaDoorW.PrintLast Go.Proofs.YteimhgbihpbhaaaDoor.Base Go.Proofs.YteimhgbihpbhaaaDoor.Url
theorem StripOnce : bobbinetkeep_StripOnce.Pure := by
  intro a0 h0
  have hs : a0.data.toList.length = a0.size := Array.length_toList
  have hl := strip_len a0.data.toList
  have hz : (mk (strip a0.data.toList)).size ≤ 140737488355328 := by rw [mk_size]; omega
  have s1 := scheme_ev a0 (by omega)
  have s2 := scheme_ev (mk (strip a0.data.toList)) hz
  rw [mk_data, strip_strip] at s2
  have e1 := strip_f a0 (by omega)
  have e2 := strip_f (mk (strip a0.data.toList)) hz
  rw [mk_data, strip_strip] at e2
  have e3 : url_Strip.f (⟨#[32, 97, 32]⟩ : ByteArray) = some (mk [97]) := (strip_f _ (by decide)).trans (by decide +kernel)
  have main : Ev (fun k => bobbinetkeep_StripOnce.f k a0) true := by
    refine Ev.bnd0 e1 (Ev.bnd s1 (Ev.bnd s2 (Ev.bnd0 e3 (Ev.ite_pos (mk_toList _) (Ev.bnd0 e2 (Ev.ite_pos rfl (Ev.ite_pos (by rw [mk_size]; omega) (Ev.ite_pos rfl ?_))))))))
    simp only [beq_self_eq_true]
    exact Ev.now _
  obtain ⟨K, hK⟩ := main
  exact ⟨K, hK K (Nat.le_refl _)⟩
end Go.Proofs.YteimhgbihpbhaaaDoor.Pure
end
