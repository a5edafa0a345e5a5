/- Parts of the proof of UrlHidden that are needed, put together by pack.py. -/
import Derived.Test.YteimhgbihpbhaaaDoorQUrlHiddenaf
import Derived.Test.YteimhgbihpbhaaaDoorQUrlHiddenah
import Derived.Test.YteimhgbihpbhaaaDoorQUrlHiddenai
import Derived.Test.YteimhgbihpbhaaaDoorQUrlHiddenaj
import Derived.Test.YteimhgbihpbhaaaDoorQUrlHiddenaa
section
namespace Go.Proofs.YteimhgbihpbhaaaDoor.X
open Go.RowKit Go.Proofs.YteimhgbihpbhaaaDoorW.PrintWords Go.Proofs.YteimhgbihpbhaaaDoorW.PrintLast Go.Proofs.YteimhgbihpbhaaaDoorW.PrintMore
attribute [local go_sem] max2_int min2_int max_two min_two max_three min_three max_four min_four   -- for this text's walks alone
set_option linter.unusedVariables false
set_option linter.unusedSimpArgs false
mutual
def url_Scheme.l0 : Nat → ByteArray → Int → Int → Option (ByteArray × Bool)
  | 0, _, _, _ => none
  | k + 1, x0, x9, x10 => if x10 < x9 then (if 0 ≤ x10 then (if x10 < (x0.size : Int) then ((url_letter.f (bt x0 x10)).bind fun t105 => (if t105 = true then (url_Scheme.j1 k x0 x10 (bt x0 x10) x9 x10 t105) else (if x10 > 0 then (if (bt x0 x10) ≥ 48 then (if (bt x0 x10) ≤ 57 then (url_Scheme.j1 k x0 x10 (bt x0 x10) x9 x10 true) else (if (bt x0 x10) = 43 then (url_Scheme.j1 k x0 x10 (bt x0 x10) x9 x10 true) else (if (bt x0 x10) = 45 then (url_Scheme.j1 k x0 x10 (bt x0 x10) x9 x10 true) else (url_Scheme.j1 k x0 x10 (bt x0 x10) x9 x10 ((bt x0 x10) == 46))))) else (if (bt x0 x10) = 43 then (url_Scheme.j1 k x0 x10 (bt x0 x10) x9 x10 true) else (if (bt x0 x10) = 45 then (url_Scheme.j1 k x0 x10 (bt x0 x10) x9 x10 true) else (url_Scheme.j1 k x0 x10 (bt x0 x10) x9 x10 ((bt x0 x10) == 46))))) else (url_Scheme.j1 k x0 x10 (bt x0 x10) x9 x10 false)))) else (none)) else (none)) else (some ((⟨#[]⟩ : ByteArray), false))
def url_Scheme.j1 : Nat → ByteArray → Int → Int → Int → Int → Bool → Option (ByteArray × Bool)
  | 0, _, _, _, _, _, _ => none
  | k + 1, x0, x4, x5, x9, x10, x16 => if x16 = true then (url_Scheme.l0 k x0 x9 (wrap64 (x10 + 1))) else (if x5 = 58 then (if x4 > 0 then (if 0 ≤ x4 then (if x4 ≤ (x0.size : Int) then ((tok_Small.f (x0.extract 0 (x4 : Int).toNat)).bind fun t106 => (some (t106, true))) else (none)) else (none)) else (some ((⟨#[]⟩ : ByteArray), false))) else (some ((⟨#[]⟩ : ByteArray), false)))
end
def url_Scheme.f (k : Nat) (a0 : ByteArray) : Option (ByteArray × Bool) := (url_Strip.f a0).bind fun t104 => (url_Scheme.l0 k t104 (t104.size : Int) 0)
set_option maxHeartbeats 8000000 in
set_option maxRecDepth 100000 in
theorem url_Scheme.calls (k : Nat) (a0 : ByteArray) (r1 : ByteArray) (r2 : Bool) (w : World) (h : url_Scheme.f k a0 = some (r1, r2)) :
    Calls Tryd.prog 17 #[.string a0] w fun e w' => e = .returned (.tuple #[.string r1, .bool r2]) ∧ Below w.heap.size w w' := by
  have HB := Aside0.mk (Below.refl w.heap.size w)
  have H : ((url_Strip.f a0).bind fun t104 => (url_Scheme.l0 k t104 (t104.size : Int) 0)) = some (r1, r2) := h
  clear h
  replace H := Option.bind_eq_some_iff.mp H
  obtain ⟨t104, A20, H⟩ := H
  replace H : (url_Scheme.l0 k t104 (t104.size : Int) 0) = some (r1, r2) := H
  have A2 := Aside0.mk A20
  clear A20
  have H' := Aside0.mk H
  clear H
  go_enter Tryd.func17, Tryd.ntmps17
  go_wp2_with (first | ((with_reducible refine gate_callee (f := 16) rfl ?_); refine goesL_ (some 7) rfl rfl Tryd.func16 (by kernel_rfl) rfl #[.string a0] rfl (by (try simp only [List.map_toArray, List.map_cons, List.map_nil]); first | done | rfl | (simp only [List.length_drop, List.length_take]; rfl)) ?_; (with_reducible refine (url_Strip.calls a0 t104 _ A2.out).mono ?_); rintro e w3 ⟨rfl, hb⟩; refine ⟨_, rfl, ?_⟩; have n0_ := Aside0.mk (below_step (by repeat (first | (with_reducible first | exact HB.out | apply below_alloc | apply pw_below_drewN | apply below_drew1) | exact HB.out)) hb); clear HB; have HB := n0_; clear n0_; (try clear hb); (try clear hb2); (try clear hk); (try clear hi)))
  go_loopg [10] k (fun kq v10 w' => ∃ (x10_1 : Int), v10 = .int .i64 x10_1 ∧ Aside0 (url_Scheme.l0 kq t104 (t104.size : Int) x10_1 = some (r1, r2)) ∧ Aside0 (kq ≤ k) ∧ Aside0 (Below w.heap.size w w'))
  case atStart => exact ⟨(0), (by first | rfl | (simp; done) | (simp [*]; done) | (simp [bne]; done)), H', ⟨Nat.le_refl _⟩, ⟨by repeat (first | (with_reducible first | exact HB.out | apply below_alloc | apply pw_below_drewN | apply below_drew1) | exact HB.out)⟩⟩
  case round =>
    clear H'
    try clear c1
    try clear p2
    obtain ⟨x10_1, rfl, HA, HK1, HB⟩ := hrel
    cases gk with
    | zero => exact absurd HA.out (by simp [url_Scheme.l0])
    | succ k1 =>
      have H := HA.out
      clear HA
      simp only [url_Scheme.l0] at H
      by_cases c4 : x10_1 < (t104.size : Int)
      · rw [if_pos c4] at H
        have c4b0 : decide (x10_1 < (t104.size : Int)) = true := decide_eq_true c4
        clear c4
        by_cases c5 : 0 ≤ x10_1
        · rw [if_pos c5] at H
          have c5b0 : decide (0 ≤ x10_1) = true := decide_eq_true c5
          clear c5
          by_cases c6 : x10_1 < (t104.size : Int)
          · rw [if_pos c6] at H
            have c6b0 : decide (x10_1 < (t104.size : Int)) = true := decide_eq_true c6
            clear c6
            replace H := Option.bind_eq_some_iff.mp H
            obtain ⟨t105, A80, H⟩ := H
            replace H : (if t105 = true then (url_Scheme.j1 k1 t104 x10_1 (bt t104 x10_1) (t104.size : Int) x10_1 t105) else (if x10_1 > 0 then (if (bt t104 x10_1) ≥ 48 then (if (bt t104 x10_1) ≤ 57 then (url_Scheme.j1 k1 t104 x10_1 (bt t104 x10_1) (t104.size : Int) x10_1 true) else (if (bt t104 x10_1) = 43 then (url_Scheme.j1 k1 t104 x10_1 (bt t104 x10_1) (t104.size : Int) x10_1 true) else (if (bt t104 x10_1) = 45 then (url_Scheme.j1 k1 t104 x10_1 (bt t104 x10_1) (t104.size : Int) x10_1 true) else (url_Scheme.j1 k1 t104 x10_1 (bt t104 x10_1) (t104.size : Int) x10_1 ((bt t104 x10_1) == 46))))) else (if (bt t104 x10_1) = 43 then (url_Scheme.j1 k1 t104 x10_1 (bt t104 x10_1) (t104.size : Int) x10_1 true) else (if (bt t104 x10_1) = 45 then (url_Scheme.j1 k1 t104 x10_1 (bt t104 x10_1) (t104.size : Int) x10_1 true) else (url_Scheme.j1 k1 t104 x10_1 (bt t104 x10_1) (t104.size : Int) x10_1 ((bt t104 x10_1) == 46))))) else (url_Scheme.j1 k1 t104 x10_1 (bt t104 x10_1) (t104.size : Int) x10_1 false))) = some (r1, r2) := H
            have A8 := Aside0.mk A80
            clear A80
            have HC9 := Aside0.mk H
            clear H
            have p7 : 0 ≤ (x10_1 : Int) := of_decide_eq_true (by first | (with_reducible assumption) | assumption)
            have q7 : x10_1 < (t104.size : Int) := of_decide_eq_true (by first | (with_reducible assumption) | assumption)
            have hx7 := bt_at t104 x10_1
            replace p7 := eq_true p7
            replace q7 := eq_true q7
            go_upto_if 16 with (first | ((with_reducible refine gate_callee (f := 31) rfl ?_); refine goesL_ (some 18) rfl rfl Tryd.func31 (by kernel_rfl) rfl #[.int .u8 (bt t104 x10_1)] rfl (by (try simp only [List.map_toArray, List.map_cons, List.map_nil]); first | done | rfl | (simp only [List.length_drop, List.length_take]; rfl)) ?_; (with_reducible refine (url_letter.calls (bt t104 x10_1) t105 _ A8.out).mono ?_); rintro e w' ⟨rfl, ⟨nd, rfl⟩⟩; refine ⟨_, rfl, ?_⟩))
            (try simp only [Act.put, List.setIfInBounds_toArray, List.set_cons_zero, List.set_cons_succ])
            go_cut [16] (fun v16 wc => ∃ (kq : Nat) (x16_8 : Bool), v16 = .bool x16_8 ∧ Aside0 (url_Scheme.j1 kq t104 x10_1 (bt t104 x10_1) (t104.size : Int) x10_1 x16_8 = some (r1, r2)) ∧ Aside0 (kq ≤ k1) ∧ Aside0 (Below w.heap.size w wc))
            case first =>
              have H := HC9.out
              clear HC9
              by_cases c10 : t105 = true
              · subst c10
                have H1 : (url_Scheme.j1 k1 t104 x10_1 (bt t104 x10_1) (t104.size : Int) x10_1 true) = some (r1, r2) := by rw [if_pos rfl] at H; exact H
                clear H
                have H := H1
                clear H1
                have H' := Aside0.mk H
                clear H
                go_wp2
                go_meet
                case rel => exact ⟨_, (true), (by first | rfl | (simp; done) | (simp [*]; done) | (simp [bne]; done)), H', ⟨by have := HK1.out; first | omega | exact Nat.le_refl _⟩, ⟨by repeat (first | (with_reducible first | exact HB.out | apply below_alloc | apply pw_below_drewN | apply below_drew1) | exact HB.out)⟩⟩
              · replace c10 := Bool.eq_false_iff.mpr c10
                subst c10
                have H1 : (if x10_1 > 0 then (if (bt t104 x10_1) ≥ 48 then (if (bt t104 x10_1) ≤ 57 then (url_Scheme.j1 k1 t104 x10_1 (bt t104 x10_1) (t104.size : Int) x10_1 true) else (if (bt t104 x10_1) = 43 then (url_Scheme.j1 k1 t104 x10_1 (bt t104 x10_1) (t104.size : Int) x10_1 true) else (if (bt t104 x10_1) = 45 then (url_Scheme.j1 k1 t104 x10_1 (bt t104 x10_1) (t104.size : Int) x10_1 true) else (url_Scheme.j1 k1 t104 x10_1 (bt t104 x10_1) (t104.size : Int) x10_1 ((bt t104 x10_1) == 46))))) else (if (bt t104 x10_1) = 43 then (url_Scheme.j1 k1 t104 x10_1 (bt t104 x10_1) (t104.size : Int) x10_1 true) else (if (bt t104 x10_1) = 45 then (url_Scheme.j1 k1 t104 x10_1 (bt t104 x10_1) (t104.size : Int) x10_1 true) else (url_Scheme.j1 k1 t104 x10_1 (bt t104 x10_1) (t104.size : Int) x10_1 ((bt t104 x10_1) == 46))))) else (url_Scheme.j1 k1 t104 x10_1 (bt t104 x10_1) (t104.size : Int) x10_1 false)) = some (r1, r2) := by rw [if_neg (show ¬ (false = true) by decide)] at H; exact H
                clear H
                have H := H1
                clear H1
                by_cases c11 : x10_1 > 0
                · rw [if_pos c11] at H
                  have c11b0 : decide (0 < x10_1) = true := decide_eq_true c11
                  clear c11
                  (first | rw [c11b0] | (simp only [i64_w, i32_w]; rw [c11b0]) | rw [c11b1] | skip)
                  by_cases c12 : (bt t104 x10_1) ≥ 48
                  · rw [if_pos c12] at H
                    have c12b0 : decide (48 ≤ (bt t104 x10_1)) = true := decide_eq_true c12
                    clear c12
                    by_cases c13 : (bt t104 x10_1) ≤ 57
                    · rw [if_pos c13] at H
                      have c13b0 : decide ((bt t104 x10_1) ≤ 57) = true := decide_eq_true c13
                      clear c13
                      have H' := Aside0.mk H
                      clear H
                      go_wp2
                      go_meet
                      case rel => exact ⟨_, (true), (by first | rfl | (simp; done) | (simp [*]; done) | (simp [bne]; done)), H', ⟨by have := HK1.out; first | omega | exact Nat.le_refl _⟩, ⟨by repeat (first | (with_reducible first | exact HB.out | apply below_alloc | apply pw_below_drewN | apply below_drew1) | exact HB.out)⟩⟩
                    · rw [if_neg c13] at H
                      have c13b0 : decide ((bt t104 x10_1) ≤ 57) = false := decide_eq_false c13
                      clear c13
                      by_cases c14 : (bt t104 x10_1) = 43
                      · rw [if_pos c14] at H
                        have c14b0 : ((bt t104 x10_1) == 43) = true := beq_iff_eq.mpr c14
                        have c14b1 : ((bt t104 x10_1) != 43) = false := bne_eq_false_iff_eq.mpr c14
                        clear c14
                        have H' := Aside0.mk H
                        clear H
                        go_wp2
                        go_meet
                        case rel => exact ⟨_, (true), (by first | rfl | (simp; done) | (simp [*]; done) | (simp [bne]; done)), H', ⟨by have := HK1.out; first | omega | exact Nat.le_refl _⟩, ⟨by repeat (first | (with_reducible first | exact HB.out | apply below_alloc | apply pw_below_drewN | apply below_drew1) | exact HB.out)⟩⟩
                      · rw [if_neg c14] at H
                        have c14b0 : ((bt t104 x10_1) == 43) = false := beq_eq_false_iff_ne.mpr c14
                        have c14b1 : ((bt t104 x10_1) != 43) = true := bne_iff_ne.mpr c14
                        by_cases c15 : (bt t104 x10_1) = 45
                        · rw [if_pos c15] at H
                          have c15b0 : ((bt t104 x10_1) == 45) = true := beq_iff_eq.mpr c15
                          have c15b1 : ((bt t104 x10_1) != 45) = false := bne_eq_false_iff_eq.mpr c15
                          clear c15
                          have H' := Aside0.mk H
                          clear H
                          go_wp2
                          go_meet
                          case rel => exact ⟨_, (true), (by first | rfl | (simp; done) | (simp [*]; done) | (simp [bne]; done)), H', ⟨by have := HK1.out; first | omega | exact Nat.le_refl _⟩, ⟨by repeat (first | (with_reducible first | exact HB.out | apply below_alloc | apply pw_below_drewN | apply below_drew1) | exact HB.out)⟩⟩
                        · rw [if_neg c15] at H
                          have c15b0 : ((bt t104 x10_1) == 45) = false := beq_eq_false_iff_ne.mpr c15
                          have c15b1 : ((bt t104 x10_1) != 45) = true := bne_iff_ne.mpr c15
                          have H' := Aside0.mk H
                          clear H
                          go_wp2
                          go_meet
                          case rel => exact ⟨_, (((bt t104 x10_1) == 46)), (by first | rfl | (simp; done) | (simp [*]; done) | (simp [bne]; done)), H', ⟨by have := HK1.out; first | omega | exact Nat.le_refl _⟩, ⟨by repeat (first | (with_reducible first | exact HB.out | apply below_alloc | apply pw_below_drewN | apply below_drew1) | exact HB.out)⟩⟩
                  · rw [if_neg c12] at H
                    have c12b0 : decide (48 ≤ (bt t104 x10_1)) = false := decide_eq_false c12
                    clear c12
                    by_cases c16 : (bt t104 x10_1) = 43
                    · rw [if_pos c16] at H
                      have c16b0 : ((bt t104 x10_1) == 43) = true := beq_iff_eq.mpr c16
                      have c16b1 : ((bt t104 x10_1) != 43) = false := bne_eq_false_iff_eq.mpr c16
                      clear c16
                      have H' := Aside0.mk H
                      clear H
                      go_wp2
                      go_meet
                      case rel => exact ⟨_, (true), (by first | rfl | (simp; done) | (simp [*]; done) | (simp [bne]; done)), H', ⟨by have := HK1.out; first | omega | exact Nat.le_refl _⟩, ⟨by repeat (first | (with_reducible first | exact HB.out | apply below_alloc | apply pw_below_drewN | apply below_drew1) | exact HB.out)⟩⟩
                    · rw [if_neg c16] at H
                      have c16b0 : ((bt t104 x10_1) == 43) = false := beq_eq_false_iff_ne.mpr c16
                      have c16b1 : ((bt t104 x10_1) != 43) = true := bne_iff_ne.mpr c16
                      by_cases c17 : (bt t104 x10_1) = 45
                      · rw [if_pos c17] at H
                        have c17b0 : ((bt t104 x10_1) == 45) = true := beq_iff_eq.mpr c17
                        have c17b1 : ((bt t104 x10_1) != 45) = false := bne_eq_false_iff_eq.mpr c17
                        clear c17
                        have H' := Aside0.mk H
                        clear H
                        go_wp2
                        go_meet
                        case rel => exact ⟨_, (true), (by first | rfl | (simp; done) | (simp [*]; done) | (simp [bne]; done)), H', ⟨by have := HK1.out; first | omega | exact Nat.le_refl _⟩, ⟨by repeat (first | (with_reducible first | exact HB.out | apply below_alloc | apply pw_below_drewN | apply below_drew1) | exact HB.out)⟩⟩
                      · rw [if_neg c17] at H
                        have c17b0 : ((bt t104 x10_1) == 45) = false := beq_eq_false_iff_ne.mpr c17
                        have c17b1 : ((bt t104 x10_1) != 45) = true := bne_iff_ne.mpr c17
                        have H' := Aside0.mk H
                        clear H
                        go_wp2
                        go_meet
                        case rel => exact ⟨_, (((bt t104 x10_1) == 46)), (by first | rfl | (simp; done) | (simp [*]; done) | (simp [bne]; done)), H', ⟨by have := HK1.out; first | omega | exact Nat.le_refl _⟩, ⟨by repeat (first | (with_reducible first | exact HB.out | apply below_alloc | apply pw_below_drewN | apply below_drew1) | exact HB.out)⟩⟩
                · rw [if_neg c11] at H
                  have c11b0 : decide (0 < x10_1) = false := decide_eq_false c11
                  clear c11
                  (first | rw [c11b0] | (simp only [i64_w, i32_w]; rw [c11b0]) | rw [c11b1] | skip)
                  have H' := Aside0.mk H
                  clear H
                  go_wp2
                  go_meet
                  case rel => exact ⟨_, (false), (by first | rfl | (simp; done) | (simp [*]; done) | (simp [bne]; done)), H', ⟨by have := HK1.out; first | omega | exact Nat.le_refl _⟩, ⟨by repeat (first | (with_reducible first | exact HB.out | apply below_alloc | apply pw_below_drewN | apply below_drew1) | exact HB.out)⟩⟩
            case rest =>
              clear HC9
              try clear c1
              try clear p2
              try clear c3
              try clear c4
              try clear c4b0
              try clear c5
              try clear c5b0
              try clear c6
              try clear c6b0
              try clear p7
              try clear q7
              try clear hx7
              try clear c10
              try clear c11
              try clear c11b0
              try clear c12
              try clear c12b0
              try clear c13
              try clear c13b0
              try clear c14
              try clear c14b0
              try clear c14b1
              try clear c15
              try clear c15b0
              try clear c15b1
              try clear c16
              try clear c16b0
              try clear c16b1
              try clear c17
              try clear c17b0
              try clear c17b1
              try clear p2
              try clear p7
              try clear q7
              obtain ⟨kq, x16_8, rfl, HA, HJ8, HB⟩ := hcut
              cases kq with
              | zero => exact absurd HA.out (by simp [url_Scheme.j1])
              | succ kj8 =>
                have H := HA.out
                clear HA
                simp only [url_Scheme.j1] at H
                by_cases c18 : x16_8 = true
                · subst c18
                  have H1 : (url_Scheme.l0 kj8 t104 (t104.size : Int) (wrap64 (x10_1 + 1))) = some (r1, r2) := by rw [if_pos rfl] at H; exact H
                  clear H
                  have H := H1
                  clear H1
                  have H' := Aside0.mk H
                  clear H
                  go_wp2
                  go_roundg kj8
                  case measure => have := HK1.out; have := HJ8.out; omega
                  case rel => exact ⟨(wrap64 (x10_1 + 1)), (by first | rfl | (simp; done) | (simp [*]; done) | (simp [bne]; done)), H', ⟨by have := HK1.out; have := HJ8.out; omega⟩, ⟨by repeat (first | (with_reducible first | exact HB.out | apply below_alloc | apply pw_below_drewN | apply below_drew1) | exact HB.out)⟩⟩
                · replace c18 := Bool.eq_false_iff.mpr c18
                  subst c18
                  have H1 : (if (bt t104 x10_1) = 58 then (if x10_1 > 0 then (if 0 ≤ x10_1 then (if x10_1 ≤ (t104.size : Int) then ((tok_Small.f (t104.extract 0 (x10_1 : Int).toNat)).bind fun t106 => (some (t106, true))) else (none)) else (none)) else (some ((⟨#[]⟩ : ByteArray), false))) else (some ((⟨#[]⟩ : ByteArray), false))) = some (r1, r2) := by rw [if_neg (show ¬ (false = true) by decide)] at H; exact H
                  clear H
                  have H := H1
                  clear H1
                  by_cases c19 : (bt t104 x10_1) = 58
                  · rw [if_pos c19] at H
                    have c19b0 : ((bt t104 x10_1) == 58) = true := beq_iff_eq.mpr c19
                    have c19b1 : ((bt t104 x10_1) != 58) = false := bne_eq_false_iff_eq.mpr c19
                    clear c19
                    by_cases c20 : x10_1 > 0
                    · rw [if_pos c20] at H
                      have c20b0 : decide (0 < x10_1) = true := decide_eq_true c20
                      clear c20
                      by_cases c21 : 0 ≤ x10_1
                      · rw [if_pos c21] at H
                        have c21b0 := eq_true c21
                        have c21b1 : decide (0 ≤ x10_1) = true := decide_eq_true c21
                        clear c21
                        by_cases c22 : x10_1 ≤ (t104.size : Int)
                        · rw [if_pos c22] at H
                          have c22b0 := eq_true c22
                          have c22b1 : decide (x10_1 ≤ (t104.size : Int)) = true := decide_eq_true c22
                          clear c22
                          replace H := Option.bind_eq_some_iff.mp H
                          obtain ⟨t106, A230, H⟩ := H
                          replace H : (some (t106, true)) = some (r1, r2) := H
                          have A23 := Aside0.mk A230
                          clear A230
                          simp only [Option.some.injEq, Prod.mk.injEq] at H
                          obtain ⟨rfl, rfl⟩ := H
                          go_wp2_with (first | ((with_reducible refine gate_callee (f := 32) rfl ?_); refine goesL_ (some 51) rfl rfl Tryd.func32 (by kernel_rfl) rfl #[.string (t104.extract 0 (x10_1 : Int).toNat)] rfl (by (try simp only [List.map_toArray, List.map_cons, List.map_nil]); first | done | rfl | (simp only [List.length_drop, List.length_take]; rfl)) ?_; (with_reducible refine (tok_Small.calls (t104.extract 0 (x10_1 : Int).toNat) t106 _ A23.out).mono ?_); rintro e w24 ⟨rfl, hb⟩; refine ⟨_, rfl, ?_⟩; have n0_ := Aside0.mk (below_step (by repeat (first | (with_reducible first | exact HB.out | apply below_alloc | apply pw_below_drewN | apply below_drew1) | exact HB.out)) hb); clear HB; have HB := n0_; clear n0_; (try clear hb); (try clear hb2); (try clear hk); (try clear hi)))
                          go_ret2
                          exact ⟨by first | rfl | (simp [errW_none, errW_some] <;> rfl) | (simp [*, errW_none, errW_some] <;> rfl), by repeat (first | (with_reducible first | exact HB.out | apply below_alloc | apply pw_below_drewN | apply below_drew1) | exact HB.out)⟩
                        · rw [if_neg c22] at H
                          exact absurd H (by simp)
                      · rw [if_neg c21] at H
                        exact absurd H (by simp)
                    · rw [if_neg c20] at H
                      have c20b0 : decide (0 < x10_1) = false := decide_eq_false c20
                      clear c20
                      simp only [Option.some.injEq, Prod.mk.injEq] at H
                      obtain ⟨rfl, rfl⟩ := H
                      go_wp2
                      go_ret2
                      exact ⟨by first | rfl | (simp [errW_none, errW_some] <;> rfl) | (simp [*, errW_none, errW_some] <;> rfl), by repeat (first | (with_reducible first | exact HB.out | apply below_alloc | apply pw_below_drewN | apply below_drew1) | exact HB.out)⟩
                  · rw [if_neg c19] at H
                    have c19b0 : ((bt t104 x10_1) == 58) = false := beq_eq_false_iff_ne.mpr c19
                    have c19b1 : ((bt t104 x10_1) != 58) = true := bne_iff_ne.mpr c19
                    simp only [Option.some.injEq, Prod.mk.injEq] at H
                    obtain ⟨rfl, rfl⟩ := H
                    go_wp2
                    go_ret2
                    exact ⟨by first | rfl | (simp [errW_none, errW_some] <;> rfl) | (simp [*, errW_none, errW_some] <;> rfl), by repeat (first | (with_reducible first | exact HB.out | apply below_alloc | apply pw_below_drewN | apply below_drew1) | exact HB.out)⟩
          · rw [if_neg c6] at H
            exact absurd H (by simp)
        · rw [if_neg c5] at H
          exact absurd H (by simp)
      · rw [if_neg c4] at H
        have c4b0 : decide (x10_1 < (t104.size : Int)) = false := decide_eq_false c4
        clear c4
        simp only [Option.some.injEq, Prod.mk.injEq] at H
        obtain ⟨rfl, rfl⟩ := H
        go_wp2
        go_ret2
        exact ⟨by first | rfl | (simp [errW_none, errW_some] <;> rfl) | (simp [*, errW_none, errW_some] <;> rfl), by repeat (first | (with_reducible first | exact HB.out | apply below_alloc | apply pw_below_drewN | apply below_drew1) | exact HB.out)⟩
end Go.Proofs.YteimhgbihpbhaaaDoor.X
end
section
namespace Go.Proofs.YteimhgbihpbhaaaDoor.X
open Go.RowKit Go.Proofs.YteimhgbihpbhaaaDoorW.PrintWords Go.Proofs.YteimhgbihpbhaaaDoorW.PrintLast Go.Proofs.YteimhgbihpbhaaaDoorW.PrintMore
attribute [local go_sem] max2_int min2_int max_two min_two max_three min_three max_four min_four   -- for this text's walks alone
set_option linter.unusedVariables false
set_option linter.unusedSimpArgs false
def bobbinetkeep_Picked.f (a0 : Int) (a1 : Int) : Option (Int) := if a1 = 0 then (none) else (if (Int.tmod a0 a1) < 0 then (some (wrap64 ((Int.tmod a0 a1) + a1))) else (some (Int.tmod a0 a1)))
set_option maxHeartbeats 8000000 in
set_option maxRecDepth 100000 in
theorem bobbinetkeep_Picked.calls (a0 : Int) (a1 : Int) (r : Int) (w : World) (h : bobbinetkeep_Picked.f a0 a1 = some r) :
    Calls Tryd.prog 14 #[.int .i64 a0, .int .i64 a1] w fun e w' => e = .returned (.int .i64 r) ∧ Drawn0 w w' := by
  have H : (if a1 = 0 then (none) else (if (Int.tmod a0 a1) < 0 then (some (wrap64 ((Int.tmod a0 a1) + a1))) else (some (Int.tmod a0 a1)))) = some r := h
  clear h
  by_cases c3 : a1 = 0
  · rw [if_pos c3] at H
    exact absurd H (by simp)
  · rw [if_neg c3] at H
    have c3b0 : (a1 == 0) = false := beq_eq_false_iff_ne.mpr c3
    have c3b1 : (a1 != 0) = true := bne_iff_ne.mpr c3
    by_cases c4 : (Int.tmod a0 a1) < 0
    · rw [if_pos c4] at H
      have c4b0 : decide ((Int.tmod a0 a1) < 0) = true := decide_eq_true c4
      clear c4
      obtain rfl := Option.some.inj H
      go_enter Tryd.func14, Tryd.ntmps14
      go_wp2
      go_ret
      exact ⟨by first | rfl | (simp; done) | (simp [*]; done), by repeat (first | exact Drawn0.refl _ | apply Drawn0.step)⟩
    · rw [if_neg c4] at H
      have c4b0 : decide ((Int.tmod a0 a1) < 0) = false := decide_eq_false c4
      clear c4
      obtain rfl := Option.some.inj H
      go_enter Tryd.func14, Tryd.ntmps14
      go_wp2
      go_ret
      exact ⟨by first | rfl | (simp; done) | (simp [*]; done), by repeat (first | exact Drawn0.refl _ | apply Drawn0.step)⟩
end Go.Proofs.YteimhgbihpbhaaaDoor.X
end
section
namespace Go.Proofs.YteimhgbihpbhaaaDoor.X
open Go.RowKit Go.Proofs.YteimhgbihpbhaaaDoorW.PrintWords Go.Proofs.YteimhgbihpbhaaaDoorW.PrintLast Go.Proofs.YteimhgbihpbhaaaDoorW.PrintMore
attribute [local go_sem] max2_int min2_int max_two min_two max_three min_three max_four min_four   -- for this text's walks alone
set_option linter.unusedVariables false
set_option linter.unusedSimpArgs false
def url_Schemes.l0 : Nat → List ByteArray → Int → Int → Option (Int)
  | 0, _, _, _ => none
  | k + 1, x10, x11, x12 => if x12 < x11 then (if 0 ≤ x12 then (if x12 < (x10.length : Int) then (if (rdOf ByteArray.empty x10 x12).size + 1 ≤ 9223372036854775807 then ((url_Scheme.f k ((rdOf ByteArray.empty x10 x12) ++ (⟨#[58]⟩ : ByteArray))).bind fun bt115 => (if bt115.2 = true then (if bt115.1.toList = (rdOf ByteArray.empty x10 x12).toList then (url_Schemes.l0 k x10 x11 (wrap64 (x12 + 1))) else (some 4)) else (some 4))) else (none)) else (none)) else (none)) else (some 0)
def url_Schemes.f (k : Nat) (l0 : List ByteArray) : Option (Int) := if (l0.length : Int) > 40 then (some 1) else (url_Schemes.l0 k l0 (l0.length : Int) 0)
set_option maxHeartbeats 8000000 in
set_option maxRecDepth 100000 in
theorem url_Schemes.calls (k : Nat) (A0 : Option Addr) (c0 : Nat) (l0 : List ByteArray) (r : Int) (w : World) (hr0 : Kd.C Kd.string w A0 l0.length l0) (hc0 : l0.length ≤ c0) (h : url_Schemes.f k l0 = some r) :
    Calls Tryd.prog 33 #[.slice A0 l0.length c0] w fun e w' => e = .returned (.int .i64 r) ∧ Below w.heap.size w w' := by
  have HR0 := Aside0.mk hr0
  have HC0 := Aside0.mk hc0
  clear hr0 hc0
  have HB := Aside0.mk (Below.refl w.heap.size w)
  have H : (if (l0.length : Int) > 40 then (some 1) else (url_Schemes.l0 k l0 (l0.length : Int) 0)) = some r := h
  clear h
  by_cases c2 : (l0.length : Int) > 40
  · rw [if_pos c2] at H
    have c2b0 : decide (40 < (l0.length : Int)) = true := decide_eq_true c2
    have c2b1 : decide (40 < l0.length) = true := decide_eq_true (by omega)
    clear c2
    obtain rfl := Option.some.inj H
    go_enter Tryd.func33, Tryd.ntmps33
    go_wp2
    go_ret
    exact ⟨by first | rfl | (simp [errW_none, errW_some] <;> rfl) | (simp [*, errW_none, errW_some] <;> rfl), by repeat (first | (with_reducible first | exact HB.out | apply below_alloc | apply pw_below_drewN | apply below_drew1) | exact HB.out)⟩
  · rw [if_neg c2] at H
    have c2b0 : decide (40 < (l0.length : Int)) = false := decide_eq_false c2
    have c2b1 : decide (40 < l0.length) = false := decide_eq_false (by omega)
    clear c2
    have H' := Aside0.mk H
    clear H
    go_enter Tryd.func33, Tryd.ntmps33
    go_wp2
    go_loopg [12] k (fun kq v12 w' => ∃ (x12_1 : Int), v12 = .int .i64 x12_1 ∧ Aside0 (url_Schemes.l0 kq l0 (l0.length : Int) x12_1 = some r) ∧ Aside0 (kq ≤ k) ∧ Aside0 (Below w.heap.size w w'))
    case atStart => exact ⟨(0), (by first | rfl | (simp; done) | (simp [*]; done) | (simp [bne]; done)), H', ⟨Nat.le_refl _⟩, ⟨by repeat (first | (with_reducible first | exact HB.out | apply below_alloc | apply pw_below_drewN | apply below_drew1) | exact HB.out)⟩⟩
    case round =>
      clear H'
      try clear c2
      try clear c2b0
      try clear c2b1
      try clear p2
      obtain ⟨x12_1, rfl, HA, HK1, HB⟩ := hrel
      cases gk with
      | zero => exact absurd HA.out (by simp [url_Schemes.l0])
      | succ k1 =>
        have H := HA.out
        clear HA
        simp only [url_Schemes.l0] at H
        by_cases c3 : x12_1 < (l0.length : Int)
        · rw [if_pos c3] at H
          have c3b0 : decide (x12_1 < (l0.length : Int)) = true := decide_eq_true c3
          clear c3
          by_cases c4 : 0 ≤ x12_1
          · rw [if_pos c4] at H
            have c4b0 : decide (0 ≤ x12_1) = true := decide_eq_true c4
            clear c4
            by_cases c5 : x12_1 < (l0.length : Int)
            · rw [if_pos c5] at H
              have c5b0 : decide (x12_1 < (l0.length : Int)) = true := decide_eq_true c5
              clear c5
              by_cases c6 : (rdOf ByteArray.empty l0 x12_1).size + 1 ≤ 9223372036854775807
              · rw [if_pos c6] at H
                have c6b0 := eq_true c6
                have c6b1 : decide ((rdOf ByteArray.empty l0 x12_1).size + 1 ≤ 9223372036854775807) = true := decide_eq_true c6
                try have c6b2 : (9223372036854775807 < (rdOf ByteArray.empty l0 x12_1).size + 1) = False := eq_false (Nat.not_lt.2 c6)
                replace H := Option.bind_eq_some_iff.mp H
                obtain ⟨⟨t115, t116⟩, A70, H⟩ := H
                replace H : (if t116 = true then (if t115.toList = (rdOf ByteArray.empty l0 x12_1).toList then (url_Schemes.l0 k1 l0 (l0.length : Int) (wrap64 (x12_1 + 1))) else (some 4)) else (some 4)) = some r := H
                have A7 := Aside0.mk A70
                clear A70
                by_cases c8 : t116 = true
                · subst c8
                  have H1 : (if t115.toList = (rdOf ByteArray.empty l0 x12_1).toList then (url_Schemes.l0 k1 l0 (l0.length : Int) (wrap64 (x12_1 + 1))) else (some 4)) = some r := by rw [if_pos rfl] at H; exact H
                  clear H
                  have H := H1
                  clear H1
                  by_cases c9 : t115.toList = (rdOf ByteArray.empty l0 x12_1).toList
                  · rw [if_pos c9] at H
                    have c9b0 : (t115.toList == (rdOf ByteArray.empty l0 x12_1).toList) = true := beq_iff_eq.mpr c9
                    have c9b1 : (t115.toList != (rdOf ByteArray.empty l0 x12_1).toList) = false := bne_eq_false_iff_eq.mpr c9
                    clear c9
                    have H' := Aside0.mk H
                    clear H
                    have p114 : 0 ≤ (x12_1 : Int) := of_decide_eq_true (by first | (with_reducible assumption) | assumption)
                    have q114 : x12_1 < (l0.length : Int) := of_decide_eq_true (by first | (with_reducible assumption) | assumption)
                    obtain ⟨ad114, e114, hx114_0⟩ := Kd.at_string HR0.out x12_1 p114 q114
                    cases e114
                    replace hx114_0 := (HB.out.cell (World.block_lt_of_cell? w _ hx114_0)).trans hx114_0
                    replace p114 := eq_true p114
                    replace q114 := eq_true q114
                    go_wp2_with (first | ((with_reducible refine gate_callee (f := 17) rfl ?_); refine goesL_ (some 19) rfl rfl Tryd.func17 (by kernel_rfl) rfl #[.string ((rdOf ByteArray.empty l0 x12_1) ++ (⟨#[58]⟩ : ByteArray))] rfl (by (try simp only [List.map_toArray, List.map_cons, List.map_nil]); first | done | rfl | (simp only [List.length_drop, List.length_take]; rfl)) ?_; (with_reducible refine (url_Scheme.calls k1 ((rdOf ByteArray.empty l0 x12_1) ++ (⟨#[58]⟩ : ByteArray)) t115 true _ A7.out).mono ?_); rintro e w10 ⟨rfl, hb⟩; refine ⟨_, rfl, ?_⟩; have n0_ := Aside0.mk (below_step (by repeat (first | (with_reducible first | exact HB.out | apply below_alloc | apply pw_below_drewN | apply below_drew1) | exact HB.out)) hb); clear HB; have HB := n0_; clear n0_; (try clear hb); (try clear hb2); (try clear hk); (try clear hi)))
                    go_roundg k1
                    case measure => have := HK1.out; omega
                    case rel => exact ⟨(wrap64 (x12_1 + 1)), (by first | rfl | (simp; done) | (simp [*]; done) | (simp [bne]; done)), H', ⟨by have := HK1.out; omega⟩, ⟨by repeat (first | (with_reducible first | exact HB.out | apply below_alloc | apply pw_below_drewN | apply below_drew1) | exact HB.out)⟩⟩
                  · rw [if_neg c9] at H
                    have c9b0 : (t115.toList == (rdOf ByteArray.empty l0 x12_1).toList) = false := beq_eq_false_iff_ne.mpr c9
                    have c9b1 : (t115.toList != (rdOf ByteArray.empty l0 x12_1).toList) = true := bne_iff_ne.mpr c9
                    obtain rfl := Option.some.inj H
                    have p114 : 0 ≤ (x12_1 : Int) := of_decide_eq_true (by first | (with_reducible assumption) | assumption)
                    have q114 : x12_1 < (l0.length : Int) := of_decide_eq_true (by first | (with_reducible assumption) | assumption)
                    obtain ⟨ad114, e114, hx114_0⟩ := Kd.at_string HR0.out x12_1 p114 q114
                    cases e114
                    replace hx114_0 := (HB.out.cell (World.block_lt_of_cell? w _ hx114_0)).trans hx114_0
                    replace p114 := eq_true p114
                    replace q114 := eq_true q114
                    go_wp2_with (first | ((with_reducible refine gate_callee (f := 17) rfl ?_); refine goesL_ (some 19) rfl rfl Tryd.func17 (by kernel_rfl) rfl #[.string ((rdOf ByteArray.empty l0 x12_1) ++ (⟨#[58]⟩ : ByteArray))] rfl (by (try simp only [List.map_toArray, List.map_cons, List.map_nil]); first | done | rfl | (simp only [List.length_drop, List.length_take]; rfl)) ?_; (with_reducible refine (url_Scheme.calls k1 ((rdOf ByteArray.empty l0 x12_1) ++ (⟨#[58]⟩ : ByteArray)) t115 true _ A7.out).mono ?_); rintro e w11 ⟨rfl, hb⟩; refine ⟨_, rfl, ?_⟩; have n0_ := Aside0.mk (below_step (by repeat (first | (with_reducible first | exact HB.out | apply below_alloc | apply pw_below_drewN | apply below_drew1) | exact HB.out)) hb); clear HB; have HB := n0_; clear n0_; (try clear hb); (try clear hb2); (try clear hk); (try clear hi)))
                    go_ret
                    exact ⟨by first | rfl | (simp [errW_none, errW_some] <;> rfl) | (simp [*, errW_none, errW_some] <;> rfl), by repeat (first | (with_reducible first | exact HB.out | apply below_alloc | apply pw_below_drewN | apply below_drew1) | exact HB.out)⟩
                · replace c8 := Bool.eq_false_iff.mpr c8
                  subst c8
                  have H1 : (some 4) = some r := by rw [if_neg (show ¬ (false = true) by decide)] at H; exact H
                  clear H
                  have H := H1
                  clear H1
                  obtain rfl := Option.some.inj H
                  have p114 : 0 ≤ (x12_1 : Int) := of_decide_eq_true (by first | (with_reducible assumption) | assumption)
                  have q114 : x12_1 < (l0.length : Int) := of_decide_eq_true (by first | (with_reducible assumption) | assumption)
                  obtain ⟨ad114, e114, hx114_0⟩ := Kd.at_string HR0.out x12_1 p114 q114
                  cases e114
                  replace hx114_0 := (HB.out.cell (World.block_lt_of_cell? w _ hx114_0)).trans hx114_0
                  replace p114 := eq_true p114
                  replace q114 := eq_true q114
                  go_wp2_with (first | ((with_reducible refine gate_callee (f := 17) rfl ?_); refine goesL_ (some 19) rfl rfl Tryd.func17 (by kernel_rfl) rfl #[.string ((rdOf ByteArray.empty l0 x12_1) ++ (⟨#[58]⟩ : ByteArray))] rfl (by (try simp only [List.map_toArray, List.map_cons, List.map_nil]); first | done | rfl | (simp only [List.length_drop, List.length_take]; rfl)) ?_; (with_reducible refine (url_Scheme.calls k1 ((rdOf ByteArray.empty l0 x12_1) ++ (⟨#[58]⟩ : ByteArray)) t115 false _ A7.out).mono ?_); rintro e w12 ⟨rfl, hb⟩; refine ⟨_, rfl, ?_⟩; have n0_ := Aside0.mk (below_step (by repeat (first | (with_reducible first | exact HB.out | apply below_alloc | apply pw_below_drewN | apply below_drew1) | exact HB.out)) hb); clear HB; have HB := n0_; clear n0_; (try clear hb); (try clear hb2); (try clear hk); (try clear hi)))
                  go_ret
                  exact ⟨by first | rfl | (simp [errW_none, errW_some] <;> rfl) | (simp [*, errW_none, errW_some] <;> rfl), by repeat (first | (with_reducible first | exact HB.out | apply below_alloc | apply pw_below_drewN | apply below_drew1) | exact HB.out)⟩
              · rw [if_neg c6] at H
                exact absurd H (by simp)
            · rw [if_neg c5] at H
              exact absurd H (by simp)
          · rw [if_neg c4] at H
            exact absurd H (by simp)
        · rw [if_neg c3] at H
          have c3b0 : decide (x12_1 < (l0.length : Int)) = false := decide_eq_false c3
          clear c3
          obtain rfl := Option.some.inj H
          go_wp2
          go_ret
          exact ⟨by first | rfl | (simp [errW_none, errW_some] <;> rfl) | (simp [*, errW_none, errW_some] <;> rfl), by repeat (first | (with_reducible first | exact HB.out | apply below_alloc | apply pw_below_drewN | apply below_drew1) | exact HB.out)⟩
end Go.Proofs.YteimhgbihpbhaaaDoor.X
end
section
namespace Go.Proofs.YteimhgbihpbhaaaDoor.X
open Go.RowKit Go.Proofs.YteimhgbihpbhaaaDoorW.PrintWords Go.Proofs.YteimhgbihpbhaaaDoorW.PrintLast Go.Proofs.YteimhgbihpbhaaaDoorW.PrintMore
attribute [local go_sem] max2_int min2_int max_two min_two max_three min_three max_four min_four   -- for this text's walks alone
set_option linter.unusedVariables false
set_option linter.unusedSimpArgs false
def slices_Index_string_string.l0 : Nat → List ByteArray → ByteArray → Int → Int → Option (Int)
  | 0, _, _, _, _ => none
  | k + 1, x0, x1, x7, x8 => if x8 < x7 then (if 0 ≤ x8 then (if x8 < (x0.length : Int) then (if x1.toList = (rdOf ByteArray.empty x0 x8).toList then (some x8) else (slices_Index_string_string.l0 k x0 x1 x7 (wrap64 (x8 + 1)))) else (none)) else (none)) else (some (-1))
def slices_Index_string_string.f (k : Nat) (l0 : List ByteArray) (a1 : ByteArray) : Option (Int) := slices_Index_string_string.l0 k l0 a1 (l0.length : Int) 0
set_option maxHeartbeats 8000000 in
set_option maxRecDepth 100000 in
theorem slices_Index_string_string.calls (k : Nat) (A0 : Option Addr) (c0 : Nat) (l0 : List ByteArray) (a1 : ByteArray) (r : Int) (w : World) (hr0 : Kd.C Kd.string w A0 l0.length l0) (hc0 : l0.length ≤ c0) (h : slices_Index_string_string.f k l0 a1 = some r) :
    Calls Tryd.prog 73 #[.slice A0 l0.length c0, .string a1] w fun e w' => e = .returned (.int .i64 r) ∧ Drawn0 w w' := by
  have HR0 := Aside0.mk hr0
  have HC0 := Aside0.mk hc0
  clear hr0 hc0
  have H : (slices_Index_string_string.l0 k l0 a1 (l0.length : Int) 0) = some r := h
  clear h
  have H' := Aside0.mk H
  clear H
  go_enter Tryd.func73, Tryd.ntmps73
  go_wp2
  go_loopg [8] k (fun kq v8 w' => ∃ (x8_1 : Int), v8 = .int .i64 x8_1 ∧ Aside0 (slices_Index_string_string.l0 kq l0 a1 (l0.length : Int) x8_1 = some r) ∧ Aside0 (kq ≤ k) ∧ Drawn0 w w')
  case atStart => exact ⟨(0), (by first | rfl | (simp; done) | (simp [*]; done) | (simp [bne]; done)), H', ⟨Nat.le_refl _⟩, by repeat (first | exact Drawn0.refl _ | apply Drawn0.step)⟩
  case round =>
    clear H'
    try clear p2
    obtain ⟨x8_1, rfl, HA, HK1, ⟨m1, rfl⟩⟩ := hrel
    cases gk with
    | zero => exact absurd HA.out (by simp [slices_Index_string_string.l0])
    | succ k1 =>
      have H := HA.out
      clear HA
      simp only [slices_Index_string_string.l0] at H
      by_cases c3 : x8_1 < (l0.length : Int)
      · rw [if_pos c3] at H
        have c3b0 : decide (x8_1 < (l0.length : Int)) = true := decide_eq_true c3
        clear c3
        by_cases c4 : 0 ≤ x8_1
        · rw [if_pos c4] at H
          have c4b0 : decide (0 ≤ x8_1) = true := decide_eq_true c4
          clear c4
          by_cases c5 : x8_1 < (l0.length : Int)
          · rw [if_pos c5] at H
            have c5b0 : decide (x8_1 < (l0.length : Int)) = true := decide_eq_true c5
            clear c5
            by_cases c6 : a1.toList = (rdOf ByteArray.empty l0 x8_1).toList
            · rw [if_pos c6] at H
              have c6b0 : (a1.toList == (rdOf ByteArray.empty l0 x8_1).toList) = true := beq_iff_eq.mpr c6
              have c6b1 : (a1.toList != (rdOf ByteArray.empty l0 x8_1).toList) = false := bne_eq_false_iff_eq.mpr c6
              clear c6
              obtain rfl := Option.some.inj H
              have p117 : 0 ≤ (x8_1 : Int) := of_decide_eq_true (by first | (with_reducible assumption) | assumption)
              have q117 : x8_1 < (l0.length : Int) := of_decide_eq_true (by first | (with_reducible assumption) | assumption)
              obtain ⟨ad117, e117, hx117_0⟩ := Kd.at_string HR0.out x8_1 p117 q117
              cases e117
              replace p117 := eq_true p117
              replace q117 := eq_true q117
              go_wp2
              go_ret
              exact ⟨by first | rfl | (simp; done) | (simp [*]; done), by repeat (first | exact Drawn0.refl _ | apply Drawn0.step)⟩
            · rw [if_neg c6] at H
              have c6b0 : (a1.toList == (rdOf ByteArray.empty l0 x8_1).toList) = false := beq_eq_false_iff_ne.mpr c6
              have c6b1 : (a1.toList != (rdOf ByteArray.empty l0 x8_1).toList) = true := bne_iff_ne.mpr c6
              have H' := Aside0.mk H
              clear H
              have p117 : 0 ≤ (x8_1 : Int) := of_decide_eq_true (by first | (with_reducible assumption) | assumption)
              have q117 : x8_1 < (l0.length : Int) := of_decide_eq_true (by first | (with_reducible assumption) | assumption)
              obtain ⟨ad117, e117, hx117_0⟩ := Kd.at_string HR0.out x8_1 p117 q117
              cases e117
              replace p117 := eq_true p117
              replace q117 := eq_true q117
              go_wp2
              go_roundg k1
              case measure => have := HK1.out; omega
              case rel => exact ⟨(wrap64 (x8_1 + 1)), (by first | rfl | (simp; done) | (simp [*]; done) | (simp [bne]; done)), H', ⟨by have := HK1.out; omega⟩, by repeat (first | exact Drawn0.refl _ | apply Drawn0.step)⟩
          · rw [if_neg c5] at H
            exact absurd H (by simp)
        · rw [if_neg c4] at H
          exact absurd H (by simp)
      · rw [if_neg c3] at H
        have c3b0 : decide (x8_1 < (l0.length : Int)) = false := decide_eq_false c3
        clear c3
        obtain rfl := Option.some.inj H
        go_wp2
        go_ret
        exact ⟨by first | rfl | (simp; done) | (simp [*]; done), by repeat (first | exact Drawn0.refl _ | apply Drawn0.step)⟩
end Go.Proofs.YteimhgbihpbhaaaDoor.X
end
section
namespace Go.Proofs.YteimhgbihpbhaaaDoor.X
open Go.RowKit Go.Proofs.YteimhgbihpbhaaaDoorW.PrintWords Go.Proofs.YteimhgbihpbhaaaDoorW.PrintLast Go.Proofs.YteimhgbihpbhaaaDoorW.PrintMore
attribute [local go_sem] max2_int min2_int max_two min_two max_three min_three max_four min_four   -- for this text's walks alone
set_option linter.unusedVariables false
set_option linter.unusedSimpArgs false
def slices_Contains_string_string.f (k : Nat) (l0 : List ByteArray) (a1 : ByteArray) : Option (Bool) := (slices_Index_string_string.f k l0 a1).bind fun t118 => (some (decide (t118 ≥ 0)))
set_option maxHeartbeats 8000000 in
set_option maxRecDepth 100000 in
theorem slices_Contains_string_string.calls (k : Nat) (A0 : Option Addr) (c0 : Nat) (l0 : List ByteArray) (a1 : ByteArray) (r : Bool) (w : World) (hr0 : Kd.C Kd.string w A0 l0.length l0) (hc0 : l0.length ≤ c0) (h : slices_Contains_string_string.f k l0 a1 = some r) :
    Calls Tryd.prog 56 #[.slice A0 l0.length c0, .string a1] w fun e w' => e = .returned (.bool r) ∧ Drawn0 w w' := by
  have HR0 := Aside0.mk hr0
  have HC0 := Aside0.mk hc0
  clear hr0 hc0
  have H : ((slices_Index_string_string.f k l0 a1).bind fun t118 => (some (decide (t118 ≥ 0)))) = some r := h
  clear h
  replace H := Option.bind_eq_some_iff.mp H
  obtain ⟨t118, A30, H⟩ := H
  replace H : (some (decide (t118 ≥ 0))) = some r := H
  have A3 := Aside0.mk A30
  clear A30
  obtain rfl := Option.some.inj H
  go_enter Tryd.func56, Tryd.ntmps56
  go_wp2_with (first | ((with_reducible refine gate_callee (f := 73) rfl ?_); refine goesL_ (some 7) rfl rfl Tryd.func73 (by kernel_rfl) rfl #[.slice A0 l0.length c0, .string a1] rfl (by (try simp only [List.map_toArray, List.map_cons, List.map_nil]); first | done | rfl | (simp only [List.length_drop, List.length_take]; rfl)) ?_; (with_reducible refine (slices_Index_string_string.calls k _ _ l0 a1 t118 _ ?side1 ?side2 A3.out).mono ?_); (case side1 => repeat (first | exact HR0.out | (with_reducible refine Kd.C_alloc ?_ _) | (with_reducible refine Kd.C_drewN ?_ _) | (with_reducible refine Kd.C_drew ?_))); (case side2 => exact HC0.out); rintro e w' ⟨rfl, ⟨nd, rfl⟩⟩; refine ⟨_, rfl, ?_⟩))
  go_ret
  exact ⟨by first | rfl | (simp; done) | (simp [*]; done), by repeat (first | exact Drawn0.refl _ | apply Drawn0.step)⟩
end Go.Proofs.YteimhgbihpbhaaaDoor.X
end
section
namespace Go.Proofs.YteimhgbihpbhaaaDoor.X
open Go.RowKit Go.Proofs.YteimhgbihpbhaaaDoorW.PrintWords Go.Proofs.YteimhgbihpbhaaaDoorW.PrintLast Go.Proofs.YteimhgbihpbhaaaDoorW.PrintMore
attribute [local go_sem] max2_int min2_int max_two min_two max_three min_three max_four min_four   -- for this text's walks alone
set_option linter.unusedVariables false
set_option linter.unusedSimpArgs false
def url_Of.f (k : Nat) (a0 : ByteArray) (l1 : List ByteArray) : Option (Bool) := (url_Scheme.f k a0).bind fun bt119 => (if bt119.2 = true then ((slices_Contains_string_string.f k l1 bt119.1).bind fun t121 => (some t121)) else (some true))
set_option maxHeartbeats 8000000 in
set_option maxRecDepth 100000 in
theorem url_Of.calls (k : Nat) (a0 : ByteArray) (A1 : Option Addr) (c1 : Nat) (l1 : List ByteArray) (r : Bool) (w : World) (hr1 : Kd.C Kd.string w A1 l1.length l1) (hc1 : l1.length ≤ c1) (h : url_Of.f k a0 l1 = some r) :
    Calls Tryd.prog 34 #[.string a0, .slice A1 l1.length c1] w fun e w' => e = .returned (.bool r) ∧ Below w.heap.size w w' := by
  have HR1 := Aside0.mk hr1
  have HC1 := Aside0.mk hc1
  clear hr1 hc1
  have HB := Aside0.mk (Below.refl w.heap.size w)
  have H : ((url_Scheme.f k a0).bind fun bt119 => (if bt119.2 = true then ((slices_Contains_string_string.f k l1 bt119.1).bind fun t121 => (some t121)) else (some true))) = some r := h
  clear h
  replace H := Option.bind_eq_some_iff.mp H
  obtain ⟨⟨t119, t120⟩, A30, H⟩ := H
  replace H : (if t120 = true then ((slices_Contains_string_string.f k l1 t119).bind fun t121 => (some t121)) else (some true)) = some r := H
  have A3 := Aside0.mk A30
  clear A30
  by_cases c4 : t120 = true
  · subst c4
    have H1 : ((slices_Contains_string_string.f k l1 t119).bind fun t121 => (some t121)) = some r := by rw [if_pos rfl] at H; exact H
    clear H
    have H := H1
    clear H1
    replace H := Option.bind_eq_some_iff.mp H
    obtain ⟨t121, A50, H⟩ := H
    replace H : (some t121) = some r := H
    have A5 := Aside0.mk A50
    clear A50
    obtain rfl := Option.some.inj H
    go_enter Tryd.func34, Tryd.ntmps34
    go_wp2_with (first | ((with_reducible refine gate_callee (f := 17) rfl ?_); refine goesL_ (some 9) rfl rfl Tryd.func17 (by kernel_rfl) rfl #[.string a0] rfl (by (try simp only [List.map_toArray, List.map_cons, List.map_nil]); first | done | rfl | (simp only [List.length_drop, List.length_take]; rfl)) ?_; (with_reducible refine (url_Scheme.calls k a0 t119 true _ A3.out).mono ?_); rintro e w6 ⟨rfl, hb⟩; refine ⟨_, rfl, ?_⟩; have n0_ := Aside0.mk (below_step (by repeat (first | (with_reducible first | exact HB.out | apply below_alloc | apply pw_below_drewN | apply below_drew1) | exact HB.out)) hb); clear HB; have HB := n0_; clear n0_; (try clear hb); (try clear hb2); (try clear hk); (try clear hi)) | (go_at_call 56; (with_reducible refine (slices_Contains_string_string.calls k _ _ l1 t119 t121 _ ?side1 ?side2 A5.out).mono ?_); (case side1 => repeat (first | exact (Kd.C_below HR1.out HB.out) | (with_reducible refine Kd.C_alloc ?_ _) | (with_reducible refine Kd.C_drewN ?_ _) | (with_reducible refine Kd.C_drew ?_))); (case side2 => exact HC1.out); rintro e w' ⟨rfl, ⟨nd, rfl⟩⟩))
    go_ret
    exact ⟨by first | rfl | (simp [errW_none, errW_some] <;> rfl) | (simp [*, errW_none, errW_some] <;> rfl), by repeat (first | (with_reducible first | exact HB.out | apply below_alloc | apply pw_below_drewN | apply below_drew1) | exact HB.out)⟩
  · replace c4 := Bool.eq_false_iff.mpr c4
    subst c4
    have H1 : (some true) = some r := by rw [if_neg (show ¬ (false = true) by decide)] at H; exact H
    clear H
    have H := H1
    clear H1
    obtain rfl := Option.some.inj H
    go_enter Tryd.func34, Tryd.ntmps34
    go_wp2_with (first | ((with_reducible refine gate_callee (f := 17) rfl ?_); refine goesL_ (some 9) rfl rfl Tryd.func17 (by kernel_rfl) rfl #[.string a0] rfl (by (try simp only [List.map_toArray, List.map_cons, List.map_nil]); first | done | rfl | (simp only [List.length_drop, List.length_take]; rfl)) ?_; (with_reducible refine (url_Scheme.calls k a0 t119 false _ A3.out).mono ?_); rintro e w7 ⟨rfl, hb⟩; refine ⟨_, rfl, ?_⟩; have n0_ := Aside0.mk (below_step (by repeat (first | (with_reducible first | exact HB.out | apply below_alloc | apply pw_below_drewN | apply below_drew1) | exact HB.out)) hb); clear HB; have HB := n0_; clear n0_; (try clear hb); (try clear hb2); (try clear hk); (try clear hi)))
    go_ret
    exact ⟨by first | rfl | (simp [errW_none, errW_some] <;> rfl) | (simp [*, errW_none, errW_some] <;> rfl), by repeat (first | (with_reducible first | exact HB.out | apply below_alloc | apply pw_below_drewN | apply below_drew1) | exact HB.out)⟩
end Go.Proofs.YteimhgbihpbhaaaDoor.X
end
section
namespace Go.Proofs.YteimhgbihpbhaaaDoor.X
open Go.RowKit Go.Proofs.YteimhgbihpbhaaaDoorW.PrintWords Go.Proofs.YteimhgbihpbhaaaDoorW.PrintLast Go.Proofs.YteimhgbihpbhaaaDoorW.PrintMore
attribute [local go_sem] max2_int min2_int max_two min_two max_three min_three max_four min_four   -- for this text's walks alone
set_option linter.unusedVariables false
set_option linter.unusedSimpArgs false
def url_Safe.f (k : Nat) (a0 : ByteArray) (l1 : List ByteArray) : Option (Bool × Int) := (url_Schemes.f k l1).bind fun t122 => (if t122 = 0 then ((url_Of.f k a0 l1).bind fun t123 => (some (t123, 0))) else (some (false, t122)))
set_option maxHeartbeats 8000000 in
set_option maxRecDepth 100000 in
theorem url_Safe.calls (k : Nat) (a0 : ByteArray) (A1 : Option Addr) (c1 : Nat) (l1 : List ByteArray) (r1 : Bool) (r2 : Int) (w : World) (hr1 : Kd.C Kd.string w A1 l1.length l1) (hc1 : l1.length ≤ c1) (h : url_Safe.f k a0 l1 = some (r1, r2)) :
    Calls Tryd.prog 18 #[.string a0, .slice A1 l1.length c1] w fun e w' => e = .returned (.tuple #[.bool r1, .int .i64 r2]) ∧ Below w.heap.size w w' := by
  have HR1 := Aside0.mk hr1
  have HC1 := Aside0.mk hc1
  clear hr1 hc1
  have HB := Aside0.mk (Below.refl w.heap.size w)
  have H : ((url_Schemes.f k l1).bind fun t122 => (if t122 = 0 then ((url_Of.f k a0 l1).bind fun t123 => (some (t123, 0))) else (some (false, t122)))) = some (r1, r2) := h
  clear h
  replace H := Option.bind_eq_some_iff.mp H
  obtain ⟨t122, A30, H⟩ := H
  replace H : (if t122 = 0 then ((url_Of.f k a0 l1).bind fun t123 => (some (t123, 0))) else (some (false, t122))) = some (r1, r2) := H
  have A3 := Aside0.mk A30
  clear A30
  by_cases c4 : t122 = 0
  · rw [if_pos c4] at H
    have c4b0 : (t122 == 0) = true := beq_iff_eq.mpr c4
    have c4b1 : (t122 != 0) = false := bne_eq_false_iff_eq.mpr c4
    clear c4
    replace H := Option.bind_eq_some_iff.mp H
    obtain ⟨t123, A50, H⟩ := H
    replace H : (some (t123, 0)) = some (r1, r2) := H
    have A5 := Aside0.mk A50
    clear A50
    simp only [Option.some.injEq, Prod.mk.injEq] at H
    obtain ⟨rfl, rfl⟩ := H
    go_enter Tryd.func18, Tryd.ntmps18
    go_wp2_with (first | ((with_reducible refine gate_callee (f := 33) rfl ?_); refine goesL_ (some 8) rfl rfl Tryd.func33 (by kernel_rfl) rfl #[.slice A1 l1.length c1] rfl (by (try simp only [List.map_toArray, List.map_cons, List.map_nil]); first | done | rfl | (simp only [List.length_drop, List.length_take]; rfl)) ?_; (with_reducible refine (url_Schemes.calls k _ _ l1 t122 _ ?side1 ?side2 A3.out).mono ?_); (case side1 => repeat (first | exact HR1.out | (with_reducible refine Kd.C_alloc ?_ _) | (with_reducible refine Kd.C_drewN ?_ _) | (with_reducible refine Kd.C_drew ?_))); (case side2 => exact HC1.out); rintro e w6 ⟨rfl, hb⟩; refine ⟨_, rfl, ?_⟩; have n0_ := Aside0.mk (below_step (by repeat (first | (with_reducible first | exact HB.out | apply below_alloc | apply pw_below_drewN | apply below_drew1) | exact HB.out)) hb); clear HB; have HB := n0_; clear n0_; (try clear hb); (try clear hb2); (try clear hk); (try clear hi)) | ((with_reducible refine gate_callee (f := 34) rfl ?_); refine goesL_ (some 14) rfl rfl Tryd.func34 (by kernel_rfl) rfl #[.string a0, .slice A1 l1.length c1] rfl (by (try simp only [List.map_toArray, List.map_cons, List.map_nil]); first | done | rfl | (simp only [List.length_drop, List.length_take]; rfl)) ?_; (with_reducible refine (url_Of.calls k a0 _ _ l1 t123 _ ?side1 ?side2 A5.out).mono ?_); (case side1 => repeat (first | exact (Kd.C_below HR1.out HB.out) | (with_reducible refine Kd.C_alloc ?_ _) | (with_reducible refine Kd.C_drewN ?_ _) | (with_reducible refine Kd.C_drew ?_))); (case side2 => exact HC1.out); rintro e w7 ⟨rfl, hb⟩; refine ⟨_, rfl, ?_⟩; have n0_ := Aside0.mk (below_step (by repeat (first | (with_reducible first | exact HB.out | apply below_alloc | apply pw_below_drewN | apply below_drew1) | exact HB.out)) hb); clear HB; have HB := n0_; clear n0_; (try clear hb); (try clear hb2); (try clear hk); (try clear hi)))
    go_ret2
    exact ⟨by first | rfl | (simp [errW_none, errW_some] <;> rfl) | (simp [*, errW_none, errW_some] <;> rfl), by repeat (first | (with_reducible first | exact HB.out | apply below_alloc | apply pw_below_drewN | apply below_drew1) | exact HB.out)⟩
  · rw [if_neg c4] at H
    have c4b0 : (t122 == 0) = false := beq_eq_false_iff_ne.mpr c4
    have c4b1 : (t122 != 0) = true := bne_iff_ne.mpr c4
    simp only [Option.some.injEq, Prod.mk.injEq] at H
    obtain ⟨rfl, rfl⟩ := H
    go_enter Tryd.func18, Tryd.ntmps18
    go_wp2_with (first | ((with_reducible refine gate_callee (f := 33) rfl ?_); refine goesL_ (some 8) rfl rfl Tryd.func33 (by kernel_rfl) rfl #[.slice A1 l1.length c1] rfl (by (try simp only [List.map_toArray, List.map_cons, List.map_nil]); first | done | rfl | (simp only [List.length_drop, List.length_take]; rfl)) ?_; (with_reducible refine (url_Schemes.calls k _ _ l1 t122 _ ?side1 ?side2 A3.out).mono ?_); (case side1 => repeat (first | exact HR1.out | (with_reducible refine Kd.C_alloc ?_ _) | (with_reducible refine Kd.C_drewN ?_ _) | (with_reducible refine Kd.C_drew ?_))); (case side2 => exact HC1.out); rintro e w8 ⟨rfl, hb⟩; refine ⟨_, rfl, ?_⟩; have n0_ := Aside0.mk (below_step (by repeat (first | (with_reducible first | exact HB.out | apply below_alloc | apply pw_below_drewN | apply below_drew1) | exact HB.out)) hb); clear HB; have HB := n0_; clear n0_; (try clear hb); (try clear hb2); (try clear hk); (try clear hi)))
    go_ret2
    exact ⟨by first | rfl | (simp [errW_none, errW_some] <;> rfl) | (simp [*, errW_none, errW_some] <;> rfl), by repeat (first | (with_reducible first | exact HB.out | apply below_alloc | apply pw_below_drewN | apply below_drew1) | exact HB.out)⟩
end Go.Proofs.YteimhgbihpbhaaaDoor.X
end
section
namespace Go.Proofs.YteimhgbihpbhaaaDoor.X
open Go.RowKit Go.Proofs.YteimhgbihpbhaaaDoorW.PrintWords Go.Proofs.YteimhgbihpbhaaaDoorW.PrintLast Go.Proofs.YteimhgbihpbhaaaDoorW.PrintMore
attribute [local go_sem] max2_int min2_int max_two min_two max_three min_three max_four min_four   -- for this text's walks alone
set_option linter.unusedVariables false
set_option linter.unusedSimpArgs false
mutual
def bobbinetkeep_UrlHidden.l0 : Nat → List Int → List Int → ByteArray → ByteArray → ByteArray → Int → Option (Bool)
 | 0, _, _, _, _, _, _ => none
 | k + 1, x0, x1, x2, x7, x8, x9 => if x9 < (x0.length : Int) then (bobbinetkeep_UrlHidden.j1 k x0 x1 x2 x7 x8 x9 (decide (x9 < 12))) else (bobbinetkeep_UrlHidden.j1 k x0 x1 x2 x7 x8 x9 false)
def bobbinetkeep_UrlHidden.j1 : Nat → List Int → List Int → ByteArray → ByteArray → ByteArray → Int → Bool → Option (Bool)
 | 0, _, _, _, _, _, _, _ => none
 | k + 1, x0, x1, x2, x7, x8, x9, x32 => if x32 = true then (if 0 ≤ x9 then (if x9 < (x0.length : Int) then ((bobbinetkeep_Picked.f (rd x0 x9) 52).bind fun t130 => (if 0 ≤ (Int.tmod t130 26) then (if (Int.tmod t130 26) ≤ 26 then (if 0 ≤ 1 then (if 1 ≤ (((⟨#[97, 98, 99, 100, 101, 102, 103, 104, 105, 106, 107, 108, 109, 110, 111, 112, 113, 114, 115, 116, 117, 118, 119, 120, 121, 122]⟩ : ByteArray).extract ((Int.tmod t130 26) : Int).toNat (⟨#[97, 98, 99, 100, 101, 102, 103, 104, 105, 106, 107, 108, 109, 110, 111, 112, 113, 114, 115, 116, 117, 118, 119, 120, 121, 122]⟩ : ByteArray).size).size : Int) then (if 1 ≤ (((⟨#[65, 66, 67, 68, 69, 70, 71, 72, 73, 74, 75, 76, 77, 78, 79, 80, 81, 82, 83, 84, 85, 86, 87, 88, 89, 90]⟩ : ByteArray).extract ((Int.tmod t130 26) : Int).toNat (⟨#[65, 66, 67, 68, 69, 70, 71, 72, 73, 74, 75, 76, 77, 78, 79, 80, 81, 82, 83, 84, 85, 86, 87, 88, 89, 90]⟩ : ByteArray).size).size : Int) then (if x7.size + (((⟨#[97, 98, 99, 100, 101, 102, 103, 104, 105, 106, 107, 108, 109, 110, 111, 112, 113, 114, 115, 116, 117, 118, 119, 120, 121, 122]⟩ : ByteArray).extract ((Int.tmod t130 26) : Int).toNat (⟨#[97, 98, 99, 100, 101, 102, 103, 104, 105, 106, 107, 108, 109, 110, 111, 112, 113, 114, 115, 116, 117, 118, 119, 120, 121, 122]⟩ : ByteArray).size).extract 0 1).size ≤ 9223372036854775807 then (if t130 ≥ 26 then (if x8.size + (((⟨#[65, 66, 67, 68, 69, 70, 71, 72, 73, 74, 75, 76, 77, 78, 79, 80, 81, 82, 83, 84, 85, 86, 87, 88, 89, 90]⟩ : ByteArray).extract ((Int.tmod t130 26) : Int).toNat (⟨#[65, 66, 67, 68, 69, 70, 71, 72, 73, 74, 75, 76, 77, 78, 79, 80, 81, 82, 83, 84, 85, 86, 87, 88, 89, 90]⟩ : ByteArray).size).extract 0 1).size ≤ 9223372036854775807 then (if x9 < (x1.length : Int) then ((some (([(⟨#[]⟩ : ByteArray), (⟨#[9]⟩ : ByteArray), (⟨#[10]⟩ : ByteArray), (⟨#[13, 10]⟩ : ByteArray)] : List ByteArray) : List ByteArray)).bind fun y131 => ((bobbinetkeep_Picked.f (rd x1 x9) 4).bind fun t135 => (if 0 ≤ t135 then (if t135 < (y131.length : Int) then (if (x8 ++ (((⟨#[65, 66, 67, 68, 69, 70, 71, 72, 73, 74, 75, 76, 77, 78, 79, 80, 81, 82, 83, 84, 85, 86, 87, 88, 89, 90]⟩ : ByteArray).extract ((Int.tmod t130 26) : Int).toNat (⟨#[65, 66, 67, 68, 69, 70, 71, 72, 73, 74, 75, 76, 77, 78, 79, 80, 81, 82, 83, 84, 85, 86, 87, 88, 89, 90]⟩ : ByteArray).size).extract 0 1)).size + (rdOf ByteArray.empty y131 t135).size ≤ 9223372036854775807 then (bobbinetkeep_UrlHidden.l0 k x0 x1 x2 (x7 ++ (((⟨#[97, 98, 99, 100, 101, 102, 103, 104, 105, 106, 107, 108, 109, 110, 111, 112, 113, 114, 115, 116, 117, 118, 119, 120, 121, 122]⟩ : ByteArray).extract ((Int.tmod t130 26) : Int).toNat (⟨#[97, 98, 99, 100, 101, 102, 103, 104, 105, 106, 107, 108, 109, 110, 111, 112, 113, 114, 115, 116, 117, 118, 119, 120, 121, 122]⟩ : ByteArray).size).extract 0 1)) ((x8 ++ (((⟨#[65, 66, 67, 68, 69, 70, 71, 72, 73, 74, 75, 76, 77, 78, 79, 80, 81, 82, 83, 84, 85, 86, 87, 88, 89, 90]⟩ : ByteArray).extract ((Int.tmod t130 26) : Int).toNat (⟨#[65, 66, 67, 68, 69, 70, 71, 72, 73, 74, 75, 76, 77, 78, 79, 80, 81, 82, 83, 84, 85, 86, 87, 88, 89, 90]⟩ : ByteArray).size).extract 0 1)) ++ (rdOf ByteArray.empty y131 t135)) (wrap64 (x9 + 1))) else (none)) else (none)) else (none)))) else (bobbinetkeep_UrlHidden.l0 k x0 x1 x2 (x7 ++ (((⟨#[97, 98, 99, 100, 101, 102, 103, 104, 105, 106, 107, 108, 109, 110, 111, 112, 113, 114, 115, 116, 117, 118, 119, 120, 121, 122]⟩ : ByteArray).extract ((Int.tmod t130 26) : Int).toNat (⟨#[97, 98, 99, 100, 101, 102, 103, 104, 105, 106, 107, 108, 109, 110, 111, 112, 113, 114, 115, 116, 117, 118, 119, 120, 121, 122]⟩ : ByteArray).size).extract 0 1)) (x8 ++ (((⟨#[65, 66, 67, 68, 69, 70, 71, 72, 73, 74, 75, 76, 77, 78, 79, 80, 81, 82, 83, 84, 85, 86, 87, 88, 89, 90]⟩ : ByteArray).extract ((Int.tmod t130 26) : Int).toNat (⟨#[65, 66, 67, 68, 69, 70, 71, 72, 73, 74, 75, 76, 77, 78, 79, 80, 81, 82, 83, 84, 85, 86, 87, 88, 89, 90]⟩ : ByteArray).size).extract 0 1)) (wrap64 (x9 + 1)))) else (none)) else (if x8.size + (((⟨#[97, 98, 99, 100, 101, 102, 103, 104, 105, 106, 107, 108, 109, 110, 111, 112, 113, 114, 115, 116, 117, 118, 119, 120, 121, 122]⟩ : ByteArray).extract ((Int.tmod t130 26) : Int).toNat (⟨#[97, 98, 99, 100, 101, 102, 103, 104, 105, 106, 107, 108, 109, 110, 111, 112, 113, 114, 115, 116, 117, 118, 119, 120, 121, 122]⟩ : ByteArray).size).extract 0 1).size ≤ 9223372036854775807 then (if x9 < (x1.length : Int) then ((some (([(⟨#[]⟩ : ByteArray), (⟨#[9]⟩ : ByteArray), (⟨#[10]⟩ : ByteArray), (⟨#[13, 10]⟩ : ByteArray)] : List ByteArray) : List ByteArray)).bind fun y137 => ((bobbinetkeep_Picked.f (rd x1 x9) 4).bind fun t141 => (if 0 ≤ t141 then (if t141 < (y137.length : Int) then (if (x8 ++ (((⟨#[97, 98, 99, 100, 101, 102, 103, 104, 105, 106, 107, 108, 109, 110, 111, 112, 113, 114, 115, 116, 117, 118, 119, 120, 121, 122]⟩ : ByteArray).extract ((Int.tmod t130 26) : Int).toNat (⟨#[97, 98, 99, 100, 101, 102, 103, 104, 105, 106, 107, 108, 109, 110, 111, 112, 113, 114, 115, 116, 117, 118, 119, 120, 121, 122]⟩ : ByteArray).size).extract 0 1)).size + (rdOf ByteArray.empty y137 t141).size ≤ 9223372036854775807 then (bobbinetkeep_UrlHidden.l0 k x0 x1 x2 (x7 ++ (((⟨#[97, 98, 99, 100, 101, 102, 103, 104, 105, 106, 107, 108, 109, 110, 111, 112, 113, 114, 115, 116, 117, 118, 119, 120, 121, 122]⟩ : ByteArray).extract ((Int.tmod t130 26) : Int).toNat (⟨#[97, 98, 99, 100, 101, 102, 103, 104, 105, 106, 107, 108, 109, 110, 111, 112, 113, 114, 115, 116, 117, 118, 119, 120, 121, 122]⟩ : ByteArray).size).extract 0 1)) ((x8 ++ (((⟨#[97, 98, 99, 100, 101, 102, 103, 104, 105, 106, 107, 108, 109, 110, 111, 112, 113, 114, 115, 116, 117, 118, 119, 120, 121, 122]⟩ : ByteArray).extract ((Int.tmod t130 26) : Int).toNat (⟨#[97, 98, 99, 100, 101, 102, 103, 104, 105, 106, 107, 108, 109, 110, 111, 112, 113, 114, 115, 116, 117, 118, 119, 120, 121, 122]⟩ : ByteArray).size).extract 0 1)) ++ (rdOf ByteArray.empty y137 t141)) (wrap64 (x9 + 1))) else (none)) else (none)) else (none)))) else (bobbinetkeep_UrlHidden.l0 k x0 x1 x2 (x7 ++ (((⟨#[97, 98, 99, 100, 101, 102, 103, 104, 105, 106, 107, 108, 109, 110, 111, 112, 113, 114, 115, 116, 117, 118, 119, 120, 121, 122]⟩ : ByteArray).extract ((Int.tmod t130 26) : Int).toNat (⟨#[97, 98, 99, 100, 101, 102, 103, 104, 105, 106, 107, 108, 109, 110, 111, 112, 113, 114, 115, 116, 117, 118, 119, 120, 121, 122]⟩ : ByteArray).size).extract 0 1)) (x8 ++ (((⟨#[97, 98, 99, 100, 101, 102, 103, 104, 105, 106, 107, 108, 109, 110, 111, 112, 113, 114, 115, 116, 117, 118, 119, 120, 121, 122]⟩ : ByteArray).extract ((Int.tmod t130 26) : Int).toNat (⟨#[97, 98, 99, 100, 101, 102, 103, 104, 105, 106, 107, 108, 109, 110, 111, 112, 113, 114, 115, 116, 117, 118, 119, 120, 121, 122]⟩ : ByteArray).size).extract 0 1)) (wrap64 (x9 + 1)))) else (none))) else (none)) else (none)) else (none)) else (none)) else (none)) else (none))) else (none)) else (none)) else (if x7.toList = ([] : List UInt8) then ((url_Strip.f (⟨#[32, 97, 32]⟩ : ByteArray)).bind fun t143 => (some (t143.toList == ([97] : List UInt8)))) else (if x8.size + 1 ≤ 9223372036854775807 then (if (x8 ++ (⟨#[58]⟩ : ByteArray)).size + x2.size ≤ 9223372036854775807 then ((url_Scheme.f k ((x8 ++ (⟨#[58]⟩ : ByteArray)) ++ x2)).bind fun bt144 => ((url_Safe.f k ((x8 ++ (⟨#[58]⟩ : ByteArray)) ++ x2) (([(⟨#[104, 116, 116, 112]⟩ : ByteArray), (⟨#[104, 116, 116, 112, 115]⟩ : ByteArray)] : List ByteArray))).bind fun bt149 => ((url_Safe.f k ((x8 ++ (⟨#[58]⟩ : ByteArray)) ++ x2) (([x7] : List ByteArray))).bind fun bt154 => (if bt144.2 = true then (if bt144.1.toList = x7.toList then (if bt149.2 = 0 then (if bt154.2 = 0 then (if bt154.1 = true then (if x7.toList = ([104, 116, 116, 112] : List UInt8) then (some (bt149.1 == true)) else (some (bt149.1 == (x7.toList == ([104, 116, 116, 112, 115] : List UInt8))))) else (none)) else (none)) else (none)) else (none)) else (none))))) else (none)) else (none)))
end
def bobbinetkeep_UrlHidden.f (k : Nat) (l0 : List Int) (l1 : List Int) (a2 : ByteArray) : Option (Bool) := (some (([(⟨#[]⟩ : ByteArray), (⟨#[32]⟩ : ByteArray), (⟨#[9, 10]⟩ : ByteArray), (⟨#[0, 31, 32]⟩ : ByteArray)] : List ByteArray) : List ByteArray)).bind fun y124 => ((bobbinetkeep_Picked.f (l1.length : Int) 4).bind fun t127 => (if 0 ≤ t127 then (if t127 < (y124.length : Int) then (bobbinetkeep_UrlHidden.l0 k l0 l1 a2 (⟨#[]⟩ : ByteArray) (rdOf ByteArray.empty y124 t127) 0) else (none)) else (none)))
set_option maxHeartbeats 8000000 in
set_option maxRecDepth 100000 in
theorem bobbinetkeep_UrlHidden.calls (k : Nat) (A0 : Option Addr) (c0 : Nat) (l0 : List Int) (A1 : Option Addr) (c1 : Nat) (l1 : List Int) (a2 : ByteArray) (r : Bool) (w : World) (hr0 : Kd.C (Kd.int .i64) w A0 l0.length l0) (hc0 : l0.length ≤ c0) (hr1 : Kd.C (Kd.int .i64) w A1 l1.length l1) (hc1 : l1.length ≤ c1) (h : bobbinetkeep_UrlHidden.f k l0 l1 a2 = some r) :
  Calls Tryd.prog 7 #[.slice A0 l0.length c0, .slice A1 l1.length c1, .string a2] w fun e w' => e = .returned (.bool r) ∧ Below w.heap.size w w' := by
 have HR0 := Aside0.mk hr0
 have HC0 := Aside0.mk hc0
 clear hr0 hc0
 have HR1 := Aside0.mk hr1
 have HC1 := Aside0.mk hc1
 clear hr1 hc1
 have HB := Aside0.mk (Below.refl w.heap.size w)
 have H : ((some (([(⟨#[]⟩ : ByteArray), (⟨#[32]⟩ : ByteArray), (⟨#[9, 10]⟩ : ByteArray), (⟨#[0, 31, 32]⟩ : ByteArray)] : List ByteArray) : List ByteArray)).bind fun y124 => ((bobbinetkeep_Picked.f (l1.length : Int) 4).bind fun t127 => (if 0 ≤ t127 then (if t127 < (y124.length : Int) then (bobbinetkeep_UrlHidden.l0 k l0 l1 a2 (⟨#[]⟩ : ByteArray) (rdOf ByteArray.empty y124 t127) 0) else (none)) else (none)))) = some r := h
 clear h
 obtain ⟨y124, hy124⟩ : ∃ y_ : List ByteArray, y_ = (([(⟨#[]⟩ : ByteArray), (⟨#[32]⟩ : ByteArray), (⟨#[9, 10]⟩ : ByteArray), (⟨#[0, 31, 32]⟩ : ByteArray)] : List ByteArray)) := ⟨_, rfl⟩
 replace H : ((bobbinetkeep_Picked.f (l1.length : Int) 4).bind fun t127 => (if 0 ≤ t127 then (if t127 < (y124.length : Int) then (bobbinetkeep_UrlHidden.l0 k l0 l1 a2 (⟨#[]⟩ : ByteArray) (rdOf ByteArray.empty y124 t127) 0) else (none)) else (none))) = some r := by first | (rw [hy124]; with_reducible exact H) | (have H2_ := (Option.bind_some _ _).symm.trans H; rw [hy124]; with_reducible exact H2_) | (have H2_ := (Option.bind_some _ _).symm.trans H; with_reducible exact H2_) | with_reducible exact H | (rw [hy124]; exact H) | exact H
 have Ny124 := Aside0.mk hy124
 clear hy124
 replace H := Option.bind_eq_some_iff.mp H
 obtain ⟨t127, A40, H⟩ := H
 replace H : (if 0 ≤ t127 then (if t127 < (y124.length : Int) then (bobbinetkeep_UrlHidden.l0 k l0 l1 a2 (⟨#[]⟩ : ByteArray) (rdOf ByteArray.empty y124 t127) 0) else (none)) else (none)) = some r := H
 have A4 := Aside0.mk A40
 clear A40
 by_cases c5 : 0 ≤ t127
 ·
  rw [if_pos c5] at H
  have c5b0 : decide (0 ≤ t127) = true := decide_eq_true c5
  clear c5
  by_cases c6 : t127 < (y124.length : Int)
  ·
   rw [if_pos c6] at H
   have c6b0 : decide (t127 < (y124.length : Int)) = true := decide_eq_true c6
   clear c6
   have H' := Aside0.mk H
   clear H
   go_enter Tryd.func7, Tryd.ntmps7
   go_wp2_with (first | ((with_reducible refine gate_dst (N := 19) rfl ?_); refine Kd.R_lit Kd.string _ 9 ?hg (N := 19) ?hd (xs := ([(⟨#[]⟩ : ByteArray), (⟨#[32]⟩ : ByteArray), (⟨#[9, 10]⟩ : ByteArray), (⟨#[0, 31, 32]⟩ : ByteArray)] : List ByteArray)) (inner := [.string (⟨#[]⟩ : ByteArray), .string (⟨#[32]⟩ : ByteArray), .string (⟨#[9, 10]⟩ : ByteArray), .string (⟨#[0, 31, 32]⟩ : ByteArray)]) (ok := fun _ => True) (okp := fun _ => True) ?hr ?hp (fun _ hk => hk) trivial (Below.refl _ _) (Nat.le_refl _) (by simp) ?_; (case hd => rfl); (case hg => rfl); (case hr => first | (go_simp; done) | (go_simp; rfl)); (case hp => exact (Reps.one (show Kd.M Kd.string _ _ _ (⟨#[]⟩ : ByteArray) [.string (⟨#[]⟩ : ByteArray)] from rfl) (Reps.one (show Kd.M Kd.string _ _ _ (⟨#[32]⟩ : ByteArray) [.string (⟨#[32]⟩ : ByteArray)] from rfl) (Reps.one (show Kd.M Kd.string _ _ _ (⟨#[9, 10]⟩ : ByteArray) [.string (⟨#[9, 10]⟩ : ByteArray)] from rfl) (Reps.one (show Kd.M Kd.string _ _ _ (⟨#[0, 31, 32]⟩ : ByteArray) [.string (⟨#[0, 31, 32]⟩ : ByteArray)] from rfl) (Reps.none _ _)))))); intro v125 w7 ho8 hb hg_ hnew_; clear hg_ hnew_; (first | rw [← Ny124.out] at ho8 | (simp only [Int.reduceToNat] at ho8; rw [← Ny124.out] at ho8)); have n0_ := Aside0.mk (Kd.R_lower ho8 (below_size (by repeat (first | (with_reducible first | exact HB.out | apply below_alloc | apply pw_below_drewN | apply below_drew1) | exact HB.out)))); have n1_ := Aside0.mk (below_step (by repeat (first | (with_reducible first | exact HB.out | apply below_alloc | apply pw_below_drewN | apply below_drew1) | exact HB.out)) hb); clear HB; have HO126 := n0_; have HB := n1_; clear n0_ n1_; clear hb ho8) | ((with_reducible refine gate_callee (f := 14) rfl ?_); refine goesL_ (some 22) rfl rfl Tryd.func14 (by kernel_rfl) rfl #[.int .i64 (l1.length : Int), .int .i64 4] rfl (by (try simp only [List.map_toArray, List.map_cons, List.map_nil]); first | done | rfl | (simp only [List.length_drop, List.length_take]; rfl)) ?_; (with_reducible refine (bobbinetkeep_Picked.calls (l1.length : Int) 4 t127 _ A4.out).mono ?_); rintro e w' ⟨rfl, ⟨nd, rfl⟩⟩; refine ⟨_, rfl, ?_⟩; obtain ⟨Ao9, co9, eo9⟩ := Kd.R_slice HO126.out; subst eo9; have p128 : 0 ≤ (t127 : Int) := of_decide_eq_true (by first | (with_reducible assumption) | assumption); have q128 : t127 < (y124.length : Int) := of_decide_eq_true (by first | (with_reducible assumption) | assumption); obtain ⟨ad128, e128, hx128_0⟩ := Kd.at_string (Kd.R_reads' HO126.out).2.2 t127 p128 q128; cases e128; replace p128 := eq_true p128; replace q128 := eq_true q128))
   go_loopg [7, 8, 9] k (fun kq v7 v8 v9 w' => ∃ (x7_1 : ByteArray) (x8_1 : ByteArray) (x9_1 : Int), v7 = .string x7_1 ∧ v8 = .string x8_1 ∧ v9 = .int .i64 x9_1 ∧ Aside0 (bobbinetkeep_UrlHidden.l0 kq l0 l1 a2 x7_1 x8_1 x9_1 = some r) ∧ Aside0 (kq ≤ k) ∧ Aside0 (Below w.heap.size w w'))
   case atStart => exact ⟨((⟨#[]⟩ : ByteArray)), (rdOf ByteArray.empty y124 t127), (0), (by first | rfl | (simp; done) | (simp [*]; done) | (simp [bne]; done)), (by first | rfl | (simp; done) | (simp [*]; done) | (simp [bne]; done)), (by first | rfl | (simp; done) | (simp [*]; done) | (simp [bne]; done)), H', ⟨Nat.le_refl _⟩, ⟨by repeat (first | (with_reducible first | exact HB.out | apply below_alloc | apply pw_below_drewN | apply below_drew1) | exact HB.out)⟩⟩
   case round =>
    clear H'
    try clear c1
    try clear p1
    try clear q1
    try clear hx1
    try clear p2
    try clear c5
    try clear c5b0
    try clear c6
    try clear c6b0
    try clear c7
    try clear hx128_0
    try clear p128
    try clear q128
    obtain ⟨x7_1, x8_1, x9_1, rfl, rfl, rfl, HA, HK1, HB⟩ := hrel
    cases gk with
    | zero => exact absurd HA.out (by simp [bobbinetkeep_UrlHidden.l0])
    | succ k1 =>
     have H := HA.out
     clear HA
     simp only [bobbinetkeep_UrlHidden.l0] at H
     have HC10 := Aside0.mk H
     clear H
     go_upto_region 4 with (fail)
     go_cut [32] (fun v32 wc => ∃ (kq : Nat) (x32_9 : Bool), v32 = .bool x32_9 ∧ Aside0 (bobbinetkeep_UrlHidden.j1 kq l0 l1 a2 x7_1 x8_1 x9_1 x32_9 = some r) ∧ Aside0 (kq ≤ k1) ∧ Aside0 (Below w.heap.size w wc))
     case first =>
      have H := HC10.out
      clear HC10
      by_cases c11 : x9_1 < (l0.length : Int)
      ·
       rw [if_pos c11] at H
       have c11b0 : decide (x9_1 < (l0.length : Int)) = true := decide_eq_true c11
       clear c11
       (first | rw [c11b0] | (simp only [i64_w, i32_w]; rw [c11b0]) | rw [c11b1] | skip)
       have H' := Aside0.mk H
       clear H
       go_wp2
       go_meet
       case rel => exact ⟨_, (decide (x9_1 < 12)), (by first | rfl | (simp; done) | (simp [*]; done) | (simp [bne]; done)), H', ⟨by have := HK1.out; first | omega | exact Nat.le_refl _⟩, ⟨by repeat (first | (with_reducible first | exact HB.out | apply below_alloc | apply pw_below_drewN | apply below_drew1) | exact HB.out)⟩⟩
      ·
       rw [if_neg c11] at H
       have c11b0 : decide (x9_1 < (l0.length : Int)) = false := decide_eq_false c11
       clear c11
       (first | rw [c11b0] | (simp only [i64_w, i32_w]; rw [c11b0]) | rw [c11b1] | skip)
       have H' := Aside0.mk H
       clear H
       go_wp2
       go_meet
       case rel => exact ⟨_, (false), (by first | rfl | (simp; done) | (simp [*]; done) | (simp [bne]; done)), H', ⟨by have := HK1.out; first | omega | exact Nat.le_refl _⟩, ⟨by repeat (first | (with_reducible first | exact HB.out | apply below_alloc | apply pw_below_drewN | apply below_drew1) | exact HB.out)⟩⟩
     case rest =>
      clear HC10
      try clear c1
      try clear p1
      try clear q1
      try clear hx1
      try clear p2
      try clear c5
      try clear c5b0
      try clear c6
      try clear c6b0
      try clear c7
      try clear c11
      try clear c11b0
      try clear hx128_0
      try clear p1
      try clear p128
      try clear p2
      try clear q1
      try clear q128
      obtain ⟨kq, x32_9, rfl, HA, HJ9, HB⟩ := hcut
      cases kq with
      | zero => exact absurd HA.out (by simp [bobbinetkeep_UrlHidden.j1])
      | succ kj9 =>
       have H := HA.out
       clear HA
       simp only [bobbinetkeep_UrlHidden.j1] at H
       by_cases c12 : x32_9 = true
       ·
        subst c12
        have H1 : (if 0 ≤ x9_1 then (if x9_1 < (l0.length : Int) then ((bobbinetkeep_Picked.f (rd l0 x9_1) 52).bind fun t130 => (if 0 ≤ (Int.tmod t130 26) then (if (Int.tmod t130 26) ≤ 26 then (if 0 ≤ 1 then (if 1 ≤ (((⟨#[97, 98, 99, 100, 101, 102, 103, 104, 105, 106, 107, 108, 109, 110, 111, 112, 113, 114, 115, 116, 117, 118, 119, 120, 121, 122]⟩ : ByteArray).extract ((Int.tmod t130 26) : Int).toNat (⟨#[97, 98, 99, 100, 101, 102, 103, 104, 105, 106, 107, 108, 109, 110, 111, 112, 113, 114, 115, 116, 117, 118, 119, 120, 121, 122]⟩ : ByteArray).size).size : Int) then (if 1 ≤ (((⟨#[65, 66, 67, 68, 69, 70, 71, 72, 73, 74, 75, 76, 77, 78, 79, 80, 81, 82, 83, 84, 85, 86, 87, 88, 89, 90]⟩ : ByteArray).extract ((Int.tmod t130 26) : Int).toNat (⟨#[65, 66, 67, 68, 69, 70, 71, 72, 73, 74, 75, 76, 77, 78, 79, 80, 81, 82, 83, 84, 85, 86, 87, 88, 89, 90]⟩ : ByteArray).size).size : Int) then (if x7_1.size + (((⟨#[97, 98, 99, 100, 101, 102, 103, 104, 105, 106, 107, 108, 109, 110, 111, 112, 113, 114, 115, 116, 117, 118, 119, 120, 121, 122]⟩ : ByteArray).extract ((Int.tmod t130 26) : Int).toNat (⟨#[97, 98, 99, 100, 101, 102, 103, 104, 105, 106, 107, 108, 109, 110, 111, 112, 113, 114, 115, 116, 117, 118, 119, 120, 121, 122]⟩ : ByteArray).size).extract 0 1).size ≤ 9223372036854775807 then (if t130 ≥ 26 then (if x8_1.size + (((⟨#[65, 66, 67, 68, 69, 70, 71, 72, 73, 74, 75, 76, 77, 78, 79, 80, 81, 82, 83, 84, 85, 86, 87, 88, 89, 90]⟩ : ByteArray).extract ((Int.tmod t130 26) : Int).toNat (⟨#[65, 66, 67, 68, 69, 70, 71, 72, 73, 74, 75, 76, 77, 78, 79, 80, 81, 82, 83, 84, 85, 86, 87, 88, 89, 90]⟩ : ByteArray).size).extract 0 1).size ≤ 9223372036854775807 then (if x9_1 < (l1.length : Int) then ((some (([(⟨#[]⟩ : ByteArray), (⟨#[9]⟩ : ByteArray), (⟨#[10]⟩ : ByteArray), (⟨#[13, 10]⟩ : ByteArray)] : List ByteArray) : List ByteArray)).bind fun y131 => ((bobbinetkeep_Picked.f (rd l1 x9_1) 4).bind fun t135 => (if 0 ≤ t135 then (if t135 < (y131.length : Int) then (if (x8_1 ++ (((⟨#[65, 66, 67, 68, 69, 70, 71, 72, 73, 74, 75, 76, 77, 78, 79, 80, 81, 82, 83, 84, 85, 86, 87, 88, 89, 90]⟩ : ByteArray).extract ((Int.tmod t130 26) : Int).toNat (⟨#[65, 66, 67, 68, 69, 70, 71, 72, 73, 74, 75, 76, 77, 78, 79, 80, 81, 82, 83, 84, 85, 86, 87, 88, 89, 90]⟩ : ByteArray).size).extract 0 1)).size + (rdOf ByteArray.empty y131 t135).size ≤ 9223372036854775807 then (bobbinetkeep_UrlHidden.l0 kj9 l0 l1 a2 (x7_1 ++ (((⟨#[97, 98, 99, 100, 101, 102, 103, 104, 105, 106, 107, 108, 109, 110, 111, 112, 113, 114, 115, 116, 117, 118, 119, 120, 121, 122]⟩ : ByteArray).extract ((Int.tmod t130 26) : Int).toNat (⟨#[97, 98, 99, 100, 101, 102, 103, 104, 105, 106, 107, 108, 109, 110, 111, 112, 113, 114, 115, 116, 117, 118, 119, 120, 121, 122]⟩ : ByteArray).size).extract 0 1)) ((x8_1 ++ (((⟨#[65, 66, 67, 68, 69, 70, 71, 72, 73, 74, 75, 76, 77, 78, 79, 80, 81, 82, 83, 84, 85, 86, 87, 88, 89, 90]⟩ : ByteArray).extract ((Int.tmod t130 26) : Int).toNat (⟨#[65, 66, 67, 68, 69, 70, 71, 72, 73, 74, 75, 76, 77, 78, 79, 80, 81, 82, 83, 84, 85, 86, 87, 88, 89, 90]⟩ : ByteArray).size).extract 0 1)) ++ (rdOf ByteArray.empty y131 t135)) (wrap64 (x9_1 + 1))) else (none)) else (none)) else (none)))) else (bobbinetkeep_UrlHidden.l0 kj9 l0 l1 a2 (x7_1 ++ (((⟨#[97, 98, 99, 100, 101, 102, 103, 104, 105, 106, 107, 108, 109, 110, 111, 112, 113, 114, 115, 116, 117, 118, 119, 120, 121, 122]⟩ : ByteArray).extract ((Int.tmod t130 26) : Int).toNat (⟨#[97, 98, 99, 100, 101, 102, 103, 104, 105, 106, 107, 108, 109, 110, 111, 112, 113, 114, 115, 116, 117, 118, 119, 120, 121, 122]⟩ : ByteArray).size).extract 0 1)) (x8_1 ++ (((⟨#[65, 66, 67, 68, 69, 70, 71, 72, 73, 74, 75, 76, 77, 78, 79, 80, 81, 82, 83, 84, 85, 86, 87, 88, 89, 90]⟩ : ByteArray).extract ((Int.tmod t130 26) : Int).toNat (⟨#[65, 66, 67, 68, 69, 70, 71, 72, 73, 74, 75, 76, 77, 78, 79, 80, 81, 82, 83, 84, 85, 86, 87, 88, 89, 90]⟩ : ByteArray).size).extract 0 1)) (wrap64 (x9_1 + 1)))) else (none)) else (if x8_1.size + (((⟨#[97, 98, 99, 100, 101, 102, 103, 104, 105, 106, 107, 108, 109, 110, 111, 112, 113, 114, 115, 116, 117, 118, 119, 120, 121, 122]⟩ : ByteArray).extract ((Int.tmod t130 26) : Int).toNat (⟨#[97, 98, 99, 100, 101, 102, 103, 104, 105, 106, 107, 108, 109, 110, 111, 112, 113, 114, 115, 116, 117, 118, 119, 120, 121, 122]⟩ : ByteArray).size).extract 0 1).size ≤ 9223372036854775807 then (if x9_1 < (l1.length : Int) then ((some (([(⟨#[]⟩ : ByteArray), (⟨#[9]⟩ : ByteArray), (⟨#[10]⟩ : ByteArray), (⟨#[13, 10]⟩ : ByteArray)] : List ByteArray) : List ByteArray)).bind fun y137 => ((bobbinetkeep_Picked.f (rd l1 x9_1) 4).bind fun t141 => (if 0 ≤ t141 then (if t141 < (y137.length : Int) then (if (x8_1 ++ (((⟨#[97, 98, 99, 100, 101, 102, 103, 104, 105, 106, 107, 108, 109, 110, 111, 112, 113, 114, 115, 116, 117, 118, 119, 120, 121, 122]⟩ : ByteArray).extract ((Int.tmod t130 26) : Int).toNat (⟨#[97, 98, 99, 100, 101, 102, 103, 104, 105, 106, 107, 108, 109, 110, 111, 112, 113, 114, 115, 116, 117, 118, 119, 120, 121, 122]⟩ : ByteArray).size).extract 0 1)).size + (rdOf ByteArray.empty y137 t141).size ≤ 9223372036854775807 then (bobbinetkeep_UrlHidden.l0 kj9 l0 l1 a2 (x7_1 ++ (((⟨#[97, 98, 99, 100, 101, 102, 103, 104, 105, 106, 107, 108, 109, 110, 111, 112, 113, 114, 115, 116, 117, 118, 119, 120, 121, 122]⟩ : ByteArray).extract ((Int.tmod t130 26) : Int).toNat (⟨#[97, 98, 99, 100, 101, 102, 103, 104, 105, 106, 107, 108, 109, 110, 111, 112, 113, 114, 115, 116, 117, 118, 119, 120, 121, 122]⟩ : ByteArray).size).extract 0 1)) ((x8_1 ++ (((⟨#[97, 98, 99, 100, 101, 102, 103, 104, 105, 106, 107, 108, 109, 110, 111, 112, 113, 114, 115, 116, 117, 118, 119, 120, 121, 122]⟩ : ByteArray).extract ((Int.tmod t130 26) : Int).toNat (⟨#[97, 98, 99, 100, 101, 102, 103, 104, 105, 106, 107, 108, 109, 110, 111, 112, 113, 114, 115, 116, 117, 118, 119, 120, 121, 122]⟩ : ByteArray).size).extract 0 1)) ++ (rdOf ByteArray.empty y137 t141)) (wrap64 (x9_1 + 1))) else (none)) else (none)) else (none)))) else (bobbinetkeep_UrlHidden.l0 kj9 l0 l1 a2 (x7_1 ++ (((⟨#[97, 98, 99, 100, 101, 102, 103, 104, 105, 106, 107, 108, 109, 110, 111, 112, 113, 114, 115, 116, 117, 118, 119, 120, 121, 122]⟩ : ByteArray).extract ((Int.tmod t130 26) : Int).toNat (⟨#[97, 98, 99, 100, 101, 102, 103, 104, 105, 106, 107, 108, 109, 110, 111, 112, 113, 114, 115, 116, 117, 118, 119, 120, 121, 122]⟩ : ByteArray).size).extract 0 1)) (x8_1 ++ (((⟨#[97, 98, 99, 100, 101, 102, 103, 104, 105, 106, 107, 108, 109, 110, 111, 112, 113, 114, 115, 116, 117, 118, 119, 120, 121, 122]⟩ : ByteArray).extract ((Int.tmod t130 26) : Int).toNat (⟨#[97, 98, 99, 100, 101, 102, 103, 104, 105, 106, 107, 108, 109, 110, 111, 112, 113, 114, 115, 116, 117, 118, 119, 120, 121, 122]⟩ : ByteArray).size).extract 0 1)) (wrap64 (x9_1 + 1)))) else (none))) else (none)) else (none)) else (none)) else (none)) else (none)) else (none))) else (none)) else (none)) = some r := by rw [if_pos rfl] at H; exact H
        clear H
        have H := H1
        clear H1
        by_cases c13 : 0 ≤ x9_1
        ·
         rw [if_pos c13] at H
         have c13b0 : decide (0 ≤ x9_1) = true := decide_eq_true c13
         clear c13
         by_cases c14 : x9_1 < (l0.length : Int)
         ·
          rw [if_pos c14] at H
          have c14b0 : decide (x9_1 < (l0.length : Int)) = true := decide_eq_true c14
          clear c14
          replace H := Option.bind_eq_some_iff.mp H
          obtain ⟨t130, A150, H⟩ := H
          replace H : (if 0 ≤ (Int.tmod t130 26) then (if (Int.tmod t130 26) ≤ 26 then (if 0 ≤ 1 then (if 1 ≤ (((⟨#[97, 98, 99, 100, 101, 102, 103, 104, 105, 106, 107, 108, 109, 110, 111, 112, 113, 114, 115, 116, 117, 118, 119, 120, 121, 122]⟩ : ByteArray).extract ((Int.tmod t130 26) : Int).toNat (⟨#[97, 98, 99, 100, 101, 102, 103, 104, 105, 106, 107, 108, 109, 110, 111, 112, 113, 114, 115, 116, 117, 118, 119, 120, 121, 122]⟩ : ByteArray).size).size : Int) then (if 1 ≤ (((⟨#[65, 66, 67, 68, 69, 70, 71, 72, 73, 74, 75, 76, 77, 78, 79, 80, 81, 82, 83, 84, 85, 86, 87, 88, 89, 90]⟩ : ByteArray).extract ((Int.tmod t130 26) : Int).toNat (⟨#[65, 66, 67, 68, 69, 70, 71, 72, 73, 74, 75, 76, 77, 78, 79, 80, 81, 82, 83, 84, 85, 86, 87, 88, 89, 90]⟩ : ByteArray).size).size : Int) then (if x7_1.size + (((⟨#[97, 98, 99, 100, 101, 102, 103, 104, 105, 106, 107, 108, 109, 110, 111, 112, 113, 114, 115, 116, 117, 118, 119, 120, 121, 122]⟩ : ByteArray).extract ((Int.tmod t130 26) : Int).toNat (⟨#[97, 98, 99, 100, 101, 102, 103, 104, 105, 106, 107, 108, 109, 110, 111, 112, 113, 114, 115, 116, 117, 118, 119, 120, 121, 122]⟩ : ByteArray).size).extract 0 1).size ≤ 9223372036854775807 then (if t130 ≥ 26 then (if x8_1.size + (((⟨#[65, 66, 67, 68, 69, 70, 71, 72, 73, 74, 75, 76, 77, 78, 79, 80, 81, 82, 83, 84, 85, 86, 87, 88, 89, 90]⟩ : ByteArray).extract ((Int.tmod t130 26) : Int).toNat (⟨#[65, 66, 67, 68, 69, 70, 71, 72, 73, 74, 75, 76, 77, 78, 79, 80, 81, 82, 83, 84, 85, 86, 87, 88, 89, 90]⟩ : ByteArray).size).extract 0 1).size ≤ 9223372036854775807 then (if x9_1 < (l1.length : Int) then ((some (([(⟨#[]⟩ : ByteArray), (⟨#[9]⟩ : ByteArray), (⟨#[10]⟩ : ByteArray), (⟨#[13, 10]⟩ : ByteArray)] : List ByteArray) : List ByteArray)).bind fun y131 => ((bobbinetkeep_Picked.f (rd l1 x9_1) 4).bind fun t135 => (if 0 ≤ t135 then (if t135 < (y131.length : Int) then (if (x8_1 ++ (((⟨#[65, 66, 67, 68, 69, 70, 71, 72, 73, 74, 75, 76, 77, 78, 79, 80, 81, 82, 83, 84, 85, 86, 87, 88, 89, 90]⟩ : ByteArray).extract ((Int.tmod t130 26) : Int).toNat (⟨#[65, 66, 67, 68, 69, 70, 71, 72, 73, 74, 75, 76, 77, 78, 79, 80, 81, 82, 83, 84, 85, 86, 87, 88, 89, 90]⟩ : ByteArray).size).extract 0 1)).size + (rdOf ByteArray.empty y131 t135).size ≤ 9223372036854775807 then (bobbinetkeep_UrlHidden.l0 kj9 l0 l1 a2 (x7_1 ++ (((⟨#[97, 98, 99, 100, 101, 102, 103, 104, 105, 106, 107, 108, 109, 110, 111, 112, 113, 114, 115, 116, 117, 118, 119, 120, 121, 122]⟩ : ByteArray).extract ((Int.tmod t130 26) : Int).toNat (⟨#[97, 98, 99, 100, 101, 102, 103, 104, 105, 106, 107, 108, 109, 110, 111, 112, 113, 114, 115, 116, 117, 118, 119, 120, 121, 122]⟩ : ByteArray).size).extract 0 1)) ((x8_1 ++ (((⟨#[65, 66, 67, 68, 69, 70, 71, 72, 73, 74, 75, 76, 77, 78, 79, 80, 81, 82, 83, 84, 85, 86, 87, 88, 89, 90]⟩ : ByteArray).extract ((Int.tmod t130 26) : Int).toNat (⟨#[65, 66, 67, 68, 69, 70, 71, 72, 73, 74, 75, 76, 77, 78, 79, 80, 81, 82, 83, 84, 85, 86, 87, 88, 89, 90]⟩ : ByteArray).size).extract 0 1)) ++ (rdOf ByteArray.empty y131 t135)) (wrap64 (x9_1 + 1))) else (none)) else (none)) else (none)))) else (bobbinetkeep_UrlHidden.l0 kj9 l0 l1 a2 (x7_1 ++ (((⟨#[97, 98, 99, 100, 101, 102, 103, 104, 105, 106, 107, 108, 109, 110, 111, 112, 113, 114, 115, 116, 117, 118, 119, 120, 121, 122]⟩ : ByteArray).extract ((Int.tmod t130 26) : Int).toNat (⟨#[97, 98, 99, 100, 101, 102, 103, 104, 105, 106, 107, 108, 109, 110, 111, 112, 113, 114, 115, 116, 117, 118, 119, 120, 121, 122]⟩ : ByteArray).size).extract 0 1)) (x8_1 ++ (((⟨#[65, 66, 67, 68, 69, 70, 71, 72, 73, 74, 75, 76, 77, 78, 79, 80, 81, 82, 83, 84, 85, 86, 87, 88, 89, 90]⟩ : ByteArray).extract ((Int.tmod t130 26) : Int).toNat (⟨#[65, 66, 67, 68, 69, 70, 71, 72, 73, 74, 75, 76, 77, 78, 79, 80, 81, 82, 83, 84, 85, 86, 87, 88, 89, 90]⟩ : ByteArray).size).extract 0 1)) (wrap64 (x9_1 + 1)))) else (none)) else (if x8_1.size + (((⟨#[97, 98, 99, 100, 101, 102, 103, 104, 105, 106, 107, 108, 109, 110, 111, 112, 113, 114, 115, 116, 117, 118, 119, 120, 121, 122]⟩ : ByteArray).extract ((Int.tmod t130 26) : Int).toNat (⟨#[97, 98, 99, 100, 101, 102, 103, 104, 105, 106, 107, 108, 109, 110, 111, 112, 113, 114, 115, 116, 117, 118, 119, 120, 121, 122]⟩ : ByteArray).size).extract 0 1).size ≤ 9223372036854775807 then (if x9_1 < (l1.length : Int) then ((some (([(⟨#[]⟩ : ByteArray), (⟨#[9]⟩ : ByteArray), (⟨#[10]⟩ : ByteArray), (⟨#[13, 10]⟩ : ByteArray)] : List ByteArray) : List ByteArray)).bind fun y137 => ((bobbinetkeep_Picked.f (rd l1 x9_1) 4).bind fun t141 => (if 0 ≤ t141 then (if t141 < (y137.length : Int) then (if (x8_1 ++ (((⟨#[97, 98, 99, 100, 101, 102, 103, 104, 105, 106, 107, 108, 109, 110, 111, 112, 113, 114, 115, 116, 117, 118, 119, 120, 121, 122]⟩ : ByteArray).extract ((Int.tmod t130 26) : Int).toNat (⟨#[97, 98, 99, 100, 101, 102, 103, 104, 105, 106, 107, 108, 109, 110, 111, 112, 113, 114, 115, 116, 117, 118, 119, 120, 121, 122]⟩ : ByteArray).size).extract 0 1)).size + (rdOf ByteArray.empty y137 t141).size ≤ 9223372036854775807 then (bobbinetkeep_UrlHidden.l0 kj9 l0 l1 a2 (x7_1 ++ (((⟨#[97, 98, 99, 100, 101, 102, 103, 104, 105, 106, 107, 108, 109, 110, 111, 112, 113, 114, 115, 116, 117, 118, 119, 120, 121, 122]⟩ : ByteArray).extract ((Int.tmod t130 26) : Int).toNat (⟨#[97, 98, 99, 100, 101, 102, 103, 104, 105, 106, 107, 108, 109, 110, 111, 112, 113, 114, 115, 116, 117, 118, 119, 120, 121, 122]⟩ : ByteArray).size).extract 0 1)) ((x8_1 ++ (((⟨#[97, 98, 99, 100, 101, 102, 103, 104, 105, 106, 107, 108, 109, 110, 111, 112, 113, 114, 115, 116, 117, 118, 119, 120, 121, 122]⟩ : ByteArray).extract ((Int.tmod t130 26) : Int).toNat (⟨#[97, 98, 99, 100, 101, 102, 103, 104, 105, 106, 107, 108, 109, 110, 111, 112, 113, 114, 115, 116, 117, 118, 119, 120, 121, 122]⟩ : ByteArray).size).extract 0 1)) ++ (rdOf ByteArray.empty y137 t141)) (wrap64 (x9_1 + 1))) else (none)) else (none)) else (none)))) else (bobbinetkeep_UrlHidden.l0 kj9 l0 l1 a2 (x7_1 ++ (((⟨#[97, 98, 99, 100, 101, 102, 103, 104, 105, 106, 107, 108, 109, 110, 111, 112, 113, 114, 115, 116, 117, 118, 119, 120, 121, 122]⟩ : ByteArray).extract ((Int.tmod t130 26) : Int).toNat (⟨#[97, 98, 99, 100, 101, 102, 103, 104, 105, 106, 107, 108, 109, 110, 111, 112, 113, 114, 115, 116, 117, 118, 119, 120, 121, 122]⟩ : ByteArray).size).extract 0 1)) (x8_1 ++ (((⟨#[97, 98, 99, 100, 101, 102, 103, 104, 105, 106, 107, 108, 109, 110, 111, 112, 113, 114, 115, 116, 117, 118, 119, 120, 121, 122]⟩ : ByteArray).extract ((Int.tmod t130 26) : Int).toNat (⟨#[97, 98, 99, 100, 101, 102, 103, 104, 105, 106, 107, 108, 109, 110, 111, 112, 113, 114, 115, 116, 117, 118, 119, 120, 121, 122]⟩ : ByteArray).size).extract 0 1)) (wrap64 (x9_1 + 1)))) else (none))) else (none)) else (none)) else (none)) else (none)) else (none)) else (none)) = some r := H
          have A15 := Aside0.mk A150
          clear A150
          obtain ⟨ji16, hji16⟩ : ∃ j_ : Int, (Int.tmod t130 26) = j_ := ⟨_, rfl⟩
          replace H : (if 0 ≤ (ji16) then (if (ji16) ≤ 26 then (if 0 ≤ 1 then (if 1 ≤ (((⟨#[97, 98, 99, 100, 101, 102, 103, 104, 105, 106, 107, 108, 109, 110, 111, 112, 113, 114, 115, 116, 117, 118, 119, 120, 121, 122]⟩ : ByteArray).extract ((ji16) : Int).toNat (⟨#[97, 98, 99, 100, 101, 102, 103, 104, 105, 106, 107, 108, 109, 110, 111, 112, 113, 114, 115, 116, 117, 118, 119, 120, 121, 122]⟩ : ByteArray).size).size : Int) then (if 1 ≤ (((⟨#[65, 66, 67, 68, 69, 70, 71, 72, 73, 74, 75, 76, 77, 78, 79, 80, 81, 82, 83, 84, 85, 86, 87, 88, 89, 90]⟩ : ByteArray).extract ((ji16) : Int).toNat (⟨#[65, 66, 67, 68, 69, 70, 71, 72, 73, 74, 75, 76, 77, 78, 79, 80, 81, 82, 83, 84, 85, 86, 87, 88, 89, 90]⟩ : ByteArray).size).size : Int) then (if x7_1.size + (((⟨#[97, 98, 99, 100, 101, 102, 103, 104, 105, 106, 107, 108, 109, 110, 111, 112, 113, 114, 115, 116, 117, 118, 119, 120, 121, 122]⟩ : ByteArray).extract ((ji16) : Int).toNat (⟨#[97, 98, 99, 100, 101, 102, 103, 104, 105, 106, 107, 108, 109, 110, 111, 112, 113, 114, 115, 116, 117, 118, 119, 120, 121, 122]⟩ : ByteArray).size).extract 0 1).size ≤ 9223372036854775807 then (if t130 ≥ 26 then (if x8_1.size + (((⟨#[65, 66, 67, 68, 69, 70, 71, 72, 73, 74, 75, 76, 77, 78, 79, 80, 81, 82, 83, 84, 85, 86, 87, 88, 89, 90]⟩ : ByteArray).extract ((ji16) : Int).toNat (⟨#[65, 66, 67, 68, 69, 70, 71, 72, 73, 74, 75, 76, 77, 78, 79, 80, 81, 82, 83, 84, 85, 86, 87, 88, 89, 90]⟩ : ByteArray).size).extract 0 1).size ≤ 9223372036854775807 then (if x9_1 < (l1.length : Int) then ((some (([(⟨#[]⟩ : ByteArray), (⟨#[9]⟩ : ByteArray), (⟨#[10]⟩ : ByteArray), (⟨#[13, 10]⟩ : ByteArray)] : List ByteArray) : List ByteArray)).bind fun y131 => ((bobbinetkeep_Picked.f (rd l1 x9_1) 4).bind fun t135 => (if 0 ≤ t135 then (if t135 < (y131.length : Int) then (if (x8_1 ++ (((⟨#[65, 66, 67, 68, 69, 70, 71, 72, 73, 74, 75, 76, 77, 78, 79, 80, 81, 82, 83, 84, 85, 86, 87, 88, 89, 90]⟩ : ByteArray).extract ((ji16) : Int).toNat (⟨#[65, 66, 67, 68, 69, 70, 71, 72, 73, 74, 75, 76, 77, 78, 79, 80, 81, 82, 83, 84, 85, 86, 87, 88, 89, 90]⟩ : ByteArray).size).extract 0 1)).size + (rdOf ByteArray.empty y131 t135).size ≤ 9223372036854775807 then (bobbinetkeep_UrlHidden.l0 kj9 l0 l1 a2 (x7_1 ++ (((⟨#[97, 98, 99, 100, 101, 102, 103, 104, 105, 106, 107, 108, 109, 110, 111, 112, 113, 114, 115, 116, 117, 118, 119, 120, 121, 122]⟩ : ByteArray).extract ((ji16) : Int).toNat (⟨#[97, 98, 99, 100, 101, 102, 103, 104, 105, 106, 107, 108, 109, 110, 111, 112, 113, 114, 115, 116, 117, 118, 119, 120, 121, 122]⟩ : ByteArray).size).extract 0 1)) ((x8_1 ++ (((⟨#[65, 66, 67, 68, 69, 70, 71, 72, 73, 74, 75, 76, 77, 78, 79, 80, 81, 82, 83, 84, 85, 86, 87, 88, 89, 90]⟩ : ByteArray).extract ((ji16) : Int).toNat (⟨#[65, 66, 67, 68, 69, 70, 71, 72, 73, 74, 75, 76, 77, 78, 79, 80, 81, 82, 83, 84, 85, 86, 87, 88, 89, 90]⟩ : ByteArray).size).extract 0 1)) ++ (rdOf ByteArray.empty y131 t135)) (wrap64 (x9_1 + 1))) else (none)) else (none)) else (none)))) else (bobbinetkeep_UrlHidden.l0 kj9 l0 l1 a2 (x7_1 ++ (((⟨#[97, 98, 99, 100, 101, 102, 103, 104, 105, 106, 107, 108, 109, 110, 111, 112, 113, 114, 115, 116, 117, 118, 119, 120, 121, 122]⟩ : ByteArray).extract ((ji16) : Int).toNat (⟨#[97, 98, 99, 100, 101, 102, 103, 104, 105, 106, 107, 108, 109, 110, 111, 112, 113, 114, 115, 116, 117, 118, 119, 120, 121, 122]⟩ : ByteArray).size).extract 0 1)) (x8_1 ++ (((⟨#[65, 66, 67, 68, 69, 70, 71, 72, 73, 74, 75, 76, 77, 78, 79, 80, 81, 82, 83, 84, 85, 86, 87, 88, 89, 90]⟩ : ByteArray).extract ((ji16) : Int).toNat (⟨#[65, 66, 67, 68, 69, 70, 71, 72, 73, 74, 75, 76, 77, 78, 79, 80, 81, 82, 83, 84, 85, 86, 87, 88, 89, 90]⟩ : ByteArray).size).extract 0 1)) (wrap64 (x9_1 + 1)))) else (none)) else (if x8_1.size + (((⟨#[97, 98, 99, 100, 101, 102, 103, 104, 105, 106, 107, 108, 109, 110, 111, 112, 113, 114, 115, 116, 117, 118, 119, 120, 121, 122]⟩ : ByteArray).extract ((ji16) : Int).toNat (⟨#[97, 98, 99, 100, 101, 102, 103, 104, 105, 106, 107, 108, 109, 110, 111, 112, 113, 114, 115, 116, 117, 118, 119, 120, 121, 122]⟩ : ByteArray).size).extract 0 1).size ≤ 9223372036854775807 then (if x9_1 < (l1.length : Int) then ((some (([(⟨#[]⟩ : ByteArray), (⟨#[9]⟩ : ByteArray), (⟨#[10]⟩ : ByteArray), (⟨#[13, 10]⟩ : ByteArray)] : List ByteArray) : List ByteArray)).bind fun y137 => ((bobbinetkeep_Picked.f (rd l1 x9_1) 4).bind fun t141 => (if 0 ≤ t141 then (if t141 < (y137.length : Int) then (if (x8_1 ++ (((⟨#[97, 98, 99, 100, 101, 102, 103, 104, 105, 106, 107, 108, 109, 110, 111, 112, 113, 114, 115, 116, 117, 118, 119, 120, 121, 122]⟩ : ByteArray).extract ((ji16) : Int).toNat (⟨#[97, 98, 99, 100, 101, 102, 103, 104, 105, 106, 107, 108, 109, 110, 111, 112, 113, 114, 115, 116, 117, 118, 119, 120, 121, 122]⟩ : ByteArray).size).extract 0 1)).size + (rdOf ByteArray.empty y137 t141).size ≤ 9223372036854775807 then (bobbinetkeep_UrlHidden.l0 kj9 l0 l1 a2 (x7_1 ++ (((⟨#[97, 98, 99, 100, 101, 102, 103, 104, 105, 106, 107, 108, 109, 110, 111, 112, 113, 114, 115, 116, 117, 118, 119, 120, 121, 122]⟩ : ByteArray).extract ((ji16) : Int).toNat (⟨#[97, 98, 99, 100, 101, 102, 103, 104, 105, 106, 107, 108, 109, 110, 111, 112, 113, 114, 115, 116, 117, 118, 119, 120, 121, 122]⟩ : ByteArray).size).extract 0 1)) ((x8_1 ++ (((⟨#[97, 98, 99, 100, 101, 102, 103, 104, 105, 106, 107, 108, 109, 110, 111, 112, 113, 114, 115, 116, 117, 118, 119, 120, 121, 122]⟩ : ByteArray).extract ((ji16) : Int).toNat (⟨#[97, 98, 99, 100, 101, 102, 103, 104, 105, 106, 107, 108, 109, 110, 111, 112, 113, 114, 115, 116, 117, 118, 119, 120, 121, 122]⟩ : ByteArray).size).extract 0 1)) ++ (rdOf ByteArray.empty y137 t141)) (wrap64 (x9_1 + 1))) else (none)) else (none)) else (none)))) else (bobbinetkeep_UrlHidden.l0 kj9 l0 l1 a2 (x7_1 ++ (((⟨#[97, 98, 99, 100, 101, 102, 103, 104, 105, 106, 107, 108, 109, 110, 111, 112, 113, 114, 115, 116, 117, 118, 119, 120, 121, 122]⟩ : ByteArray).extract ((ji16) : Int).toNat (⟨#[97, 98, 99, 100, 101, 102, 103, 104, 105, 106, 107, 108, 109, 110, 111, 112, 113, 114, 115, 116, 117, 118, 119, 120, 121, 122]⟩ : ByteArray).size).extract 0 1)) (x8_1 ++ (((⟨#[97, 98, 99, 100, 101, 102, 103, 104, 105, 106, 107, 108, 109, 110, 111, 112, 113, 114, 115, 116, 117, 118, 119, 120, 121, 122]⟩ : ByteArray).extract ((ji16) : Int).toNat (⟨#[97, 98, 99, 100, 101, 102, 103, 104, 105, 106, 107, 108, 109, 110, 111, 112, 113, 114, 115, 116, 117, 118, 119, 120, 121, 122]⟩ : ByteArray).size).extract 0 1)) (wrap64 (x9_1 + 1)))) else (none))) else (none)) else (none)) else (none)) else (none)) else (none)) else (none)) = some r := by first | (rw [hji16] at H; exact H) | (simp only [hji16] at H ⊢; exact H)
          (try rw [hji16] at A15)
          by_cases c17 : 0 ≤ (ji16)
          ·
           rw [if_pos c17] at H
           have c17b0 := eq_true c17
           have c17b1 : decide (0 ≤ (ji16)) = true := decide_eq_true c17
           clear c17
           by_cases c18 : (ji16) ≤ 26
           ·
            rw [if_pos c18] at H
            have c18b0 := eq_true c18
            have c18b1 : decide ((ji16) ≤ 26) = true := decide_eq_true c18
            clear c18
            by_cases c19 : 0 ≤ 1
            ·
             rw [if_pos c19] at H
             have c19b0 := eq_true c19
             have c19b1 : decide (0 ≤ 1) = true := decide_eq_true c19
             clear c19
             by_cases c20 : 1 ≤ (((⟨#[97, 98, 99, 100, 101, 102, 103, 104, 105, 106, 107, 108, 109, 110, 111, 112, 113, 114, 115, 116, 117, 118, 119, 120, 121, 122]⟩ : ByteArray).extract ((ji16) : Int).toNat (⟨#[97, 98, 99, 100, 101, 102, 103, 104, 105, 106, 107, 108, 109, 110, 111, 112, 113, 114, 115, 116, 117, 118, 119, 120, 121, 122]⟩ : ByteArray).size).size : Int)
             ·
              rw [if_pos c20] at H
              have c20b0 := eq_true c20
              have c20b1 : decide (1 ≤ (((⟨#[97, 98, 99, 100, 101, 102, 103, 104, 105, 106, 107, 108, 109, 110, 111, 112, 113, 114, 115, 116, 117, 118, 119, 120, 121, 122]⟩ : ByteArray).extract ((ji16) : Int).toNat (⟨#[97, 98, 99, 100, 101, 102, 103, 104, 105, 106, 107, 108, 109, 110, 111, 112, 113, 114, 115, 116, 117, 118, 119, 120, 121, 122]⟩ : ByteArray).size).size : Int)) = true := decide_eq_true c20
              have zc20 : (ji16).toNat < 26 := by have z_ := of_eq_true c20b0; rw [ByteArray.size_extract, show (⟨#[97, 98, 99, 100, 101, 102, 103, 104, 105, 106, 107, 108, 109, 110, 111, 112, 113, 114, 115, 116, 117, 118, 119, 120, 121, 122]⟩ : ByteArray).size = 26 from rfl] at z_; omega
              have yc200 : (((26 - (ji16).toNat : Nat) : Int) < 1) = False := eq_false (by omega)
              have yc201 : (1 ≤ ((26 - (ji16).toNat : Nat) : Int)) = True := eq_true (by omega)
              clear c20
              have c21b0 := eq_true (of_decide_eq_true (by first | (with_reducible assumption) | assumption) : 0 ≤ (ji16))
              have c22b0 := eq_true (of_decide_eq_true (by first | (with_reducible assumption) | assumption) : (ji16) ≤ 26)
              have c23b0 := eq_true (of_decide_eq_true (by first | (with_reducible assumption) | assumption) : 0 ≤ 1)
              by_cases c24 : 1 ≤ (((⟨#[65, 66, 67, 68, 69, 70, 71, 72, 73, 74, 75, 76, 77, 78, 79, 80, 81, 82, 83, 84, 85, 86, 87, 88, 89, 90]⟩ : ByteArray).extract ((ji16) : Int).toNat (⟨#[65, 66, 67, 68, 69, 70, 71, 72, 73, 74, 75, 76, 77, 78, 79, 80, 81, 82, 83, 84, 85, 86, 87, 88, 89, 90]⟩ : ByteArray).size).size : Int)
              ·
               rw [if_pos c24] at H
               have c24b0 := eq_true c24
               have c24b1 : decide (1 ≤ (((⟨#[65, 66, 67, 68, 69, 70, 71, 72, 73, 74, 75, 76, 77, 78, 79, 80, 81, 82, 83, 84, 85, 86, 87, 88, 89, 90]⟩ : ByteArray).extract ((ji16) : Int).toNat (⟨#[65, 66, 67, 68, 69, 70, 71, 72, 73, 74, 75, 76, 77, 78, 79, 80, 81, 82, 83, 84, 85, 86, 87, 88, 89, 90]⟩ : ByteArray).size).size : Int)) = true := decide_eq_true c24
               have zc24 : (ji16).toNat < 26 := by have z_ := of_eq_true c24b0; rw [ByteArray.size_extract, show (⟨#[65, 66, 67, 68, 69, 70, 71, 72, 73, 74, 75, 76, 77, 78, 79, 80, 81, 82, 83, 84, 85, 86, 87, 88, 89, 90]⟩ : ByteArray).size = 26 from rfl] at z_; omega
               have yc240 : (((26 - (ji16).toNat : Nat) : Int) < 1) = False := eq_false (by omega)
               have yc241 : (1 ≤ ((26 - (ji16).toNat : Nat) : Int)) = True := eq_true (by omega)
               clear c24
               by_cases c25 : x7_1.size + (((⟨#[97, 98, 99, 100, 101, 102, 103, 104, 105, 106, 107, 108, 109, 110, 111, 112, 113, 114, 115, 116, 117, 118, 119, 120, 121, 122]⟩ : ByteArray).extract ((ji16) : Int).toNat (⟨#[97, 98, 99, 100, 101, 102, 103, 104, 105, 106, 107, 108, 109, 110, 111, 112, 113, 114, 115, 116, 117, 118, 119, 120, 121, 122]⟩ : ByteArray).size).extract 0 1).size ≤ 9223372036854775807
               ·
                rw [if_pos c25] at H
                have c25b0 := eq_true c25
                have c25b1 : decide (x7_1.size + (((⟨#[97, 98, 99, 100, 101, 102, 103, 104, 105, 106, 107, 108, 109, 110, 111, 112, 113, 114, 115, 116, 117, 118, 119, 120, 121, 122]⟩ : ByteArray).extract ((ji16) : Int).toNat (⟨#[97, 98, 99, 100, 101, 102, 103, 104, 105, 106, 107, 108, 109, 110, 111, 112, 113, 114, 115, 116, 117, 118, 119, 120, 121, 122]⟩ : ByteArray).size).extract 0 1).size ≤ 9223372036854775807) = true := decide_eq_true c25
                have yc25 := eq_true (show x7_1.size + min 1 (26 - (ji16).toNat) ≤ 9223372036854775807 by have z_ := of_eq_true c25b0; rw [ByteArray.size_extract, ByteArray.size_extract, show (⟨#[97, 98, 99, 100, 101, 102, 103, 104, 105, 106, 107, 108, 109, 110, 111, 112, 113, 114, 115, 116, 117, 118, 119, 120, 121, 122]⟩ : ByteArray).size = 26 from rfl] at z_; omega)
                have ync25 : (9223372036854775807 < x7_1.size + min 1 (26 - (ji16).toNat)) = False := eq_false (by have z_ := of_eq_true yc25; omega)
                try have c25b2 : (9223372036854775807 < x7_1.size + (((⟨#[97, 98, 99, 100, 101, 102, 103, 104, 105, 106, 107, 108, 109, 110, 111, 112, 113, 114, 115, 116, 117, 118, 119, 120, 121, 122]⟩ : ByteArray).extract ((ji16) : Int).toNat (⟨#[97, 98, 99, 100, 101, 102, 103, 104, 105, 106, 107, 108, 109, 110, 111, 112, 113, 114, 115, 116, 117, 118, 119, 120, 121, 122]⟩ : ByteArray).size).extract 0 1).size) = False := eq_false (Nat.not_lt.2 c25)
                by_cases c26 : t130 ≥ 26
                ·
                 rw [if_pos c26] at H
                 have c26b0 : decide (26 ≤ t130) = true := decide_eq_true c26
                 clear c26
                 by_cases c27 : x8_1.size + (((⟨#[65, 66, 67, 68, 69, 70, 71, 72, 73, 74, 75, 76, 77, 78, 79, 80, 81, 82, 83, 84, 85, 86, 87, 88, 89, 90]⟩ : ByteArray).extract ((ji16) : Int).toNat (⟨#[65, 66, 67, 68, 69, 70, 71, 72, 73, 74, 75, 76, 77, 78, 79, 80, 81, 82, 83, 84, 85, 86, 87, 88, 89, 90]⟩ : ByteArray).size).extract 0 1).size ≤ 9223372036854775807
                 ·
                  rw [if_pos c27] at H
                  have c27b0 := eq_true c27
                  have c27b1 : decide (x8_1.size + (((⟨#[65, 66, 67, 68, 69, 70, 71, 72, 73, 74, 75, 76, 77, 78, 79, 80, 81, 82, 83, 84, 85, 86, 87, 88, 89, 90]⟩ : ByteArray).extract ((ji16) : Int).toNat (⟨#[65, 66, 67, 68, 69, 70, 71, 72, 73, 74, 75, 76, 77, 78, 79, 80, 81, 82, 83, 84, 85, 86, 87, 88, 89, 90]⟩ : ByteArray).size).extract 0 1).size ≤ 9223372036854775807) = true := decide_eq_true c27
                  have yc27 := eq_true (show x8_1.size + min 1 (26 - (ji16).toNat) ≤ 9223372036854775807 by have z_ := of_eq_true c27b0; rw [ByteArray.size_extract, ByteArray.size_extract, show (⟨#[65, 66, 67, 68, 69, 70, 71, 72, 73, 74, 75, 76, 77, 78, 79, 80, 81, 82, 83, 84, 85, 86, 87, 88, 89, 90]⟩ : ByteArray).size = 26 from rfl] at z_; omega)
                  have ync27 : (9223372036854775807 < x8_1.size + min 1 (26 - (ji16).toNat)) = False := eq_false (by have z_ := of_eq_true yc27; omega)
                  try have c27b2 : (9223372036854775807 < x8_1.size + (((⟨#[65, 66, 67, 68, 69, 70, 71, 72, 73, 74, 75, 76, 77, 78, 79, 80, 81, 82, 83, 84, 85, 86, 87, 88, 89, 90]⟩ : ByteArray).extract ((ji16) : Int).toNat (⟨#[65, 66, 67, 68, 69, 70, 71, 72, 73, 74, 75, 76, 77, 78, 79, 80, 81, 82, 83, 84, 85, 86, 87, 88, 89, 90]⟩ : ByteArray).size).extract 0 1).size) = False := eq_false (Nat.not_lt.2 c27)
                  by_cases c28 : x9_1 < (l1.length : Int)
                  ·
                   rw [if_pos c28] at H
                   have c28b0 : decide (x9_1 < (l1.length : Int)) = true := decide_eq_true c28
                   clear c28
                   obtain ⟨y131, hy131⟩ : ∃ y_ : List ByteArray, y_ = (([(⟨#[]⟩ : ByteArray), (⟨#[9]⟩ : ByteArray), (⟨#[10]⟩ : ByteArray), (⟨#[13, 10]⟩ : ByteArray)] : List ByteArray)) := ⟨_, rfl⟩
                   replace H : ((bobbinetkeep_Picked.f (rd l1 x9_1) 4).bind fun t135 => (if 0 ≤ t135 then (if t135 < (y131.length : Int) then (if (x8_1 ++ (((⟨#[65, 66, 67, 68, 69, 70, 71, 72, 73, 74, 75, 76, 77, 78, 79, 80, 81, 82, 83, 84, 85, 86, 87, 88, 89, 90]⟩ : ByteArray).extract ((ji16) : Int).toNat (⟨#[65, 66, 67, 68, 69, 70, 71, 72, 73, 74, 75, 76, 77, 78, 79, 80, 81, 82, 83, 84, 85, 86, 87, 88, 89, 90]⟩ : ByteArray).size).extract 0 1)).size + (rdOf ByteArray.empty y131 t135).size ≤ 9223372036854775807 then (bobbinetkeep_UrlHidden.l0 kj9 l0 l1 a2 (x7_1 ++ (((⟨#[97, 98, 99, 100, 101, 102, 103, 104, 105, 106, 107, 108, 109, 110, 111, 112, 113, 114, 115, 116, 117, 118, 119, 120, 121, 122]⟩ : ByteArray).extract ((ji16) : Int).toNat (⟨#[97, 98, 99, 100, 101, 102, 103, 104, 105, 106, 107, 108, 109, 110, 111, 112, 113, 114, 115, 116, 117, 118, 119, 120, 121, 122]⟩ : ByteArray).size).extract 0 1)) ((x8_1 ++ (((⟨#[65, 66, 67, 68, 69, 70, 71, 72, 73, 74, 75, 76, 77, 78, 79, 80, 81, 82, 83, 84, 85, 86, 87, 88, 89, 90]⟩ : ByteArray).extract ((ji16) : Int).toNat (⟨#[65, 66, 67, 68, 69, 70, 71, 72, 73, 74, 75, 76, 77, 78, 79, 80, 81, 82, 83, 84, 85, 86, 87, 88, 89, 90]⟩ : ByteArray).size).extract 0 1)) ++ (rdOf ByteArray.empty y131 t135)) (wrap64 (x9_1 + 1))) else (none)) else (none)) else (none))) = some r := by first | (rw [hy131]; with_reducible exact H) | (have H2_ := (Option.bind_some _ _).symm.trans H; rw [hy131]; with_reducible exact H2_) | (have H2_ := (Option.bind_some _ _).symm.trans H; with_reducible exact H2_) | with_reducible exact H | (rw [hy131]; exact H) | exact H
                   have Ny131 := Aside0.mk hy131
                   clear hy131
                   replace H := Option.bind_eq_some_iff.mp H
                   obtain ⟨t135, A290, H⟩ := H
                   replace H : (if 0 ≤ t135 then (if t135 < (y131.length : Int) then (if (x8_1 ++ (((⟨#[65, 66, 67, 68, 69, 70, 71, 72, 73, 74, 75, 76, 77, 78, 79, 80, 81, 82, 83, 84, 85, 86, 87, 88, 89, 90]⟩ : ByteArray).extract ((ji16) : Int).toNat (⟨#[65, 66, 67, 68, 69, 70, 71, 72, 73, 74, 75, 76, 77, 78, 79, 80, 81, 82, 83, 84, 85, 86, 87, 88, 89, 90]⟩ : ByteArray).size).extract 0 1)).size + (rdOf ByteArray.empty y131 t135).size ≤ 9223372036854775807 then (bobbinetkeep_UrlHidden.l0 kj9 l0 l1 a2 (x7_1 ++ (((⟨#[97, 98, 99, 100, 101, 102, 103, 104, 105, 106, 107, 108, 109, 110, 111, 112, 113, 114, 115, 116, 117, 118, 119, 120, 121, 122]⟩ : ByteArray).extract ((ji16) : Int).toNat (⟨#[97, 98, 99, 100, 101, 102, 103, 104, 105, 106, 107, 108, 109, 110, 111, 112, 113, 114, 115, 116, 117, 118, 119, 120, 121, 122]⟩ : ByteArray).size).extract 0 1)) ((x8_1 ++ (((⟨#[65, 66, 67, 68, 69, 70, 71, 72, 73, 74, 75, 76, 77, 78, 79, 80, 81, 82, 83, 84, 85, 86, 87, 88, 89, 90]⟩ : ByteArray).extract ((ji16) : Int).toNat (⟨#[65, 66, 67, 68, 69, 70, 71, 72, 73, 74, 75, 76, 77, 78, 79, 80, 81, 82, 83, 84, 85, 86, 87, 88, 89, 90]⟩ : ByteArray).size).extract 0 1)) ++ (rdOf ByteArray.empty y131 t135)) (wrap64 (x9_1 + 1))) else (none)) else (none)) else (none)) = some r := H
                   have A29 := Aside0.mk A290
                   clear A290
                   by_cases c30 : 0 ≤ t135
                   ·
                    rw [if_pos c30] at H
                    have c30b0 : decide (0 ≤ t135) = true := decide_eq_true c30
                    clear c30
                    by_cases c31 : t135 < (y131.length : Int)
                    ·
                     rw [if_pos c31] at H
                     have c31b0 : decide (t135 < (y131.length : Int)) = true := decide_eq_true c31
                     clear c31
                     by_cases c32 : (x8_1 ++ (((⟨#[65, 66, 67, 68, 69, 70, 71, 72, 73, 74, 75, 76, 77, 78, 79, 80, 81, 82, 83, 84, 85, 86, 87, 88, 89, 90]⟩ : ByteArray).extract ((ji16) : Int).toNat (⟨#[65, 66, 67, 68, 69, 70, 71, 72, 73, 74, 75, 76, 77, 78, 79, 80, 81, 82, 83, 84, 85, 86, 87, 88, 89, 90]⟩ : ByteArray).size).extract 0 1)).size + (rdOf ByteArray.empty y131 t135).size ≤ 9223372036854775807
                     ·
                      rw [if_pos c32] at H
                      have c32b0 := eq_true c32
                      have c32b1 : decide ((x8_1 ++ (((⟨#[65, 66, 67, 68, 69, 70, 71, 72, 73, 74, 75, 76, 77, 78, 79, 80, 81, 82, 83, 84, 85, 86, 87, 88, 89, 90]⟩ : ByteArray).extract ((ji16) : Int).toNat (⟨#[65, 66, 67, 68, 69, 70, 71, 72, 73, 74, 75, 76, 77, 78, 79, 80, 81, 82, 83, 84, 85, 86, 87, 88, 89, 90]⟩ : ByteArray).size).extract 0 1)).size + (rdOf ByteArray.empty y131 t135).size ≤ 9223372036854775807) = true := decide_eq_true c32
                      have yc32 := eq_true (show x8_1.size + min 1 (26 - (ji16).toNat) + (rdOf ByteArray.empty y131 t135).size ≤ 9223372036854775807 by have z_ := of_eq_true c32b0; rw [ByteArray.size_append, ByteArray.size_extract, ByteArray.size_extract, show (⟨#[65, 66, 67, 68, 69, 70, 71, 72, 73, 74, 75, 76, 77, 78, 79, 80, 81, 82, 83, 84, 85, 86, 87, 88, 89, 90]⟩ : ByteArray).size = 26 from rfl] at z_; omega)
                      have ync32 : (9223372036854775807 < x8_1.size + min 1 (26 - (ji16).toNat) + (rdOf ByteArray.empty y131 t135).size) = False := eq_false (by have z_ := of_eq_true yc32; omega)
                      try have c32b2 : (9223372036854775807 < (x8_1 ++ (((⟨#[65, 66, 67, 68, 69, 70, 71, 72, 73, 74, 75, 76, 77, 78, 79, 80, 81, 82, 83, 84, 85, 86, 87, 88, 89, 90]⟩ : ByteArray).extract ((ji16) : Int).toNat (⟨#[65, 66, 67, 68, 69, 70, 71, 72, 73, 74, 75, 76, 77, 78, 79, 80, 81, 82, 83, 84, 85, 86, 87, 88, 89, 90]⟩ : ByteArray).size).extract 0 1)).size + (rdOf ByteArray.empty y131 t135).size) = False := eq_false (Nat.not_lt.2 c32)
                      try (have c32b3 := c32b2; simp only [ByteArray.size_append] at c32b3)
                      try (have c32b4 := c32b2; simp only [ByteArray.size_append, show (⟨#[65, 66, 67, 68, 69, 70, 71, 72, 73, 74, 75, 76, 77, 78, 79, 80, 81, 82, 83, 84, 85, 86, 87, 88, 89, 90]⟩ : ByteArray).size = 26 from rfl] at c32b4)
                      have H' := Aside0.mk H
                      clear H
                      have p129 : 0 ≤ (x9_1 : Int) := of_decide_eq_true (by first | (with_reducible assumption) | assumption)
                      have q129 : x9_1 < (l0.length : Int) := of_decide_eq_true (by first | (with_reducible assumption) | assumption)
                      obtain ⟨ad129, e129, hx129_0⟩ := Kd.at_int HR0.out x9_1 p129 q129
                      cases e129
                      replace hx129_0 := (HB.out.cell (World.block_lt_of_cell? w _ hx129_0)).trans hx129_0
                      replace p129 := eq_true p129
                      replace q129 := eq_true q129
                      go_wp2_with (first | ((with_reducible refine gate_callee (f := 14) rfl ?_); refine goesL_ (some 39) rfl rfl Tryd.func14 (by kernel_rfl) rfl #[.int .i64 (rd l0 x9_1), .int .i64 52] rfl (by (try simp only [List.map_toArray, List.map_cons, List.map_nil]); first | done | rfl | (simp only [List.length_drop, List.length_take]; rfl)) ?_; (with_reducible refine (bobbinetkeep_Picked.calls (rd l0 x9_1) 52 t130 _ A15.out).mono ?_); rintro e w' ⟨rfl, ⟨nd, rfl⟩⟩; refine ⟨_, rfl, ?_⟩) | ((with_reducible refine gate_dst (N := 62) rfl ?_); refine Kd.R_lit Kd.string _ 9 ?hg (N := 62) ?hd (xs := ([(⟨#[]⟩ : ByteArray), (⟨#[9]⟩ : ByteArray), (⟨#[10]⟩ : ByteArray), (⟨#[13, 10]⟩ : ByteArray)] : List ByteArray)) (inner := [.string (⟨#[]⟩ : ByteArray), .string (⟨#[9]⟩ : ByteArray), .string (⟨#[10]⟩ : ByteArray), .string (⟨#[13, 10]⟩ : ByteArray)]) (ok := fun _ => True) (okp := fun _ => True) ?hr ?hp (fun _ hk => hk) trivial (Below.refl _ _) (Nat.le_refl _) (by simp) ?_; (case hd => rfl); (case hg => rfl); (case hr => first | (go_simp; done) | (go_simp; rfl)); (case hp => exact (Reps.one (show Kd.M Kd.string _ _ _ (⟨#[]⟩ : ByteArray) [.string (⟨#[]⟩ : ByteArray)] from rfl) (Reps.one (show Kd.M Kd.string _ _ _ (⟨#[9]⟩ : ByteArray) [.string (⟨#[9]⟩ : ByteArray)] from rfl) (Reps.one (show Kd.M Kd.string _ _ _ (⟨#[10]⟩ : ByteArray) [.string (⟨#[10]⟩ : ByteArray)] from rfl) (Reps.one (show Kd.M Kd.string _ _ _ (⟨#[13, 10]⟩ : ByteArray) [.string (⟨#[13, 10]⟩ : ByteArray)] from rfl) (Reps.none _ _)))))); intro v132 w33 ho34 hb hg_ hnew_; clear hg_ hnew_; (first | rw [← Ny131.out] at ho34 | (simp only [Int.reduceToNat] at ho34; rw [← Ny131.out] at ho34)); have n0_ := Aside0.mk (Kd.R_lower ho34 (below_size (by repeat (first | (with_reducible first | exact HB.out | apply below_alloc | apply pw_below_drewN | apply below_drew1) | exact HB.out)))); have n1_ := Aside0.mk (below_step (by repeat (first | (with_reducible first | exact HB.out | apply below_alloc | apply pw_below_drewN | apply below_drew1) | exact HB.out)) hb); clear HB; have HO133 := n0_; have HB := n1_; clear n0_ n1_; clear hb ho34; have p134 : 0 ≤ (x9_1 : Int) := of_decide_eq_true (by first | (with_reducible assumption) | assumption); have q134 : x9_1 < (l1.length : Int) := of_decide_eq_true (by first | (with_reducible assumption) | assumption); obtain ⟨ad134, e134, hx134_0⟩ := Kd.at_int HR1.out x9_1 p134 q134; cases e134; replace hx134_0 := (HB.out.cell (World.block_lt_of_cell? w _ hx134_0)).trans hx134_0; replace p134 := eq_true p134; replace q134 := eq_true q134) | ((with_reducible refine gate_callee (f := 14) rfl ?_); refine goesL_ (some 67) rfl rfl Tryd.func14 (by kernel_rfl) rfl #[.int .i64 (rd l1 x9_1), .int .i64 4] rfl (by (try simp only [List.map_toArray, List.map_cons, List.map_nil]); first | done | rfl | (simp only [List.length_drop, List.length_take]; rfl)) ?_; (with_reducible refine (bobbinetkeep_Picked.calls (rd l1 x9_1) 4 t135 _ A29.out).mono ?_); rintro e w' ⟨rfl, ⟨nd, rfl⟩⟩; refine ⟨_, rfl, ?_⟩; obtain ⟨Ao35, co35, eo35⟩ := Kd.R_slice HO133.out; subst eo35; have p136 : 0 ≤ (t135 : Int) := of_decide_eq_true (by first | (with_reducible assumption) | assumption); have q136 : t135 < (y131.length : Int) := of_decide_eq_true (by first | (with_reducible assumption) | assumption); obtain ⟨ad136, e136, hx136_0⟩ := Kd.at_string (Kd.R_reads' HO133.out).2.2 t135 p136 q136; cases e136; replace p136 := eq_true p136; replace q136 := eq_true q136))
                      go_roundg kj9
                      case measure => have := HK1.out; have := HJ9.out; omega
                      case rel => exact ⟨(x7_1 ++ (((⟨#[97, 98, 99, 100, 101, 102, 103, 104, 105, 106, 107, 108, 109, 110, 111, 112, 113, 114, 115, 116, 117, 118, 119, 120, 121, 122]⟩ : ByteArray).extract ((ji16) : Int).toNat (⟨#[97, 98, 99, 100, 101, 102, 103, 104, 105, 106, 107, 108, 109, 110, 111, 112, 113, 114, 115, 116, 117, 118, 119, 120, 121, 122]⟩ : ByteArray).size).extract 0 1)), ((x8_1 ++ (((⟨#[65, 66, 67, 68, 69, 70, 71, 72, 73, 74, 75, 76, 77, 78, 79, 80, 81, 82, 83, 84, 85, 86, 87, 88, 89, 90]⟩ : ByteArray).extract ((ji16) : Int).toNat (⟨#[65, 66, 67, 68, 69, 70, 71, 72, 73, 74, 75, 76, 77, 78, 79, 80, 81, 82, 83, 84, 85, 86, 87, 88, 89, 90]⟩ : ByteArray).size).extract 0 1)) ++ (rdOf ByteArray.empty y131 t135)), (wrap64 (x9_1 + 1)), (by first | rfl | (simp; done) | (simp only [← hji16] <;> (first | rfl | simp)) | (simp [*]; done)), (by first | rfl | (simp; done) | (simp only [← hji16] <;> (first | rfl | simp)) | (simp [*]; done)), (by first | rfl | (simp; done) | (simp [*]; done) | (simp [bne]; done)), H', ⟨by have := HK1.out; have := HJ9.out; omega⟩, ⟨by repeat (first | (with_reducible first | exact HB.out | apply below_alloc | apply pw_below_drewN | apply below_drew1) | exact HB.out)⟩⟩
                     ·
                      rw [if_neg c32] at H
                      exact absurd H (by simp)
                    ·
                     rw [if_neg c31] at H
                     exact absurd H (by simp)
                   ·
                    rw [if_neg c30] at H
                    exact absurd H (by simp)
                  ·
                   rw [if_neg c28] at H
                   have c28b0 : decide (x9_1 < (l1.length : Int)) = false := decide_eq_false c28
                   clear c28
                   have H' := Aside0.mk H
                   clear H
                   have p129 : 0 ≤ (x9_1 : Int) := of_decide_eq_true (by first | (with_reducible assumption) | assumption)
                   have q129 : x9_1 < (l0.length : Int) := of_decide_eq_true (by first | (with_reducible assumption) | assumption)
                   obtain ⟨ad129, e129, hx129_0⟩ := Kd.at_int HR0.out x9_1 p129 q129
                   cases e129
                   replace hx129_0 := (HB.out.cell (World.block_lt_of_cell? w _ hx129_0)).trans hx129_0
                   replace p129 := eq_true p129
                   replace q129 := eq_true q129
                   go_wp2_with (first | ((with_reducible refine gate_callee (f := 14) rfl ?_); refine goesL_ (some 39) rfl rfl Tryd.func14 (by kernel_rfl) rfl #[.int .i64 (rd l0 x9_1), .int .i64 52] rfl (by (try simp only [List.map_toArray, List.map_cons, List.map_nil]); first | done | rfl | (simp only [List.length_drop, List.length_take]; rfl)) ?_; (with_reducible refine (bobbinetkeep_Picked.calls (rd l0 x9_1) 52 t130 _ A15.out).mono ?_); rintro e w' ⟨rfl, ⟨nd, rfl⟩⟩; refine ⟨_, rfl, ?_⟩))
                   go_roundg kj9
                   case measure => have := HK1.out; have := HJ9.out; omega
                   case rel => exact ⟨(x7_1 ++ (((⟨#[97, 98, 99, 100, 101, 102, 103, 104, 105, 106, 107, 108, 109, 110, 111, 112, 113, 114, 115, 116, 117, 118, 119, 120, 121, 122]⟩ : ByteArray).extract ((ji16) : Int).toNat (⟨#[97, 98, 99, 100, 101, 102, 103, 104, 105, 106, 107, 108, 109, 110, 111, 112, 113, 114, 115, 116, 117, 118, 119, 120, 121, 122]⟩ : ByteArray).size).extract 0 1)), (x8_1 ++ (((⟨#[65, 66, 67, 68, 69, 70, 71, 72, 73, 74, 75, 76, 77, 78, 79, 80, 81, 82, 83, 84, 85, 86, 87, 88, 89, 90]⟩ : ByteArray).extract ((ji16) : Int).toNat (⟨#[65, 66, 67, 68, 69, 70, 71, 72, 73, 74, 75, 76, 77, 78, 79, 80, 81, 82, 83, 84, 85, 86, 87, 88, 89, 90]⟩ : ByteArray).size).extract 0 1)), (wrap64 (x9_1 + 1)), (by first | rfl | (simp; done) | (simp only [← hji16] <;> (first | rfl | simp)) | (simp [*]; done)), (by first | rfl | (simp; done) | (simp only [← hji16] <;> (first | rfl | simp)) | (simp [*]; done)), (by first | rfl | (simp; done) | (simp [*]; done) | (simp [bne]; done)), H', ⟨by have := HK1.out; have := HJ9.out; omega⟩, ⟨by repeat (first | (with_reducible first | exact HB.out | apply below_alloc | apply pw_below_drewN | apply below_drew1) | exact HB.out)⟩⟩
                 ·
                  rw [if_neg c27] at H
                  exact absurd H (by simp)
                ·
                 rw [if_neg c26] at H
                 have c26b0 : decide (26 ≤ t130) = false := decide_eq_false c26
                 clear c26
                 by_cases c36 : x8_1.size + (((⟨#[97, 98, 99, 100, 101, 102, 103, 104, 105, 106, 107, 108, 109, 110, 111, 112, 113, 114, 115, 116, 117, 118, 119, 120, 121, 122]⟩ : ByteArray).extract ((ji16) : Int).toNat (⟨#[97, 98, 99, 100, 101, 102, 103, 104, 105, 106, 107, 108, 109, 110, 111, 112, 113, 114, 115, 116, 117, 118, 119, 120, 121, 122]⟩ : ByteArray).size).extract 0 1).size ≤ 9223372036854775807
                 ·
                  rw [if_pos c36] at H
                  have c36b0 := eq_true c36
                  have c36b1 : decide (x8_1.size + (((⟨#[97, 98, 99, 100, 101, 102, 103, 104, 105, 106, 107, 108, 109, 110, 111, 112, 113, 114, 115, 116, 117, 118, 119, 120, 121, 122]⟩ : ByteArray).extract ((ji16) : Int).toNat (⟨#[97, 98, 99, 100, 101, 102, 103, 104, 105, 106, 107, 108, 109, 110, 111, 112, 113, 114, 115, 116, 117, 118, 119, 120, 121, 122]⟩ : ByteArray).size).extract 0 1).size ≤ 9223372036854775807) = true := decide_eq_true c36
                  have yc36 := eq_true (show x8_1.size + min 1 (26 - (ji16).toNat) ≤ 9223372036854775807 by have z_ := of_eq_true c36b0; rw [ByteArray.size_extract, ByteArray.size_extract, show (⟨#[97, 98, 99, 100, 101, 102, 103, 104, 105, 106, 107, 108, 109, 110, 111, 112, 113, 114, 115, 116, 117, 118, 119, 120, 121, 122]⟩ : ByteArray).size = 26 from rfl] at z_; omega)
                  have ync36 : (9223372036854775807 < x8_1.size + min 1 (26 - (ji16).toNat)) = False := eq_false (by have z_ := of_eq_true yc36; omega)
                  try have c36b2 : (9223372036854775807 < x8_1.size + (((⟨#[97, 98, 99, 100, 101, 102, 103, 104, 105, 106, 107, 108, 109, 110, 111, 112, 113, 114, 115, 116, 117, 118, 119, 120, 121, 122]⟩ : ByteArray).extract ((ji16) : Int).toNat (⟨#[97, 98, 99, 100, 101, 102, 103, 104, 105, 106, 107, 108, 109, 110, 111, 112, 113, 114, 115, 116, 117, 118, 119, 120, 121, 122]⟩ : ByteArray).size).extract 0 1).size) = False := eq_false (Nat.not_lt.2 c36)
                  by_cases c37 : x9_1 < (l1.length : Int)
                  ·
                   rw [if_pos c37] at H
                   have c37b0 : decide (x9_1 < (l1.length : Int)) = true := decide_eq_true c37
                   clear c37
                   obtain ⟨y137, hy137⟩ : ∃ y_ : List ByteArray, y_ = (([(⟨#[]⟩ : ByteArray), (⟨#[9]⟩ : ByteArray), (⟨#[10]⟩ : ByteArray), (⟨#[13, 10]⟩ : ByteArray)] : List ByteArray)) := ⟨_, rfl⟩
                   replace H : ((bobbinetkeep_Picked.f (rd l1 x9_1) 4).bind fun t141 => (if 0 ≤ t141 then (if t141 < (y137.length : Int) then (if (x8_1 ++ (((⟨#[97, 98, 99, 100, 101, 102, 103, 104, 105, 106, 107, 108, 109, 110, 111, 112, 113, 114, 115, 116, 117, 118, 119, 120, 121, 122]⟩ : ByteArray).extract ((ji16) : Int).toNat (⟨#[97, 98, 99, 100, 101, 102, 103, 104, 105, 106, 107, 108, 109, 110, 111, 112, 113, 114, 115, 116, 117, 118, 119, 120, 121, 122]⟩ : ByteArray).size).extract 0 1)).size + (rdOf ByteArray.empty y137 t141).size ≤ 9223372036854775807 then (bobbinetkeep_UrlHidden.l0 kj9 l0 l1 a2 (x7_1 ++ (((⟨#[97, 98, 99, 100, 101, 102, 103, 104, 105, 106, 107, 108, 109, 110, 111, 112, 113, 114, 115, 116, 117, 118, 119, 120, 121, 122]⟩ : ByteArray).extract ((ji16) : Int).toNat (⟨#[97, 98, 99, 100, 101, 102, 103, 104, 105, 106, 107, 108, 109, 110, 111, 112, 113, 114, 115, 116, 117, 118, 119, 120, 121, 122]⟩ : ByteArray).size).extract 0 1)) ((x8_1 ++ (((⟨#[97, 98, 99, 100, 101, 102, 103, 104, 105, 106, 107, 108, 109, 110, 111, 112, 113, 114, 115, 116, 117, 118, 119, 120, 121, 122]⟩ : ByteArray).extract ((ji16) : Int).toNat (⟨#[97, 98, 99, 100, 101, 102, 103, 104, 105, 106, 107, 108, 109, 110, 111, 112, 113, 114, 115, 116, 117, 118, 119, 120, 121, 122]⟩ : ByteArray).size).extract 0 1)) ++ (rdOf ByteArray.empty y137 t141)) (wrap64 (x9_1 + 1))) else (none)) else (none)) else (none))) = some r := by first | (rw [hy137]; with_reducible exact H) | (have H2_ := (Option.bind_some _ _).symm.trans H; rw [hy137]; with_reducible exact H2_) | (have H2_ := (Option.bind_some _ _).symm.trans H; with_reducible exact H2_) | with_reducible exact H | (rw [hy137]; exact H) | exact H
                   have Ny137 := Aside0.mk hy137
                   clear hy137
                   replace H := Option.bind_eq_some_iff.mp H
                   obtain ⟨t141, A380, H⟩ := H
                   replace H : (if 0 ≤ t141 then (if t141 < (y137.length : Int) then (if (x8_1 ++ (((⟨#[97, 98, 99, 100, 101, 102, 103, 104, 105, 106, 107, 108, 109, 110, 111, 112, 113, 114, 115, 116, 117, 118, 119, 120, 121, 122]⟩ : ByteArray).extract ((ji16) : Int).toNat (⟨#[97, 98, 99, 100, 101, 102, 103, 104, 105, 106, 107, 108, 109, 110, 111, 112, 113, 114, 115, 116, 117, 118, 119, 120, 121, 122]⟩ : ByteArray).size).extract 0 1)).size + (rdOf ByteArray.empty y137 t141).size ≤ 9223372036854775807 then (bobbinetkeep_UrlHidden.l0 kj9 l0 l1 a2 (x7_1 ++ (((⟨#[97, 98, 99, 100, 101, 102, 103, 104, 105, 106, 107, 108, 109, 110, 111, 112, 113, 114, 115, 116, 117, 118, 119, 120, 121, 122]⟩ : ByteArray).extract ((ji16) : Int).toNat (⟨#[97, 98, 99, 100, 101, 102, 103, 104, 105, 106, 107, 108, 109, 110, 111, 112, 113, 114, 115, 116, 117, 118, 119, 120, 121, 122]⟩ : ByteArray).size).extract 0 1)) ((x8_1 ++ (((⟨#[97, 98, 99, 100, 101, 102, 103, 104, 105, 106, 107, 108, 109, 110, 111, 112, 113, 114, 115, 116, 117, 118, 119, 120, 121, 122]⟩ : ByteArray).extract ((ji16) : Int).toNat (⟨#[97, 98, 99, 100, 101, 102, 103, 104, 105, 106, 107, 108, 109, 110, 111, 112, 113, 114, 115, 116, 117, 118, 119, 120, 121, 122]⟩ : ByteArray).size).extract 0 1)) ++ (rdOf ByteArray.empty y137 t141)) (wrap64 (x9_1 + 1))) else (none)) else (none)) else (none)) = some r := H
                   have A38 := Aside0.mk A380
                   clear A380
                   by_cases c39 : 0 ≤ t141
                   ·
                    rw [if_pos c39] at H
                    have c39b0 : decide (0 ≤ t141) = true := decide_eq_true c39
                    clear c39
                    by_cases c40 : t141 < (y137.length : Int)
                    ·
                     rw [if_pos c40] at H
                     have c40b0 : decide (t141 < (y137.length : Int)) = true := decide_eq_true c40
                     clear c40
                     by_cases c41 : (x8_1 ++ (((⟨#[97, 98, 99, 100, 101, 102, 103, 104, 105, 106, 107, 108, 109, 110, 111, 112, 113, 114, 115, 116, 117, 118, 119, 120, 121, 122]⟩ : ByteArray).extract ((ji16) : Int).toNat (⟨#[97, 98, 99, 100, 101, 102, 103, 104, 105, 106, 107, 108, 109, 110, 111, 112, 113, 114, 115, 116, 117, 118, 119, 120, 121, 122]⟩ : ByteArray).size).extract 0 1)).size + (rdOf ByteArray.empty y137 t141).size ≤ 9223372036854775807
                     ·
                      rw [if_pos c41] at H
                      have c41b0 := eq_true c41
                      have c41b1 : decide ((x8_1 ++ (((⟨#[97, 98, 99, 100, 101, 102, 103, 104, 105, 106, 107, 108, 109, 110, 111, 112, 113, 114, 115, 116, 117, 118, 119, 120, 121, 122]⟩ : ByteArray).extract ((ji16) : Int).toNat (⟨#[97, 98, 99, 100, 101, 102, 103, 104, 105, 106, 107, 108, 109, 110, 111, 112, 113, 114, 115, 116, 117, 118, 119, 120, 121, 122]⟩ : ByteArray).size).extract 0 1)).size + (rdOf ByteArray.empty y137 t141).size ≤ 9223372036854775807) = true := decide_eq_true c41
                      have yc41 := eq_true (show x8_1.size + min 1 (26 - (ji16).toNat) + (rdOf ByteArray.empty y137 t141).size ≤ 9223372036854775807 by have z_ := of_eq_true c41b0; rw [ByteArray.size_append, ByteArray.size_extract, ByteArray.size_extract, show (⟨#[97, 98, 99, 100, 101, 102, 103, 104, 105, 106, 107, 108, 109, 110, 111, 112, 113, 114, 115, 116, 117, 118, 119, 120, 121, 122]⟩ : ByteArray).size = 26 from rfl] at z_; omega)
                      have ync41 : (9223372036854775807 < x8_1.size + min 1 (26 - (ji16).toNat) + (rdOf ByteArray.empty y137 t141).size) = False := eq_false (by have z_ := of_eq_true yc41; omega)
                      try have c41b2 : (9223372036854775807 < (x8_1 ++ (((⟨#[97, 98, 99, 100, 101, 102, 103, 104, 105, 106, 107, 108, 109, 110, 111, 112, 113, 114, 115, 116, 117, 118, 119, 120, 121, 122]⟩ : ByteArray).extract ((ji16) : Int).toNat (⟨#[97, 98, 99, 100, 101, 102, 103, 104, 105, 106, 107, 108, 109, 110, 111, 112, 113, 114, 115, 116, 117, 118, 119, 120, 121, 122]⟩ : ByteArray).size).extract 0 1)).size + (rdOf ByteArray.empty y137 t141).size) = False := eq_false (Nat.not_lt.2 c41)
                      try (have c41b3 := c41b2; simp only [ByteArray.size_append] at c41b3)
                      try (have c41b4 := c41b2; simp only [ByteArray.size_append, show (⟨#[97, 98, 99, 100, 101, 102, 103, 104, 105, 106, 107, 108, 109, 110, 111, 112, 113, 114, 115, 116, 117, 118, 119, 120, 121, 122]⟩ : ByteArray).size = 26 from rfl] at c41b4)
                      have H' := Aside0.mk H
                      clear H
                      have p129 : 0 ≤ (x9_1 : Int) := of_decide_eq_true (by first | (with_reducible assumption) | assumption)
                      have q129 : x9_1 < (l0.length : Int) := of_decide_eq_true (by first | (with_reducible assumption) | assumption)
                      obtain ⟨ad129, e129, hx129_0⟩ := Kd.at_int HR0.out x9_1 p129 q129
                      cases e129
                      replace hx129_0 := (HB.out.cell (World.block_lt_of_cell? w _ hx129_0)).trans hx129_0
                      replace p129 := eq_true p129
                      replace q129 := eq_true q129
                      go_wp2_with (first | ((with_reducible refine gate_callee (f := 14) rfl ?_); refine goesL_ (some 39) rfl rfl Tryd.func14 (by kernel_rfl) rfl #[.int .i64 (rd l0 x9_1), .int .i64 52] rfl (by (try simp only [List.map_toArray, List.map_cons, List.map_nil]); first | done | rfl | (simp only [List.length_drop, List.length_take]; rfl)) ?_; (with_reducible refine (bobbinetkeep_Picked.calls (rd l0 x9_1) 52 t130 _ A15.out).mono ?_); rintro e w' ⟨rfl, ⟨nd, rfl⟩⟩; refine ⟨_, rfl, ?_⟩) | ((with_reducible refine gate_dst (N := 62) rfl ?_); refine Kd.R_lit Kd.string _ 9 ?hg (N := 62) ?hd (xs := ([(⟨#[]⟩ : ByteArray), (⟨#[9]⟩ : ByteArray), (⟨#[10]⟩ : ByteArray), (⟨#[13, 10]⟩ : ByteArray)] : List ByteArray)) (inner := [.string (⟨#[]⟩ : ByteArray), .string (⟨#[9]⟩ : ByteArray), .string (⟨#[10]⟩ : ByteArray), .string (⟨#[13, 10]⟩ : ByteArray)]) (ok := fun _ => True) (okp := fun _ => True) ?hr ?hp (fun _ hk => hk) trivial (Below.refl _ _) (Nat.le_refl _) (by simp) ?_; (case hd => rfl); (case hg => rfl); (case hr => first | (go_simp; done) | (go_simp; rfl)); (case hp => exact (Reps.one (show Kd.M Kd.string _ _ _ (⟨#[]⟩ : ByteArray) [.string (⟨#[]⟩ : ByteArray)] from rfl) (Reps.one (show Kd.M Kd.string _ _ _ (⟨#[9]⟩ : ByteArray) [.string (⟨#[9]⟩ : ByteArray)] from rfl) (Reps.one (show Kd.M Kd.string _ _ _ (⟨#[10]⟩ : ByteArray) [.string (⟨#[10]⟩ : ByteArray)] from rfl) (Reps.one (show Kd.M Kd.string _ _ _ (⟨#[13, 10]⟩ : ByteArray) [.string (⟨#[13, 10]⟩ : ByteArray)] from rfl) (Reps.none _ _)))))); intro v138 w42 ho43 hb hg_ hnew_; clear hg_ hnew_; (first | rw [← Ny137.out] at ho43 | (simp only [Int.reduceToNat] at ho43; rw [← Ny137.out] at ho43)); have n0_ := Aside0.mk (Kd.R_lower ho43 (below_size (by repeat (first | (with_reducible first | exact HB.out | apply below_alloc | apply pw_below_drewN | apply below_drew1) | exact HB.out)))); have n1_ := Aside0.mk (below_step (by repeat (first | (with_reducible first | exact HB.out | apply below_alloc | apply pw_below_drewN | apply below_drew1) | exact HB.out)) hb); clear HB; have HO139 := n0_; have HB := n1_; clear n0_ n1_; clear hb ho43; have p140 : 0 ≤ (x9_1 : Int) := of_decide_eq_true (by first | (with_reducible assumption) | assumption); have q140 : x9_1 < (l1.length : Int) := of_decide_eq_true (by first | (with_reducible assumption) | assumption); obtain ⟨ad140, e140, hx140_0⟩ := Kd.at_int HR1.out x9_1 p140 q140; cases e140; replace hx140_0 := (HB.out.cell (World.block_lt_of_cell? w _ hx140_0)).trans hx140_0; replace p140 := eq_true p140; replace q140 := eq_true q140) | ((with_reducible refine gate_callee (f := 14) rfl ?_); refine goesL_ (some 67) rfl rfl Tryd.func14 (by kernel_rfl) rfl #[.int .i64 (rd l1 x9_1), .int .i64 4] rfl (by (try simp only [List.map_toArray, List.map_cons, List.map_nil]); first | done | rfl | (simp only [List.length_drop, List.length_take]; rfl)) ?_; (with_reducible refine (bobbinetkeep_Picked.calls (rd l1 x9_1) 4 t141 _ A38.out).mono ?_); rintro e w' ⟨rfl, ⟨nd, rfl⟩⟩; refine ⟨_, rfl, ?_⟩; obtain ⟨Ao44, co44, eo44⟩ := Kd.R_slice HO139.out; subst eo44; have p142 : 0 ≤ (t141 : Int) := of_decide_eq_true (by first | (with_reducible assumption) | assumption); have q142 : t141 < (y137.length : Int) := of_decide_eq_true (by first | (with_reducible assumption) | assumption); obtain ⟨ad142, e142, hx142_0⟩ := Kd.at_string (Kd.R_reads' HO139.out).2.2 t141 p142 q142; cases e142; replace p142 := eq_true p142; replace q142 := eq_true q142))
                      go_roundg kj9
                      case measure => have := HK1.out; have := HJ9.out; omega
                      case rel => exact ⟨(x7_1 ++ (((⟨#[97, 98, 99, 100, 101, 102, 103, 104, 105, 106, 107, 108, 109, 110, 111, 112, 113, 114, 115, 116, 117, 118, 119, 120, 121, 122]⟩ : ByteArray).extract ((ji16) : Int).toNat (⟨#[97, 98, 99, 100, 101, 102, 103, 104, 105, 106, 107, 108, 109, 110, 111, 112, 113, 114, 115, 116, 117, 118, 119, 120, 121, 122]⟩ : ByteArray).size).extract 0 1)), ((x8_1 ++ (((⟨#[97, 98, 99, 100, 101, 102, 103, 104, 105, 106, 107, 108, 109, 110, 111, 112, 113, 114, 115, 116, 117, 118, 119, 120, 121, 122]⟩ : ByteArray).extract ((ji16) : Int).toNat (⟨#[97, 98, 99, 100, 101, 102, 103, 104, 105, 106, 107, 108, 109, 110, 111, 112, 113, 114, 115, 116, 117, 118, 119, 120, 121, 122]⟩ : ByteArray).size).extract 0 1)) ++ (rdOf ByteArray.empty y137 t141)), (wrap64 (x9_1 + 1)), (by first | rfl | (simp; done) | (simp only [← hji16] <;> (first | rfl | simp)) | (simp [*]; done)), (by first | rfl | (simp; done) | (simp only [← hji16] <;> (first | rfl | simp)) | (simp [*]; done)), (by first | rfl | (simp; done) | (simp [*]; done) | (simp [bne]; done)), H', ⟨by have := HK1.out; have := HJ9.out; omega⟩, ⟨by repeat (first | (with_reducible first | exact HB.out | apply below_alloc | apply pw_below_drewN | apply below_drew1) | exact HB.out)⟩⟩
                     ·
                      rw [if_neg c41] at H
                      exact absurd H (by simp)
                    ·
                     rw [if_neg c40] at H
                     exact absurd H (by simp)
                   ·
                    rw [if_neg c39] at H
                    exact absurd H (by simp)
                  ·
                   rw [if_neg c37] at H
                   have c37b0 : decide (x9_1 < (l1.length : Int)) = false := decide_eq_false c37
                   clear c37
                   have H' := Aside0.mk H
                   clear H
                   have p129 : 0 ≤ (x9_1 : Int) := of_decide_eq_true (by first | (with_reducible assumption) | assumption)
                   have q129 : x9_1 < (l0.length : Int) := of_decide_eq_true (by first | (with_reducible assumption) | assumption)
                   obtain ⟨ad129, e129, hx129_0⟩ := Kd.at_int HR0.out x9_1 p129 q129
                   cases e129
                   replace hx129_0 := (HB.out.cell (World.block_lt_of_cell? w _ hx129_0)).trans hx129_0
                   replace p129 := eq_true p129
                   replace q129 := eq_true q129
                   go_wp2_with (first | ((with_reducible refine gate_callee (f := 14) rfl ?_); refine goesL_ (some 39) rfl rfl Tryd.func14 (by kernel_rfl) rfl #[.int .i64 (rd l0 x9_1), .int .i64 52] rfl (by (try simp only [List.map_toArray, List.map_cons, List.map_nil]); first | done | rfl | (simp only [List.length_drop, List.length_take]; rfl)) ?_; (with_reducible refine (bobbinetkeep_Picked.calls (rd l0 x9_1) 52 t130 _ A15.out).mono ?_); rintro e w' ⟨rfl, ⟨nd, rfl⟩⟩; refine ⟨_, rfl, ?_⟩))
                   go_roundg kj9
                   case measure => have := HK1.out; have := HJ9.out; omega
                   case rel => exact ⟨(x7_1 ++ (((⟨#[97, 98, 99, 100, 101, 102, 103, 104, 105, 106, 107, 108, 109, 110, 111, 112, 113, 114, 115, 116, 117, 118, 119, 120, 121, 122]⟩ : ByteArray).extract ((ji16) : Int).toNat (⟨#[97, 98, 99, 100, 101, 102, 103, 104, 105, 106, 107, 108, 109, 110, 111, 112, 113, 114, 115, 116, 117, 118, 119, 120, 121, 122]⟩ : ByteArray).size).extract 0 1)), (x8_1 ++ (((⟨#[97, 98, 99, 100, 101, 102, 103, 104, 105, 106, 107, 108, 109, 110, 111, 112, 113, 114, 115, 116, 117, 118, 119, 120, 121, 122]⟩ : ByteArray).extract ((ji16) : Int).toNat (⟨#[97, 98, 99, 100, 101, 102, 103, 104, 105, 106, 107, 108, 109, 110, 111, 112, 113, 114, 115, 116, 117, 118, 119, 120, 121, 122]⟩ : ByteArray).size).extract 0 1)), (wrap64 (x9_1 + 1)), (by first | rfl | (simp; done) | (simp only [← hji16] <;> (first | rfl | simp)) | (simp [*]; done)), (by first | rfl | (simp; done) | (simp only [← hji16] <;> (first | rfl | simp)) | (simp [*]; done)), (by first | rfl | (simp; done) | (simp [*]; done) | (simp [bne]; done)), H', ⟨by have := HK1.out; have := HJ9.out; omega⟩, ⟨by repeat (first | (with_reducible first | exact HB.out | apply below_alloc | apply pw_below_drewN | apply below_drew1) | exact HB.out)⟩⟩
                 ·
                  rw [if_neg c36] at H
                  exact absurd H (by simp)
               ·
                rw [if_neg c25] at H
                exact absurd H (by simp)
              ·
               rw [if_neg c24] at H
               exact absurd H (by simp)
             ·
              rw [if_neg c20] at H
              exact absurd H (by simp)
            ·
             rw [if_neg c19] at H
             exact absurd H (by simp)
           ·
            rw [if_neg c18] at H
            exact absurd H (by simp)
          ·
           rw [if_neg c17] at H
           exact absurd H (by simp)
         ·
          rw [if_neg c14] at H
          exact absurd H (by simp)
        ·
         rw [if_neg c13] at H
         exact absurd H (by simp)
       ·
        replace c12 := Bool.eq_false_iff.mpr c12
        subst c12
        have H1 : (if x7_1.toList = ([] : List UInt8) then ((url_Strip.f (⟨#[32, 97, 32]⟩ : ByteArray)).bind fun t143 => (some (t143.toList == ([97] : List UInt8)))) else (if x8_1.size + 1 ≤ 9223372036854775807 then (if (x8_1 ++ (⟨#[58]⟩ : ByteArray)).size + a2.size ≤ 9223372036854775807 then ((url_Scheme.f kj9 ((x8_1 ++ (⟨#[58]⟩ : ByteArray)) ++ a2)).bind fun bt144 => ((url_Safe.f kj9 ((x8_1 ++ (⟨#[58]⟩ : ByteArray)) ++ a2) (([(⟨#[104, 116, 116, 112]⟩ : ByteArray), (⟨#[104, 116, 116, 112, 115]⟩ : ByteArray)] : List ByteArray))).bind fun bt149 => ((url_Safe.f kj9 ((x8_1 ++ (⟨#[58]⟩ : ByteArray)) ++ a2) (([x7_1] : List ByteArray))).bind fun bt154 => (if bt144.2 = true then (if bt144.1.toList = x7_1.toList then (if bt149.2 = 0 then (if bt154.2 = 0 then (if bt154.1 = true then (if x7_1.toList = ([104, 116, 116, 112] : List UInt8) then (some (bt149.1 == true)) else (some (bt149.1 == (x7_1.toList == ([104, 116, 116, 112, 115] : List UInt8))))) else (none)) else (none)) else (none)) else (none)) else (none))))) else (none)) else (none))) = some r := by rw [if_neg (show ¬ (false = true) by decide)] at H; exact H
        clear H
        have H := H1
        clear H1
        by_cases c45 : x7_1.toList = ([] : List UInt8)
        ·
         rw [if_pos c45] at H
         have c45b0 : (x7_1.toList == ([] : List UInt8)) = true := beq_iff_eq.mpr c45
         have c45b1 : (x7_1.toList != ([] : List UInt8)) = false := bne_eq_false_iff_eq.mpr c45
         clear c45
         replace H := Option.bind_eq_some_iff.mp H
         obtain ⟨t143, A460, H⟩ := H
         replace H : (some (t143.toList == ([97] : List UInt8))) = some r := H
         have A46 := Aside0.mk A460
         clear A460
         obtain rfl := Option.some.inj H
         go_wp2_with (first | ((with_reducible refine gate_callee (f := 16) rfl ?_); refine goesL_ (some 73) rfl rfl Tryd.func16 (by kernel_rfl) rfl #[.string (⟨#[32, 97, 32]⟩ : ByteArray)] rfl (by (try simp only [List.map_toArray, List.map_cons, List.map_nil]); first | done | rfl | (simp only [List.length_drop, List.length_take]; rfl)) ?_; (with_reducible refine (url_Strip.calls (⟨#[32, 97, 32]⟩ : ByteArray) t143 _ A46.out).mono ?_); rintro e w47 ⟨rfl, hb⟩; refine ⟨_, rfl, ?_⟩; have n0_ := Aside0.mk (below_step (by repeat (first | (with_reducible first | exact HB.out | apply below_alloc | apply pw_below_drewN | apply below_drew1) | exact HB.out)) hb); clear HB; have HB := n0_; clear n0_; (try clear hb); (try clear hb2); (try clear hk); (try clear hi)))
         go_ret
         exact ⟨by first | rfl | (simp [errW_none, errW_some] <;> rfl) | (simp [*, errW_none, errW_some] <;> rfl), by repeat (first | (with_reducible first | exact HB.out | apply below_alloc | apply pw_below_drewN | apply below_drew1) | exact HB.out)⟩
        ·
         rw [if_neg c45] at H
         have c45b0 : (x7_1.toList == ([] : List UInt8)) = false := beq_eq_false_iff_ne.mpr c45
         have c45b1 : (x7_1.toList != ([] : List UInt8)) = true := bne_iff_ne.mpr c45
         by_cases c48 : x8_1.size + 1 ≤ 9223372036854775807
         ·
          rw [if_pos c48] at H
          have c48b0 := eq_true c48
          have c48b1 : decide (x8_1.size + 1 ≤ 9223372036854775807) = true := decide_eq_true c48
          try have c48b2 : (9223372036854775807 < x8_1.size + 1) = False := eq_false (Nat.not_lt.2 c48)
          by_cases c49 : (x8_1 ++ (⟨#[58]⟩ : ByteArray)).size + a2.size ≤ 9223372036854775807
          ·
           rw [if_pos c49] at H
           have c49b0 := eq_true c49
           have c49b1 : decide ((x8_1 ++ (⟨#[58]⟩ : ByteArray)).size + a2.size ≤ 9223372036854775807) = true := decide_eq_true c49
           try have c49b2 : (9223372036854775807 < (x8_1 ++ (⟨#[58]⟩ : ByteArray)).size + a2.size) = False := eq_false (Nat.not_lt.2 c49)
           try (have c49b3 := c49b2; simp only [ByteArray.size_append] at c49b3)
           try (have c49b4 := c49b2; simp only [ByteArray.size_append, show (⟨#[58]⟩ : ByteArray).size = 1 from rfl] at c49b4)
           replace H := Option.bind_eq_some_iff.mp H
           obtain ⟨⟨t144, t145⟩, A500, H⟩ := H
           replace H : ((url_Safe.f kj9 ((x8_1 ++ (⟨#[58]⟩ : ByteArray)) ++ a2) (([(⟨#[104, 116, 116, 112]⟩ : ByteArray), (⟨#[104, 116, 116, 112, 115]⟩ : ByteArray)] : List ByteArray))).bind fun bt149 => ((url_Safe.f kj9 ((x8_1 ++ (⟨#[58]⟩ : ByteArray)) ++ a2) (([x7_1] : List ByteArray))).bind fun bt154 => (if t145 = true then (if t144.toList = x7_1.toList then (if bt149.2 = 0 then (if bt154.2 = 0 then (if bt154.1 = true then (if x7_1.toList = ([104, 116, 116, 112] : List UInt8) then (some (bt149.1 == true)) else (some (bt149.1 == (x7_1.toList == ([104, 116, 116, 112, 115] : List UInt8))))) else (none)) else (none)) else (none)) else (none)) else (none)))) = some r := H
           have A50 := Aside0.mk A500
           clear A500
           obtain ⟨y146, hy146⟩ : ∃ y_ : List ByteArray, y_ = (([(⟨#[104, 116, 116, 112]⟩ : ByteArray), (⟨#[104, 116, 116, 112, 115]⟩ : ByteArray)] : List ByteArray)) := ⟨_, rfl⟩
           replace H : ((url_Safe.f kj9 ((x8_1 ++ (⟨#[58]⟩ : ByteArray)) ++ a2) y146).bind fun bt149 => ((url_Safe.f kj9 ((x8_1 ++ (⟨#[58]⟩ : ByteArray)) ++ a2) (([x7_1] : List ByteArray))).bind fun bt154 => (if t145 = true then (if t144.toList = x7_1.toList then (if bt149.2 = 0 then (if bt154.2 = 0 then (if bt154.1 = true then (if x7_1.toList = ([104, 116, 116, 112] : List UInt8) then (some (bt149.1 == true)) else (some (bt149.1 == (x7_1.toList == ([104, 116, 116, 112, 115] : List UInt8))))) else (none)) else (none)) else (none)) else (none)) else (none)))) = some r := by first | (rw [hy146]; with_reducible exact H) | (have H2_ := (Option.bind_some _ _).symm.trans H; rw [hy146]; with_reducible exact H2_) | (have H2_ := (Option.bind_some _ _).symm.trans H; with_reducible exact H2_) | with_reducible exact H | (rw [hy146]; exact H) | exact H
           have Ny146 := Aside0.mk hy146
           clear hy146
           replace H := Option.bind_eq_some_iff.mp H
           obtain ⟨⟨t149, t150⟩, A510, H⟩ := H
           replace H : ((url_Safe.f kj9 ((x8_1 ++ (⟨#[58]⟩ : ByteArray)) ++ a2) (([x7_1] : List ByteArray))).bind fun bt154 => (if t145 = true then (if t144.toList = x7_1.toList then (if t150 = 0 then (if bt154.2 = 0 then (if bt154.1 = true then (if x7_1.toList = ([104, 116, 116, 112] : List UInt8) then (some (t149 == true)) else (some (t149 == (x7_1.toList == ([104, 116, 116, 112, 115] : List UInt8))))) else (none)) else (none)) else (none)) else (none)) else (none))) = some r := H
           have A51 := Aside0.mk A510
           clear A510
           obtain ⟨y151, hy151⟩ : ∃ y_ : List ByteArray, y_ = (([x7_1] : List ByteArray)) := ⟨_, rfl⟩
           replace H : ((url_Safe.f kj9 ((x8_1 ++ (⟨#[58]⟩ : ByteArray)) ++ a2) y151).bind fun bt154 => (if t145 = true then (if t144.toList = x7_1.toList then (if t150 = 0 then (if bt154.2 = 0 then (if bt154.1 = true then (if x7_1.toList = ([104, 116, 116, 112] : List UInt8) then (some (t149 == true)) else (some (t149 == (x7_1.toList == ([104, 116, 116, 112, 115] : List UInt8))))) else (none)) else (none)) else (none)) else (none)) else (none))) = some r := by first | (rw [hy151]; with_reducible exact H) | (have H2_ := (Option.bind_some _ _).symm.trans H; rw [hy151]; with_reducible exact H2_) | (have H2_ := (Option.bind_some _ _).symm.trans H; with_reducible exact H2_) | with_reducible exact H | (rw [hy151]; exact H) | exact H
           have Ny151 := Aside0.mk hy151
           clear hy151
           replace H := Option.bind_eq_some_iff.mp H
           obtain ⟨⟨t154, t155⟩, A520, H⟩ := H
           replace H : (if t145 = true then (if t144.toList = x7_1.toList then (if t150 = 0 then (if t155 = 0 then (if t154 = true then (if x7_1.toList = ([104, 116, 116, 112] : List UInt8) then (some (t149 == true)) else (some (t149 == (x7_1.toList == ([104, 116, 116, 112, 115] : List UInt8))))) else (none)) else (none)) else (none)) else (none)) else (none)) = some r := H
           have A52 := Aside0.mk A520
           clear A520
           by_cases c53 : t145 = true
           ·
            subst c53
            have H1 : (if t144.toList = x7_1.toList then (if t150 = 0 then (if t155 = 0 then (if t154 = true then (if x7_1.toList = ([104, 116, 116, 112] : List UInt8) then (some (t149 == true)) else (some (t149 == (x7_1.toList == ([104, 116, 116, 112, 115] : List UInt8))))) else (none)) else (none)) else (none)) else (none)) = some r := by rw [if_pos rfl] at H; exact H
            clear H
            have H := H1
            clear H1
            by_cases c54 : t144.toList = x7_1.toList
            ·
             rw [if_pos c54] at H
             have c54b0 : (t144.toList == x7_1.toList) = true := beq_iff_eq.mpr c54
             have c54b1 : (t144.toList != x7_1.toList) = false := bne_eq_false_iff_eq.mpr c54
             clear c54
             by_cases c55 : t150 = 0
             ·
              rw [if_pos c55] at H
              have c55b0 : (t150 == 0) = true := beq_iff_eq.mpr c55
              have c55b1 : (t150 != 0) = false := bne_eq_false_iff_eq.mpr c55
              clear c55
              by_cases c56 : t155 = 0
              ·
               rw [if_pos c56] at H
               have c56b0 : (t155 == 0) = true := beq_iff_eq.mpr c56
               have c56b1 : (t155 != 0) = false := bne_eq_false_iff_eq.mpr c56
               clear c56
               by_cases c57 : t154 = true
               ·
                subst c57
                have H1 : (if x7_1.toList = ([104, 116, 116, 112] : List UInt8) then (some (t149 == true)) else (some (t149 == (x7_1.toList == ([104, 116, 116, 112, 115] : List UInt8))))) = some r := by rw [if_pos rfl] at H; exact H
                clear H
                have H := H1
                clear H1
                by_cases c58 : x7_1.toList = ([104, 116, 116, 112] : List UInt8)
                ·
                 rw [if_pos c58] at H
                 have c58b0 : (x7_1.toList == ([104, 116, 116, 112] : List UInt8)) = true := beq_iff_eq.mpr c58
                 have c58b1 : (x7_1.toList != ([104, 116, 116, 112] : List UInt8)) = false := bne_eq_false_iff_eq.mpr c58
                 clear c58
                 obtain rfl := Option.some.inj H
                 go_wp2_with (first | ((with_reducible refine gate_callee (f := 17) rfl ?_); refine goesL_ (some 80) rfl rfl Tryd.func17 (by kernel_rfl) rfl #[.string ((x8_1 ++ (⟨#[58]⟩ : ByteArray)) ++ a2)] rfl (by (try simp only [List.map_toArray, List.map_cons, List.map_nil]); first | done | rfl | (simp only [List.length_drop, List.length_take]; rfl)) ?_; (with_reducible refine (url_Scheme.calls kj9 ((x8_1 ++ (⟨#[58]⟩ : ByteArray)) ++ a2) t144 true _ A50.out).mono ?_); rintro e w59 ⟨rfl, hb⟩; refine ⟨_, rfl, ?_⟩; have n0_ := Aside0.mk (below_step (by repeat (first | (with_reducible first | exact HB.out | apply below_alloc | apply pw_below_drewN | apply below_drew1) | exact HB.out)) hb); clear HB; have HB := n0_; clear n0_; (try clear hb); (try clear hb2); (try clear hk); (try clear hi)) | ((with_reducible refine gate_dst (N := 88) rfl ?_); refine Kd.R_lit Kd.string _ 9 ?hg (N := 88) ?hd (xs := ([(⟨#[104, 116, 116, 112]⟩ : ByteArray), (⟨#[104, 116, 116, 112, 115]⟩ : ByteArray)] : List ByteArray)) (inner := [.string (⟨#[104, 116, 116, 112]⟩ : ByteArray), .string (⟨#[104, 116, 116, 112, 115]⟩ : ByteArray)]) (ok := fun _ => True) (okp := fun _ => True) ?hr ?hp (fun _ hk => hk) trivial (Below.refl _ _) (Nat.le_refl _) (by simp) ?_; (case hd => rfl); (case hg => rfl); (case hr => first | (go_simp; done) | (go_simp; rfl)); (case hp => exact (Reps.one (show Kd.M Kd.string _ _ _ (⟨#[104, 116, 116, 112]⟩ : ByteArray) [.string (⟨#[104, 116, 116, 112]⟩ : ByteArray)] from rfl) (Reps.one (show Kd.M Kd.string _ _ _ (⟨#[104, 116, 116, 112, 115]⟩ : ByteArray) [.string (⟨#[104, 116, 116, 112, 115]⟩ : ByteArray)] from rfl) (Reps.none _ _)))); intro v147 w60 ho61 hb hg_ hnew_; clear hg_ hnew_; (first | rw [← Ny146.out] at ho61 | (simp only [Int.reduceToNat] at ho61; rw [← Ny146.out] at ho61)); have n0_ := Aside0.mk (Kd.R_lower ho61 (below_size (by repeat (first | (with_reducible first | exact HB.out | apply below_alloc | apply pw_below_drewN | apply below_drew1) | exact HB.out)))); have n1_ := Aside0.mk (below_step (by repeat (first | (with_reducible first | exact HB.out | apply below_alloc | apply pw_below_drewN | apply below_drew1) | exact HB.out)) hb); clear HB; have HO148 := n0_; have HB := n1_; clear n0_ n1_; clear hb ho61; obtain ⟨Ao62, co62, eo62⟩ := Kd.R_slice HO148.out; subst eo62) | ((with_reducible refine gate_callee (f := 18) rfl ?_); refine goesL_ (some 89) rfl rfl Tryd.func18 (by kernel_rfl) rfl #[.string ((x8_1 ++ (⟨#[58]⟩ : ByteArray)) ++ a2), .slice Ao62 y146.length co62] rfl (by (try simp only [List.map_toArray, List.map_cons, List.map_nil]); first | done | rfl | (simp only [List.length_drop, List.length_take]; rfl)) ?_; (with_reducible refine (url_Safe.calls kj9 ((x8_1 ++ (⟨#[58]⟩ : ByteArray)) ++ a2) _ _ y146 t149 t150 _ ?side1 ?side2 A51.out).mono ?_); (case side1 => repeat (first | exact (Kd.R_reads' HO148.out).2.2 | (with_reducible refine Kd.C_alloc ?_ _) | (with_reducible refine Kd.C_drewN ?_ _) | (with_reducible refine Kd.C_drew ?_))); (case side2 => exact (Kd.R_reads' HO148.out).2.1); rintro e w63 ⟨rfl, hb⟩; refine ⟨_, rfl, ?_⟩; have n0_ := Aside0.mk (Kd.R_below (by (with_reducible repeat (first | apply Kd.R_alloc | apply Kd.R_drewN | apply Kd.R_drew)); exact HO148.out) hb); have n1_ := Aside0.mk (below_step (by repeat (first | (with_reducible first | exact HB.out | apply below_alloc | apply pw_below_drewN | apply below_drew1) | exact HB.out)) hb); clear HO148; clear HB; have HO148 := n0_; have HB := n1_; clear n0_ n1_; (try clear hb); (try clear hb2); (try clear hk); (try clear hi)) | ((with_reducible refine gate_dst (N := 98) rfl ?_); refine Kd.R_lit Kd.string _ 9 ?hg (N := 98) ?hd (xs := ([x7_1] : List ByteArray)) (inner := [.string x7_1]) (ok := fun _ => True) (okp := fun _ => True) ?hr ?hp (fun _ hk => hk) trivial (Below.refl _ _) (Nat.le_refl _) (by simp) ?_; (case hd => rfl); (case hg => rfl); (case hr => first | (go_simp; done) | (go_simp; rfl)); (case hp => exact (Reps.one (show Kd.M Kd.string _ _ _ x7_1 [.string x7_1] from rfl) (Reps.none _ _))); intro v152 w64 ho65 hb hg_ hnew_; clear hg_ hnew_; (first | rw [← Ny151.out] at ho65 | (simp only [Int.reduceToNat] at ho65; rw [← Ny151.out] at ho65)); have n0_ := Aside0.mk (Kd.R_elder' (by (with_reducible repeat (first | apply Kd.R_alloc | apply Kd.R_drewN | apply Kd.R_drew)); exact HO148.out) (Kd.R_base ho65) hb); have n1_ := Aside0.mk (Kd.R_lower (Kd.R_new' ho65 (Kd.R_lt (by (with_reducible repeat (first | apply Kd.R_alloc | apply Kd.R_drewN | apply Kd.R_drew)); exact HO148.out))) (below_size (by repeat (first | (with_reducible first | exact HB.out | apply below_alloc | apply pw_below_drewN | apply below_drew1) | exact HB.out)))); have n2_ := Aside0.mk (below_step (by repeat (first | (with_reducible first | exact HB.out | apply below_alloc | apply pw_below_drewN | apply below_drew1) | exact HB.out)) hb); clear HO148; clear HB; have HO148 := n0_; have HO153 := n1_; have HB := n2_; clear n0_ n1_ n2_; clear hb ho65; obtain ⟨Ao66, co66, eo66⟩ := Kd.R_slice HO153.out; subst eo66) | ((with_reducible refine gate_callee (f := 18) rfl ?_); refine goesL_ (some 99) rfl rfl Tryd.func18 (by kernel_rfl) rfl #[.string ((x8_1 ++ (⟨#[58]⟩ : ByteArray)) ++ a2), .slice Ao66 y151.length co66] rfl (by (try simp only [List.map_toArray, List.map_cons, List.map_nil]); first | done | rfl | (simp only [List.length_drop, List.length_take]; rfl)) ?_; (with_reducible refine (url_Safe.calls kj9 ((x8_1 ++ (⟨#[58]⟩ : ByteArray)) ++ a2) _ _ y151 true t155 _ ?side1 ?side2 A52.out).mono ?_); (case side1 => repeat (first | exact (Kd.R_reads' HO153.out).2.2 | (with_reducible refine Kd.C_alloc ?_ _) | (with_reducible refine Kd.C_drewN ?_ _) | (with_reducible refine Kd.C_drew ?_))); (case side2 => exact (Kd.R_reads' HO153.out).2.1); rintro e w67 ⟨rfl, hb⟩; refine ⟨_, rfl, ?_⟩; have n0_ := Aside0.mk (Kd.R_below (by (with_reducible repeat (first | apply Kd.R_alloc | apply Kd.R_drewN | apply Kd.R_drew)); exact HO148.out) hb); have n1_ := Aside0.mk (Kd.R_below (by (with_reducible repeat (first | apply Kd.R_alloc | apply Kd.R_drewN | apply Kd.R_drew)); exact HO153.out) hb); have n2_ := Aside0.mk (below_step (by repeat (first | (with_reducible first | exact HB.out | apply below_alloc | apply pw_below_drewN | apply below_drew1) | exact HB.out)) hb); clear HO148; clear HO153; clear HB; have HO148 := n0_; have HO153 := n1_; have HB := n2_; clear n0_ n1_ n2_; (try clear hb); (try clear hb2); (try clear hk); (try clear hi)))
                 go_ret
                 exact ⟨by first | rfl | (simp [errW_none, errW_some] <;> rfl) | (simp [*, errW_none, errW_some] <;> rfl), by repeat (first | (with_reducible first | exact HB.out | apply below_alloc | apply pw_below_drewN | apply below_drew1) | exact HB.out)⟩
                ·
                 rw [if_neg c58] at H
                 have c58b0 : (x7_1.toList == ([104, 116, 116, 112] : List UInt8)) = false := beq_eq_false_iff_ne.mpr c58
                 have c58b1 : (x7_1.toList != ([104, 116, 116, 112] : List UInt8)) = true := bne_iff_ne.mpr c58
                 obtain rfl := Option.some.inj H
                 go_wp2_with (first | ((with_reducible refine gate_callee (f := 17) rfl ?_); refine goesL_ (some 80) rfl rfl Tryd.func17 (by kernel_rfl) rfl #[.string ((x8_1 ++ (⟨#[58]⟩ : ByteArray)) ++ a2)] rfl (by (try simp only [List.map_toArray, List.map_cons, List.map_nil]); first | done | rfl | (simp only [List.length_drop, List.length_take]; rfl)) ?_; (with_reducible refine (url_Scheme.calls kj9 ((x8_1 ++ (⟨#[58]⟩ : ByteArray)) ++ a2) t144 true _ A50.out).mono ?_); rintro e w68 ⟨rfl, hb⟩; refine ⟨_, rfl, ?_⟩; have n0_ := Aside0.mk (below_step (by repeat (first | (with_reducible first | exact HB.out | apply below_alloc | apply pw_below_drewN | apply below_drew1) | exact HB.out)) hb); clear HB; have HB := n0_; clear n0_; (try clear hb); (try clear hb2); (try clear hk); (try clear hi)) | ((with_reducible refine gate_dst (N := 88) rfl ?_); refine Kd.R_lit Kd.string _ 9 ?hg (N := 88) ?hd (xs := ([(⟨#[104, 116, 116, 112]⟩ : ByteArray), (⟨#[104, 116, 116, 112, 115]⟩ : ByteArray)] : List ByteArray)) (inner := [.string (⟨#[104, 116, 116, 112]⟩ : ByteArray), .string (⟨#[104, 116, 116, 112, 115]⟩ : ByteArray)]) (ok := fun _ => True) (okp := fun _ => True) ?hr ?hp (fun _ hk => hk) trivial (Below.refl _ _) (Nat.le_refl _) (by simp) ?_; (case hd => rfl); (case hg => rfl); (case hr => first | (go_simp; done) | (go_simp; rfl)); (case hp => exact (Reps.one (show Kd.M Kd.string _ _ _ (⟨#[104, 116, 116, 112]⟩ : ByteArray) [.string (⟨#[104, 116, 116, 112]⟩ : ByteArray)] from rfl) (Reps.one (show Kd.M Kd.string _ _ _ (⟨#[104, 116, 116, 112, 115]⟩ : ByteArray) [.string (⟨#[104, 116, 116, 112, 115]⟩ : ByteArray)] from rfl) (Reps.none _ _)))); intro v147 w69 ho70 hb hg_ hnew_; clear hg_ hnew_; (first | rw [← Ny146.out] at ho70 | (simp only [Int.reduceToNat] at ho70; rw [← Ny146.out] at ho70)); have n0_ := Aside0.mk (Kd.R_lower ho70 (below_size (by repeat (first | (with_reducible first | exact HB.out | apply below_alloc | apply pw_below_drewN | apply below_drew1) | exact HB.out)))); have n1_ := Aside0.mk (below_step (by repeat (first | (with_reducible first | exact HB.out | apply below_alloc | apply pw_below_drewN | apply below_drew1) | exact HB.out)) hb); clear HB; have HO148 := n0_; have HB := n1_; clear n0_ n1_; clear hb ho70; obtain ⟨Ao71, co71, eo71⟩ := Kd.R_slice HO148.out; subst eo71) | ((with_reducible refine gate_callee (f := 18) rfl ?_); refine goesL_ (some 89) rfl rfl Tryd.func18 (by kernel_rfl) rfl #[.string ((x8_1 ++ (⟨#[58]⟩ : ByteArray)) ++ a2), .slice Ao71 y146.length co71] rfl (by (try simp only [List.map_toArray, List.map_cons, List.map_nil]); first | done | rfl | (simp only [List.length_drop, List.length_take]; rfl)) ?_; (with_reducible refine (url_Safe.calls kj9 ((x8_1 ++ (⟨#[58]⟩ : ByteArray)) ++ a2) _ _ y146 t149 t150 _ ?side1 ?side2 A51.out).mono ?_); (case side1 => repeat (first | exact (Kd.R_reads' HO148.out).2.2 | (with_reducible refine Kd.C_alloc ?_ _) | (with_reducible refine Kd.C_drewN ?_ _) | (with_reducible refine Kd.C_drew ?_))); (case side2 => exact (Kd.R_reads' HO148.out).2.1); rintro e w72 ⟨rfl, hb⟩; refine ⟨_, rfl, ?_⟩; have n0_ := Aside0.mk (Kd.R_below (by (with_reducible repeat (first | apply Kd.R_alloc | apply Kd.R_drewN | apply Kd.R_drew)); exact HO148.out) hb); have n1_ := Aside0.mk (below_step (by repeat (first | (with_reducible first | exact HB.out | apply below_alloc | apply pw_below_drewN | apply below_drew1) | exact HB.out)) hb); clear HO148; clear HB; have HO148 := n0_; have HB := n1_; clear n0_ n1_; (try clear hb); (try clear hb2); (try clear hk); (try clear hi)) | ((with_reducible refine gate_dst (N := 98) rfl ?_); refine Kd.R_lit Kd.string _ 9 ?hg (N := 98) ?hd (xs := ([x7_1] : List ByteArray)) (inner := [.string x7_1]) (ok := fun _ => True) (okp := fun _ => True) ?hr ?hp (fun _ hk => hk) trivial (Below.refl _ _) (Nat.le_refl _) (by simp) ?_; (case hd => rfl); (case hg => rfl); (case hr => first | (go_simp; done) | (go_simp; rfl)); (case hp => exact (Reps.one (show Kd.M Kd.string _ _ _ x7_1 [.string x7_1] from rfl) (Reps.none _ _))); intro v152 w73 ho74 hb hg_ hnew_; clear hg_ hnew_; (first | rw [← Ny151.out] at ho74 | (simp only [Int.reduceToNat] at ho74; rw [← Ny151.out] at ho74)); have n0_ := Aside0.mk (Kd.R_elder' (by (with_reducible repeat (first | apply Kd.R_alloc | apply Kd.R_drewN | apply Kd.R_drew)); exact HO148.out) (Kd.R_base ho74) hb); have n1_ := Aside0.mk (Kd.R_lower (Kd.R_new' ho74 (Kd.R_lt (by (with_reducible repeat (first | apply Kd.R_alloc | apply Kd.R_drewN | apply Kd.R_drew)); exact HO148.out))) (below_size (by repeat (first | (with_reducible first | exact HB.out | apply below_alloc | apply pw_below_drewN | apply below_drew1) | exact HB.out)))); have n2_ := Aside0.mk (below_step (by repeat (first | (with_reducible first | exact HB.out | apply below_alloc | apply pw_below_drewN | apply below_drew1) | exact HB.out)) hb); clear HO148; clear HB; have HO148 := n0_; have HO153 := n1_; have HB := n2_; clear n0_ n1_ n2_; clear hb ho74; obtain ⟨Ao75, co75, eo75⟩ := Kd.R_slice HO153.out; subst eo75) | ((with_reducible refine gate_callee (f := 18) rfl ?_); refine goesL_ (some 99) rfl rfl Tryd.func18 (by kernel_rfl) rfl #[.string ((x8_1 ++ (⟨#[58]⟩ : ByteArray)) ++ a2), .slice Ao75 y151.length co75] rfl (by (try simp only [List.map_toArray, List.map_cons, List.map_nil]); first | done | rfl | (simp only [List.length_drop, List.length_take]; rfl)) ?_; (with_reducible refine (url_Safe.calls kj9 ((x8_1 ++ (⟨#[58]⟩ : ByteArray)) ++ a2) _ _ y151 true t155 _ ?side1 ?side2 A52.out).mono ?_); (case side1 => repeat (first | exact (Kd.R_reads' HO153.out).2.2 | (with_reducible refine Kd.C_alloc ?_ _) | (with_reducible refine Kd.C_drewN ?_ _) | (with_reducible refine Kd.C_drew ?_))); (case side2 => exact (Kd.R_reads' HO153.out).2.1); rintro e w76 ⟨rfl, hb⟩; refine ⟨_, rfl, ?_⟩; have n0_ := Aside0.mk (Kd.R_below (by (with_reducible repeat (first | apply Kd.R_alloc | apply Kd.R_drewN | apply Kd.R_drew)); exact HO148.out) hb); have n1_ := Aside0.mk (Kd.R_below (by (with_reducible repeat (first | apply Kd.R_alloc | apply Kd.R_drewN | apply Kd.R_drew)); exact HO153.out) hb); have n2_ := Aside0.mk (below_step (by repeat (first | (with_reducible first | exact HB.out | apply below_alloc | apply pw_below_drewN | apply below_drew1) | exact HB.out)) hb); clear HO148; clear HO153; clear HB; have HO148 := n0_; have HO153 := n1_; have HB := n2_; clear n0_ n1_ n2_; (try clear hb); (try clear hb2); (try clear hk); (try clear hi)))
                 go_ret
                 exact ⟨by first | rfl | (simp [errW_none, errW_some] <;> rfl) | (simp [*, errW_none, errW_some] <;> rfl), by repeat (first | (with_reducible first | exact HB.out | apply below_alloc | apply pw_below_drewN | apply below_drew1) | exact HB.out)⟩
               ·
                replace c57 := Bool.eq_false_iff.mpr c57
                subst c57
                have H1 : (none) = some r := by rw [if_neg (show ¬ (false = true) by decide)] at H; exact H
                clear H
                have H := H1
                clear H1
                exact absurd H (by simp)
              ·
               rw [if_neg c56] at H
               exact absurd H (by simp)
             ·
              rw [if_neg c55] at H
              exact absurd H (by simp)
            ·
             rw [if_neg c54] at H
             exact absurd H (by simp)
           ·
            replace c53 := Bool.eq_false_iff.mpr c53
            subst c53
            have H1 : (none) = some r := by rw [if_neg (show ¬ (false = true) by decide)] at H; exact H
            clear H
            have H := H1
            clear H1
            exact absurd H (by simp)
          ·
           rw [if_neg c49] at H
           exact absurd H (by simp)
         ·
          rw [if_neg c48] at H
          exact absurd H (by simp)
  ·
   rw [if_neg c6] at H
   exact absurd H (by simp)
 ·
  rw [if_neg c5] at H
  exact absurd H (by simp)
/-- THE ONE PURE STATEMENT of bobbinetkeep_UrlHidden: yours. -/
def bobbinetkeep_UrlHidden.Pure : Prop := ∀ (l0 : List Int) (l1 : List Int) (a2 : ByteArray), l0.length ≤ maxLen → l0.length * 8 ≤ 140737488351232 → (∀ x ∈ l0, (Lit.int .i64 x).wf = true) → l1.length ≤ maxLen → l1.length * 8 ≤ 140737488351232 → (∀ x ∈ l1, (Lit.int .i64 x).wf = true) → a2.size ≤ 140737488351232 → ∃ k, bobbinetkeep_UrlHidden.f k l0 l1 a2 = some true
theorem bobbinetkeep_UrlHidden.walk (P : bobbinetkeep_UrlHidden.Pure) (a0 : Option Addr) (len0 cap0 : Nat) (z0 : List Int) (a1 : Option Addr) (len1 cap1 : Nat) (z1 : List Int) (a2 : ByteArray) (w : World) (w0 : (a0 = none ∧ len0 = 0 ∧ cap0 = 0 ∧ z0 = []) ∨ ∃ x, a0 = some x ∧ len0 ≤ cap0 ∧ cap0 ≤ maxLen ∧ z0.length = cap0 ∧ (∀ i, i < z0.length → w.cell? (x.add i) = some (.int .i64 (z0.getD i 0))) ∧ ∀ n ∈ z0, (Lit.int .i64 n).wf = true) (y0 : len0 * 8 ≤ 140737488351232) (w1 : (a1 = none ∧ len1 = 0 ∧ cap1 = 0 ∧ z1 = []) ∨ ∃ x, a1 = some x ∧ len1 ≤ cap1 ∧ cap1 ≤ maxLen ∧ z1.length = cap1 ∧ (∀ i, i < z1.length → w.cell? (x.add i) = some (.int .i64 (z1.getD i 0))) ∧ ∀ n ∈ z1, (Lit.int .i64 n).wf = true) (y1 : len1 * 8 ≤ 140737488351232) (w2 : a2.size ≤ 140737488351232) :
  Calls Tryd.prog 7 #[.slice a0 len0 cap0, .slice a1 len1 cap1, .string a2] w fun e w' => e = .returned (.bool true) ∧ Below w.heap.size w w' := by
 obtain ⟨l0, rfl, hr0, hm0, hw0, hc0⟩ := ReadsInt.ofRowC w0
 obtain ⟨l1, rfl, hr1, hm1, hw1, hc1⟩ := ReadsInt.ofRowC w1
 obtain ⟨k, h⟩ := P l0 l1 a2 hm0 y0 hw0 hm1 y1 hw1 w2
 refine (bobbinetkeep_UrlHidden.calls k _ _ l0 _ _ l1 a2 true w (Kd.C_of_reads (d := (0 : Int)) (h1 := fun _ => rfl) hr0) hc0 (Kd.C_of_reads (d := (0 : Int)) (h1 := fun _ => rfl) hr1) hc1 h).mono ?_
 rintro e w' ⟨rfl, hd⟩
 exact ⟨rfl, hd⟩
end Go.Proofs.YteimhgbihpbhaaaDoor.X
end
section
namespace Go.Proofs.YteimhgbihpbhaaaDoor.Base
open Go.RowKit Go.Proofs.YteimhgbihpbhaaaDoorW.PrintWords
theorem toList_loop (s : ByteArray) : ∀ (n i : Nat) (r : List UInt8), s.size - i = n → ByteArray.toList.loop s i r = r.reverse ++ s.data.toList.drop i
  | 0, i, r, h => by
    unfold ByteArray.toList.loop
    have h1 : s.data.toList.drop i = [] := List.drop_eq_nil_of_le (by rw [Array.length_toList]; show s.size ≤ i; omega)
    rw [if_neg (by omega), h1, List.append_nil]
  | n + 1, i, r, h => by
    unfold ByteArray.toList.loop
    have hi : i < s.size := by omega
    have hl : i < s.data.toList.length := by rw [Array.length_toList]; exact hi
    have hg : s.get! i = s.data.toList[i] := by
      obtain ⟨d⟩ := s
      show d[i]! = _
      rw [getElem!_pos d i hi]
      simp
    rw [if_pos hi, toList_loop s n (i + 1) _ (by omega), hg, List.drop_eq_getElem_cons hl, List.reverse_cons, List.append_assoc]
    rfl
theorem toList_eq (s : ByteArray) : s.toList = s.data.toList := by
  unfold ByteArray.toList
  rw [toList_loop s _ 0 [] rfl]
  rfl
theorem toList_inj {s t : ByteArray} : s.toList = t.toList ↔ s = t := by
  rw [toList_eq, toList_eq]
  constructor
  · intro h
    exact ByteArray.ext (Array.toList_inj.1 h)
  · rintro rfl; rfl
theorem Ev.ite_pos {α : Type} {c : Prop} [Decidable c] {g f : Nat → Option α} {r : α} (h : c) (k : Ev g r) : Ev (fun n => if c then g n else f n) r := by
  simpa only [if_pos h] using k
theorem Ev.ite_neg {α : Type} {c : Prop} [Decidable c] {g f : Nat → Option α} {r : α} (h : ¬ c) (k : Ev f r) : Ev (fun n => if c then g n else f n) r := by
  simpa only [if_neg h] using k
theorem Ev.some {α : Type} (r : α) : Ev (fun _ => Option.some r) r := ⟨0, fun _ _ => rfl⟩
/-- one round: what is told of k + 1 rounds -/
theorem Ev.one {α : Type} {g f : Nat → Option α} {r : α} (h : ∀ k, g (k + 1) = f k) (k : Ev f r) : Ev g r := by
  obtain ⟨K, hK⟩ := k
  refine ⟨K + 1, fun k hk => ?_⟩
  obtain ⟨m, rfl⟩ : ∃ m, k = m + 1 := ⟨k - 1, by omega⟩
  rw [h m]
  exact hK m (by omega)
theorem Ev.bnd {α β : Type} {g : Nat → Option α} {f : Nat → α → Option β} {a : α} {r : β} (h : Ev g a) (k : Ev (fun n => f n a) r) : Ev (fun n => (g n).bind (f n)) r := by
  obtain ⟨K, hK⟩ := h
  obtain ⟨L, hL⟩ := k
  refine ⟨K + L, fun n hn => ?_⟩
  show (g n).bind (f n) = _
  rw [hK n (by omega)]
  exact hL n (by omega)
theorem Ev.bnd0 {α β : Type} {g : Option α} {f : Nat → α → Option β} {a : α} {r : β} (h : g = Option.some a) (k : Ev (fun n => f n a) r) : Ev (fun n => g.bind (f n)) r := by
  subst h
  exact k
theorem wrap_id {i : Int} (h0 : -9223372036854775808 ≤ i) (h1 : i ≤ 9223372036854775807) : wrap64 i = i := by unfold wrap64; omega
theorem wrap_succ {i : Nat} {n : Nat} (h : i < n) (hn : n ≤ 9223372036854775807) : wrap64 ((i : Int) + 1) = ((i + 1 : Nat) : Int) := by unfold wrap64; omega
/-- Go's remainder, brought above 0 -/
theorem picked_eq (a n : Int) (h : 0 < n) (hn : n ≤ 4294967296) : (if Int.tmod a n < 0 then wrap64 (Int.tmod a n + n) else Int.tmod a n) = a % n := by
  have he := Int.tmod_eq_emod (a := a) (b := n)
  have h1 := Int.emod_nonneg a (show n ≠ 0 by omega)
  have h2 := Int.emod_lt_of_pos a h
  rw [he]
  split
  · rename_i hc
    rw [if_neg (by simp; omega)]
    simp
  · rename_i hc
    have hn2 : (n.natAbs : Int) = n := by omega
    rw [hn2, if_pos (by omega), wrap_id (by omega) (by omega)]
    omega
end Go.Proofs.YteimhgbihpbhaaaDoor.Base
end
section
namespace Go.Proofs.YteimhgbihpbhaaaDoor.Url
open Go.RowKit Go.Proofs.YteimhgbihpbhaaaDoor.X Go.Proofs.YteimhgbihpbhaaaDoorW.PrintWords Go.Proofs.YteimhgbihpbhaaaDoorW.PrintLast Go.Proofs.YteimhgbihpbhaaaDoor.Base
set_option linter.unusedVariables false
set_option linter.unusedSimpArgs false
abbrev L := List UInt8
def mk (l : L) : ByteArray := ⟨l.toArray⟩
theorem mk_list (s : ByteArray) : mk s.data.toList = s := by apply ByteArray.ext; show s.data.toList.toArray = s.data; simp
theorem mk_data (l : L) : (mk l).data.toList = l := rfl
theorem mk_toList (l : L) : (mk l).toList = l := by rw [toList_eq, mk_data]
theorem mk_size (l : L) : (mk l).size = l.length := by show l.toArray.size = _; simp
theorem mk_app (a b : L) : mk a ++ mk b = mk (a ++ b) := by
  apply ByteArray.ext
  rw [ByteArray.data_append]
  exact List.append_toArray a b
theorem ext_mk (l : L) (b : Nat) : (mk l).extract 0 b = mk (l.take b) := by
  apply ByteArray.ext
  show ((mk l).extract 0 b).data = (l.take b).toArray
  rw [ByteArray.data_extract]
  simp [mk]
def cut : L := url_Strip.cutset.data.toList
theorem cut_eq : cut = (List.range 33).map UInt8.ofNat := by decide +kernel
theorem cut_iff (c : UInt8) : cut.contains c = decide (c.toNat ≤ 32) := by
  rw [Bool.eq_iff_iff, List.contains_iff_mem, cut_eq, List.mem_map, decide_eq_true_eq]
  constructor
  · rintro ⟨n, hn, rfl⟩
    rw [List.mem_range] at hn
    simp; omega
  · intro h
    exact ⟨c.toNat, List.mem_range.2 (by omega), by simp⟩
def gone (c : UInt8) : Bool := url_Strip.gone c
theorem gone_small {c : UInt8} (h : 32 < c.toNat) : gone c = false := by
  have e : ∀ n : Nat, n ≤ 32 → c ≠ UInt8.ofNat n := fun n hn e => by subst e; simp at h; omega
  have h9 := e 9 (by omega)
  have h10 := e 10 (by omega)
  have h13 := e 13 (by omega)
  simp only [gone, url_Strip.gone, Bool.or_eq_false_iff, beq_eq_false_iff_ne]
  exact ⟨⟨h9, h10⟩, h13⟩
def strip (l : L) : L := (Lib.trimS l cut).filter fun c => !gone c
theorem strip_f (s : ByteArray) (h : s.size ≤ 140737488355328) : url_Strip.f s = some (mk (strip s.data.toList)) := if_pos h
theorem left_keep {c : UInt8} {l : L} (h : 32 < c.toNat) : Lib.trimLeftS (c :: l) cut = c :: l := by
  unfold Lib.trimLeftS
  rw [List.dropWhile_cons, cut_iff, if_neg (by simp; omega)]
theorem right_keep {c : UInt8} {l q : L} (h : 32 < c.toNat) : Lib.trimRightS (l ++ c :: q) cut = l ++ c :: Lib.trimRightS q cut := by
  unfold Lib.trimRightS
  rw [List.reverse_append, List.reverse_cons, List.append_assoc, List.dropWhile_append]
  split
  · rename_i h0
    rw [List.isEmpty_iff.1 h0, List.singleton_append, List.dropWhile_cons, cut_iff, if_neg (by simp; omega)]
    simp
  · simp
theorem left_skip {p l : L} (h : ∀ c ∈ p, c.toNat ≤ 32) : Lib.trimLeftS (p ++ l) cut = Lib.trimLeftS l cut := by
  unfold Lib.trimLeftS
  induction p with
  | nil => rfl
  | cons c p ih =>
    rw [List.cons_append, List.dropWhile_cons, cut_iff, if_pos (by simpa using h c List.mem_cons_self)]
    exact ih (fun d hd => h d (List.mem_cons_of_mem _ hd))
/-- what begins and ends with what is not cut -/
def Ends (l : L) : Prop := (∀ c, l.head? = some c → 32 < c.toNat) ∧ (∀ c, l.getLast? = some c → 32 < c.toNat)
theorem Ends.filter {l : L} (h : Ends l) : Ends (l.filter fun c => !gone c) := by
  refine ⟨fun c hc => ?_, fun c hc => ?_⟩
  · cases l with
    | nil => cases hc
    | cons d l =>
      have hd := h.1 d rfl
      rw [List.filter_cons, if_pos (by simp [gone_small hd])] at hc
      obtain rfl := Option.some.inj hc
      exact hd
  · rcases List.eq_nil_or_concat l with rfl | ⟨p, d, rfl⟩
    · cases hc
    · rw [List.concat_eq_append] at h hc
      have hd := h.2 d (by simp)
      rw [List.filter_append, List.filter_cons, if_pos (by simp [gone_small hd]), List.filter_nil] at hc
      simp at hc
      exact hc ▸ hd
theorem strip_len (l : L) : (strip l).length ≤ l.length := by
  have h1 : (Lib.trimRightS l cut).length ≤ l.length := by
    unfold Lib.trimRightS
    rw [List.length_reverse]
    have := (List.dropWhile_sublist (cut.contains ·) (l := l.reverse)).length_le
    rwa [List.length_reverse] at this
  exact Nat.le_trans (List.length_filter_le _ _) (Nat.le_trans ((List.dropWhile_sublist (cut.contains ·) (l := Lib.trimRightS l cut)).length_le) h1)
/-- cut ahead; then what stays, with what goes in it; then what ends with what stays; then anything -/
theorem strip_form {p b : L} {c d : UInt8} (e : L) (hp : ∀ x ∈ p, x.toNat ≤ 32) (hc : 32 < c.toNat) (hd : 32 < d.toNat) : ∃ z, strip (p ++ (c :: (b ++ d :: e))) = c :: ((b.filter fun c => !gone c) ++ d :: z) := by
  refine ⟨(Lib.trimRightS e cut).filter fun c => !gone c, ?_⟩
  have h1 : Lib.trimRightS (p ++ (c :: (b ++ d :: e))) cut = p ++ (c :: (b ++ d :: Lib.trimRightS e cut)) := by
    have := right_keep (c := d) (l := p ++ (c :: b)) (q := e) hd
    simpa using this
  unfold strip Lib.trimS
  rw [h1, left_skip hp, left_keep hc, List.filter_cons, if_pos (by simp [gone_small hc]), List.filter_append, List.filter_cons, if_pos (by simp [gone_small hd])]
def isL (c : UInt8) : Bool := decide (97 ≤ c.toNat ∧ c.toNat ≤ 122) || decide (65 ≤ c.toNat ∧ c.toNat ≤ 90)
def isT (c : UInt8) : Bool := decide (48 ≤ c.toNat ∧ c.toNat ≤ 57) || decide (c.toNat = 43 ∨ c.toNat = 45 ∨ c.toNat = 46)
def go : L → L → L × Bool
  | _, [] => ([], false)
  | pre, c :: r => if isL c || (decide (pre ≠ []) && isT c) then go (pre ++ [c]) r else if c.toNat = 58 ∧ pre ≠ [] then (pre.map tok_Small.sm, true) else ([], false)
theorem letter_ev (c : UInt8) : url_letter.f (c.toNat : Int) = some (isL c) := by
  unfold url_letter.f isL
  by_cases h1 : 97 ≤ c.toNat
  · rw [if_pos (by omega)]
    by_cases h2 : c.toNat ≤ 122
    · rw [if_pos (by omega)]; simp [h1, h2]
    · rw [if_neg (by omega), if_pos (by omega)]
      congr 1
      rw [Bool.eq_iff_iff]
      simp
      omega
  · rw [if_neg (by omega)]
    by_cases h3 : 65 ≤ c.toNat
    · rw [if_pos (by omega)]
      congr 1
      rw [Bool.eq_iff_iff]
      simp
      omega
    · rw [if_neg (by omega)]
      congr 1
      rw [Bool.eq_iff_iff]
      simp
      omega
theorem bt_mid (pre : L) (c : UInt8) (r : L) : bt (mk (pre ++ c :: r)) (pre.length : Int) = (c.toNat : Int) := by
  rw [url_Strip.bt_get _ _ (by rw [mk_size]; simp), mk_data]
  simp [List.getD]
theorem scheme_l0 : ∀ (suf pre : L), (pre ++ suf).length ≤ 140737488355328 → Ev (fun k => url_Scheme.l0 k (mk (pre ++ suf)) ((pre ++ suf).length : Int) (pre.length : Int)) (mk (go pre suf).1, (go pre suf).2) := by
  intro suf
  induction suf with
  | nil =>
    intro pre h
    refine Ev.one (fun k => by rw [url_Scheme.l0]) ?_
    refine Ev.ite_neg (by simp) ?_
    exact Ev.now _
  | cons c r ih =>
    intro pre h
    have hl : (pre ++ c :: r).length = pre.length + r.length + 1 := by simp; omega
    have hw : wrap64 ((pre.length : Int) + 1) = ((pre ++ [c]).length : Int) := by rw [wrap_succ (n := pre.length + 1) (by omega) (by omega)]; simp
    have hih := ih (pre ++ [c]) (by simpa using h)
    rw [List.append_assoc, List.singleton_append] at hih
    -- the join, by whether the byte belongs to a scheme
    have hj : ∀ q : Bool, q = (isL c || (decide (pre ≠ []) && isT c)) → Ev (fun k => url_Scheme.j1 k (mk (pre ++ c :: r)) (pre.length : Int) (c.toNat : Int) ((pre ++ c :: r).length : Int) (pre.length : Int) q) (mk (go pre (c :: r)).1, (go pre (c :: r)).2) := by
      intro q hq
      refine Ev.one (fun k => by rw [url_Scheme.j1]) ?_
      by_cases hqt : q = true
      · have hgo : go pre (c :: r) = go (pre ++ [c]) r := by rw [go, ← hq, if_pos hqt]
        rw [hgo, hw]
        exact Ev.ite_pos hqt hih
      · refine Ev.ite_neg hqt ?_
        by_cases h58 : c.toNat = 58
        · refine Ev.ite_pos (by omega) ?_
          by_cases hp : pre = []
          · have hgo : go pre (c :: r) = ([], false) := by rw [go, ← hq, if_neg hqt, if_neg (fun h => h.2 hp)]
            rw [hgo]
            exact Ev.ite_neg (by rw [hp]; simp) (Ev.now _)
          · have hgo : go pre (c :: r) = (pre.map tok_Small.sm, true) := by rw [go, ← hq, if_neg hqt, if_pos ⟨h58, hp⟩]
            rw [hgo]
            have : pre.length ≠ 0 := fun h => hp (List.length_eq_zero_iff.1 h)
            refine Ev.ite_pos (by omega) (Ev.ite_pos (by omega) (Ev.ite_pos (by rw [mk_size]; omega) ?_))
            refine Ev.bnd0 (a := mk (pre.map tok_Small.sm)) ?_ (Ev.now _)
            rw [Int.toNat_natCast, ext_mk, List.take_left]
            refine (if_pos (by rw [mk_size]; omega)).trans ?_
            rfl
        · have hgo : go pre (c :: r) = ([], false) := by rw [go, ← hq, if_neg hqt, if_neg (fun h => h58 h.1)]
          rw [hgo]
          exact Ev.ite_neg (by omega) (Ev.now _)
    refine Ev.one (fun k => by rw [url_Scheme.l0]) ?_
    refine Ev.ite_pos (by omega) (Ev.ite_pos (by omega) (Ev.ite_pos (by rw [mk_size]; omega) ?_))
    rw [bt_mid]
    refine Ev.bnd0 (letter_ev c) ?_
    by_cases hL : isL c = true
    · rw [hL]
      exact Ev.ite_pos rfl (hj true (by rw [hL]; rfl))
    · have hL := Bool.eq_false_iff.2 hL
      rw [hL] at hj ⊢
      refine Ev.ite_neg (by simp) ?_
      by_cases hp : pre = []
      · refine Ev.ite_neg (by rw [hp]; simp) (hj false (by simp [hp]))
      · have : pre.length ≠ 0 := fun h => hp (List.length_eq_zero_iff.1 h)
        refine Ev.ite_pos (by omega) ?_
        have hdp : decide (pre ≠ []) = true := decide_eq_true hp
        rw [hdp] at hj
        by_cases h48 : 48 ≤ c.toNat
        · refine Ev.ite_pos (by omega) ?_
          by_cases h57 : c.toNat ≤ 57
          · exact Ev.ite_pos (by omega) (hj true (by simp [isT, h48, h57]))
          · refine Ev.ite_neg (by omega) (Ev.ite_neg (by omega) (Ev.ite_neg (by omega) ?_))
            have e : (((c.toNat : Int) == 46) : Bool) = false := by simp; omega
            rw [e]
            exact hj false (by simp [isT]; omega)
        · refine Ev.ite_neg (by omega) ?_
          by_cases h43 : c.toNat = 43
          · exact Ev.ite_pos (by omega) (hj true (by simp [isT, h43]))
          · refine Ev.ite_neg (by omega) ?_
            by_cases h45 : c.toNat = 45
            · exact Ev.ite_pos (by omega) (hj true (by simp [isT, h45]))
            · refine Ev.ite_neg (by omega) ?_
              refine hj _ ?_
              rw [Bool.eq_iff_iff]
              simp [isT]
              omega
theorem scheme_ev (s : ByteArray) (h : s.size ≤ 140737488355328) : Ev (fun k => url_Scheme.f k s) (mk (go [] (strip s.data.toList)).1, (go [] (strip s.data.toList)).2) := by
  have hl := strip_len s.data.toList
  have hs : s.data.toList.length = s.size := Array.length_toList
  have h0 := scheme_l0 (strip s.data.toList) [] (by simp only [List.nil_append]; omega)
  refine Ev.bnd0 (strip_f s h) ?_
  rw [mk_size]
  exact h0
end Go.Proofs.YteimhgbihpbhaaaDoor.Url
end
section
namespace Go.Proofs.YteimhgbihpbhaaaDoor.Url
open Go.RowKit Go.Proofs.YteimhgbihpbhaaaDoor.X Go.Proofs.YteimhgbihpbhaaaDoorW.PrintWords Go.Proofs.YteimhgbihpbhaaaDoorW.PrintLast Go.Proofs.YteimhgbihpbhaaaDoor.Base
set_option linter.unusedVariables false
set_option linter.unusedSimpArgs false
instance decB : DecidableEq ByteArray := fun a b => decidable_of_iff (a.toList = b.toList) toList_inj
instance decM (s : ByteArray) (l : List ByteArray) : Decidable (s ∈ l) := decidable_of_iff (l.any (fun x => decide (x.toList = s.toList)) = true) (by
  rw [List.any_eq_true]
  constructor
  · rintro ⟨x, hx, h⟩; rw [← toList_inj.1 (of_decide_eq_true h)]; exact hx
  · intro h; exact ⟨s, h, decide_eq_true rfl⟩)
theorem pick_ev (xa : Int) (n : Int) (h0 : 0 < n) (hn : n ≤ 4294967296) : bobbinetkeep_Picked.f xa n = some (xa % n) := by
  unfold bobbinetkeep_Picked.f
  rw [if_neg (by omega), ← picked_eq xa n h0 hn]
  split <;> rfl
theorem rdB_at (l : List ByteArray) (i : Nat) (h : i < l.length) : rdOf ByteArray.empty l (i : Int) = l[i] := by
  simp [rdOf, List.getD, h]
theorem index_l0 (l : List ByteArray) (s : ByteArray) (hl : l.length < 1000000) : ∀ (d i : Nat) (k : Nat), l.length - i = d → i ≤ l.length → d < k → ∃ r : Int, slices_Index_string_string.l0 k l s (l.length : Int) (i : Int) = some r ∧ (decide (r ≥ 0) = decide (s ∈ l.drop i)) := by
  intro d
  induction d with
  | zero =>
    intro i k hd hi hk
    obtain ⟨m, rfl⟩ : ∃ m, k = m + 1 := ⟨k - 1, by omega⟩
    refine ⟨-1, ?_, ?_⟩
    · rw [slices_Index_string_string.l0, if_neg (by omega)]
    · rw [List.drop_eq_nil_of_le (by omega)]; simp
  | succ d ih =>
    intro i k hd hi hk
    obtain ⟨m, rfl⟩ : ∃ m, k = m + 1 := ⟨k - 1, by omega⟩
    have hlt : i < l.length := by omega
    have hw : wrap64 ((i : Int) + 1) = ((i + 1 : Nat) : Int) := wrap_succ hlt (by omega)
    rw [slices_Index_string_string.l0, if_pos (by omega), if_pos (by omega), if_pos (by omega), rdB_at l i hlt]
    by_cases h : s.toList = l[i].toList
    · rw [if_pos h]
      refine ⟨i, rfl, ?_⟩
      have e := List.drop_eq_getElem_cons hlt
      rw [toList_inj.1 h, decide_eq_true (show (i : Int) ≥ 0 by omega), decide_eq_true (show l[i] ∈ l.drop i by rw [e]; exact List.mem_cons_self)]
    · rw [if_neg h, hw]
      obtain ⟨r, h1, h2⟩ := ih (i + 1) m (by omega) (by omega) (by omega)
      refine ⟨r, h1, h2.trans ?_⟩
      have hne : s ≠ l[i] := fun e => h (by rw [e])
      have e := List.drop_eq_getElem_cons hlt
      exact decide_eq_decide.2 ⟨fun h => by rw [e]; exact List.mem_cons_of_mem _ h, fun h => by rw [e] at h; exact (List.mem_cons.1 h).resolve_left hne⟩
theorem contains_eq (l : List ByteArray) (s : ByteArray) (hl : l.length < 1000000) (k : Nat) (hk : l.length < k) : slices_Contains_string_string.f k l s = some (decide (s ∈ l)) := by
  unfold slices_Contains_string_string.f slices_Index_string_string.f
  obtain ⟨r, h1, h2⟩ := index_l0 l s hl l.length 0 k (by omega) (by omega) hk
  have h3 : slices_Index_string_string.l0 k l s (l.length : Int) 0 = some r := h1
  rw [h3, Option.bind_some, h2, List.drop_zero]
theorem contains_ev (l : List ByteArray) (s : ByteArray) (hl : l.length < 1000000) : Ev (fun k => slices_Contains_string_string.f k l s) (decide (s ∈ l)) := ⟨l.length + 1, fun k hk => contains_eq l s hl k hk⟩
theorem mk_inj {a b : L} : mk a = mk b ↔ a = b := ⟨fun h => by have := congrArg (fun s => s.data.toList) h; simpa [mk] using this, fun h => by rw [h]⟩
theorem mem_map {x : L} {l : List L} : mk x ∈ l.map mk ↔ x ∈ l := by
  rw [List.mem_map]
  exact ⟨fun ⟨y, hy, e⟩ => mk_inj.1 e ▸ hy, fun h => ⟨x, h, rfl⟩⟩
theorem colon : (⟨#[58]⟩ : ByteArray) = mk [58] := rfl
theorem schemes_l0 (l : List L) (hl : l.length ≤ 40) (hs : ∀ x ∈ l, x.length ≤ 1000 ∧ go [] (strip (x ++ [58])) = (x, true)) : ∀ (d i : Nat), l.length - i = d → i ≤ l.length → Ev (fun k => url_Schemes.l0 k (l.map mk) ((l.map mk).length : Int) (i : Int)) 0 := by
  intro d
  induction d with
  | zero =>
    intro i hd hi
    refine Ev.one (fun k => by rw [url_Schemes.l0]) ?_
    exact Ev.ite_neg (by rw [List.length_map]; omega) (Ev.now _)
  | succ d ih =>
    intro i hd hi
    have hi' : i < l.length := by omega
    obtain ⟨h1, h2⟩ := hs l[i] (List.getElem_mem hi')
    have hrd : rdOf ByteArray.empty (l.map mk) (i : Int) = mk l[i] := by rw [rdB_at _ _ (by rw [List.length_map]; exact hi')]; simp
    refine Ev.one (fun k => by rw [url_Schemes.l0]) ?_
    rw [hrd, colon, mk_app]
    have h3 := scheme_ev (mk (l[i] ++ [58])) (by rw [mk_size, List.length_append]; simp; omega)
    rw [mk_data, h2] at h3
    refine Ev.ite_pos (by rw [List.length_map]; omega) (Ev.ite_pos (by omega) (Ev.ite_pos (by rw [List.length_map]; omega) (Ev.ite_pos (by rw [mk_size]; omega) (Ev.bnd h3 (Ev.ite_pos rfl (Ev.ite_pos rfl ?_))))))
    rw [wrap_succ (n := l.length) hi' (by omega)]
    exact ih (i + 1) (by omega) (by omega)
theorem schemes_ev (l : List L) (hl : l.length ≤ 40) (hs : ∀ x ∈ l, x.length ≤ 1000 ∧ go [] (strip (x ++ [58])) = (x, true)) : Ev (fun k => url_Schemes.f k (l.map mk)) 0 := by
  refine Ev.ite_neg (by rw [List.length_map]; omega) ?_
  exact schemes_l0 l hl hs _ 0 rfl (Nat.zero_le _)
def safe (s : L) (l : List L) : Bool := !(go [] (strip s)).2 || decide ((go [] (strip s)).1 ∈ l)
theorem safe_ev (s : ByteArray) (h : s.size ≤ 140737488355328) (l : List L) (hl : l.length ≤ 40) (hs : ∀ x ∈ l, x.length ≤ 1000 ∧ go [] (strip (x ++ [58])) = (x, true)) : Ev (fun k => url_Safe.f k s (l.map mk)) (safe s.data.toList l, 0) := by
  refine Ev.bnd (schemes_ev l hl hs) (Ev.ite_pos rfl (Ev.bnd (a := safe s.data.toList l) ?_ (Ev.now _)))
  unfold safe
  refine Ev.bnd (scheme_ev s h) ?_
  by_cases h2 : (go [] (strip s.data.toList)).2 = true
  · refine Ev.ite_pos h2 ?_
    have h3 := contains_ev (l.map mk) (mk (go [] (strip s.data.toList)).1) (by rw [List.length_map]; omega)
    rw [h2]
    have e : decide (mk (go [] (strip s.data.toList)).1 ∈ l.map mk) = (!true || decide ((go [] (strip s.data.toList)).1 ∈ l)) := by
      rw [Bool.eq_iff_iff]
      simp [mem_map]
    rw [← e]
    exact Ev.bnd h3 (Ev.now _)
  · refine Ev.ite_neg h2 ?_
    rw [Bool.eq_false_iff.2 h2]
    exact Ev.now _
theorem go_letters : ∀ (ls pre z : L), (∀ c ∈ ls, isL c = true) → pre ++ ls ≠ [] → go pre (ls ++ 58 :: z) = ((pre ++ ls).map tok_Small.sm, true)
  | [], pre, z, _, hn => by
    rw [List.append_nil] at hn ⊢
    rw [List.nil_append, go, if_neg (by simp [isL, isT]), if_pos ⟨rfl, hn⟩]
  | c :: ls, pre, z, h, hn => by
    rw [List.cons_append, go, h c List.mem_cons_self, Bool.true_or, if_pos rfl, go_letters ls (pre ++ [c]) z (fun d hd => h d (List.mem_cons_of_mem _ hd)) (by simp)]
    simp
theorem letter_big {c : UInt8} (h : isL c = true) : 32 < c.toNat := by
  simp [isL] at h
  omega
end Go.Proofs.YteimhgbihpbhaaaDoor.Url
end
section
namespace Go.Proofs.YteimhgbihpbhaaaDoor.Pure
open Go.RowKit Go.Proofs.YteimhgbihpbhaaaDoor.X Go.Proofs.YteimhgbihpbhaaaDoorW.PrintWords Go.Proofs.YteimhgbihpbhaaaDoorW.PrintLast Go.Proofs.YteimhgbihpbhaaaDoor.Base Go.Proofs.YteimhgbihpbhaaaDoor.Url
def pres : List L := [[], [32], [9, 10], [0, 31, 32]]
def gaps : List L := [[], [9], [10], [13, 10]]
abbrev smalls : ByteArray := ⟨#[97, 98, 99, 100, 101, 102, 103, 104, 105, 106, 107, 108, 109, 110, 111, 112, 113, 114, 115, 116, 117, 118, 119, 120, 121, 122]⟩
abbrev bigs : ByteArray := ⟨#[65, 66, 67, 68, 69, 70, 71, 72, 73, 74, 75, 76, 77, 78, 79, 80, 81, 82, 83, 84, 85, 86, 87, 88, 89, 90]⟩
def sml (m : Nat) : UInt8 := UInt8.ofNat (97 + m)
def big (m : Nat) : UInt8 := UInt8.ofNat (65 + m)
theorem cut_small : ∀ m < 26, (smalls.extract m smalls.size).extract 0 1 = mk [sml m] := by decide +kernel
theorem cut_big : ∀ m < 26, (bigs.extract m bigs.size).extract 0 1 = mk [big m] := by decide +kernel
theorem let_all : ∀ m < 26, isL (sml m) = true ∧ isL (big m) = true ∧ tok_Small.sm (sml m) = sml m ∧ tok_Small.sm (big m) = sml m ∧ gone (sml m) = false ∧ gone (big m) = false := by decide +kernel
theorem gaps_some : (some (([(⟨#[]⟩ : ByteArray), (⟨#[9]⟩ : ByteArray), (⟨#[10]⟩ : ByteArray), (⟨#[13, 10]⟩ : ByteArray)] : List ByteArray) : List ByteArray)) = some (gaps.map mk) := rfl
theorem gaps_gone : ∀ g ∈ gaps, (g.filter fun c => !gone c) = [] ∧ g.length ≤ 2 := by decide +kernel
theorem pres_small : ∀ p ∈ pres, (∀ x ∈ p, x.toNat ≤ 32) ∧ p.length ≤ 3 := by decide +kernel
/-- what stands behind so many rounds -/
structure Inv (i : Nat) (sch body : L) : Prop where
  len : sch.length ≤ i
  bod : body.length ≤ 3 * i
  lets : ((body.filter fun c => !gone c).map tok_Small.sm) = sch
  all : ∀ c ∈ body.filter fun c => !gone c, isL c = true
  low : sch.map tok_Small.sm = sch ∧ (∀ c ∈ sch, isL c = true) ∧ (sch.filter fun c => !gone c) = sch
  head : ∀ c, body.head? = some c → isL c = true
theorem Inv.step {i : Nat} {sch body : L} (h : Inv i sch body) {m : Nat} (hm : m < 26) {c : UInt8} (hc : c = sml m ∨ c = big m) {g : L} (hg : g ∈ gaps) : Inv (i + 1) (sch ++ [sml m]) (body ++ [c] ++ g) := by
  obtain ⟨h1, h2, h3, h4, h5, h6⟩ := let_all m hm
  obtain ⟨g1, g2⟩ := gaps_gone g hg
  have hcl : isL c = true := by rcases hc with rfl | rfl <;> assumption
  have hcs : tok_Small.sm c = sml m := by rcases hc with rfl | rfl <;> assumption
  have hcg : gone c = false := by rcases hc with rfl | rfl <;> assumption
  have hf : ((body ++ [c] ++ g).filter fun c => !gone c) = (body.filter fun c => !gone c) ++ [c] := by
    rw [List.filter_append, List.filter_append, g1, List.append_nil, List.filter_cons, if_pos (by rw [hcg]; rfl)]
    rfl
  refine ⟨?_, ?_, ?_, ?_, ⟨?_, ?_, ?_⟩, ?_⟩
  · have := h.len; simp; omega
  · have := h.bod; simp; omega
  · rw [hf, List.map_append, h.lets, List.map_cons, hcs]; rfl
  · intro d hd
    rw [hf] at hd
    rcases List.mem_append.1 hd with hd | hd
    · exact h.all d hd
    · rw [List.mem_singleton.1 hd]; exact hcl
  · rw [List.map_append, h.low.1, List.map_cons, h3]; rfl
  · intro d hd
    rcases List.mem_append.1 hd with hd | hd
    · exact h.low.2.1 d hd
    · rw [List.mem_singleton.1 hd]; exact h1
  · rw [List.filter_append, h.low.2.2, List.filter_cons, if_pos (by rw [h5]; rfl)]; rfl
  · intro d hd
    cases body with
    | nil => obtain rfl := Option.some.inj hd; exact hcl
    | cons b body => exact h.head d hd
theorem Inv.scheme {i : Nat} {sch body : L} (h : Inv i sch body) (hn : sch ≠ []) {p : L} (hp : ∀ x ∈ p, x.toNat ≤ 32) (z : L) : go [] (strip (p ++ body ++ [58] ++ z)) = (sch, true) := by
  have hl := h.lets
  have ha := h.all
  cases body with
  | nil => exact absurd hl.symm hn
  | cons c b =>
    have hc := letter_big (h.head c rfl)
    obtain ⟨y, hy⟩ := strip_form (p := p) (b := b) (c := c) (d := 58) z hp hc (by decide)
    have e : p ++ (c :: b) ++ [58] ++ z = p ++ (c :: (b ++ 58 :: z)) := by simp
    rw [e, hy]
    rw [List.filter_cons, if_pos (by rw [gone_small hc]; rfl)] at hl ha
    have h2 := go_letters (c :: b.filter fun c => !gone c) [] y ha (by simp)
    rw [List.nil_append, hl] at h2
    exact h2
theorem Inv.self {i : Nat} {sch body : L} (h : Inv i sch body) (hn : sch ≠ []) : go [] (strip (sch ++ [58])) = (sch, true) := by
  have h2 : Inv (sch.length) sch sch := ⟨Nat.le_refl _, by omega, by rw [h.low.2.2, h.low.1], by rw [h.low.2.2]; exact h.low.2.1, h.low, fun c hc => h.low.2.1 c (List.mem_of_mem_head? hc)⟩
  have := h2.scheme hn (p := []) (by simp) []
  simpa using this
def http : L := [104, 116, 116, 112]
def https : L := [104, 116, 116, 112, 115]
theorem http_ok : ∀ x ∈ [http, https], x.length ≤ 1000 ∧ go [] (strip (x ++ [58])) = (x, true) := by decide +kernel
theorem UrlHidden : bobbinetkeep_UrlHidden.Pure := by
  intro l0 l1 a2 h1 h2 h3 h4 h5 h6 h7
  have hal : a2.data.toList.length = a2.size := Array.length_toList
  -- behind the loop
  have last : ∀ (i : Nat) (p sch body : L), p ∈ pres → i ≤ 12 → Inv i sch body → Ev (fun k => bobbinetkeep_UrlHidden.j1 k l0 l1 a2 (mk sch) (mk (p ++ body)) (i : Int) false) true := by
    intro i p sch body hp hi h
    obtain ⟨p1, p2⟩ := pres_small p hp
    have hb := h.bod
    have hs := h.len
    refine Ev.one (fun k => by rw [bobbinetkeep_UrlHidden.j1]) (Ev.ite_neg (by simp) ?_)
    by_cases hn : sch = []
    · refine Ev.ite_pos (by rw [mk_toList]; exact hn) ?_
      have e3 : url_Strip.f (⟨#[32, 97, 32]⟩ : ByteArray) = some (mk [97]) := (strip_f _ (by decide)).trans (by decide +kernel)
      refine Ev.bnd0 e3 ?_
      have e4 : ((mk [97]).toList == ([97] : List UInt8)) = true := by rw [mk_toList]; rfl
      rw [e4]
      exact Ev.now _
    · refine Ev.ite_neg (by rw [mk_toList]; exact hn) ?_
      have e1 : mk (p ++ body) ++ (⟨#[58]⟩ : ByteArray) = mk (p ++ body ++ [58]) := by rw [colon, mk_app]
      have e2 : mk (p ++ body ++ [58]) ++ a2 = mk (p ++ body ++ [58] ++ a2.data.toList) := by rw [← mk_app _ a2.data.toList, mk_list]
      have hz : (mk (p ++ body ++ [58] ++ a2.data.toList)).size ≤ 140737488355328 := by rw [mk_size]; simp only [List.length_append, List.length_singleton]; omega
      have hg := h.scheme hn p1 a2.data.toList
      have s1 := scheme_ev _ hz
      have s2 := safe_ev _ hz [http, https] (by decide) http_ok
      have s3 := safe_ev _ hz [sch] (by simp) (fun x hx => by rw [List.mem_singleton.1 hx]; exact ⟨by omega, h.self hn⟩)
      rw [mk_data, hg] at s1
      rw [mk_data] at s2 s3
      have v2 : safe (p ++ body ++ [58] ++ a2.data.toList) [http, https] = decide (sch ∈ [http, https]) := by unfold safe; rw [hg]; rfl
      have v3 : safe (p ++ body ++ [58] ++ a2.data.toList) [sch] = true := by unfold safe; rw [hg]; simp
      rw [v2] at s2
      rw [v3] at s3
      refine Ev.ite_pos (by rw [mk_size, List.length_append]; omega) ?_
      rw [e1, e2]
      refine Ev.ite_pos (by rw [mk_size]; simp only [List.length_append, List.length_singleton]; omega) (Ev.bnd s1 (Ev.bnd s2 (Ev.bnd s3 (Ev.ite_pos rfl (Ev.ite_pos rfl (Ev.ite_pos rfl (Ev.ite_pos rfl (Ev.ite_pos rfl ?_))))))))
      rw [mk_toList]
      by_cases hh : sch = http
      · refine Ev.ite_pos hh ?_
        have : (decide (sch ∈ [http, https]) == true) = true := by rw [hh]; decide
        rw [this]
        exact Ev.now _
      · refine Ev.ite_neg hh ?_
        have : (decide (sch ∈ [http, https]) == (sch == ([104, 116, 116, 112, 115] : List UInt8))) = true := by
          have hq : (sch ∈ [http, https]) ↔ sch = https := by simp [hh]
          rw [beq_iff_eq, Bool.eq_iff_iff, decide_eq_true_eq, hq, beq_iff_eq]
          rfl
        rw [this]
        exact Ev.now _
  have main : ∀ (p : L), p ∈ pres → ∀ (d i : Nat) (sch body : L), 12 - i = d → i ≤ 12 → Inv i sch body → Ev (fun k => bobbinetkeep_UrlHidden.l0 k l0 l1 a2 (mk sch) (mk (p ++ body)) (i : Int)) true := by
    intro p hp d
    induction d with
    | zero =>
      intro i sch body hd hi h
      refine Ev.one (fun k => by rw [bobbinetkeep_UrlHidden.l0]) ?_
      have e : decide ((i : Int) < 12) = false := decide_eq_false (by omega)
      rw [e]
      by_cases hl : (i : Int) < (l0.length : Int)
      · exact Ev.ite_pos hl (last i p sch body hp hi h)
      · exact Ev.ite_neg hl (last i p sch body hp hi h)
    | succ d ih =>
      intro i sch body hd hi h
      refine Ev.one (fun k => by rw [bobbinetkeep_UrlHidden.l0]) ?_
      have e : decide ((i : Int) < 12) = true := decide_eq_true (by omega)
      rw [e]
      by_cases hl : (i : Int) < (l0.length : Int)
      · refine Ev.ite_pos hl ?_
        refine Ev.one (fun k => by rw [bobbinetkeep_UrlHidden.j1]) (Ev.ite_pos rfl (Ev.ite_pos (by omega) (Ev.ite_pos hl ?_)))
        obtain ⟨p1, p2⟩ := pres_small p hp
        have hb := h.bod
        have hs := h.len
        have q1 : sch.length + 1 ≤ 9223372036854775807 := by omega
        have q2 : p.length + body.length + 1 ≤ 9223372036854775807 := by omega
        have q3 : ∀ g : Nat, g ≤ 2 → p.length + body.length + 1 + g ≤ 9223372036854775807 := fun g hg => by omega
        have i11 : i < 12 := by omega
        have hd1 : 12 - (i + 1) = d := by omega
        clear hb hs p2
        have hw : wrap64 ((i : Int) + 1) = ((i + 1 : Nat) : Int) := wrap_succ (n := 12) (by omega) (by omega)
        have hp1 := pick_ev (rd l0 (i : Int)) 52 (by decide) (by decide)
        obtain ⟨n, hn, hn52⟩ : ∃ n : Nat, (rd l0 (i : Int)) % 52 = (n : Int) ∧ n < 52 := ⟨((rd l0 (i : Int)) % 52).toNat, by omega, by omega⟩
        rw [hn] at hp1
        refine Ev.bnd0 hp1 ?_
        have ht : Int.tmod (n : Int) 26 = ((n % 26 : Nat) : Int) := by rw [Int.tmod_eq_emod_of_nonneg (by omega)]; rfl
        obtain ⟨m, hm⟩ : ∃ m, n % 26 = m := ⟨_, rfl⟩
        have hm26 : m < 26 := by omega
        have z1 : (smalls.extract m smalls.size).size = 26 - m := by rw [ByteArray.size_extract]; show min 26 26 - m = _; omega
        have z2 : (bigs.extract m bigs.size).size = 26 - m := by rw [ByteArray.size_extract]; show min 26 26 - m = _; omega
        rw [ht, hm, Int.toNat_natCast, z1, z2, cut_small m hm26, cut_big m hm26]
        clear z1 z2
        refine Ev.ite_pos (by omega) ?_
        refine Ev.ite_pos (by omega) ?_
        refine Ev.ite_pos (by omega) ?_
        refine Ev.ite_pos (by omega) ?_
        refine Ev.ite_pos (by omega) ?_
        refine Ev.ite_pos (by rw [mk_size, mk_size, List.length_singleton]; exact q1) ?_
        rw [mk_app]
        have fin : ∀ (c : UInt8), (c = sml m ∨ c = big m) → Ev (fun k => if (mk (p ++ body)).size + (mk [c]).size ≤ 9223372036854775807 then (if (i : Int) < (l1.length : Int) then ((some (([(⟨#[]⟩ : ByteArray), (⟨#[9]⟩ : ByteArray), (⟨#[10]⟩ : ByteArray), (⟨#[13, 10]⟩ : ByteArray)] : List ByteArray) : List ByteArray)).bind fun y => ((bobbinetkeep_Picked.f (rd l1 (i : Int)) 4).bind fun t => (if 0 ≤ t then (if t < (y.length : Int) then (if (mk (p ++ body) ++ mk [c]).size + (rdOf ByteArray.empty y t).size ≤ 9223372036854775807 then (bobbinetkeep_UrlHidden.l0 k l0 l1 a2 (mk (sch ++ [sml m])) ((mk (p ++ body) ++ mk [c]) ++ (rdOf ByteArray.empty y t)) (wrap64 ((i : Int) + 1))) else none) else none) else none))) else (bobbinetkeep_UrlHidden.l0 k l0 l1 a2 (mk (sch ++ [sml m])) (mk (p ++ body) ++ mk [c]) (wrap64 ((i : Int) + 1)))) else none) true := by
          intro c hc
          refine Ev.ite_pos (by simp only [mk_size, List.length_singleton, List.length_append]; exact q2) ?_
          rw [mk_app, hw]
          by_cases h1l : (i : Int) < (l1.length : Int)
          · refine Ev.ite_pos h1l ?_
            refine Ev.bnd0 gaps_some ?_
            have hp2 := pick_ev (rd l1 (i : Int)) 4 (by decide) (by decide)
            obtain ⟨q, hq, hq4⟩ : ∃ q : Nat, (rd l1 (i : Int)) % 4 = (q : Int) ∧ q < 4 := ⟨((rd l1 (i : Int)) % 4).toNat, by omega, by omega⟩
            rw [hq] at hp2
            have hgl : (gaps.map mk).length = 4 := rfl
            have hrd : rdOf ByteArray.empty (gaps.map mk) (q : Int) = mk (gaps[q]'hq4) := by rw [rdB_at _ _ (by rw [hgl]; exact hq4), List.getElem_map]; rfl
            have hgm : gaps[q]'hq4 ∈ gaps := List.getElem_mem _
            obtain ⟨g1, g2⟩ := gaps_gone _ hgm
            refine Ev.bnd0 hp2 (Ev.ite_pos (by omega) (Ev.ite_pos (by rw [hgl]; omega) ?_))
            rw [hrd]
            refine Ev.ite_pos (by simp only [mk_size, List.length_singleton, List.length_append]; exact q3 _ g2) ?_
            rw [mk_app]
            have := ih (i + 1) _ _ hd1 i11 (h.step hm26 hc hgm)
            simpa [List.append_assoc] using this
          · refine Ev.ite_neg h1l ?_
            have := ih (i + 1) _ _ hd1 i11 (h.step hm26 hc (g := []) (by simp [gaps]))
            simpa [List.append_assoc] using this
        by_cases h26 : n ≥ 26
        · exact Ev.ite_pos (by omega) (fin (big m) (.inr rfl))
        · exact Ev.ite_neg (by omega) (fin (sml m) (.inl rfl))
      · refine Ev.ite_neg hl (last i p sch body hp hi h)
  have hp := pick_ev (l1.length : Int) 4 (by decide) (by decide)
  obtain ⟨n, hn, hn4⟩ : ∃ n : Nat, (l1.length : Int) % 4 = (n : Int) ∧ n < 4 := ⟨((l1.length : Int) % 4).toNat, by omega, by omega⟩
  rw [hn] at hp
  have hpl : (pres.map mk).length = 4 := rfl
  have hrd : rdOf ByteArray.empty (pres.map mk) (n : Int) = mk (pres[n]'hn4) := by rw [rdB_at _ _ (by rw [hpl]; exact hn4), List.getElem_map]; rfl
  have all : Ev (fun k => bobbinetkeep_UrlHidden.f k l0 l1 a2) true := by
    refine Ev.bnd0 (a := pres.map mk) rfl (Ev.bnd0 hp (Ev.ite_pos (by omega) (Ev.ite_pos (by rw [hpl]; omega) ?_)))
    rw [hrd]
    have := main (pres[n]'hn4) (List.getElem_mem _) 12 0 [] [] rfl (by decide) ⟨by simp, by simp, rfl, by simp, ⟨rfl, by simp, rfl⟩, by simp⟩
    rw [List.append_nil] at this
    exact this
  obtain ⟨K, hK⟩ := all
  exact ⟨K, hK K (Nat.le_refl _)⟩
end Go.Proofs.YteimhgbihpbhaaaDoor.Pure
end
