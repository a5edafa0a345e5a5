-- Written by xprint.py (a program of this repo) for seat Ythimfdojpgbmbaa.
import Derived.Test.YthimfdojpgbmbaaX0
import Derived.Test.YthimfdojpgbmbaaX1
import Derived.Test.YthimfdojpgbmbaaX4
namespace Go.Proofs.Ythimfdojpgbmbaa.X
open Go.RowKit Go.Proofs.YthimfdojpgbmbaaW.PrintWords Go.Proofs.YthimfdojpgbmbaaW.PrintLast Go.Proofs.YthimfdojpgbmbaaW.PrintMore
attribute [local go_sem] max2_int min2_int max_two min_two max_three min_three max_four min_four   -- for this text's walks alone
set_option linter.unusedVariables false
set_option linter.unusedSimpArgs false

/-! ### bobbinetkeep_CleanLines: function 4 -/
mutual
def bobbinetkeep_CleanLines.l0 : Nat → List Int → List Int → ByteArray → ByteArray → Int → Option (Bool)
  | 0, _, _, _, _, _ => none
  | k + 1, x0, x1, x5, x6, x7 => if x7 < (x0.length : Int) then (bobbinetkeep_CleanLines.j1 k x0 x1 x5 x6 x7 (decide (x7 < 40))) else (bobbinetkeep_CleanLines.j1 k x0 x1 x5 x6 x7 false)
def bobbinetkeep_CleanLines.j1 : Nat → List Int → List Int → ByteArray → ByteArray → Int → Bool → Option (Bool)
  | 0, _, _, _, _, _, _ => none
  | k + 1, x0, x1, x5, x6, x7, x17 => if x17 = true then ((some (([(⟨#[97]⟩ : ByteArray), (⟨#[98]⟩ : ByteArray), (⟨#[32]⟩ : ByteArray), (⟨#[60]⟩ : ByteArray)] : List ByteArray) : List ByteArray)).bind fun y139 => (if 0 ≤ x7 then (if x7 < (x0.length : Int) then ((bobbinetkeep_Picked.f (rd x0 x7) 4).bind fun t143 => (if 0 ≤ t143 then (if t143 < (y139.length : Int) then (if x7 < (x1.length : Int) then ((bobbinetkeep_Picked.f (rd x1 x7) 4).bind fun t146 => ((some (([(⟨#[]⟩ : ByteArray), (⟨#[10]⟩ : ByteArray), (⟨#[13, 10]⟩ : ByteArray), (⟨#[13]⟩ : ByteArray)] : List ByteArray) : List ByteArray)).bind fun y147 => (if 0 ≤ t146 then (if t146 < (y147.length : Int) then (if (rdOf ByteArray.empty y139 t143).size + (rdOf ByteArray.empty y147 t146).size ≤ 9223372036854775807 then (if x5.size + ((rdOf ByteArray.empty y139 t143) ++ (rdOf ByteArray.empty y147 t146)).size ≤ 9223372036854775807 then (if x6.size + (rdOf ByteArray.empty y139 t143).size ≤ 9223372036854775807 then (if t146 > 0 then (if (x6 ++ (rdOf ByteArray.empty y139 t143)).size + 1 ≤ 9223372036854775807 then (bobbinetkeep_CleanLines.l0 k x0 x1 (x5 ++ ((rdOf ByteArray.empty y139 t143) ++ (rdOf ByteArray.empty y147 t146))) ((x6 ++ (rdOf ByteArray.empty y139 t143)) ++ (⟨#[10]⟩ : ByteArray)) (wrap64 (x7 + 1))) else (none)) else (bobbinetkeep_CleanLines.l0 k x0 x1 (x5 ++ ((rdOf ByteArray.empty y139 t143) ++ (rdOf ByteArray.empty y147 t146))) (x6 ++ (rdOf ByteArray.empty y139 t143)) (wrap64 (x7 + 1)))) else (none)) else (none)) else (none)) else (none)) else (none)))) else ((some (([(⟨#[]⟩ : ByteArray), (⟨#[10]⟩ : ByteArray), (⟨#[13, 10]⟩ : ByteArray), (⟨#[13]⟩ : ByteArray)] : List ByteArray) : List ByteArray)).bind fun y151 => (if 0 < (y151.length : Int) then (if (rdOf ByteArray.empty y139 t143).size + (rdOf ByteArray.empty y151 0).size ≤ 9223372036854775807 then (if x5.size + ((rdOf ByteArray.empty y139 t143) ++ (rdOf ByteArray.empty y151 0)).size ≤ 9223372036854775807 then (if x6.size + (rdOf ByteArray.empty y139 t143).size ≤ 9223372036854775807 then (if 0 > 0 then (if (x6 ++ (rdOf ByteArray.empty y139 t143)).size + 1 ≤ 9223372036854775807 then (bobbinetkeep_CleanLines.l0 k x0 x1 (x5 ++ ((rdOf ByteArray.empty y139 t143) ++ (rdOf ByteArray.empty y151 0))) ((x6 ++ (rdOf ByteArray.empty y139 t143)) ++ (⟨#[10]⟩ : ByteArray)) (wrap64 (x7 + 1))) else (none)) else (bobbinetkeep_CleanLines.l0 k x0 x1 (x5 ++ ((rdOf ByteArray.empty y139 t143) ++ (rdOf ByteArray.empty y151 0))) (x6 ++ (rdOf ByteArray.empty y139 t143)) (wrap64 (x7 + 1)))) else (none)) else (none)) else (none)) else (none)))) else (none)) else (none))) else (none)) else (none))) else ((utf_Clean.f k x5).bind fun t137 => (if t137.toList = x6.toList then ((utf_Clean.f k (⟨#[97]⟩ : ByteArray)).bind fun t138 => (some (t138.toList == ([97] : List UInt8)))) else (some false)))
end
def bobbinetkeep_CleanLines.f (k : Nat) (l0 : List Int) (l1 : List Int) : Option (Bool) := bobbinetkeep_CleanLines.l0 k l0 l1 (⟨#[]⟩ : ByteArray) (⟨#[]⟩ : ByteArray) 0
theorem bobbinetkeep_CleanLines.mono_l : ∀ k, (∀ y0 y1 y2 y3 y4, LeO (bobbinetkeep_CleanLines.l0 k y0 y1 y2 y3 y4) (bobbinetkeep_CleanLines.l0 (k + 1) y0 y1 y2 y3 y4)) ∧ (∀ y0 y1 y2 y3 y4 y5, LeO (bobbinetkeep_CleanLines.j1 k y0 y1 y2 y3 y4 y5) (bobbinetkeep_CleanLines.j1 (k + 1) y0 y1 y2 y3 y4 y5))
  | 0 => ⟨fun _ _ _ _ _ r h => by simp [bobbinetkeep_CleanLines.l0] at h, fun _ _ _ _ _ _ r h => by simp [bobbinetkeep_CleanLines.j1] at h⟩
  | k + 1 => by
    obtain ⟨ih0, ih1⟩ := bobbinetkeep_CleanLines.mono_l k
    refine ⟨?_, ?_⟩
    · intro y0 y1 y2 y3 y4
      unfold bobbinetkeep_CleanLines.l0
      repeat' first
      | (with_reducible exact ih0 _ _ _ _ _)
      | (with_reducible exact ih1 _ _ _ _ _ _)
      | (with_reducible exact utf_Clean.mono _ _)
      | (with_reducible exact LeO.refl _)
      | (with_reducible exact LeO.none _)
      | (with_reducible refine LeO.ite ?_ ?_)
      | (with_reducible refine LeO.bind ?_ (fun _ => ?_))
      | exact ih0 _ _ _ _ _
      | exact ih1 _ _ _ _ _ _
      | exact utf_Clean.mono _ _
      | exact LeO.none _
      | refine LeO.ite ?_ ?_
      | refine LeO.bind ?_ (fun _ => ?_)
    · intro y0 y1 y2 y3 y4 y5
      unfold bobbinetkeep_CleanLines.j1
      repeat' first
      | (with_reducible exact ih0 _ _ _ _ _)
      | (with_reducible exact ih1 _ _ _ _ _ _)
      | (with_reducible exact utf_Clean.mono _ _)
      | (with_reducible exact LeO.refl _)
      | (with_reducible exact LeO.none _)
      | (with_reducible refine LeO.ite ?_ ?_)
      | (with_reducible refine LeO.bind ?_ (fun _ => ?_))
      | exact ih0 _ _ _ _ _
      | exact ih1 _ _ _ _ _ _
      | exact utf_Clean.mono _ _
      | exact LeO.none _
      | refine LeO.ite ?_ ?_
      | refine LeO.bind ?_ (fun _ => ?_)
theorem bobbinetkeep_CleanLines.mono : ∀ a0 a1 k, LeO (bobbinetkeep_CleanLines.f k a0 a1) (bobbinetkeep_CleanLines.f (k + 1) a0 a1) := by
  intro a0 a1 k
  obtain ⟨ih0, ih1⟩ := bobbinetkeep_CleanLines.mono_l k
  unfold bobbinetkeep_CleanLines.f
  repeat' first
      | (with_reducible exact ih0 _ _ _ _ _)
      | (with_reducible exact ih1 _ _ _ _ _ _)
      | (with_reducible exact utf_Clean.mono _ _)
      | (with_reducible exact LeO.refl _)
      | (with_reducible exact LeO.none _)
      | (with_reducible refine LeO.ite ?_ ?_)
      | (with_reducible refine LeO.bind ?_ (fun _ => ?_))
      | exact ih0 _ _ _ _ _
      | exact ih1 _ _ _ _ _ _
      | exact utf_Clean.mono _ _
      | exact LeO.none _
      | refine LeO.ite ?_ ?_
      | refine LeO.bind ?_ (fun _ => ?_)
set_option maxHeartbeats 8000000 in
set_option maxRecDepth 100000 in
theorem bobbinetkeep_CleanLines.calls (k : Nat) (A0 : Option Addr) (c0 : Nat) (l0 : List Int) (A1 : Option Addr) (c1 : Nat) (l1 : List Int) (r : Bool) (w : World) (hr0 : Kd.C (Kd.int .i64) w A0 l0.length l0) (hc0 : l0.length ≤ c0) (hr1 : Kd.C (Kd.int .i64) w A1 l1.length l1) (hc1 : l1.length ≤ c1) (h : bobbinetkeep_CleanLines.f k l0 l1 = some r) :
    Calls Try.prog 4 #[.slice A0 l0.length c0, .slice A1 l1.length c1] w fun e w' => e = .returned (.bool r) ∧ Below w.heap.size w w' := by
  have HR0 := Aside0.mk hr0
  have HC0 := Aside0.mk hc0
  clear hr0 hc0
  have HR1 := Aside0.mk hr1
  have HC1 := Aside0.mk hc1
  clear hr1 hc1
  have HB := Aside0.mk (Below.refl w.heap.size w)
  have H : (bobbinetkeep_CleanLines.l0 k l0 l1 (⟨#[]⟩ : ByteArray) (⟨#[]⟩ : ByteArray) 0) = some r := h
  clear h
  have H' := Aside0.mk H
  clear H
  go_enter Try.func4, Try.ntmps4
  go_wp2
  go_loopg [5, 6, 7] k (fun kq v5 v6 v7 w' => ∃ (x5_1 : ByteArray) (x6_1 : ByteArray) (x7_1 : Int), v5 = .string x5_1 ∧ v6 = .string x6_1 ∧ v7 = .int .i64 x7_1 ∧ Aside0 (bobbinetkeep_CleanLines.l0 kq l0 l1 x5_1 x6_1 x7_1 = some r) ∧ Aside0 (kq ≤ k) ∧ Aside0 (Below w.heap.size w w'))
  case atStart => exact ⟨((⟨#[]⟩ : ByteArray)), ((⟨#[]⟩ : ByteArray)), (0), (by first | rfl | (simp; done) | (simp [*]; done)), (by first | rfl | (simp; done) | (simp [*]; done)), (by first | rfl | (simp; done) | (simp [*]; done)), H', ⟨Nat.le_refl _⟩, ⟨by repeat (first | (with_reducible first | exact HB.out | apply below_alloc | apply pw_below_drewN | apply below_drew1) | exact HB.out)⟩⟩
  case round =>
    clear H'
    try clear c1
    try clear p2
    obtain ⟨x5_1, x6_1, x7_1, rfl, rfl, rfl, HA, HK1, HB⟩ := hrel
    cases gk with
    | zero => exact absurd HA.out (by simp [bobbinetkeep_CleanLines.l0])
    | succ k1 =>
      have H := HA.out
      clear HA
      simp only [bobbinetkeep_CleanLines.l0] at H
      have HC3 := Aside0.mk H
      clear H
      go_upto_region 4 with (fail)
      go_cut [17] (fun v17 wc => ∃ (kq : Nat) (x17_2 : Bool), v17 = .bool x17_2 ∧ Aside0 (bobbinetkeep_CleanLines.j1 kq l0 l1 x5_1 x6_1 x7_1 x17_2 = some r) ∧ Aside0 (kq ≤ k1) ∧ Aside0 (Below w.heap.size w wc))
      case first =>
        have H := HC3.out
        clear HC3
        by_cases c4 : x7_1 < (l0.length : Int)
        · rw [if_pos c4] at H
          have c4b0 : decide (x7_1 < (l0.length : Int)) = true := decide_eq_true c4
          clear c4
          (first | rw [c4b0] | (simp only [i64_w, i32_w]; rw [c4b0]) | skip)
          have H' := Aside0.mk H
          clear H
          go_wp2
          go_meet
          case rel => exact ⟨_, (decide (x7_1 < 40)), (by first | rfl | (simp; done) | (simp [*]; done)), H', ⟨by have := HK1.out; first | omega | exact Nat.le_refl _⟩, ⟨by repeat (first | (with_reducible first | exact HB.out | apply below_alloc | apply pw_below_drewN | apply below_drew1) | exact HB.out)⟩⟩
        · rw [if_neg c4] at H
          have c4b0 : decide (x7_1 < (l0.length : Int)) = false := decide_eq_false c4
          clear c4
          (first | rw [c4b0] | (simp only [i64_w, i32_w]; rw [c4b0]) | skip)
          have H' := Aside0.mk H
          clear H
          go_wp2
          go_meet
          case rel => exact ⟨_, (false), (by first | rfl | (simp; done) | (simp [*]; done)), H', ⟨by have := HK1.out; first | omega | exact Nat.le_refl _⟩, ⟨by repeat (first | (with_reducible first | exact HB.out | apply below_alloc | apply pw_below_drewN | apply below_drew1) | exact HB.out)⟩⟩
      case rest =>
        clear HC3
        try clear c1
        try clear p2
        try clear c4
        try clear c4b0
        try clear p2
        obtain ⟨kq, x17_2, rfl, HA, HJ2, HB⟩ := hcut
        cases kq with
        | zero => exact absurd HA.out (by simp [bobbinetkeep_CleanLines.j1])
        | succ kj2 =>
          have H := HA.out
          clear HA
          simp only [bobbinetkeep_CleanLines.j1] at H
          by_cases c5 : x17_2 = true
          · subst c5
            have H1 : ((some (([(⟨#[97]⟩ : ByteArray), (⟨#[98]⟩ : ByteArray), (⟨#[32]⟩ : ByteArray), (⟨#[60]⟩ : ByteArray)] : List ByteArray) : List ByteArray)).bind fun y139 => (if 0 ≤ x7_1 then (if x7_1 < (l0.length : Int) then ((bobbinetkeep_Picked.f (rd l0 x7_1) 4).bind fun t143 => (if 0 ≤ t143 then (if t143 < (y139.length : Int) then (if x7_1 < (l1.length : Int) then ((bobbinetkeep_Picked.f (rd l1 x7_1) 4).bind fun t146 => ((some (([(⟨#[]⟩ : ByteArray), (⟨#[10]⟩ : ByteArray), (⟨#[13, 10]⟩ : ByteArray), (⟨#[13]⟩ : ByteArray)] : List ByteArray) : List ByteArray)).bind fun y147 => (if 0 ≤ t146 then (if t146 < (y147.length : Int) then (if (rdOf ByteArray.empty y139 t143).size + (rdOf ByteArray.empty y147 t146).size ≤ 9223372036854775807 then (if x5_1.size + ((rdOf ByteArray.empty y139 t143) ++ (rdOf ByteArray.empty y147 t146)).size ≤ 9223372036854775807 then (if x6_1.size + (rdOf ByteArray.empty y139 t143).size ≤ 9223372036854775807 then (if t146 > 0 then (if (x6_1 ++ (rdOf ByteArray.empty y139 t143)).size + 1 ≤ 9223372036854775807 then (bobbinetkeep_CleanLines.l0 kj2 l0 l1 (x5_1 ++ ((rdOf ByteArray.empty y139 t143) ++ (rdOf ByteArray.empty y147 t146))) ((x6_1 ++ (rdOf ByteArray.empty y139 t143)) ++ (⟨#[10]⟩ : ByteArray)) (wrap64 (x7_1 + 1))) else (none)) else (bobbinetkeep_CleanLines.l0 kj2 l0 l1 (x5_1 ++ ((rdOf ByteArray.empty y139 t143) ++ (rdOf ByteArray.empty y147 t146))) (x6_1 ++ (rdOf ByteArray.empty y139 t143)) (wrap64 (x7_1 + 1)))) else (none)) else (none)) else (none)) else (none)) else (none)))) else ((some (([(⟨#[]⟩ : ByteArray), (⟨#[10]⟩ : ByteArray), (⟨#[13, 10]⟩ : ByteArray), (⟨#[13]⟩ : ByteArray)] : List ByteArray) : List ByteArray)).bind fun y151 => (if 0 < (y151.length : Int) then (if (rdOf ByteArray.empty y139 t143).size + (rdOf ByteArray.empty y151 0).size ≤ 9223372036854775807 then (if x5_1.size + ((rdOf ByteArray.empty y139 t143) ++ (rdOf ByteArray.empty y151 0)).size ≤ 9223372036854775807 then (if x6_1.size + (rdOf ByteArray.empty y139 t143).size ≤ 9223372036854775807 then (if 0 > 0 then (if (x6_1 ++ (rdOf ByteArray.empty y139 t143)).size + 1 ≤ 9223372036854775807 then (bobbinetkeep_CleanLines.l0 kj2 l0 l1 (x5_1 ++ ((rdOf ByteArray.empty y139 t143) ++ (rdOf ByteArray.empty y151 0))) ((x6_1 ++ (rdOf ByteArray.empty y139 t143)) ++ (⟨#[10]⟩ : ByteArray)) (wrap64 (x7_1 + 1))) else (none)) else (bobbinetkeep_CleanLines.l0 kj2 l0 l1 (x5_1 ++ ((rdOf ByteArray.empty y139 t143) ++ (rdOf ByteArray.empty y151 0))) (x6_1 ++ (rdOf ByteArray.empty y139 t143)) (wrap64 (x7_1 + 1)))) else (none)) else (none)) else (none)) else (none)))) else (none)) else (none))) else (none)) else (none))) = some r := by rw [if_pos rfl] at H; exact H
            clear H
            have H := H1
            clear H1
            obtain ⟨y139, hy139⟩ : ∃ y_ : List ByteArray, y_ = (([(⟨#[97]⟩ : ByteArray), (⟨#[98]⟩ : ByteArray), (⟨#[32]⟩ : ByteArray), (⟨#[60]⟩ : ByteArray)] : List ByteArray)) := ⟨_, rfl⟩
            replace H : (if 0 ≤ x7_1 then (if x7_1 < (l0.length : Int) then ((bobbinetkeep_Picked.f (rd l0 x7_1) 4).bind fun t143 => (if 0 ≤ t143 then (if t143 < (y139.length : Int) then (if x7_1 < (l1.length : Int) then ((bobbinetkeep_Picked.f (rd l1 x7_1) 4).bind fun t146 => ((some (([(⟨#[]⟩ : ByteArray), (⟨#[10]⟩ : ByteArray), (⟨#[13, 10]⟩ : ByteArray), (⟨#[13]⟩ : ByteArray)] : List ByteArray) : List ByteArray)).bind fun y147 => (if 0 ≤ t146 then (if t146 < (y147.length : Int) then (if (rdOf ByteArray.empty y139 t143).size + (rdOf ByteArray.empty y147 t146).size ≤ 9223372036854775807 then (if x5_1.size + ((rdOf ByteArray.empty y139 t143) ++ (rdOf ByteArray.empty y147 t146)).size ≤ 9223372036854775807 then (if x6_1.size + (rdOf ByteArray.empty y139 t143).size ≤ 9223372036854775807 then (if t146 > 0 then (if (x6_1 ++ (rdOf ByteArray.empty y139 t143)).size + 1 ≤ 9223372036854775807 then (bobbinetkeep_CleanLines.l0 kj2 l0 l1 (x5_1 ++ ((rdOf ByteArray.empty y139 t143) ++ (rdOf ByteArray.empty y147 t146))) ((x6_1 ++ (rdOf ByteArray.empty y139 t143)) ++ (⟨#[10]⟩ : ByteArray)) (wrap64 (x7_1 + 1))) else (none)) else (bobbinetkeep_CleanLines.l0 kj2 l0 l1 (x5_1 ++ ((rdOf ByteArray.empty y139 t143) ++ (rdOf ByteArray.empty y147 t146))) (x6_1 ++ (rdOf ByteArray.empty y139 t143)) (wrap64 (x7_1 + 1)))) else (none)) else (none)) else (none)) else (none)) else (none)))) else ((some (([(⟨#[]⟩ : ByteArray), (⟨#[10]⟩ : ByteArray), (⟨#[13, 10]⟩ : ByteArray), (⟨#[13]⟩ : ByteArray)] : List ByteArray) : List ByteArray)).bind fun y151 => (if 0 < (y151.length : Int) then (if (rdOf ByteArray.empty y139 t143).size + (rdOf ByteArray.empty y151 0).size ≤ 9223372036854775807 then (if x5_1.size + ((rdOf ByteArray.empty y139 t143) ++ (rdOf ByteArray.empty y151 0)).size ≤ 9223372036854775807 then (if x6_1.size + (rdOf ByteArray.empty y139 t143).size ≤ 9223372036854775807 then (if 0 > 0 then (if (x6_1 ++ (rdOf ByteArray.empty y139 t143)).size + 1 ≤ 9223372036854775807 then (bobbinetkeep_CleanLines.l0 kj2 l0 l1 (x5_1 ++ ((rdOf ByteArray.empty y139 t143) ++ (rdOf ByteArray.empty y151 0))) ((x6_1 ++ (rdOf ByteArray.empty y139 t143)) ++ (⟨#[10]⟩ : ByteArray)) (wrap64 (x7_1 + 1))) else (none)) else (bobbinetkeep_CleanLines.l0 kj2 l0 l1 (x5_1 ++ ((rdOf ByteArray.empty y139 t143) ++ (rdOf ByteArray.empty y151 0))) (x6_1 ++ (rdOf ByteArray.empty y139 t143)) (wrap64 (x7_1 + 1)))) else (none)) else (none)) else (none)) else (none)))) else (none)) else (none))) else (none)) else (none)) = some r := by first | (rw [hy139]; with_reducible exact H) | (have H2_ := (Option.bind_some _ _).symm.trans H; rw [hy139]; with_reducible exact H2_) | (have H2_ := (Option.bind_some _ _).symm.trans H; with_reducible exact H2_) | with_reducible exact H | (rw [hy139]; exact H) | exact H
            have Ny139 := Aside0.mk hy139
            clear hy139
            by_cases c6 : 0 ≤ x7_1
            · rw [if_pos c6] at H
              have c6b0 : decide (0 ≤ x7_1) = true := decide_eq_true c6
              clear c6
              by_cases c7 : x7_1 < (l0.length : Int)
              · rw [if_pos c7] at H
                have c7b0 : decide (x7_1 < (l0.length : Int)) = true := decide_eq_true c7
                clear c7
                replace H := Option.bind_eq_some_iff.mp H
                obtain ⟨t143, A80, H⟩ := H
                replace H : (if 0 ≤ t143 then (if t143 < (y139.length : Int) then (if x7_1 < (l1.length : Int) then ((bobbinetkeep_Picked.f (rd l1 x7_1) 4).bind fun t146 => ((some (([(⟨#[]⟩ : ByteArray), (⟨#[10]⟩ : ByteArray), (⟨#[13, 10]⟩ : ByteArray), (⟨#[13]⟩ : ByteArray)] : List ByteArray) : List ByteArray)).bind fun y147 => (if 0 ≤ t146 then (if t146 < (y147.length : Int) then (if (rdOf ByteArray.empty y139 t143).size + (rdOf ByteArray.empty y147 t146).size ≤ 9223372036854775807 then (if x5_1.size + ((rdOf ByteArray.empty y139 t143) ++ (rdOf ByteArray.empty y147 t146)).size ≤ 9223372036854775807 then (if x6_1.size + (rdOf ByteArray.empty y139 t143).size ≤ 9223372036854775807 then (if t146 > 0 then (if (x6_1 ++ (rdOf ByteArray.empty y139 t143)).size + 1 ≤ 9223372036854775807 then (bobbinetkeep_CleanLines.l0 kj2 l0 l1 (x5_1 ++ ((rdOf ByteArray.empty y139 t143) ++ (rdOf ByteArray.empty y147 t146))) ((x6_1 ++ (rdOf ByteArray.empty y139 t143)) ++ (⟨#[10]⟩ : ByteArray)) (wrap64 (x7_1 + 1))) else (none)) else (bobbinetkeep_CleanLines.l0 kj2 l0 l1 (x5_1 ++ ((rdOf ByteArray.empty y139 t143) ++ (rdOf ByteArray.empty y147 t146))) (x6_1 ++ (rdOf ByteArray.empty y139 t143)) (wrap64 (x7_1 + 1)))) else (none)) else (none)) else (none)) else (none)) else (none)))) else ((some (([(⟨#[]⟩ : ByteArray), (⟨#[10]⟩ : ByteArray), (⟨#[13, 10]⟩ : ByteArray), (⟨#[13]⟩ : ByteArray)] : List ByteArray) : List ByteArray)).bind fun y151 => (if 0 < (y151.length : Int) then (if (rdOf ByteArray.empty y139 t143).size + (rdOf ByteArray.empty y151 0).size ≤ 9223372036854775807 then (if x5_1.size + ((rdOf ByteArray.empty y139 t143) ++ (rdOf ByteArray.empty y151 0)).size ≤ 9223372036854775807 then (if x6_1.size + (rdOf ByteArray.empty y139 t143).size ≤ 9223372036854775807 then (if 0 > 0 then (if (x6_1 ++ (rdOf ByteArray.empty y139 t143)).size + 1 ≤ 9223372036854775807 then (bobbinetkeep_CleanLines.l0 kj2 l0 l1 (x5_1 ++ ((rdOf ByteArray.empty y139 t143) ++ (rdOf ByteArray.empty y151 0))) ((x6_1 ++ (rdOf ByteArray.empty y139 t143)) ++ (⟨#[10]⟩ : ByteArray)) (wrap64 (x7_1 + 1))) else (none)) else (bobbinetkeep_CleanLines.l0 kj2 l0 l1 (x5_1 ++ ((rdOf ByteArray.empty y139 t143) ++ (rdOf ByteArray.empty y151 0))) (x6_1 ++ (rdOf ByteArray.empty y139 t143)) (wrap64 (x7_1 + 1)))) else (none)) else (none)) else (none)) else (none)))) else (none)) else (none)) = some r := H
                have A8 := Aside0.mk A80
                clear A80
                by_cases c9 : 0 ≤ t143
                · rw [if_pos c9] at H
                  have c9b0 : decide (0 ≤ t143) = true := decide_eq_true c9
                  clear c9
                  by_cases c10 : t143 < (y139.length : Int)
                  · rw [if_pos c10] at H
                    have c10b0 : decide (t143 < (y139.length : Int)) = true := decide_eq_true c10
                    clear c10
                    by_cases c11 : x7_1 < (l1.length : Int)
                    · rw [if_pos c11] at H
                      have c11b0 : decide (x7_1 < (l1.length : Int)) = true := decide_eq_true c11
                      clear c11
                      replace H := Option.bind_eq_some_iff.mp H
                      obtain ⟨t146, A120, H⟩ := H
                      replace H : ((some (([(⟨#[]⟩ : ByteArray), (⟨#[10]⟩ : ByteArray), (⟨#[13, 10]⟩ : ByteArray), (⟨#[13]⟩ : ByteArray)] : List ByteArray) : List ByteArray)).bind fun y147 => (if 0 ≤ t146 then (if t146 < (y147.length : Int) then (if (rdOf ByteArray.empty y139 t143).size + (rdOf ByteArray.empty y147 t146).size ≤ 9223372036854775807 then (if x5_1.size + ((rdOf ByteArray.empty y139 t143) ++ (rdOf ByteArray.empty y147 t146)).size ≤ 9223372036854775807 then (if x6_1.size + (rdOf ByteArray.empty y139 t143).size ≤ 9223372036854775807 then (if t146 > 0 then (if (x6_1 ++ (rdOf ByteArray.empty y139 t143)).size + 1 ≤ 9223372036854775807 then (bobbinetkeep_CleanLines.l0 kj2 l0 l1 (x5_1 ++ ((rdOf ByteArray.empty y139 t143) ++ (rdOf ByteArray.empty y147 t146))) ((x6_1 ++ (rdOf ByteArray.empty y139 t143)) ++ (⟨#[10]⟩ : ByteArray)) (wrap64 (x7_1 + 1))) else (none)) else (bobbinetkeep_CleanLines.l0 kj2 l0 l1 (x5_1 ++ ((rdOf ByteArray.empty y139 t143) ++ (rdOf ByteArray.empty y147 t146))) (x6_1 ++ (rdOf ByteArray.empty y139 t143)) (wrap64 (x7_1 + 1)))) else (none)) else (none)) else (none)) else (none)) else (none))) = some r := H
                      have A12 := Aside0.mk A120
                      clear A120
                      obtain ⟨y147, hy147⟩ : ∃ y_ : List ByteArray, y_ = (([(⟨#[]⟩ : ByteArray), (⟨#[10]⟩ : ByteArray), (⟨#[13, 10]⟩ : ByteArray), (⟨#[13]⟩ : ByteArray)] : List ByteArray)) := ⟨_, rfl⟩
                      replace H : (if 0 ≤ t146 then (if t146 < (y147.length : Int) then (if (rdOf ByteArray.empty y139 t143).size + (rdOf ByteArray.empty y147 t146).size ≤ 9223372036854775807 then (if x5_1.size + ((rdOf ByteArray.empty y139 t143) ++ (rdOf ByteArray.empty y147 t146)).size ≤ 9223372036854775807 then (if x6_1.size + (rdOf ByteArray.empty y139 t143).size ≤ 9223372036854775807 then (if t146 > 0 then (if (x6_1 ++ (rdOf ByteArray.empty y139 t143)).size + 1 ≤ 9223372036854775807 then (bobbinetkeep_CleanLines.l0 kj2 l0 l1 (x5_1 ++ ((rdOf ByteArray.empty y139 t143) ++ (rdOf ByteArray.empty y147 t146))) ((x6_1 ++ (rdOf ByteArray.empty y139 t143)) ++ (⟨#[10]⟩ : ByteArray)) (wrap64 (x7_1 + 1))) else (none)) else (bobbinetkeep_CleanLines.l0 kj2 l0 l1 (x5_1 ++ ((rdOf ByteArray.empty y139 t143) ++ (rdOf ByteArray.empty y147 t146))) (x6_1 ++ (rdOf ByteArray.empty y139 t143)) (wrap64 (x7_1 + 1)))) else (none)) else (none)) else (none)) else (none)) else (none)) = some r := by first | (rw [hy147]; with_reducible exact H) | (have H2_ := (Option.bind_some _ _).symm.trans H; rw [hy147]; with_reducible exact H2_) | (have H2_ := (Option.bind_some _ _).symm.trans H; with_reducible exact H2_) | with_reducible exact H | (rw [hy147]; exact H) | exact H
                      have Ny147 := Aside0.mk hy147
                      clear hy147
                      by_cases c13 : 0 ≤ t146
                      · rw [if_pos c13] at H
                        have c13b0 : decide (0 ≤ t146) = true := decide_eq_true c13
                        clear c13
                        by_cases c14 : t146 < (y147.length : Int)
                        · rw [if_pos c14] at H
                          have c14b0 : decide (t146 < (y147.length : Int)) = true := decide_eq_true c14
                          clear c14
                          by_cases c15 : (rdOf ByteArray.empty y139 t143).size + (rdOf ByteArray.empty y147 t146).size ≤ 9223372036854775807
                          · rw [if_pos c15] at H
                            have c15b0 := eq_true c15
                            have c15b1 : decide ((rdOf ByteArray.empty y139 t143).size + (rdOf ByteArray.empty y147 t146).size ≤ 9223372036854775807) = true := decide_eq_true c15
                            try have c15b2 : (9223372036854775807 < (rdOf ByteArray.empty y139 t143).size + (rdOf ByteArray.empty y147 t146).size) = False := eq_false (Nat.not_lt.2 c15)
                            by_cases c16 : x5_1.size + ((rdOf ByteArray.empty y139 t143) ++ (rdOf ByteArray.empty y147 t146)).size ≤ 9223372036854775807
                            · rw [if_pos c16] at H
                              have c16b0 := eq_true c16
                              have c16b1 : decide (x5_1.size + ((rdOf ByteArray.empty y139 t143) ++ (rdOf ByteArray.empty y147 t146)).size ≤ 9223372036854775807) = true := decide_eq_true c16
                              try have c16b2 : (9223372036854775807 < x5_1.size + ((rdOf ByteArray.empty y139 t143) ++ (rdOf ByteArray.empty y147 t146)).size) = False := eq_false (Nat.not_lt.2 c16)
                              try (have c16b3 := c16b2; simp only [ByteArray.size_append] at c16b3)
                              by_cases c17 : x6_1.size + (rdOf ByteArray.empty y139 t143).size ≤ 9223372036854775807
                              · rw [if_pos c17] at H
                                have c17b0 := eq_true c17
                                have c17b1 : decide (x6_1.size + (rdOf ByteArray.empty y139 t143).size ≤ 9223372036854775807) = true := decide_eq_true c17
                                try have c17b2 : (9223372036854775807 < x6_1.size + (rdOf ByteArray.empty y139 t143).size) = False := eq_false (Nat.not_lt.2 c17)
                                by_cases c18 : t146 > 0
                                · rw [if_pos c18] at H
                                  have c18b0 : decide (0 < t146) = true := decide_eq_true c18
                                  clear c18
                                  by_cases c19 : (x6_1 ++ (rdOf ByteArray.empty y139 t143)).size + 1 ≤ 9223372036854775807
                                  · rw [if_pos c19] at H
                                    have c19b0 := eq_true c19
                                    have c19b1 : decide ((x6_1 ++ (rdOf ByteArray.empty y139 t143)).size + 1 ≤ 9223372036854775807) = true := decide_eq_true c19
                                    try have c19b2 : (9223372036854775807 < (x6_1 ++ (rdOf ByteArray.empty y139 t143)).size + 1) = False := eq_false (Nat.not_lt.2 c19)
                                    try (have c19b3 := c19b2; simp only [ByteArray.size_append] at c19b3)
                                    have H' := Aside0.mk H
                                    clear H
                                    go_wp2_with (first | ((with_reducible refine gate_dst (N := 20) rfl ?_); refine Kd.R_lit Kd.string _ 9 ?hg (N := 20) ?hd (xs := ([(⟨#[97]⟩ : ByteArray), (⟨#[98]⟩ : ByteArray), (⟨#[32]⟩ : ByteArray), (⟨#[60]⟩ : ByteArray)] : List ByteArray)) (inner := [.string (⟨#[97]⟩ : ByteArray), .string (⟨#[98]⟩ : ByteArray), .string (⟨#[32]⟩ : ByteArray), .string (⟨#[60]⟩ : ByteArray)]) (ok := fun _ => True) (okp := fun _ => True) ?hr ?hp (fun _ hk => hk) trivial (Below.refl _ _) (Nat.le_refl _) (by simp) ?_; (case hd => rfl); (case hg => rfl); (case hr => first | (go_simp; done) | (go_simp; rfl)); (case hp => exact (Reps.one (show Kd.M Kd.string _ _ _ (⟨#[97]⟩ : ByteArray) [.string (⟨#[97]⟩ : ByteArray)] from rfl) (Reps.one (show Kd.M Kd.string _ _ _ (⟨#[98]⟩ : ByteArray) [.string (⟨#[98]⟩ : ByteArray)] from rfl) (Reps.one (show Kd.M Kd.string _ _ _ (⟨#[32]⟩ : ByteArray) [.string (⟨#[32]⟩ : ByteArray)] from rfl) (Reps.one (show Kd.M Kd.string _ _ _ (⟨#[60]⟩ : ByteArray) [.string (⟨#[60]⟩ : ByteArray)] from rfl) (Reps.none _ _)))))); intro v140 w20 ho21 hb hg_ hnew_; clear hg_ hnew_; (first | rw [← Ny139.out] at ho21 | (simp only [Int.reduceToNat] at ho21; rw [← Ny139.out] at ho21)); have n0_ := Aside0.mk (Kd.R_lower ho21 (below_size (by repeat (first | (with_reducible first | exact HB.out | apply below_alloc | apply pw_below_drewN | apply below_drew1) | exact HB.out)))); have n1_ := Aside0.mk (below_step (by repeat (first | (with_reducible first | exact HB.out | apply below_alloc | apply pw_below_drewN | apply below_drew1) | exact HB.out)) hb); clear HB; have HO141 := n0_; have HB := n1_; clear n0_ n1_; clear hb ho21; have p142 : 0 ≤ (x7_1 : Int) := of_decide_eq_true (by first | (with_reducible assumption) | assumption); have q142 : x7_1 < (l0.length : Int) := of_decide_eq_true (by first | (with_reducible assumption) | assumption); obtain ⟨ad142, e142, hx142_0⟩ := Kd.at_int HR0.out x7_1 p142 q142; cases e142; replace hx142_0 := (HB.out.cell (World.block_lt_of_cell? w _ hx142_0)).trans hx142_0; replace p142 := eq_true p142; replace q142 := eq_true q142) | ((with_reducible refine gate_callee (f := 15) rfl ?_); refine goesL_ (some 25) rfl rfl Try.func15 (by kernel_rfl) rfl #[.int .i64 (rd l0 x7_1), .int .i64 4] rfl (by (try simp only [List.map_toArray, List.map_cons, List.map_nil]); first | done | rfl | (simp only [List.length_drop, List.length_take]; rfl)) ?_; (with_reducible refine (bobbinetkeep_Picked.calls (rd l0 x7_1) 4 t143 _ A8.out).mono ?_); rintro e w' ⟨rfl, ⟨nd, rfl⟩⟩; refine ⟨_, rfl, ?_⟩; obtain ⟨Ao22, co22, eo22⟩ := Kd.R_slice HO141.out; subst eo22; have p144 : 0 ≤ (t143 : Int) := of_decide_eq_true (by first | (with_reducible assumption) | assumption); have q144 : t143 < (y139.length : Int) := of_decide_eq_true (by first | (with_reducible assumption) | assumption); obtain ⟨ad144, e144, hx144_0⟩ := Kd.at_string (Kd.R_reads' HO141.out).2.2 t143 p144 q144; cases e144; replace p144 := eq_true p144; replace q144 := eq_true q144; have p145 : 0 ≤ (x7_1 : Int) := of_decide_eq_true (by first | (with_reducible assumption) | assumption); have q145 : x7_1 < (l1.length : Int) := of_decide_eq_true (by first | (with_reducible assumption) | assumption); obtain ⟨ad145, e145, hx145_0⟩ := Kd.at_int HR1.out x7_1 p145 q145; cases e145; replace hx145_0 := (HB.out.cell (World.block_lt_of_cell? w _ hx145_0)).trans hx145_0; replace p145 := eq_true p145; replace q145 := eq_true q145) | ((with_reducible refine gate_callee (f := 15) rfl ?_); refine goesL_ (some 36) rfl rfl Try.func15 (by kernel_rfl) rfl #[.int .i64 (rd l1 x7_1), .int .i64 4] rfl (by (try simp only [List.map_toArray, List.map_cons, List.map_nil]); first | done | rfl | (simp only [List.length_drop, List.length_take]; rfl)) ?_; (with_reducible refine (bobbinetkeep_Picked.calls (rd l1 x7_1) 4 t146 _ A12.out).mono ?_); rintro e w' ⟨rfl, ⟨nd, rfl⟩⟩; refine ⟨_, rfl, ?_⟩) | ((with_reducible refine gate_dst (N := 39) rfl ?_); refine Kd.R_lit Kd.string _ 9 ?hg (N := 39) ?hd (xs := ([(⟨#[]⟩ : ByteArray), (⟨#[10]⟩ : ByteArray), (⟨#[13, 10]⟩ : ByteArray), (⟨#[13]⟩ : ByteArray)] : List ByteArray)) (inner := [.string (⟨#[]⟩ : ByteArray), .string (⟨#[10]⟩ : ByteArray), .string (⟨#[13, 10]⟩ : ByteArray), .string (⟨#[13]⟩ : ByteArray)]) (ok := fun _ => True) (okp := fun _ => True) ?hr ?hp (fun _ hk => hk) trivial (Below.refl _ _) (Nat.le_refl _) (by simp) ?_; (case hd => rfl); (case hg => rfl); (case hr => first | (go_simp; done) | (go_simp; rfl)); (case hp => exact (Reps.one (show Kd.M Kd.string _ _ _ (⟨#[]⟩ : ByteArray) [.string (⟨#[]⟩ : ByteArray)] from rfl) (Reps.one (show Kd.M Kd.string _ _ _ (⟨#[10]⟩ : ByteArray) [.string (⟨#[10]⟩ : ByteArray)] from rfl) (Reps.one (show Kd.M Kd.string _ _ _ (⟨#[13, 10]⟩ : ByteArray) [.string (⟨#[13, 10]⟩ : ByteArray)] from rfl) (Reps.one (show Kd.M Kd.string _ _ _ (⟨#[13]⟩ : ByteArray) [.string (⟨#[13]⟩ : ByteArray)] from rfl) (Reps.none _ _)))))); intro v148 w23 ho24 hb hg_ hnew_; clear hg_ hnew_; (first | rw [← Ny147.out] at ho24 | (simp only [Int.reduceToNat] at ho24; rw [← Ny147.out] at ho24)); have n0_ := Aside0.mk (Kd.R_elder' (by (with_reducible repeat (first | apply Kd.R_alloc | apply Kd.R_drewN | apply Kd.R_drew)); exact HO141.out) (Kd.R_base ho24) hb); have n1_ := Aside0.mk (Kd.R_lower (Kd.R_new' ho24 (Kd.R_lt (by (with_reducible repeat (first | apply Kd.R_alloc | apply Kd.R_drewN | apply Kd.R_drew)); exact HO141.out))) (below_size (by repeat (first | (with_reducible first | exact HB.out | apply below_alloc | apply pw_below_drewN | apply below_drew1) | exact HB.out)))); have n2_ := Aside0.mk (below_step (by repeat (first | (with_reducible first | exact HB.out | apply below_alloc | apply pw_below_drewN | apply below_drew1) | exact HB.out)) hb); clear HO141; clear HB; have HO141 := n0_; have HO149 := n1_; have HB := n2_; clear n0_ n1_ n2_; clear hb ho24; obtain ⟨Ao25, co25, eo25⟩ := Kd.R_slice HO149.out; subst eo25; have p150 : 0 ≤ (t146 : Int) := of_decide_eq_true (by first | (with_reducible assumption) | assumption); have q150 : t146 < (y147.length : Int) := of_decide_eq_true (by first | (with_reducible assumption) | assumption); obtain ⟨ad150, e150, hx150_0⟩ := Kd.at_string (Kd.R_reads' HO149.out).2.2 t146 p150 q150; cases e150; replace p150 := eq_true p150; replace q150 := eq_true q150))
                                    go_roundg kj2
                                    case measure => have := HK1.out; have := HJ2.out; omega
                                    case rel => exact ⟨(x5_1 ++ ((rdOf ByteArray.empty y139 t143) ++ (rdOf ByteArray.empty y147 t146))), ((x6_1 ++ (rdOf ByteArray.empty y139 t143)) ++ (⟨#[10]⟩ : ByteArray)), (wrap64 (x7_1 + 1)), (by first | rfl | (simp; done) | (simp [*]; done)), (by first | rfl | (simp; done) | (simp [*]; done)), (by first | rfl | (simp; done) | (simp [*]; done)), H', ⟨by have := HK1.out; have := HJ2.out; omega⟩, ⟨by repeat (first | (with_reducible first | exact HB.out | apply below_alloc | apply pw_below_drewN | apply below_drew1) | exact HB.out)⟩⟩
                                  · rw [if_neg c19] at H
                                    exact absurd H (by simp)
                                · rw [if_neg c18] at H
                                  have c18b0 : decide (0 < t146) = false := decide_eq_false c18
                                  clear c18
                                  have H' := Aside0.mk H
                                  clear H
                                  go_wp2_with (first | ((with_reducible refine gate_dst (N := 20) rfl ?_); refine Kd.R_lit Kd.string _ 9 ?hg (N := 20) ?hd (xs := ([(⟨#[97]⟩ : ByteArray), (⟨#[98]⟩ : ByteArray), (⟨#[32]⟩ : ByteArray), (⟨#[60]⟩ : ByteArray)] : List ByteArray)) (inner := [.string (⟨#[97]⟩ : ByteArray), .string (⟨#[98]⟩ : ByteArray), .string (⟨#[32]⟩ : ByteArray), .string (⟨#[60]⟩ : ByteArray)]) (ok := fun _ => True) (okp := fun _ => True) ?hr ?hp (fun _ hk => hk) trivial (Below.refl _ _) (Nat.le_refl _) (by simp) ?_; (case hd => rfl); (case hg => rfl); (case hr => first | (go_simp; done) | (go_simp; rfl)); (case hp => exact (Reps.one (show Kd.M Kd.string _ _ _ (⟨#[97]⟩ : ByteArray) [.string (⟨#[97]⟩ : ByteArray)] from rfl) (Reps.one (show Kd.M Kd.string _ _ _ (⟨#[98]⟩ : ByteArray) [.string (⟨#[98]⟩ : ByteArray)] from rfl) (Reps.one (show Kd.M Kd.string _ _ _ (⟨#[32]⟩ : ByteArray) [.string (⟨#[32]⟩ : ByteArray)] from rfl) (Reps.one (show Kd.M Kd.string _ _ _ (⟨#[60]⟩ : ByteArray) [.string (⟨#[60]⟩ : ByteArray)] from rfl) (Reps.none _ _)))))); intro v140 w26 ho27 hb hg_ hnew_; clear hg_ hnew_; (first | rw [← Ny139.out] at ho27 | (simp only [Int.reduceToNat] at ho27; rw [← Ny139.out] at ho27)); have n0_ := Aside0.mk (Kd.R_lower ho27 (below_size (by repeat (first | (with_reducible first | exact HB.out | apply below_alloc | apply pw_below_drewN | apply below_drew1) | exact HB.out)))); have n1_ := Aside0.mk (below_step (by repeat (first | (with_reducible first | exact HB.out | apply below_alloc | apply pw_below_drewN | apply below_drew1) | exact HB.out)) hb); clear HB; have HO141 := n0_; have HB := n1_; clear n0_ n1_; clear hb ho27; have p142 : 0 ≤ (x7_1 : Int) := of_decide_eq_true (by first | (with_reducible assumption) | assumption); have q142 : x7_1 < (l0.length : Int) := of_decide_eq_true (by first | (with_reducible assumption) | assumption); obtain ⟨ad142, e142, hx142_0⟩ := Kd.at_int HR0.out x7_1 p142 q142; cases e142; replace hx142_0 := (HB.out.cell (World.block_lt_of_cell? w _ hx142_0)).trans hx142_0; replace p142 := eq_true p142; replace q142 := eq_true q142) | ((with_reducible refine gate_callee (f := 15) rfl ?_); refine goesL_ (some 25) rfl rfl Try.func15 (by kernel_rfl) rfl #[.int .i64 (rd l0 x7_1), .int .i64 4] rfl (by (try simp only [List.map_toArray, List.map_cons, List.map_nil]); first | done | rfl | (simp only [List.length_drop, List.length_take]; rfl)) ?_; (with_reducible refine (bobbinetkeep_Picked.calls (rd l0 x7_1) 4 t143 _ A8.out).mono ?_); rintro e w' ⟨rfl, ⟨nd, rfl⟩⟩; refine ⟨_, rfl, ?_⟩; obtain ⟨Ao28, co28, eo28⟩ := Kd.R_slice HO141.out; subst eo28; have p144 : 0 ≤ (t143 : Int) := of_decide_eq_true (by first | (with_reducible assumption) | assumption); have q144 : t143 < (y139.length : Int) := of_decide_eq_true (by first | (with_reducible assumption) | assumption); obtain ⟨ad144, e144, hx144_0⟩ := Kd.at_string (Kd.R_reads' HO141.out).2.2 t143 p144 q144; cases e144; replace p144 := eq_true p144; replace q144 := eq_true q144; have p145 : 0 ≤ (x7_1 : Int) := of_decide_eq_true (by first | (with_reducible assumption) | assumption); have q145 : x7_1 < (l1.length : Int) := of_decide_eq_true (by first | (with_reducible assumption) | assumption); obtain ⟨ad145, e145, hx145_0⟩ := Kd.at_int HR1.out x7_1 p145 q145; cases e145; replace hx145_0 := (HB.out.cell (World.block_lt_of_cell? w _ hx145_0)).trans hx145_0; replace p145 := eq_true p145; replace q145 := eq_true q145) | ((with_reducible refine gate_callee (f := 15) rfl ?_); refine goesL_ (some 36) rfl rfl Try.func15 (by kernel_rfl) rfl #[.int .i64 (rd l1 x7_1), .int .i64 4] rfl (by (try simp only [List.map_toArray, List.map_cons, List.map_nil]); first | done | rfl | (simp only [List.length_drop, List.length_take]; rfl)) ?_; (with_reducible refine (bobbinetkeep_Picked.calls (rd l1 x7_1) 4 t146 _ A12.out).mono ?_); rintro e w' ⟨rfl, ⟨nd, rfl⟩⟩; refine ⟨_, rfl, ?_⟩) | ((with_reducible refine gate_dst (N := 39) rfl ?_); refine Kd.R_lit Kd.string _ 9 ?hg (N := 39) ?hd (xs := ([(⟨#[]⟩ : ByteArray), (⟨#[10]⟩ : ByteArray), (⟨#[13, 10]⟩ : ByteArray), (⟨#[13]⟩ : ByteArray)] : List ByteArray)) (inner := [.string (⟨#[]⟩ : ByteArray), .string (⟨#[10]⟩ : ByteArray), .string (⟨#[13, 10]⟩ : ByteArray), .string (⟨#[13]⟩ : ByteArray)]) (ok := fun _ => True) (okp := fun _ => True) ?hr ?hp (fun _ hk => hk) trivial (Below.refl _ _) (Nat.le_refl _) (by simp) ?_; (case hd => rfl); (case hg => rfl); (case hr => first | (go_simp; done) | (go_simp; rfl)); (case hp => exact (Reps.one (show Kd.M Kd.string _ _ _ (⟨#[]⟩ : ByteArray) [.string (⟨#[]⟩ : ByteArray)] from rfl) (Reps.one (show Kd.M Kd.string _ _ _ (⟨#[10]⟩ : ByteArray) [.string (⟨#[10]⟩ : ByteArray)] from rfl) (Reps.one (show Kd.M Kd.string _ _ _ (⟨#[13, 10]⟩ : ByteArray) [.string (⟨#[13, 10]⟩ : ByteArray)] from rfl) (Reps.one (show Kd.M Kd.string _ _ _ (⟨#[13]⟩ : ByteArray) [.string (⟨#[13]⟩ : ByteArray)] from rfl) (Reps.none _ _)))))); intro v148 w29 ho30 hb hg_ hnew_; clear hg_ hnew_; (first | rw [← Ny147.out] at ho30 | (simp only [Int.reduceToNat] at ho30; rw [← Ny147.out] at ho30)); have n0_ := Aside0.mk (Kd.R_elder' (by (with_reducible repeat (first | apply Kd.R_alloc | apply Kd.R_drewN | apply Kd.R_drew)); exact HO141.out) (Kd.R_base ho30) hb); have n1_ := Aside0.mk (Kd.R_lower (Kd.R_new' ho30 (Kd.R_lt (by (with_reducible repeat (first | apply Kd.R_alloc | apply Kd.R_drewN | apply Kd.R_drew)); exact HO141.out))) (below_size (by repeat (first | (with_reducible first | exact HB.out | apply below_alloc | apply pw_below_drewN | apply below_drew1) | exact HB.out)))); have n2_ := Aside0.mk (below_step (by repeat (first | (with_reducible first | exact HB.out | apply below_alloc | apply pw_below_drewN | apply below_drew1) | exact HB.out)) hb); clear HO141; clear HB; have HO141 := n0_; have HO149 := n1_; have HB := n2_; clear n0_ n1_ n2_; clear hb ho30; obtain ⟨Ao31, co31, eo31⟩ := Kd.R_slice HO149.out; subst eo31; have p150 : 0 ≤ (t146 : Int) := of_decide_eq_true (by first | (with_reducible assumption) | assumption); have q150 : t146 < (y147.length : Int) := of_decide_eq_true (by first | (with_reducible assumption) | assumption); obtain ⟨ad150, e150, hx150_0⟩ := Kd.at_string (Kd.R_reads' HO149.out).2.2 t146 p150 q150; cases e150; replace p150 := eq_true p150; replace q150 := eq_true q150))
                                  go_roundg kj2
                                  case measure => have := HK1.out; have := HJ2.out; omega
                                  case rel => exact ⟨(x5_1 ++ ((rdOf ByteArray.empty y139 t143) ++ (rdOf ByteArray.empty y147 t146))), (x6_1 ++ (rdOf ByteArray.empty y139 t143)), (wrap64 (x7_1 + 1)), (by first | rfl | (simp; done) | (simp [*]; done)), (by first | rfl | (simp; done) | (simp [*]; done)), (by first | rfl | (simp; done) | (simp [*]; done)), H', ⟨by have := HK1.out; have := HJ2.out; omega⟩, ⟨by repeat (first | (with_reducible first | exact HB.out | apply below_alloc | apply pw_below_drewN | apply below_drew1) | exact HB.out)⟩⟩
                              · rw [if_neg c17] at H
                                exact absurd H (by simp)
                            · rw [if_neg c16] at H
                              exact absurd H (by simp)
                          · rw [if_neg c15] at H
                            exact absurd H (by simp)
                        · rw [if_neg c14] at H
                          exact absurd H (by simp)
                      · rw [if_neg c13] at H
                        exact absurd H (by simp)
                    · rw [if_neg c11] at H
                      have c11b0 : decide (x7_1 < (l1.length : Int)) = false := decide_eq_false c11
                      clear c11
                      obtain ⟨y151, hy151⟩ : ∃ y_ : List ByteArray, y_ = (([(⟨#[]⟩ : ByteArray), (⟨#[10]⟩ : ByteArray), (⟨#[13, 10]⟩ : ByteArray), (⟨#[13]⟩ : ByteArray)] : List ByteArray)) := ⟨_, rfl⟩
                      replace H : (if 0 < (y151.length : Int) then (if (rdOf ByteArray.empty y139 t143).size + (rdOf ByteArray.empty y151 0).size ≤ 9223372036854775807 then (if x5_1.size + ((rdOf ByteArray.empty y139 t143) ++ (rdOf ByteArray.empty y151 0)).size ≤ 9223372036854775807 then (if x6_1.size + (rdOf ByteArray.empty y139 t143).size ≤ 9223372036854775807 then (if 0 > 0 then (if (x6_1 ++ (rdOf ByteArray.empty y139 t143)).size + 1 ≤ 9223372036854775807 then (bobbinetkeep_CleanLines.l0 kj2 l0 l1 (x5_1 ++ ((rdOf ByteArray.empty y139 t143) ++ (rdOf ByteArray.empty y151 0))) ((x6_1 ++ (rdOf ByteArray.empty y139 t143)) ++ (⟨#[10]⟩ : ByteArray)) (wrap64 (x7_1 + 1))) else (none)) else (bobbinetkeep_CleanLines.l0 kj2 l0 l1 (x5_1 ++ ((rdOf ByteArray.empty y139 t143) ++ (rdOf ByteArray.empty y151 0))) (x6_1 ++ (rdOf ByteArray.empty y139 t143)) (wrap64 (x7_1 + 1)))) else (none)) else (none)) else (none)) else (none)) = some r := by first | (rw [hy151]; with_reducible exact H) | (have H2_ := (Option.bind_some _ _).symm.trans H; rw [hy151]; with_reducible exact H2_) | (have H2_ := (Option.bind_some _ _).symm.trans H; with_reducible exact H2_) | with_reducible exact H | (rw [hy151]; exact H) | exact H
                      have Ny151 := Aside0.mk hy151
                      clear hy151
                      by_cases c32 : 0 < (y151.length : Int)
                      · rw [if_pos c32] at H
                        have c32b0 : decide (0 < (y151.length : Int)) = true := decide_eq_true c32
                        have c32b1 : decide (0 < y151.length) = true := decide_eq_true (by omega)
                        clear c32
                        by_cases c33 : (rdOf ByteArray.empty y139 t143).size + (rdOf ByteArray.empty y151 0).size ≤ 9223372036854775807
                        · rw [if_pos c33] at H
                          have c33b0 := eq_true c33
                          have c33b1 : decide ((rdOf ByteArray.empty y139 t143).size + (rdOf ByteArray.empty y151 0).size ≤ 9223372036854775807) = true := decide_eq_true c33
                          try have c33b2 : (9223372036854775807 < (rdOf ByteArray.empty y139 t143).size + (rdOf ByteArray.empty y151 0).size) = False := eq_false (Nat.not_lt.2 c33)
                          by_cases c34 : x5_1.size + ((rdOf ByteArray.empty y139 t143) ++ (rdOf ByteArray.empty y151 0)).size ≤ 9223372036854775807
                          · rw [if_pos c34] at H
                            have c34b0 := eq_true c34
                            have c34b1 : decide (x5_1.size + ((rdOf ByteArray.empty y139 t143) ++ (rdOf ByteArray.empty y151 0)).size ≤ 9223372036854775807) = true := decide_eq_true c34
                            try have c34b2 : (9223372036854775807 < x5_1.size + ((rdOf ByteArray.empty y139 t143) ++ (rdOf ByteArray.empty y151 0)).size) = False := eq_false (Nat.not_lt.2 c34)
                            try (have c34b3 := c34b2; simp only [ByteArray.size_append] at c34b3)
                            by_cases c35 : x6_1.size + (rdOf ByteArray.empty y139 t143).size ≤ 9223372036854775807
                            · rw [if_pos c35] at H
                              have c35b0 := eq_true c35
                              have c35b1 : decide (x6_1.size + (rdOf ByteArray.empty y139 t143).size ≤ 9223372036854775807) = true := decide_eq_true c35
                              try have c35b2 : (9223372036854775807 < x6_1.size + (rdOf ByteArray.empty y139 t143).size) = False := eq_false (Nat.not_lt.2 c35)
                              by_cases c36 : 0 > 0
                              · exact absurd c36 (by decide)
                              · rw [if_neg c36] at H
                                have c36b0 : decide (0 < 0) = false := decide_eq_false c36
                                clear c36
                                have H' := Aside0.mk H
                                clear H
                                go_wp2_with (first | ((with_reducible refine gate_dst (N := 20) rfl ?_); refine Kd.R_lit Kd.string _ 9 ?hg (N := 20) ?hd (xs := ([(⟨#[97]⟩ : ByteArray), (⟨#[98]⟩ : ByteArray), (⟨#[32]⟩ : ByteArray), (⟨#[60]⟩ : ByteArray)] : List ByteArray)) (inner := [.string (⟨#[97]⟩ : ByteArray), .string (⟨#[98]⟩ : ByteArray), .string (⟨#[32]⟩ : ByteArray), .string (⟨#[60]⟩ : ByteArray)]) (ok := fun _ => True) (okp := fun _ => True) ?hr ?hp (fun _ hk => hk) trivial (Below.refl _ _) (Nat.le_refl _) (by simp) ?_; (case hd => rfl); (case hg => rfl); (case hr => first | (go_simp; done) | (go_simp; rfl)); (case hp => exact (Reps.one (show Kd.M Kd.string _ _ _ (⟨#[97]⟩ : ByteArray) [.string (⟨#[97]⟩ : ByteArray)] from rfl) (Reps.one (show Kd.M Kd.string _ _ _ (⟨#[98]⟩ : ByteArray) [.string (⟨#[98]⟩ : ByteArray)] from rfl) (Reps.one (show Kd.M Kd.string _ _ _ (⟨#[32]⟩ : ByteArray) [.string (⟨#[32]⟩ : ByteArray)] from rfl) (Reps.one (show Kd.M Kd.string _ _ _ (⟨#[60]⟩ : ByteArray) [.string (⟨#[60]⟩ : ByteArray)] from rfl) (Reps.none _ _)))))); intro v140 w44 ho45 hb hg_ hnew_; clear hg_ hnew_; (first | rw [← Ny139.out] at ho45 | (simp only [Int.reduceToNat] at ho45; rw [← Ny139.out] at ho45)); have n0_ := Aside0.mk (Kd.R_lower ho45 (below_size (by repeat (first | (with_reducible first | exact HB.out | apply below_alloc | apply pw_below_drewN | apply below_drew1) | exact HB.out)))); have n1_ := Aside0.mk (below_step (by repeat (first | (with_reducible first | exact HB.out | apply below_alloc | apply pw_below_drewN | apply below_drew1) | exact HB.out)) hb); clear HB; have HO141 := n0_; have HB := n1_; clear n0_ n1_; clear hb ho45; have p142 : 0 ≤ (x7_1 : Int) := of_decide_eq_true (by first | (with_reducible assumption) | assumption); have q142 : x7_1 < (l0.length : Int) := of_decide_eq_true (by first | (with_reducible assumption) | assumption); obtain ⟨ad142, e142, hx142_0⟩ := Kd.at_int HR0.out x7_1 p142 q142; cases e142; replace hx142_0 := (HB.out.cell (World.block_lt_of_cell? w _ hx142_0)).trans hx142_0; replace p142 := eq_true p142; replace q142 := eq_true q142) | ((with_reducible refine gate_callee (f := 15) rfl ?_); refine goesL_ (some 25) rfl rfl Try.func15 (by kernel_rfl) rfl #[.int .i64 (rd l0 x7_1), .int .i64 4] rfl (by (try simp only [List.map_toArray, List.map_cons, List.map_nil]); first | done | rfl | (simp only [List.length_drop, List.length_take]; rfl)) ?_; (with_reducible refine (bobbinetkeep_Picked.calls (rd l0 x7_1) 4 t143 _ A8.out).mono ?_); rintro e w' ⟨rfl, ⟨nd, rfl⟩⟩; refine ⟨_, rfl, ?_⟩; obtain ⟨Ao46, co46, eo46⟩ := Kd.R_slice HO141.out; subst eo46; have p144 : 0 ≤ (t143 : Int) := of_decide_eq_true (by first | (with_reducible assumption) | assumption); have q144 : t143 < (y139.length : Int) := of_decide_eq_true (by first | (with_reducible assumption) | assumption); obtain ⟨ad144, e144, hx144_0⟩ := Kd.at_string (Kd.R_reads' HO141.out).2.2 t143 p144 q144; cases e144; replace p144 := eq_true p144; replace q144 := eq_true q144) | ((with_reducible refine gate_dst (N := 39) rfl ?_); refine Kd.R_lit Kd.string _ 9 ?hg (N := 39) ?hd (xs := ([(⟨#[]⟩ : ByteArray), (⟨#[10]⟩ : ByteArray), (⟨#[13, 10]⟩ : ByteArray), (⟨#[13]⟩ : ByteArray)] : List ByteArray)) (inner := [.string (⟨#[]⟩ : ByteArray), .string (⟨#[10]⟩ : ByteArray), .string (⟨#[13, 10]⟩ : ByteArray), .string (⟨#[13]⟩ : ByteArray)]) (ok := fun _ => True) (okp := fun _ => True) ?hr ?hp (fun _ hk => hk) trivial (Below.refl _ _) (Nat.le_refl _) (by simp) ?_; (case hd => rfl); (case hg => rfl); (case hr => first | (go_simp; done) | (go_simp; rfl)); (case hp => exact (Reps.one (show Kd.M Kd.string _ _ _ (⟨#[]⟩ : ByteArray) [.string (⟨#[]⟩ : ByteArray)] from rfl) (Reps.one (show Kd.M Kd.string _ _ _ (⟨#[10]⟩ : ByteArray) [.string (⟨#[10]⟩ : ByteArray)] from rfl) (Reps.one (show Kd.M Kd.string _ _ _ (⟨#[13, 10]⟩ : ByteArray) [.string (⟨#[13, 10]⟩ : ByteArray)] from rfl) (Reps.one (show Kd.M Kd.string _ _ _ (⟨#[13]⟩ : ByteArray) [.string (⟨#[13]⟩ : ByteArray)] from rfl) (Reps.none _ _)))))); intro v152 w47 ho48 hb hg_ hnew_; clear hg_ hnew_; (first | rw [← Ny151.out] at ho48 | (simp only [Int.reduceToNat] at ho48; rw [← Ny151.out] at ho48)); have n0_ := Aside0.mk (Kd.R_elder' (by (with_reducible repeat (first | apply Kd.R_alloc | apply Kd.R_drewN | apply Kd.R_drew)); exact HO141.out) (Kd.R_base ho48) hb); have n1_ := Aside0.mk (Kd.R_lower (Kd.R_new' ho48 (Kd.R_lt (by (with_reducible repeat (first | apply Kd.R_alloc | apply Kd.R_drewN | apply Kd.R_drew)); exact HO141.out))) (below_size (by repeat (first | (with_reducible first | exact HB.out | apply below_alloc | apply pw_below_drewN | apply below_drew1) | exact HB.out)))); have n2_ := Aside0.mk (below_step (by repeat (first | (with_reducible first | exact HB.out | apply below_alloc | apply pw_below_drewN | apply below_drew1) | exact HB.out)) hb); clear HO141; clear HB; have HO141 := n0_; have HO153 := n1_; have HB := n2_; clear n0_ n1_ n2_; clear hb ho48; obtain ⟨Ao49, co49, eo49⟩ := Kd.R_slice HO153.out; subst eo49; have p154 : 0 ≤ (0 : Int) := (by omega); have q154 : 0 < (y151.length : Int) := of_decide_eq_true (by first | (with_reducible assumption) | assumption); obtain ⟨ad154, e154, hx154_0⟩ := Kd.at_string (Kd.R_reads' HO153.out).2.2 0 p154 q154; cases e154; have qi154 : (0 < y151.length) = True := eq_true (by omega); (try rw [show ((0 : Int)).toNat = 0 from rfl] at hx154_0); (try rw [Addr.add_zero'] at hx154_0); replace p154 := eq_true p154; replace q154 := eq_true q154))
                                go_roundg kj2
                                case measure => have := HK1.out; have := HJ2.out; omega
                                case rel => exact ⟨(x5_1 ++ ((rdOf ByteArray.empty y139 t143) ++ (rdOf ByteArray.empty y151 0))), (x6_1 ++ (rdOf ByteArray.empty y139 t143)), (wrap64 (x7_1 + 1)), (by first | rfl | (simp; done) | (simp [*]; done)), (by first | rfl | (simp; done) | (simp [*]; done)), (by first | rfl | (simp; done) | (simp [*]; done)), H', ⟨by have := HK1.out; have := HJ2.out; omega⟩, ⟨by repeat (first | (with_reducible first | exact HB.out | apply below_alloc | apply pw_below_drewN | apply below_drew1) | exact HB.out)⟩⟩
                            · rw [if_neg c35] at H
                              exact absurd H (by simp)
                          · rw [if_neg c34] at H
                            exact absurd H (by simp)
                        · rw [if_neg c33] at H
                          exact absurd H (by simp)
                      · rw [if_neg c32] at H
                        exact absurd H (by simp)
                  · rw [if_neg c10] at H
                    exact absurd H (by simp)
                · rw [if_neg c9] at H
                  exact absurd H (by simp)
              · rw [if_neg c7] at H
                exact absurd H (by simp)
            · rw [if_neg c6] at H
              exact absurd H (by simp)
          · replace c5 := Bool.eq_false_iff.mpr c5
            subst c5
            have H1 : ((utf_Clean.f kj2 x5_1).bind fun t137 => (if t137.toList = x6_1.toList then ((utf_Clean.f kj2 (⟨#[97]⟩ : ByteArray)).bind fun t138 => (some (t138.toList == ([97] : List UInt8)))) else (some false))) = some r := by rw [if_neg (show ¬ (false = true) by decide)] at H; exact H
            clear H
            have H := H1
            clear H1
            replace H := Option.bind_eq_some_iff.mp H
            obtain ⟨t137, A500, H⟩ := H
            replace H : (if t137.toList = x6_1.toList then ((utf_Clean.f kj2 (⟨#[97]⟩ : ByteArray)).bind fun t138 => (some (t138.toList == ([97] : List UInt8)))) else (some false)) = some r := H
            have A50 := Aside0.mk A500
            clear A500
            by_cases c51 : t137.toList = x6_1.toList
            · rw [if_pos c51] at H
              have c51b0 : (t137.toList == x6_1.toList) = true := beq_iff_eq.mpr c51
              have c51b1 : (t137.toList != x6_1.toList) = false := bne_eq_false_iff_eq.mpr c51
              clear c51
              replace H := Option.bind_eq_some_iff.mp H
              obtain ⟨t138, A520, H⟩ := H
              replace H : (some (t138.toList == ([97] : List UInt8))) = some r := H
              have A52 := Aside0.mk A520
              clear A520
              obtain rfl := Option.some.inj H
              go_wp2_with (first | ((with_reducible refine gate_callee (f := 16) rfl ?_); refine goesL_ (some 53) rfl rfl Try.func16 (by kernel_rfl) rfl #[.string x5_1] rfl (by (try simp only [List.map_toArray, List.map_cons, List.map_nil]); first | done | rfl | (simp only [List.length_drop, List.length_take]; rfl)) ?_; (with_reducible refine (utf_Clean.calls kj2 x5_1 t137 _ A50.out).mono ?_); rintro e w53 ⟨rfl, hb⟩; refine ⟨_, rfl, ?_⟩; have n0_ := Aside0.mk (below_step (by repeat (first | (with_reducible first | exact HB.out | apply below_alloc | apply pw_below_drewN | apply below_drew1) | exact HB.out)) hb); clear HB; have HB := n0_; clear n0_; (try clear hb); (try clear hb2); (try clear hk); (try clear hi)) | (go_at_call 16; (with_reducible refine (utf_Clean.calls kj2 (⟨#[97]⟩ : ByteArray) t138 _ A52.out).mono ?_); rintro e w54 ⟨rfl, hb⟩; have n0_ := Aside0.mk (below_step (by repeat (first | (with_reducible first | exact HB.out | apply below_alloc | apply pw_below_drewN | apply below_drew1) | exact HB.out)) hb); clear HB; have HB := n0_; clear n0_; (try clear hb); (try clear hb2); (try clear hk); (try clear hi)))
              go_ret
              exact ⟨by first | rfl | (simp [errW_none, errW_some] <;> rfl) | (simp [*, errW_none, errW_some] <;> rfl), by repeat (first | (with_reducible first | exact HB.out | apply below_alloc | apply pw_below_drewN | apply below_drew1) | exact HB.out)⟩
            · rw [if_neg c51] at H
              have c51b0 : (t137.toList == x6_1.toList) = false := beq_eq_false_iff_ne.mpr c51
              have c51b1 : (t137.toList != x6_1.toList) = true := bne_iff_ne.mpr c51
              obtain rfl := Option.some.inj H
              go_wp2_with (first | ((with_reducible refine gate_callee (f := 16) rfl ?_); refine goesL_ (some 53) rfl rfl Try.func16 (by kernel_rfl) rfl #[.string x5_1] rfl (by (try simp only [List.map_toArray, List.map_cons, List.map_nil]); first | done | rfl | (simp only [List.length_drop, List.length_take]; rfl)) ?_; (with_reducible refine (utf_Clean.calls kj2 x5_1 t137 _ A50.out).mono ?_); rintro e w55 ⟨rfl, hb⟩; refine ⟨_, rfl, ?_⟩; have n0_ := Aside0.mk (below_step (by repeat (first | (with_reducible first | exact HB.out | apply below_alloc | apply pw_below_drewN | apply below_drew1) | exact HB.out)) hb); clear HB; have HB := n0_; clear n0_; (try clear hb); (try clear hb2); (try clear hk); (try clear hi)))
              go_ret
              exact ⟨by first | rfl | (simp [errW_none, errW_some] <;> rfl) | (simp [*, errW_none, errW_some] <;> rfl), by repeat (first | (with_reducible first | exact HB.out | apply below_alloc | apply pw_below_drewN | apply below_drew1) | exact HB.out)⟩

/-- THE ONE PURE STATEMENT of bobbinetkeep_CleanLines: yours. -/
def bobbinetkeep_CleanLines.Pure : Prop := ∀ (l0 : List Int) (l1 : List Int), l0.length ≤ maxLen → l0.length * 8 ≤ 140737488351232 → (∀ x ∈ l0, (Lit.int .i64 x).wf = true) → l1.length ≤ maxLen → l1.length * 8 ≤ 140737488351232 → (∀ x ∈ l1, (Lit.int .i64 x).wf = true) → ∃ k, bobbinetkeep_CleanLines.f k l0 l1 = some true
theorem bobbinetkeep_CleanLines.walk (P : bobbinetkeep_CleanLines.Pure) (a0 : Option Addr) (len0 cap0 : Nat) (z0 : List Int) (a1 : Option Addr) (len1 cap1 : Nat) (z1 : List Int) (w : World) (w0 : (a0 = none ∧ len0 = 0 ∧ cap0 = 0 ∧ z0 = []) ∨ ∃ x, a0 = some x ∧ len0 ≤ cap0 ∧ cap0 ≤ maxLen ∧ z0.length = cap0 ∧ (∀ i, i < z0.length → w.cell? (x.add i) = some (.int .i64 (z0.getD i 0))) ∧ ∀ n ∈ z0, (Lit.int .i64 n).wf = true) (y0 : len0 * 8 ≤ 140737488351232) (w1 : (a1 = none ∧ len1 = 0 ∧ cap1 = 0 ∧ z1 = []) ∨ ∃ x, a1 = some x ∧ len1 ≤ cap1 ∧ cap1 ≤ maxLen ∧ z1.length = cap1 ∧ (∀ i, i < z1.length → w.cell? (x.add i) = some (.int .i64 (z1.getD i 0))) ∧ ∀ n ∈ z1, (Lit.int .i64 n).wf = true) (y1 : len1 * 8 ≤ 140737488351232) :
    Calls Try.prog 4 #[.slice a0 len0 cap0, .slice a1 len1 cap1] w fun e w' => e = .returned (.bool true) ∧ Below w.heap.size w w' := by
  obtain ⟨l0, rfl, hr0, hm0, hw0, hc0⟩ := ReadsInt.ofRowC w0
  obtain ⟨l1, rfl, hr1, hm1, hw1, hc1⟩ := ReadsInt.ofRowC w1
  obtain ⟨k, h⟩ := P l0 l1 hm0 y0 hw0 hm1 y1 hw1
  refine (bobbinetkeep_CleanLines.calls k _ _ l0 _ _ l1 true w (Kd.C_of_reads (d := (0 : Int)) (h1 := fun _ => rfl) hr0) hc0 (Kd.C_of_reads (d := (0 : Int)) (h1 := fun _ => rfl) hr1) hc1 h).mono ?_
  rintro e w' ⟨rfl, hd⟩
  exact ⟨rfl, hd⟩

end Go.Proofs.Ythimfdojpgbmbaa.X
