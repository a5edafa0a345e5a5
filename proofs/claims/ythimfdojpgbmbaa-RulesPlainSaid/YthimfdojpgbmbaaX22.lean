-- Written by xprint.py (a program of this repo) for seat Ythimfdojpgbmbaa.
import Derived.Test.YthimfdojpgbmbaaX0
namespace Go.Proofs.Ythimfdojpgbmbaa.X
open Go.RowKit Go.Proofs.YthimfdojpgbmbaaW.PrintWords Go.Proofs.YthimfdojpgbmbaaW.PrintLast Go.Proofs.YthimfdojpgbmbaaW.PrintMore
attribute [local go_sem] max2_int min2_int max_two min_two max_three min_three max_four min_four   -- for this text's walks alone
set_option linter.unusedVariables false
set_option linter.unusedSimpArgs false

/-! ### bobbinetkeep_apartTexts: function 30 -/
mutual
def bobbinetkeep_apartTexts.l0 : Nat → List (S60) → Int → Option (Bool)
 | 0, _, _ => none
 | k + 1, x0, x3 => if x3 < (x0.length : Int) then (if 0 ≤ x3 then (if ((rd_T60 x0 x3).f0).toList = ([] : List UInt8) then (if ((rd_T60 x0 x3).f2).toList = ([] : List UInt8) then (bobbinetkeep_apartTexts.j1 k x0 x3 (((rd_T60 x0 x3).f0).toList == ([] : List UInt8)) true) else (if (((rd_T60 x0 x3).f3).length : Int) > 0 then (bobbinetkeep_apartTexts.j1 k x0 x3 (((rd_T60 x0 x3).f0).toList == ([] : List UInt8)) true) else (if (((rd_T60 x0 x3).f1).length : Int) > 0 then (bobbinetkeep_apartTexts.j1 k x0 x3 (((rd_T60 x0 x3).f0).toList == ([] : List UInt8)) true) else (if x3 > 0 then (if 0 ≤ (wrap64 (x3 - 1)) then (if (wrap64 (x3 - 1)) < (x0.length : Int) then (bobbinetkeep_apartTexts.j1 k x0 x3 (((rd_T60 x0 x3).f0).toList == ([] : List UInt8)) (((rd_T60 x0 (wrap64 (x3 - 1))).f0).toList == ([] : List UInt8))) else (none)) else (none)) else (bobbinetkeep_apartTexts.j1 k x0 x3 (((rd_T60 x0 x3).f0).toList == ([] : List UInt8)) false))))) else (bobbinetkeep_apartTexts.j1 k x0 x3 (((rd_T60 x0 x3).f0).toList == ([] : List UInt8)) false)) else (none)) else (some true)
def bobbinetkeep_apartTexts.j1 : Nat → List (S60) → Int → Bool → Bool → Option (Bool)
 | 0, _, _, _, _ => none
 | k + 1, x0, x3, x4, x56 => if x56 = true then (some false) else (if x4 = true then (bobbinetkeep_apartTexts.l0 k x0 (wrap64 (x3 + 1))) else (if 0 ≤ x3 then (if x3 < (x0.length : Int) then (if ((rd_T60 x0 x3).f2).toList = ([] : List UInt8) then ((bobbinetkeep_apartTexts.f k ((rd_T60 x0 x3).f3)).bind fun t269 => (if t269 = true then (bobbinetkeep_apartTexts.l0 k x0 (wrap64 (x3 + 1))) else (some false))) else (some false)) else (none)) else (none)))
def bobbinetkeep_apartTexts.f : Nat → List (S60) → Option (Bool)
 | 0, _ => none
 | k + 1, l0 => bobbinetkeep_apartTexts.l0 k l0 0
end
theorem bobbinetkeep_apartTexts.mono_l : ∀ k, (∀ y0, LeO (bobbinetkeep_apartTexts.f k y0) (bobbinetkeep_apartTexts.f (k + 1) y0)) ∧ (∀ y0 y1, LeO (bobbinetkeep_apartTexts.l0 k y0 y1) (bobbinetkeep_apartTexts.l0 (k + 1) y0 y1)) ∧ (∀ y0 y1 y2 y3, LeO (bobbinetkeep_apartTexts.j1 k y0 y1 y2 y3) (bobbinetkeep_apartTexts.j1 (k + 1) y0 y1 y2 y3))
 | 0 => ⟨fun _ r h => by simp [bobbinetkeep_apartTexts.f] at h, fun _ _ r h => by simp [bobbinetkeep_apartTexts.l0] at h, fun _ _ _ _ r h => by simp [bobbinetkeep_apartTexts.j1] at h⟩
 | k + 1 => by
  obtain ⟨ih0, ih1, ih2⟩ := bobbinetkeep_apartTexts.mono_l k
  refine ⟨?_, ?_, ?_⟩
  ·
   intro y0
   unfold bobbinetkeep_apartTexts.f
   repeat' first
   | (with_reducible exact ih0 _)
   | (with_reducible exact ih1 _ _)
   | (with_reducible exact ih2 _ _ _ _)
   | (with_reducible exact LeO.refl _)
   | (with_reducible exact LeO.none _)
   | (with_reducible refine LeO.ite ?_ ?_)
   | (with_reducible refine LeO.bind ?_ (fun _ => ?_))
   | exact ih0 _
   | exact ih1 _ _
   | exact ih2 _ _ _ _
   | exact LeO.none _
   | refine LeO.ite ?_ ?_
   | refine LeO.bind ?_ (fun _ => ?_)
  ·
   intro y0 y1
   unfold bobbinetkeep_apartTexts.l0
   repeat' first
   | (with_reducible exact ih0 _)
   | (with_reducible exact ih1 _ _)
   | (with_reducible exact ih2 _ _ _ _)
   | (with_reducible exact LeO.refl _)
   | (with_reducible exact LeO.none _)
   | (with_reducible refine LeO.ite ?_ ?_)
   | (with_reducible refine LeO.bind ?_ (fun _ => ?_))
   | exact ih0 _
   | exact ih1 _ _
   | exact ih2 _ _ _ _
   | exact LeO.none _
   | refine LeO.ite ?_ ?_
   | refine LeO.bind ?_ (fun _ => ?_)
  ·
   intro y0 y1 y2 y3
   unfold bobbinetkeep_apartTexts.j1
   repeat' first
   | (with_reducible exact ih0 _)
   | (with_reducible exact ih1 _ _)
   | (with_reducible exact ih2 _ _ _ _)
   | (with_reducible exact LeO.refl _)
   | (with_reducible exact LeO.none _)
   | (with_reducible refine LeO.ite ?_ ?_)
   | (with_reducible refine LeO.bind ?_ (fun _ => ?_))
   | exact ih0 _
   | exact ih1 _ _
   | exact ih2 _ _ _ _
   | exact LeO.none _
   | refine LeO.ite ?_ ?_
   | refine LeO.bind ?_ (fun _ => ?_)
theorem bobbinetkeep_apartTexts.mono : ∀ a0 k, LeO (bobbinetkeep_apartTexts.f k a0) (bobbinetkeep_apartTexts.f (k + 1) a0) := by
 intro a0 k
 obtain ⟨ih0, ih1, ih2⟩ := bobbinetkeep_apartTexts.mono_l k
 exact ih0 a0
set_option maxHeartbeats 8000000 in
set_option maxRecDepth 100000 in
theorem bobbinetkeep_apartTexts.calls (k : Nat) : ∀ (A0 : Option Addr) (c0 : Nat) (l0 : List (S60)) (r : Bool) (w : World) (hr0 : Kd.C k60 w A0 l0.length l0) (hc0 : l0.length ≤ c0) (h : bobbinetkeep_apartTexts.f k l0 = some r),
  Calls Try.prog 30 #[.slice A0 l0.length c0] w fun e w' => e = .returned (.bool r) ∧ Drawn0 w w' := by
 induction k using Nat.strongRecOn with
 | _ k ih =>
 intro A0 c0 l0 r w hr0 hc0 h
 cases k with
 | zero => exact absurd h (by simp [bobbinetkeep_apartTexts.f])
 | succ k =>
 simp only [bobbinetkeep_apartTexts.f] at h
 have HR0 := Aside0.mk hr0
 have HC0 := Aside0.mk hc0
 clear hr0 hc0
 have H : (bobbinetkeep_apartTexts.l0 k l0 0) = some r := h
 clear h
 have H' := Aside0.mk H
 clear H
 go_enter Try.func30, Try.ntmps30
 go_wp2
 go_loopg [3] k (fun kq v3 w' => ∃ (x3_1 : Int), v3 = .int .i64 x3_1 ∧ Aside0 (bobbinetkeep_apartTexts.l0 kq l0 x3_1 = some r) ∧ Aside0 (kq ≤ k) ∧ Drawn0 w w')
 case atStart => exact ⟨(0), (by first | rfl | (simp; done) | (simp [*]; done) | (simp [bne]; done)), H', ⟨Nat.le_refl _⟩, by repeat (first | exact Drawn0.refl _ | apply Drawn0.step)⟩
 case round =>
  clear H'
  obtain ⟨x3_1, rfl, HA, HK1, ⟨m1, rfl⟩⟩ := hrel
  cases gk with
  | zero => exact absurd HA.out (by simp [bobbinetkeep_apartTexts.l0])
  | succ k1 =>
   have H := HA.out
   clear HA
   simp only [bobbinetkeep_apartTexts.l0] at H
   by_cases c2 : x3_1 < (l0.length : Int)
   ·
    rw [if_pos c2] at H
    have c2b0 : decide (x3_1 < (l0.length : Int)) = true := decide_eq_true c2
    clear c2
    by_cases c3 : 0 ≤ x3_1
    ·
     rw [if_pos c3] at H
     have c3b0 : decide (0 ≤ x3_1) = true := decide_eq_true c3
     clear c3
     have HC4 := Aside0.mk H
     clear H
     have p262 : 0 ≤ (x3_1 : Int) := of_decide_eq_true (by first | (with_reducible assumption) | assumption)
     have q262 : x3_1 < (l0.length : Int) := of_decide_eq_true (by first | (with_reducible assumption) | assumption)
     obtain ⟨ad262, A262_1, c262_1, A262_3, c262_3, e262, hx262_0, hx262_1, hx262_2, hx262_3, hl262_1, hi262_1, hl262_3, hi262_3⟩ := at_T60 HR0.out x3_1 p262 q262
     cases e262
     have HR262_1 := Aside0.mk hi262_1
     have HC262_1 := Aside0.mk hl262_1
     clear hi262_1 hl262_1
     have HR262_3 := Aside0.mk hi262_3
     have HC262_3 := Aside0.mk hl262_3
     clear hi262_3 hl262_3
     replace p262 := eq_true p262
     replace q262 := eq_true q262
     obtain ⟨bq1_, hbq1_⟩ : ∃ b_, (((rd_T60 l0 x3_1).f0).toList == ([] : List UInt8)) = b_ := ⟨_, rfl⟩
     have hbr1_ : ((rd_T60 l0 x3_1).f0).toList.isEmpty = bq1_ := by simpa using hbq1_
     go_upto_region 5 with (fail)
     go_cut [56] (fun v56 wc => ∃ (kq : Nat) (x56_3 : Bool), v56 = .bool x56_3 ∧ Aside0 (bobbinetkeep_apartTexts.j1 kq l0 x3_1 (((rd_T60 l0 x3_1).f0).toList == ([] : List UInt8)) x56_3 = some r) ∧ Aside0 (kq ≤ k1) ∧ Drawn0 w wc)
     case first =>
      have H := HC4.out
      clear HC4
      by_cases c5 : ((rd_T60 l0 x3_1).f0).toList = ([] : List UInt8)
      ·
       rw [if_pos c5] at H
       have c5b0 : (((rd_T60 l0 x3_1).f0).toList == ([] : List UInt8)) = true := beq_iff_eq.mpr c5
       try (obtain rfl : bq1_ = true := hbq1_.symm.trans c5b0)
       have c5b1 : (((rd_T60 l0 x3_1).f0).toList != ([] : List UInt8)) = false := bne_eq_false_iff_eq.mpr c5
       clear c5
       (first | rw [c5b0] | (simp only [i64_w, i32_w]; rw [c5b0]) | rw [c5b1] | skip)
       by_cases c6 : ((rd_T60 l0 x3_1).f2).toList = ([] : List UInt8)
       ·
        rw [if_pos c6] at H
        have c6b0 : (((rd_T60 l0 x3_1).f2).toList == ([] : List UInt8)) = true := beq_iff_eq.mpr c6
        have c6b1 : (((rd_T60 l0 x3_1).f2).toList != ([] : List UInt8)) = false := bne_eq_false_iff_eq.mpr c6
        clear c6
        have H' := Aside0.mk H
        clear H
        have p263 : 0 ≤ (x3_1 : Int) := of_decide_eq_true (by first | (with_reducible assumption) | assumption)
        have q263 : x3_1 < (l0.length : Int) := of_decide_eq_true (by first | (with_reducible assumption) | assumption)
        obtain ⟨ad263, A263_1, c263_1, A263_3, c263_3, e263, hx263_0, hx263_1, hx263_2, hx263_3, hl263_1, hi263_1, hl263_3, hi263_3⟩ := at_T60 HR0.out x3_1 p263 q263
        obtain rfl : ad262 = ad263 := (by injection e263)
        have HR263_1 := Aside0.mk hi263_1
        have HC263_1 := Aside0.mk hl263_1
        clear hi263_1 hl263_1
        have HR263_3 := Aside0.mk hi263_3
        have HC263_3 := Aside0.mk hl263_3
        clear hi263_3 hl263_3
        replace p263 := eq_true p263
        replace q263 := eq_true q263
        go_wp2
        go_meet
        case rel => exact ⟨_, (true), (by first | rfl | (simp; done) | (simp [*]; done) | (simp [bne]; done)), H', ⟨by have := HK1.out; first | omega | exact Nat.le_refl _⟩, by repeat (first | exact Drawn0.refl _ | apply Drawn0.step)⟩
       ·
        rw [if_neg c6] at H
        have c6b0 : (((rd_T60 l0 x3_1).f2).toList == ([] : List UInt8)) = false := beq_eq_false_iff_ne.mpr c6
        have c6b1 : (((rd_T60 l0 x3_1).f2).toList != ([] : List UInt8)) = true := bne_iff_ne.mpr c6
        by_cases c7 : (((rd_T60 l0 x3_1).f3).length : Int) > 0
        ·
         rw [if_pos c7] at H
         have c7b0 : decide (0 < (((rd_T60 l0 x3_1).f3).length : Int)) = true := decide_eq_true c7
         have c7b1 : decide (0 < ((rd_T60 l0 x3_1).f3).length) = true := decide_eq_true (by omega)
         clear c7
         have H' := Aside0.mk H
         clear H
         have p263 : 0 ≤ (x3_1 : Int) := of_decide_eq_true (by first | (with_reducible assumption) | assumption)
         have q263 : x3_1 < (l0.length : Int) := of_decide_eq_true (by first | (with_reducible assumption) | assumption)
         obtain ⟨ad263, A263_1, c263_1, A263_3, c263_3, e263, hx263_0, hx263_1, hx263_2, hx263_3, hl263_1, hi263_1, hl263_3, hi263_3⟩ := at_T60 HR0.out x3_1 p263 q263
         obtain rfl : ad262 = ad263 := (by injection e263)
         have HR263_1 := Aside0.mk hi263_1
         have HC263_1 := Aside0.mk hl263_1
         clear hi263_1 hl263_1
         have HR263_3 := Aside0.mk hi263_3
         have HC263_3 := Aside0.mk hl263_3
         clear hi263_3 hl263_3
         replace p263 := eq_true p263
         replace q263 := eq_true q263
         have p264 : 0 ≤ (x3_1 : Int) := of_decide_eq_true (by first | (with_reducible assumption) | assumption)
         have q264 : x3_1 < (l0.length : Int) := of_decide_eq_true (by first | (with_reducible assumption) | assumption)
         obtain ⟨ad264, A264_1, c264_1, A264_3, c264_3, e264, hx264_0, hx264_1, hx264_2, hx264_3, hl264_1, hi264_1, hl264_3, hi264_3⟩ := at_T60 HR0.out x3_1 p264 q264
         obtain rfl : ad262 = ad264 := (by injection e264)
         have HR264_1 := Aside0.mk hi264_1
         have HC264_1 := Aside0.mk hl264_1
         clear hi264_1 hl264_1
         have HR264_3 := Aside0.mk hi264_3
         have HC264_3 := Aside0.mk hl264_3
         clear hi264_3 hl264_3
         replace p264 := eq_true p264
         replace q264 := eq_true q264
         have ea_ := Option.some.inj (hx263_1.symm.trans hx264_1)
         injection ea_ with ea_ en_ ec_
         subst ea_
         subst ec_
         clear en_
         have ea_ := Option.some.inj (hx263_3.symm.trans hx264_3)
         injection ea_ with ea_ en_ ec_
         subst ea_
         subst ec_
         clear en_
         go_wp2
         go_meet
         case rel => exact ⟨_, (true), (by first | rfl | (simp; done) | (simp [*]; done) | (simp [bne]; done)), H', ⟨by have := HK1.out; first | omega | exact Nat.le_refl _⟩, by repeat (first | exact Drawn0.refl _ | apply Drawn0.step)⟩
        ·
         rw [if_neg c7] at H
         have c7b0 : decide (0 < (((rd_T60 l0 x3_1).f3).length : Int)) = false := decide_eq_false c7
         have c7b1 : decide (0 < ((rd_T60 l0 x3_1).f3).length) = false := decide_eq_false (by omega)
         clear c7
         by_cases c8 : (((rd_T60 l0 x3_1).f1).length : Int) > 0
         ·
          rw [if_pos c8] at H
          have c8b0 : decide (0 < (((rd_T60 l0 x3_1).f1).length : Int)) = true := decide_eq_true c8
          have c8b1 : decide (0 < ((rd_T60 l0 x3_1).f1).length) = true := decide_eq_true (by omega)
          clear c8
          have H' := Aside0.mk H
          clear H
          have p263 : 0 ≤ (x3_1 : Int) := of_decide_eq_true (by first | (with_reducible assumption) | assumption)
          have q263 : x3_1 < (l0.length : Int) := of_decide_eq_true (by first | (with_reducible assumption) | assumption)
          obtain ⟨ad263, A263_1, c263_1, A263_3, c263_3, e263, hx263_0, hx263_1, hx263_2, hx263_3, hl263_1, hi263_1, hl263_3, hi263_3⟩ := at_T60 HR0.out x3_1 p263 q263
          obtain rfl : ad262 = ad263 := (by injection e263)
          have HR263_1 := Aside0.mk hi263_1
          have HC263_1 := Aside0.mk hl263_1
          clear hi263_1 hl263_1
          have HR263_3 := Aside0.mk hi263_3
          have HC263_3 := Aside0.mk hl263_3
          clear hi263_3 hl263_3
          replace p263 := eq_true p263
          replace q263 := eq_true q263
          have p264 : 0 ≤ (x3_1 : Int) := of_decide_eq_true (by first | (with_reducible assumption) | assumption)
          have q264 : x3_1 < (l0.length : Int) := of_decide_eq_true (by first | (with_reducible assumption) | assumption)
          obtain ⟨ad264, A264_1, c264_1, A264_3, c264_3, e264, hx264_0, hx264_1, hx264_2, hx264_3, hl264_1, hi264_1, hl264_3, hi264_3⟩ := at_T60 HR0.out x3_1 p264 q264
          obtain rfl : ad262 = ad264 := (by injection e264)
          have HR264_1 := Aside0.mk hi264_1
          have HC264_1 := Aside0.mk hl264_1
          clear hi264_1 hl264_1
          have HR264_3 := Aside0.mk hi264_3
          have HC264_3 := Aside0.mk hl264_3
          clear hi264_3 hl264_3
          replace p264 := eq_true p264
          replace q264 := eq_true q264
          have ea_ := Option.some.inj (hx263_1.symm.trans hx264_1)
          injection ea_ with ea_ en_ ec_
          subst ea_
          subst ec_
          clear en_
          have ea_ := Option.some.inj (hx263_3.symm.trans hx264_3)
          injection ea_ with ea_ en_ ec_
          subst ea_
          subst ec_
          clear en_
          have p265 : 0 ≤ (x3_1 : Int) := of_decide_eq_true (by first | (with_reducible assumption) | assumption)
          have q265 : x3_1 < (l0.length : Int) := of_decide_eq_true (by first | (with_reducible assumption) | assumption)
          obtain ⟨ad265, A265_1, c265_1, A265_3, c265_3, e265, hx265_0, hx265_1, hx265_2, hx265_3, hl265_1, hi265_1, hl265_3, hi265_3⟩ := at_T60 HR0.out x3_1 p265 q265
          obtain rfl : ad262 = ad265 := (by injection e265)
          have HR265_1 := Aside0.mk hi265_1
          have HC265_1 := Aside0.mk hl265_1
          clear hi265_1 hl265_1
          have HR265_3 := Aside0.mk hi265_3
          have HC265_3 := Aside0.mk hl265_3
          clear hi265_3 hl265_3
          replace p265 := eq_true p265
          replace q265 := eq_true q265
          have ea_ := Option.some.inj (hx263_1.symm.trans hx265_1)
          injection ea_ with ea_ en_ ec_
          subst ea_
          subst ec_
          clear en_
          have ea_ := Option.some.inj (hx263_3.symm.trans hx265_3)
          injection ea_ with ea_ en_ ec_
          subst ea_
          subst ec_
          clear en_
          go_wp2
          go_meet
          case rel => exact ⟨_, (true), (by first | rfl | (simp; done) | (simp [*]; done) | (simp [bne]; done)), H', ⟨by have := HK1.out; first | omega | exact Nat.le_refl _⟩, by repeat (first | exact Drawn0.refl _ | apply Drawn0.step)⟩
         ·
          rw [if_neg c8] at H
          have c8b0 : decide (0 < (((rd_T60 l0 x3_1).f1).length : Int)) = false := decide_eq_false c8
          have c8b1 : decide (0 < ((rd_T60 l0 x3_1).f1).length) = false := decide_eq_false (by omega)
          clear c8
          by_cases c9 : x3_1 > 0
          ·
           rw [if_pos c9] at H
           have c9b0 : decide (0 < x3_1) = true := decide_eq_true c9
           clear c9
           obtain ⟨ji10, hji10⟩ : ∃ j_ : Int, (wrap64 (x3_1 - 1)) = j_ := ⟨_, rfl⟩
           replace H : (if 0 ≤ (ji10) then (if (ji10) < (l0.length : Int) then (bobbinetkeep_apartTexts.j1 k1 l0 x3_1 (((rd_T60 l0 x3_1).f0).toList == ([] : List UInt8)) (((rd_T60 l0 (ji10)).f0).toList == ([] : List UInt8))) else (none)) else (none)) = some r := by first | (rw [hji10] at H; exact H) | (simp only [hji10] at H ⊢; exact H)
           have hji10w : (IntKind.i64.wrap (x3_1 - 1)) = ji10 := (i64_w _).trans hji10
           by_cases c11 : 0 ≤ (ji10)
           ·
            rw [if_pos c11] at H
            have c11b0 : decide (0 ≤ (ji10)) = true := decide_eq_true c11
            clear c11
            by_cases c12 : (ji10) < (l0.length : Int)
            ·
             rw [if_pos c12] at H
             have c12b0 : decide ((ji10) < (l0.length : Int)) = true := decide_eq_true c12
             clear c12
             have H' := Aside0.mk H
             clear H
             have p263 : 0 ≤ (x3_1 : Int) := of_decide_eq_true (by first | (with_reducible assumption) | assumption)
             have q263 : x3_1 < (l0.length : Int) := of_decide_eq_true (by first | (with_reducible assumption) | assumption)
             obtain ⟨ad263, A263_1, c263_1, A263_3, c263_3, e263, hx263_0, hx263_1, hx263_2, hx263_3, hl263_1, hi263_1, hl263_3, hi263_3⟩ := at_T60 HR0.out x3_1 p263 q263
             obtain rfl : ad262 = ad263 := (by injection e263)
             have HR263_1 := Aside0.mk hi263_1
             have HC263_1 := Aside0.mk hl263_1
             clear hi263_1 hl263_1
             have HR263_3 := Aside0.mk hi263_3
             have HC263_3 := Aside0.mk hl263_3
             clear hi263_3 hl263_3
             replace p263 := eq_true p263
             replace q263 := eq_true q263
             have p264 : 0 ≤ (x3_1 : Int) := of_decide_eq_true (by first | (with_reducible assumption) | assumption)
             have q264 : x3_1 < (l0.length : Int) := of_decide_eq_true (by first | (with_reducible assumption) | assumption)
             obtain ⟨ad264, A264_1, c264_1, A264_3, c264_3, e264, hx264_0, hx264_1, hx264_2, hx264_3, hl264_1, hi264_1, hl264_3, hi264_3⟩ := at_T60 HR0.out x3_1 p264 q264
             obtain rfl : ad262 = ad264 := (by injection e264)
             have HR264_1 := Aside0.mk hi264_1
             have HC264_1 := Aside0.mk hl264_1
             clear hi264_1 hl264_1
             have HR264_3 := Aside0.mk hi264_3
             have HC264_3 := Aside0.mk hl264_3
             clear hi264_3 hl264_3
             replace p264 := eq_true p264
             replace q264 := eq_true q264
             have ea_ := Option.some.inj (hx263_1.symm.trans hx264_1)
             injection ea_ with ea_ en_ ec_
             subst ea_
             subst ec_
             clear en_
             have ea_ := Option.some.inj (hx263_3.symm.trans hx264_3)
             injection ea_ with ea_ en_ ec_
             subst ea_
             subst ec_
             clear en_
             have p265 : 0 ≤ (x3_1 : Int) := of_decide_eq_true (by first | (with_reducible assumption) | assumption)
             have q265 : x3_1 < (l0.length : Int) := of_decide_eq_true (by first | (with_reducible assumption) | assumption)
             obtain ⟨ad265, A265_1, c265_1, A265_3, c265_3, e265, hx265_0, hx265_1, hx265_2, hx265_3, hl265_1, hi265_1, hl265_3, hi265_3⟩ := at_T60 HR0.out x3_1 p265 q265
             obtain rfl : ad262 = ad265 := (by injection e265)
             have HR265_1 := Aside0.mk hi265_1
             have HC265_1 := Aside0.mk hl265_1
             clear hi265_1 hl265_1
             have HR265_3 := Aside0.mk hi265_3
             have HC265_3 := Aside0.mk hl265_3
             clear hi265_3 hl265_3
             replace p265 := eq_true p265
             replace q265 := eq_true q265
             have ea_ := Option.some.inj (hx263_1.symm.trans hx265_1)
             injection ea_ with ea_ en_ ec_
             subst ea_
             subst ec_
             clear en_
             have ea_ := Option.some.inj (hx263_3.symm.trans hx265_3)
             injection ea_ with ea_ en_ ec_
             subst ea_
             subst ec_
             clear en_
             have p266 : 0 ≤ ((ji10) : Int) := of_decide_eq_true (by first | (with_reducible assumption) | assumption)
             have q266 : (ji10) < (l0.length : Int) := of_decide_eq_true (by first | (with_reducible assumption) | assumption)
             obtain ⟨ad266, A266_1, c266_1, A266_3, c266_3, e266, hx266_0, hx266_1, hx266_2, hx266_3, hl266_1, hi266_1, hl266_3, hi266_3⟩ := at_T60 HR0.out (ji10) p266 q266
             obtain rfl : ad262 = ad266 := (by injection e266)
             have HR266_1 := Aside0.mk hi266_1
             have HC266_1 := Aside0.mk hl266_1
             clear hi266_1 hl266_1
             have HR266_3 := Aside0.mk hi266_3
             have HC266_3 := Aside0.mk hl266_3
             clear hi266_3 hl266_3
             replace p266 := eq_true p266
             replace q266 := eq_true q266
             go_wp2
             go_meet
             case rel => exact ⟨_, ((((rd_T60 l0 (ji10)).f0).toList == ([] : List UInt8))), (by first | rfl | (simp; done) | (simp only [← hji10] <;> (first | rfl | simp)) | (simp [*]; done)), H', ⟨by have := HK1.out; first | omega | exact Nat.le_refl _⟩, by repeat (first | exact Drawn0.refl _ | apply Drawn0.step)⟩
            ·
             rw [if_neg c12] at H
             exact absurd H (by simp)
           ·
            rw [if_neg c11] at H
            exact absurd H (by simp)
          ·
           rw [if_neg c9] at H
           have c9b0 : decide (0 < x3_1) = false := decide_eq_false c9
           clear c9
           have H' := Aside0.mk H
           clear H
           have p263 : 0 ≤ (x3_1 : Int) := of_decide_eq_true (by first | (with_reducible assumption) | assumption)
           have q263 : x3_1 < (l0.length : Int) := of_decide_eq_true (by first | (with_reducible assumption) | assumption)
           obtain ⟨ad263, A263_1, c263_1, A263_3, c263_3, e263, hx263_0, hx263_1, hx263_2, hx263_3, hl263_1, hi263_1, hl263_3, hi263_3⟩ := at_T60 HR0.out x3_1 p263 q263
           obtain rfl : ad262 = ad263 := (by injection e263)
           have HR263_1 := Aside0.mk hi263_1
           have HC263_1 := Aside0.mk hl263_1
           clear hi263_1 hl263_1
           have HR263_3 := Aside0.mk hi263_3
           have HC263_3 := Aside0.mk hl263_3
           clear hi263_3 hl263_3
           replace p263 := eq_true p263
           replace q263 := eq_true q263
           have p264 : 0 ≤ (x3_1 : Int) := of_decide_eq_true (by first | (with_reducible assumption) | assumption)
           have q264 : x3_1 < (l0.length : Int) := of_decide_eq_true (by first | (with_reducible assumption) | assumption)
           obtain ⟨ad264, A264_1, c264_1, A264_3, c264_3, e264, hx264_0, hx264_1, hx264_2, hx264_3, hl264_1, hi264_1, hl264_3, hi264_3⟩ := at_T60 HR0.out x3_1 p264 q264
           obtain rfl : ad262 = ad264 := (by injection e264)
           have HR264_1 := Aside0.mk hi264_1
           have HC264_1 := Aside0.mk hl264_1
           clear hi264_1 hl264_1
           have HR264_3 := Aside0.mk hi264_3
           have HC264_3 := Aside0.mk hl264_3
           clear hi264_3 hl264_3
           replace p264 := eq_true p264
           replace q264 := eq_true q264
           have ea_ := Option.some.inj (hx263_1.symm.trans hx264_1)
           injection ea_ with ea_ en_ ec_
           subst ea_
           subst ec_
           clear en_
           have ea_ := Option.some.inj (hx263_3.symm.trans hx264_3)
           injection ea_ with ea_ en_ ec_
           subst ea_
           subst ec_
           clear en_
           have p265 : 0 ≤ (x3_1 : Int) := of_decide_eq_true (by first | (with_reducible assumption) | assumption)
           have q265 : x3_1 < (l0.length : Int) := of_decide_eq_true (by first | (with_reducible assumption) | assumption)
           obtain ⟨ad265, A265_1, c265_1, A265_3, c265_3, e265, hx265_0, hx265_1, hx265_2, hx265_3, hl265_1, hi265_1, hl265_3, hi265_3⟩ := at_T60 HR0.out x3_1 p265 q265
           obtain rfl : ad262 = ad265 := (by injection e265)
           have HR265_1 := Aside0.mk hi265_1
           have HC265_1 := Aside0.mk hl265_1
           clear hi265_1 hl265_1
           have HR265_3 := Aside0.mk hi265_3
           have HC265_3 := Aside0.mk hl265_3
           clear hi265_3 hl265_3
           replace p265 := eq_true p265
           replace q265 := eq_true q265
           have ea_ := Option.some.inj (hx263_1.symm.trans hx265_1)
           injection ea_ with ea_ en_ ec_
           subst ea_
           subst ec_
           clear en_
           have ea_ := Option.some.inj (hx263_3.symm.trans hx265_3)
           injection ea_ with ea_ en_ ec_
           subst ea_
           subst ec_
           clear en_
           go_wp2
           go_meet
           case rel => exact ⟨_, (false), (by first | rfl | (simp; done) | (simp [*]; done) | (simp [bne]; done)), H', ⟨by have := HK1.out; first | omega | exact Nat.le_refl _⟩, by repeat (first | exact Drawn0.refl _ | apply Drawn0.step)⟩
      ·
       rw [if_neg c5] at H
       have c5b0 : (((rd_T60 l0 x3_1).f0).toList == ([] : List UInt8)) = false := beq_eq_false_iff_ne.mpr c5
       try (obtain rfl : bq1_ = false := hbq1_.symm.trans c5b0)
       have c5b1 : (((rd_T60 l0 x3_1).f0).toList != ([] : List UInt8)) = true := bne_iff_ne.mpr c5
       (first | rw [c5b0] | (simp only [i64_w, i32_w]; rw [c5b0]) | rw [c5b1] | skip)
       have H' := Aside0.mk H
       clear H
       go_wp2
       go_meet
       case rel => exact ⟨_, (false), (by first | rfl | (simp; done) | (simp [*]; done) | (simp [bne]; done)), H', ⟨by have := HK1.out; first | omega | exact Nat.le_refl _⟩, by repeat (first | exact Drawn0.refl _ | apply Drawn0.step)⟩
     case rest =>
      clear HC4
      try clear c1
      try clear c2
      try clear c2b0
      try clear p2
      try clear q2
      try clear hx2
      try clear c3
      try clear c3b0
      try clear c5
      try clear c5b0
      try clear c5b1
      try clear c6
      try clear c6b0
      try clear c6b1
      try clear p6
      try clear c7
      try clear c7b0
      try clear c7b1
      try clear c8
      try clear c8b0
      try clear c8b1
      try clear c9
      try clear c9b0
      try clear c11
      try clear c11b0
      try clear c12
      try clear c12b0
      try clear hx262_0
      try clear hx262_1
      try clear hx262_2
      try clear hx262_3
      try clear hx263_0
      try clear hx263_1
      try clear hx263_2
      try clear hx263_3
      try clear hx264_0
      try clear hx264_1
      try clear hx264_2
      try clear hx264_3
      try clear hx265_0
      try clear hx265_1
      try clear hx265_2
      try clear hx265_3
      try clear hx266_0
      try clear hx266_1
      try clear hx266_2
      try clear hx266_3
      try clear p262
      try clear p263
      try clear p264
      try clear p265
      try clear p266
      try clear q262
      try clear q263
      try clear q264
      try clear q265
      try clear q266
      obtain ⟨kq, x56_3, rfl, HA, HJ3, ⟨mc3, rfl⟩⟩ := hcut
      cases kq with
      | zero => exact absurd HA.out (by simp [bobbinetkeep_apartTexts.j1])
      | succ kj3 =>
       have H := HA.out
       clear HA
       simp only [bobbinetkeep_apartTexts.j1] at H
       by_cases c13 : x56_3 = true
       ·
        subst c13
        have H1 : (some false) = some r := by rw [if_pos rfl] at H; exact H
        clear H
        have H := H1
        clear H1
        obtain rfl := Option.some.inj H
        go_wp2
        go_ret
        exact ⟨by first | rfl | (simp; done) | (simp [*]; done), by repeat (first | exact Drawn0.refl _ | apply Drawn0.step)⟩
       ·
        replace c13 := Bool.eq_false_iff.mpr c13
        subst c13
        have H1 : (if (((rd_T60 l0 x3_1).f0).toList == ([] : List UInt8)) = true then (bobbinetkeep_apartTexts.l0 kj3 l0 (wrap64 (x3_1 + 1))) else (if 0 ≤ x3_1 then (if x3_1 < (l0.length : Int) then (if ((rd_T60 l0 x3_1).f2).toList = ([] : List UInt8) then ((bobbinetkeep_apartTexts.f kj3 ((rd_T60 l0 x3_1).f3)).bind fun t269 => (if t269 = true then (bobbinetkeep_apartTexts.l0 kj3 l0 (wrap64 (x3_1 + 1))) else (some false))) else (some false)) else (none)) else (none))) = some r := by rw [if_neg (show ¬ (false = true) by decide)] at H; exact H
        clear H
        have H := H1
        clear H1
        by_cases c14 : (((rd_T60 l0 x3_1).f0).toList == ([] : List UInt8)) = true
        ·
         rw [if_pos c14] at H
         have c14b0 : (((rd_T60 l0 x3_1).f0).toList == ([] : List UInt8)) = true := c14
         try (obtain rfl : bq1_ = true := hbq1_.symm.trans c14b0)
         (try (have c14b1 : decide (((rd_T60 l0 x3_1).f0).toList = ([] : List UInt8)) = true := by simpa using c14))
         (try (have c14b2 : (((rd_T60 l0 x3_1).f0).toList == ([] : List UInt8)) = true := by simpa using c14))
         clear c14
         have H' := Aside0.mk H
         clear H
         go_wp2
         go_roundg kj3
         case measure => have := HK1.out; have := HJ3.out; omega
         case rel => exact ⟨(wrap64 (x3_1 + 1)), (by first | rfl | (simp; done) | (simp [*]; done) | (simp [bne]; done)), H', ⟨by have := HK1.out; have := HJ3.out; omega⟩, by repeat (first | exact Drawn0.refl _ | apply Drawn0.step)⟩
        ·
         rw [if_neg c14] at H
         have c14b0 : (((rd_T60 l0 x3_1).f0).toList == ([] : List UInt8)) = false := by simpa using c14
         try (obtain rfl : bq1_ = false := hbq1_.symm.trans c14b0)
         (try (have c14b1 : decide (((rd_T60 l0 x3_1).f0).toList = ([] : List UInt8)) = false := by simpa using c14))
         (try (have c14b2 : (((rd_T60 l0 x3_1).f0).toList == ([] : List UInt8)) = false := by simpa using c14))
         (try (have c14b3 : ¬ (((rd_T60 l0 x3_1).f0).toList = ([] : List UInt8)) := by simpa using c14))
         clear c14
         by_cases c15 : 0 ≤ x3_1
         ·
          rw [if_pos c15] at H
          have c15b0 : decide (0 ≤ x3_1) = true := decide_eq_true c15
          clear c15
          by_cases c16 : x3_1 < (l0.length : Int)
          ·
           rw [if_pos c16] at H
           have c16b0 : decide (x3_1 < (l0.length : Int)) = true := decide_eq_true c16
           clear c16
           by_cases c17 : ((rd_T60 l0 x3_1).f2).toList = ([] : List UInt8)
           ·
            rw [if_pos c17] at H
            have c17b0 : (((rd_T60 l0 x3_1).f2).toList == ([] : List UInt8)) = true := beq_iff_eq.mpr c17
            have c17b1 : (((rd_T60 l0 x3_1).f2).toList != ([] : List UInt8)) = false := bne_eq_false_iff_eq.mpr c17
            clear c17
            replace H := Option.bind_eq_some_iff.mp H
            obtain ⟨t269, A180, H⟩ := H
            replace H : (if t269 = true then (bobbinetkeep_apartTexts.l0 kj3 l0 (wrap64 (x3_1 + 1))) else (some false)) = some r := H
            have A18 := Aside0.mk A180
            clear A180
            by_cases c19 : t269 = true
            ·
             subst c19
             have H1 : (bobbinetkeep_apartTexts.l0 kj3 l0 (wrap64 (x3_1 + 1))) = some r := by rw [if_pos rfl] at H; exact H
             clear H
             have H := H1
             clear H1
             have H' := Aside0.mk H
             clear H
             have p267 : 0 ≤ (x3_1 : Int) := of_decide_eq_true (by first | (with_reducible assumption) | assumption)
             have q267 : x3_1 < (l0.length : Int) := of_decide_eq_true (by first | (with_reducible assumption) | assumption)
             obtain ⟨ad267, A267_1, c267_1, A267_3, c267_3, e267, hx267_0, hx267_1, hx267_2, hx267_3, hl267_1, hi267_1, hl267_3, hi267_3⟩ := at_T60 HR0.out x3_1 p267 q267
             obtain rfl : ad262 = ad267 := (by injection e267)
             have HR267_1 := Aside0.mk hi267_1
             have HC267_1 := Aside0.mk hl267_1
             clear hi267_1 hl267_1
             have HR267_3 := Aside0.mk hi267_3
             have HC267_3 := Aside0.mk hl267_3
             clear hi267_3 hl267_3
             replace p267 := eq_true p267
             replace q267 := eq_true q267
             have p268 : 0 ≤ (x3_1 : Int) := of_decide_eq_true (by first | (with_reducible assumption) | assumption)
             have q268 : x3_1 < (l0.length : Int) := of_decide_eq_true (by first | (with_reducible assumption) | assumption)
             obtain ⟨ad268, A268_1, c268_1, A268_3, c268_3, e268, hx268_0, hx268_1, hx268_2, hx268_3, hl268_1, hi268_1, hl268_3, hi268_3⟩ := at_T60 HR0.out x3_1 p268 q268
             obtain rfl : ad262 = ad268 := (by injection e268)
             have HR268_1 := Aside0.mk hi268_1
             have HC268_1 := Aside0.mk hl268_1
             clear hi268_1 hl268_1
             have HR268_3 := Aside0.mk hi268_3
             have HC268_3 := Aside0.mk hl268_3
             clear hi268_3 hl268_3
             replace p268 := eq_true p268
             replace q268 := eq_true q268
             have ea_ := Option.some.inj (hx267_1.symm.trans hx268_1)
             injection ea_ with ea_ en_ ec_
             subst ea_
             subst ec_
             clear en_
             have ea_ := Option.some.inj (hx267_3.symm.trans hx268_3)
             injection ea_ with ea_ en_ ec_
             subst ea_
             subst ec_
             clear en_
             go_wp2_with (first | (go_at_call 30; (with_reducible refine (ih kj3 (by have := HK1.out; have := HJ3.out; omega) _ _ ((rd_T60 l0 x3_1).f3) true _ ?side1 ?side2 A18.out).mono ?_); (case side1 => repeat (first | exact HR268_3.out | (with_reducible refine Kd.C_alloc ?_ _) | (with_reducible refine Kd.C_drewN ?_ _) | (with_reducible refine Kd.C_drew ?_))); (case side2 => exact HC268_3.out); rintro e w' ⟨rfl, ⟨nd, rfl⟩⟩))
             go_roundg kj3
             case measure => have := HK1.out; have := HJ3.out; omega
             case rel => exact ⟨(wrap64 (x3_1 + 1)), (by first | rfl | (simp; done) | (simp [*]; done) | (simp [bne]; done)), H', ⟨by have := HK1.out; have := HJ3.out; omega⟩, by repeat (first | exact Drawn0.refl _ | apply Drawn0.step)⟩
            ·
             replace c19 := Bool.eq_false_iff.mpr c19
             subst c19
             have H1 : (some false) = some r := by rw [if_neg (show ¬ (false = true) by decide)] at H; exact H
             clear H
             have H := H1
             clear H1
             obtain rfl := Option.some.inj H
             have p267 : 0 ≤ (x3_1 : Int) := of_decide_eq_true (by first | (with_reducible assumption) | assumption)
             have q267 : x3_1 < (l0.length : Int) := of_decide_eq_true (by first | (with_reducible assumption) | assumption)
             obtain ⟨ad267, A267_1, c267_1, A267_3, c267_3, e267, hx267_0, hx267_1, hx267_2, hx267_3, hl267_1, hi267_1, hl267_3, hi267_3⟩ := at_T60 HR0.out x3_1 p267 q267
             obtain rfl : ad262 = ad267 := (by injection e267)
             have HR267_1 := Aside0.mk hi267_1
             have HC267_1 := Aside0.mk hl267_1
             clear hi267_1 hl267_1
             have HR267_3 := Aside0.mk hi267_3
             have HC267_3 := Aside0.mk hl267_3
             clear hi267_3 hl267_3
             replace p267 := eq_true p267
             replace q267 := eq_true q267
             have p268 : 0 ≤ (x3_1 : Int) := of_decide_eq_true (by first | (with_reducible assumption) | assumption)
             have q268 : x3_1 < (l0.length : Int) := of_decide_eq_true (by first | (with_reducible assumption) | assumption)
             obtain ⟨ad268, A268_1, c268_1, A268_3, c268_3, e268, hx268_0, hx268_1, hx268_2, hx268_3, hl268_1, hi268_1, hl268_3, hi268_3⟩ := at_T60 HR0.out x3_1 p268 q268
             obtain rfl : ad262 = ad268 := (by injection e268)
             have HR268_1 := Aside0.mk hi268_1
             have HC268_1 := Aside0.mk hl268_1
             clear hi268_1 hl268_1
             have HR268_3 := Aside0.mk hi268_3
             have HC268_3 := Aside0.mk hl268_3
             clear hi268_3 hl268_3
             replace p268 := eq_true p268
             replace q268 := eq_true q268
             have ea_ := Option.some.inj (hx267_1.symm.trans hx268_1)
             injection ea_ with ea_ en_ ec_
             subst ea_
             subst ec_
             clear en_
             have ea_ := Option.some.inj (hx267_3.symm.trans hx268_3)
             injection ea_ with ea_ en_ ec_
             subst ea_
             subst ec_
             clear en_
             go_wp2_with (first | (go_at_call 30; (with_reducible refine (ih kj3 (by have := HK1.out; have := HJ3.out; omega) _ _ ((rd_T60 l0 x3_1).f3) false _ ?side1 ?side2 A18.out).mono ?_); (case side1 => repeat (first | exact HR268_3.out | (with_reducible refine Kd.C_alloc ?_ _) | (with_reducible refine Kd.C_drewN ?_ _) | (with_reducible refine Kd.C_drew ?_))); (case side2 => exact HC268_3.out); rintro e w' ⟨rfl, ⟨nd, rfl⟩⟩))
             go_ret
             exact ⟨by first | rfl | (simp; done) | (simp [*]; done), by repeat (first | exact Drawn0.refl _ | apply Drawn0.step)⟩
           ·
            rw [if_neg c17] at H
            have c17b0 : (((rd_T60 l0 x3_1).f2).toList == ([] : List UInt8)) = false := beq_eq_false_iff_ne.mpr c17
            have c17b1 : (((rd_T60 l0 x3_1).f2).toList != ([] : List UInt8)) = true := bne_iff_ne.mpr c17
            obtain rfl := Option.some.inj H
            have p267 : 0 ≤ (x3_1 : Int) := of_decide_eq_true (by first | (with_reducible assumption) | assumption)
            have q267 : x3_1 < (l0.length : Int) := of_decide_eq_true (by first | (with_reducible assumption) | assumption)
            obtain ⟨ad267, A267_1, c267_1, A267_3, c267_3, e267, hx267_0, hx267_1, hx267_2, hx267_3, hl267_1, hi267_1, hl267_3, hi267_3⟩ := at_T60 HR0.out x3_1 p267 q267
            obtain rfl : ad262 = ad267 := (by injection e267)
            have HR267_1 := Aside0.mk hi267_1
            have HC267_1 := Aside0.mk hl267_1
            clear hi267_1 hl267_1
            have HR267_3 := Aside0.mk hi267_3
            have HC267_3 := Aside0.mk hl267_3
            clear hi267_3 hl267_3
            replace p267 := eq_true p267
            replace q267 := eq_true q267
            go_wp2
            go_ret
            exact ⟨by first | rfl | (simp; done) | (simp [*]; done), by repeat (first | exact Drawn0.refl _ | apply Drawn0.step)⟩
          ·
           rw [if_neg c16] at H
           exact absurd H (by simp)
         ·
          rw [if_neg c15] at H
          exact absurd H (by simp)
    ·
     rw [if_neg c3] at H
     exact absurd H (by simp)
   ·
    rw [if_neg c2] at H
    have c2b0 : decide (x3_1 < (l0.length : Int)) = false := decide_eq_false c2
    clear c2
    obtain rfl := Option.some.inj H
    go_wp2
    go_ret
    exact ⟨by first | rfl | (simp; done) | (simp [*]; done), by repeat (first | exact Drawn0.refl _ | apply Drawn0.step)⟩

end Go.Proofs.Ythimfdojpgbmbaa.X
