/- Parts of the proof of ExprAlgebra that are needed, put together by pack.py. -/
import Derived.Test.YtjmhihadgpdiaaaQExprAlgebraaf
section
namespace Go.Proofs.Ytjmhihadgpdiaaa.X
open Go.RowKit Go.Proofs.YtjmhihadgpdiaaaW.PrintWords Go.Proofs.YtjmhihadgpdiaaaW.PrintLast Go.Proofs.YtjmhihadgpdiaaaW.PrintMore
attribute [local go_sem] max2_int min2_int max_two min_two max_three min_three max_four min_four   -- for this text's walks alone
set_option linter.unusedVariables false
set_option linter.unusedSimpArgs false
def bobbinetkeep_Picked.f (a0 : Int) (a1 : Int) : Option (Int) := if a1 = 0 then (none) else (if (Int.tmod a0 a1) < 0 then (some (wrap64 ((Int.tmod a0 a1) + a1))) else (some (Int.tmod a0 a1)))
set_option maxHeartbeats 8000000 in
set_option maxRecDepth 100000 in
theorem bobbinetkeep_Picked.calls (a0 : Int) (a1 : Int) (r : Int) (w : World) (h : bobbinetkeep_Picked.f a0 a1 = some r) :
    Calls Try.prog 10 #[.int .i64 a0, .int .i64 a1] w fun e w' => e = .returned (.int .i64 r) ∧ Drawn0 w w' := by
  have H : (if a1 = 0 then (none) else (if (Int.tmod a0 a1) < 0 then (some (wrap64 ((Int.tmod a0 a1) + a1))) else (some (Int.tmod a0 a1)))) = some r := h
  clear h
  by_cases c3 : a1 = 0
  · rw [if_pos c3] at H
    exact absurd H (by simp)
  · rw [if_neg c3] at H
    have c3b0 : (a1 == 0) = false := beq_eq_false_iff_ne.mpr c3
    have c3b1 : (a1 != 0) = true := bne_iff_ne.mpr c3
    by_cases c4 : (Int.tmod a0 a1) < 0
    · rw [if_pos c4] at H
      have c4b0 : decide ((Int.tmod a0 a1) < 0) = true := decide_eq_true c4
      clear c4
      obtain rfl := Option.some.inj H
      go_enter Try.func10, Try.ntmps10
      go_wp2
      go_ret
      exact ⟨by first | rfl | (simp; done) | (simp [*]; done), by repeat (first | exact Drawn0.refl _ | apply Drawn0.step)⟩
    · rw [if_neg c4] at H
      have c4b0 : decide ((Int.tmod a0 a1) < 0) = false := decide_eq_false c4
      clear c4
      obtain rfl := Option.some.inj H
      go_enter Try.func10, Try.ntmps10
      go_wp2
      go_ret
      exact ⟨by first | rfl | (simp; done) | (simp [*]; done), by repeat (first | exact Drawn0.refl _ | apply Drawn0.step)⟩
end Go.Proofs.Ytjmhihadgpdiaaa.X
end
section
namespace Go.Proofs.Ytjmhihadgpdiaaa.X
open Go.RowKit Go.Proofs.YtjmhihadgpdiaaaW.PrintWords Go.Proofs.YtjmhihadgpdiaaaW.PrintLast Go.Proofs.YtjmhihadgpdiaaaW.PrintMore
attribute [local go_sem] max2_int min2_int max_two min_two max_three min_three max_four min_four   -- for this text's walks alone
set_option linter.unusedVariables false
set_option linter.unusedSimpArgs false
mutual
def bobbinetkeep_ExprText.j0 : Nat → List Int → Int → Int → Option (ByteArray × List Int)
 | 0, _, _, _ => none
 | k + 1, x0, x1, x6 => (bobbinetkeep_Picked.f x6 9).bind fun t107 => (if x1 ≤ 1 then (bobbinetkeep_ExprText.j1 k x0 x1 x6 t107 true) else (bobbinetkeep_ExprText.j1 k x0 x1 x6 t107 (decide (t107 < 3))))
def bobbinetkeep_ExprText.j1 : Nat → List Int → Int → Int → Int → Bool → Option (ByteArray × List Int)
 | 0, _, _, _, _, _ => none
 | k + 1, x0, x1, x6, x7, x25 => if x25 = true then ((bobbinetkeep_Picked.f (wrap64 (Int.tdiv x6 9)) 3).bind fun t108 => (if 0 ≤ t108 then (if t108 ≤ 3 then (if 0 ≤ 1 then (if 1 ≤ (((⟨#[97, 98, 99]⟩ : ByteArray).extract (t108 : Int).toNat (⟨#[97, 98, 99]⟩ : ByteArray).size).size : Int) then ((some (([(⟨#[]⟩ : ByteArray), (⟨#[]⟩ : ByteArray), (⟨#[42]⟩ : ByteArray), (⟨#[63]⟩ : ByteArray)] : List ByteArray) : List ByteArray)).bind fun y109 => ((bobbinetkeep_Picked.f (wrap64 (Int.tdiv x6 27)) 4).bind fun t112 => (if 0 ≤ t112 then (if t112 < (y109.length : Int) then (if (((⟨#[97, 98, 99]⟩ : ByteArray).extract (t108 : Int).toNat (⟨#[97, 98, 99]⟩ : ByteArray).size).extract 0 1).size + (rdOf ByteArray.empty y109 t112).size ≤ 9223372036854775807 then (some ((((⟨#[97, 98, 99]⟩ : ByteArray).extract (t108 : Int).toNat (⟨#[97, 98, 99]⟩ : ByteArray).size).extract 0 1) ++ (rdOf ByteArray.empty y109 t112), x0)) else (none)) else (none)) else (none)))) else (none)) else (none)) else (none)) else (none))) else ((bobbinetkeep_ExprText.f k x0 (wrap64 (x1 - 1))).bind fun bt114 => ((bobbinetkeep_ExprText.f k bt114.2 (wrap64 (x1 - 1))).bind fun bt118 => (if x7 < 6 then (if bt114.1.size + bt118.1.size ≤ 9223372036854775807 then (some (bt114.1 ++ bt118.1, bt118.2)) else (none)) else (if x7 = 6 then (if 1 + bt114.1.size ≤ 9223372036854775807 then (if ((⟨#[40]⟩ : ByteArray) ++ bt114.1).size + 1 ≤ 9223372036854775807 then (if (((⟨#[40]⟩ : ByteArray) ++ bt114.1) ++ (⟨#[124]⟩ : ByteArray)).size + bt118.1.size ≤ 9223372036854775807 then (if ((((⟨#[40]⟩ : ByteArray) ++ bt114.1) ++ (⟨#[124]⟩ : ByteArray)) ++ bt118.1).size + 1 ≤ 9223372036854775807 then (some (((((⟨#[40]⟩ : ByteArray) ++ bt114.1) ++ (⟨#[124]⟩ : ByteArray)) ++ bt118.1) ++ (⟨#[41]⟩ : ByteArray), bt118.2)) else (none)) else (none)) else (none)) else (none)) else (if x7 = 7 then (if 1 + bt114.1.size ≤ 9223372036854775807 then (if ((⟨#[40]⟩ : ByteArray) ++ bt114.1).size + 1 ≤ 9223372036854775807 then (if (((⟨#[40]⟩ : ByteArray) ++ bt114.1) ++ (⟨#[124]⟩ : ByteArray)).size + bt118.1.size ≤ 9223372036854775807 then (if ((((⟨#[40]⟩ : ByteArray) ++ bt114.1) ++ (⟨#[124]⟩ : ByteArray)) ++ bt118.1).size + 2 ≤ 9223372036854775807 then (some (((((⟨#[40]⟩ : ByteArray) ++ bt114.1) ++ (⟨#[124]⟩ : ByteArray)) ++ bt118.1) ++ (⟨#[41, 42]⟩ : ByteArray), bt118.2)) else (none)) else (none)) else (none)) else (none)) else (if 1 + bt114.1.size ≤ 9223372036854775807 then (if ((⟨#[40]⟩ : ByteArray) ++ bt114.1).size + bt118.1.size ≤ 9223372036854775807 then (if (((⟨#[40]⟩ : ByteArray) ++ bt114.1) ++ bt118.1).size + 1 ≤ 9223372036854775807 then ((some (([(⟨#[43]⟩ : ByteArray), (⟨#[63]⟩ : ByteArray)] : List ByteArray) : List ByteArray)).bind fun y122 => ((bobbinetkeep_Picked.f (wrap64 (Int.tdiv x6 9)) 2).bind fun t125 => (if 0 ≤ t125 then (if t125 < (y122.length : Int) then (if ((((⟨#[40]⟩ : ByteArray) ++ bt114.1) ++ bt118.1) ++ (⟨#[41]⟩ : ByteArray)).size + (rdOf ByteArray.empty y122 t125).size ≤ 9223372036854775807 then (some (((((⟨#[40]⟩ : ByteArray) ++ bt114.1) ++ bt118.1) ++ (⟨#[41]⟩ : ByteArray)) ++ (rdOf ByteArray.empty y122 t125), bt118.2)) else (none)) else (none)) else (none)))) else (none)) else (none)) else (none)))))))
def bobbinetkeep_ExprText.f : Nat → List Int → Int → Option (ByteArray × List Int)
 | 0, _, _ => none
 | k + 1, l0, a1 => if (l0.length : Int) > 0 then (if 0 < (l0.length : Int) then (if 1 ≤ (l0.length : Int) then (bobbinetkeep_ExprText.j0 k (l0.drop 1) a1 (rd l0 0)) else (none)) else (none)) else (bobbinetkeep_ExprText.j0 k l0 a1 0)
end
theorem bobbinetkeep_ExprText.lit (l : List ByteArray) (i : Nat) (h : i < l.length) : (l.map Value.string)[i]? = some (.string (rdOf ByteArray.empty l (i : Int))) := by simp [rdOf, List.getD, h]
theorem bobbinetkeep_ExprText.pack {P : Program} {c : Code} {Q : Exit → Act → World → Prop} {xa : Act} {W : World} (F : World → Prop) (h1 : F W) (h : ∀ W', F W' → Code.wp P c Q xa W') : Code.wp P c Q xa W := h W h1
def bobbinetkeep_ExprText.rExprText7.T7 : Bool × List (List Nat × List Nat) := (true, [([], []), ([0], [0]), ([1], [1]), ([2], [2]), ([3], [3]), ([], []), ([], []), ([6], [6]), ([7, 2], [7]), ([5, 8], [5, 8]), ([9], [9]), ([4, 10], [4, 10]), ([], []), ([11, 8, 0, 1, 2, 3, 4, 5, 6, 7, 8, 9, 10, 11], [11]), ([12, 13, 0, 1, 2, 3, 4, 5, 6, 7, 8, 9, 10, 11, 12, 13], [12])])
def bobbinetkeep_ExprText.rExprText7.B7 : List Nat := [0, 1, 3, 7, 15, 0, 0, 64, 199, 487, 999, 2047, 0, 4095, 16383]
theorem bobbinetkeep_ExprText.rExprText7.tab7 : rtab .any (opsOf Try.f9 7) = bobbinetkeep_ExprText.rExprText7.T7 := by kernel_rfl
theorem bobbinetkeep_ExprText.rExprText7.bits7 : waitsOk bobbinetkeep_ExprText.rExprText7.T7.2 bobbinetkeep_ExprText.rExprText7.B7 = true := by kernel_rfl
set_option maxHeartbeats 8000000 in
set_option maxRecDepth 100000 in
theorem bobbinetkeep_ExprText.calls (k : Nat) : ∀ (P0_ : Nat → Prop) (A0 : Option Addr) (c0 : Nat) (l0 : List Int) (a1 : Int) (r1 : ByteArray) (r2 : List Int) (w : World) (hs0 : Kd.V (Kd.int .i64) 3 w w.heap.size (fun k_ => P0_ k_) (.slice A0 l0.length c0) l0) (h : bobbinetkeep_ExprText.f k l0 a1 = some (r1, r2)),
  Calls Try.prog 9 #[.slice A0 l0.length c0, .int .i64 a1] w fun e w' => ∃ v1_ : Value, e = .returned (.tuple #[.string r1, v1_]) ∧ Kd.V (Kd.int .i64) 3 w' w.heap.size (fun k_ => (P0_ k_ ∨ w.heap.size ≤ k_)) v1_ r2 ∧ Below w.heap.size w w' := by
 induction k using Nat.strongRecOn with
 | _ k ih =>
 intro P0_ A0 c0 l0 a1 r1 r2 w hs0 h
 cases k with
 | zero => exact absurd h (by simp [bobbinetkeep_ExprText.f])
 | succ k =>
 simp only [bobbinetkeep_ExprText.f] at h
 have HO0 := Aside0.mk (show Kd.V (Kd.int .i64) 3 w w.heap.size (fun k_ => (P0_ k_ ∨ w.heap.size ≤ k_)) (.slice A0 l0.length c0) l0 from Kd.V_mono hs0 (fun k_ hk => .inl hk))
 have HB := Aside0.mk (Below.refl w.heap.size w)
 have H : (if (l0.length : Int) > 0 then (if 0 < (l0.length : Int) then (if 1 ≤ (l0.length : Int) then (bobbinetkeep_ExprText.j0 k (l0.drop 1) a1 (rd l0 0)) else (none)) else (none)) else (bobbinetkeep_ExprText.j0 k l0 a1 0)) = some (r1, r2) := h
 clear h
 have HC3 := Aside0.mk H
 clear H
 go_enter Try.func9, Try.ntmps9
 go_upto_if 12 with (fail)
 go_cut [0, 6] (fun v0 v6 wc => ∃ (kq : Nat) (x0_2 : List Int) (x6_2 : Int), v6 = .int .i64 x6_2 ∧ Aside0 (bobbinetkeep_ExprText.j0 kq x0_2 a1 x6_2 = some (r1, r2)) ∧ Aside0 (kq ≤ k) ∧ Aside0 (Kd.V (Kd.int .i64) 3 wc w.heap.size (fun k_ => (P0_ k_ ∨ w.heap.size ≤ k_)) v0 x0_2) ∧ Aside0 (Below w.heap.size w wc))
 case first =>
  have H := HC3.out
  clear HC3
  by_cases c4 : (l0.length : Int) > 0
  ·
   rw [if_pos c4] at H
   have c4b0 : decide (0 < (l0.length : Int)) = true := decide_eq_true c4
   have c4b1 : decide (0 < l0.length) = true := decide_eq_true (by omega)
   clear c4
   (first | rw [c4b0] | (simp only [i64_w, i32_w]; rw [c4b0]) | rw [c4b1] | skip)
   by_cases c5 : 0 < (l0.length : Int)
   ·
    rw [if_pos c5] at H
    have c5b0 : decide (0 < (l0.length : Int)) = true := decide_eq_true c5
    have c5b1 : decide (0 < l0.length) = true := decide_eq_true (by omega)
    clear c5
    by_cases c6 : 1 ≤ (l0.length : Int)
    ·
     rw [if_pos c6] at H
     have c6b0 := eq_true c6
     have c6b1 : decide (1 ≤ (l0.length : Int)) = true := decide_eq_true c6
     clear c6
     obtain ⟨y102, hy102⟩ : ∃ y_ : List Int, y_ = (l0.drop 1) := ⟨_, rfl⟩
     replace H : (bobbinetkeep_ExprText.j0 k y102 a1 (rd l0 0)) = some (r1, r2) := by first | (rw [hy102]; with_reducible exact H) | (have H2_ := (Option.bind_some _ _).symm.trans H; rw [hy102]; with_reducible exact H2_) | (have H2_ := (Option.bind_some _ _).symm.trans H; with_reducible exact H2_) | with_reducible exact H | (rw [hy102]; exact H) | exact H
     have Ny102 := Aside0.mk hy102
     clear hy102
     have H' := Aside0.mk H
     clear H
     have p101 : 0 ≤ (0 : Int) := (by omega)
     have q101 : 0 < (l0.length : Int) := of_decide_eq_true (by first | (with_reducible assumption) | assumption)
     obtain ⟨ad101, e101, hx101_0⟩ := Kd.at_int (Kd.V_reads' HO0.out).2.2 0 p101 q101
     cases e101
     have qi101 : (0 < l0.length) = True := eq_true (by omega)
     (try rw [show ((0 : Int)).toNat = 0 from rfl] at hx101_0)
     (try rw [Addr.add_zero'] at hx101_0)
     replace p101 := eq_true p101
     replace q101 := eq_true q101
     have q7 : (1 : Int) ≤ ((l0.length : Int) : Int) := of_decide_eq_true (by first | (with_reducible assumption) | assumption)
     obtain ⟨i07, hi07, _, hsz7, _⟩ := info_parts info3
     have hroom7 : l0.length ≤ c0 := (Kd.V_reads' HO0.out).2.1
     have hC7 : Kd.F (Kd.int .i64) _ _ (some ad101) l0.length l0 := (Kd.V_at (base := w.heap.size) HO0.out).2.2
     have hcut7 := cut_from (P := Try.prog) 22 3 .i64 Try.underlying22 hi07 1 hsz7 (some ad101) l0.length c0 1 (by omega) q7
     have hr7 := Kd.F_cut (m := (1 : Int).toNat) (c := c0) hC7 (by omega) hroom7
     obtain ⟨A7, hA7⟩ : ∃ A1, A1 = (if c0 = (1 : Int).toNat then (some ad101) else ((some ad101) : Option Addr).map (·.add ((1 : Int).toNat * 1))) := ⟨_, rfl⟩
     obtain ⟨c7, hc7⟩ : ∃ c1, c1 = c0 - (1 : Int).toNat := ⟨_, rfl⟩
     have hy7 : y102.length = l0.length - (1 : Int).toNat := (by rw [Ny102.out, List.length_drop] <;> omega)
     rw [show (l0).drop (1 : Int).toNat = y102 from Ny102.out.symm] at hr7
     replace hr7 : Kd.F (Kd.int .i64) _ _ A7 y102.length y102 := (by rw [hA7]; exact hr7)
     rw [← hy7, ← hA7, ← hc7] at hcut7
     have HO106 := Aside0.mk (show Kd.V (Kd.int .i64) 3 _ w.heap.size _ (.slice A7 y102.length c7) y102 from Kd.V_mk (by rw [hy7, hc7]; exact Nat.sub_le_sub_right hroom7 _) hr7)
     have HC106 := Aside0.mk (show y102.length ≤ c7 from by rw [hy7, hc7]; exact Nat.sub_le_sub_right hroom7 _)
     clear hr7 hC7 hroom7 hi07 hsz7 hc7
     have KY7 := Aside0.mk hy7
     have KA7 := Aside0.mk hA7
     clear hy7 hA7
     replace q7 := eq_true q7
     go_wp2
     go_meet
     case rel => exact ⟨_, (y102), (rd l0 0), (by first | rfl | (simp; done) | (simp [*]; done) | (simp [bne]; done)), H', ⟨by first | omega | exact Nat.le_refl _⟩, ⟨by (with_reducible repeat (first | apply Kd.V_alloc | apply Kd.V_drewN | apply Kd.V_drew)); exact HO106.out⟩, ⟨by repeat (first | (with_reducible first | exact HB.out | apply below_alloc | apply pw_below_drewN | apply below_drew1) | exact HB.out)⟩⟩
    ·
     rw [if_neg c6] at H
     exact absurd H (by simp)
   ·
    rw [if_neg c5] at H
    exact absurd H (by simp)
  ·
   rw [if_neg c4] at H
   have c4b0 : decide (0 < (l0.length : Int)) = false := decide_eq_false c4
   have c4b1 : decide (0 < l0.length) = false := decide_eq_false (by omega)
   clear c4
   (first | rw [c4b0] | (simp only [i64_w, i32_w]; rw [c4b0]) | rw [c4b1] | skip)
   have H' := Aside0.mk H
   clear H
   go_wp2
   go_meet
   case rel => exact ⟨_, (l0), (0), (by first | rfl | (simp; done) | (simp [*]; done) | (simp [bne]; done)), H', ⟨by first | omega | exact Nat.le_refl _⟩, ⟨by (with_reducible repeat (first | apply Kd.V_alloc | apply Kd.V_drewN | apply Kd.V_drew)); exact HO0.out⟩, ⟨by repeat (first | (with_reducible first | exact HB.out | apply below_alloc | apply pw_below_drewN | apply below_drew1) | exact HB.out)⟩⟩
 case rest =>
  clear HC3
  try clear c1
  try clear p1
  try clear q1
  try clear hx1
  try clear qi1
  try clear p2
  try clear c4
  try clear c4b0
  try clear c4b1
  try clear c5
  try clear c5b0
  try clear c5b1
  try clear c6
  try clear c6b0
  try clear c6b1
  try clear c7
  try clear q7
  try clear hx101_0
  try clear p101
  try clear q101
  try clear q7
  obtain ⟨kq, x0_2, x6_2, rfl, HA, HJ2, HO_0, HB⟩ := hcut
  cases kq with
  | zero => exact absurd HA.out (by simp [bobbinetkeep_ExprText.j0])
  | succ kj2 =>
   have H := HA.out
   clear HA
   simp only [bobbinetkeep_ExprText.j0] at H
   replace H := Option.bind_eq_some_iff.mp H
   obtain ⟨t107, A80, H⟩ := H
   replace H : (if a1 ≤ 1 then (bobbinetkeep_ExprText.j1 kj2 x0_2 a1 x6_2 t107 true) else (bobbinetkeep_ExprText.j1 kj2 x0_2 a1 x6_2 t107 (decide (t107 < 3)))) = some (r1, r2) := H
   have A8 := Aside0.mk A80
   clear A80
   have HC9 := Aside0.mk H
   clear H
   go_upto_region 6 with (first | ((with_reducible refine gate_callee (f := 10) rfl ?_); refine goesL_ (some 19) rfl rfl Try.func10 (by kernel_rfl) rfl #[.int .i64 x6_2, .int .i64 9] rfl (by (try simp only [List.map_toArray, List.map_cons, List.map_nil]); first | done | rfl | (simp only [List.length_drop, List.length_take]; rfl)) ?_; (with_reducible refine (bobbinetkeep_Picked.calls x6_2 9 t107 _ A8.out).mono ?_); rintro e w' ⟨rfl, ⟨nd, rfl⟩⟩; refine ⟨_, rfl, ?_⟩))
   (try simp only [Act.put, List.setIfInBounds_toArray, List.set_cons_zero, List.set_cons_succ])
   go_cut [25] (fun v25 wc => ∃ (kq : Nat) (x25_8 : Bool), v25 = .bool x25_8 ∧ Aside0 (bobbinetkeep_ExprText.j1 kq x0_2 a1 x6_2 t107 x25_8 = some (r1, r2)) ∧ Aside0 (kq ≤ kj2) ∧ Aside0 (Kd.V (Kd.int .i64) 3 wc w.heap.size (fun k_ => (P0_ k_ ∨ w.heap.size ≤ k_)) u0 x0_2) ∧ Aside0 (Below w.heap.size w wc))
   case first =>
    have H := HC9.out
    clear HC9
    by_cases c10 : a1 ≤ 1
    ·
     rw [if_pos c10] at H
     have c10b0 : decide (a1 ≤ 1) = true := decide_eq_true c10
     clear c10
     (first | rw [c10b0] | (simp only [i64_w, i32_w]; rw [c10b0]) | rw [c10b1] | skip)
     have H' := Aside0.mk H
     clear H
     go_wp2
     go_meet
     case rel => exact ⟨_, (true), (by first | rfl | (simp; done) | (simp [*]; done) | (simp [bne]; done)), H', ⟨by have := HJ2.out; first | omega | exact Nat.le_refl _⟩, ⟨by (with_reducible repeat (first | apply Kd.V_alloc | apply Kd.V_drewN | apply Kd.V_drew)); exact HO_0.out⟩, ⟨by repeat (first | (with_reducible first | exact HB.out | apply below_alloc | apply pw_below_drewN | apply below_drew1) | exact HB.out)⟩⟩
    ·
     rw [if_neg c10] at H
     have c10b0 : decide (a1 ≤ 1) = false := decide_eq_false c10
     clear c10
     (first | rw [c10b0] | (simp only [i64_w, i32_w]; rw [c10b0]) | rw [c10b1] | skip)
     have H' := Aside0.mk H
     clear H
     go_wp2
     go_meet
     case rel => exact ⟨_, (decide (t107 < 3)), (by first | rfl | (simp; done) | (simp [*]; done) | (simp [bne]; done)), H', ⟨by have := HJ2.out; first | omega | exact Nat.le_refl _⟩, ⟨by (with_reducible repeat (first | apply Kd.V_alloc | apply Kd.V_drewN | apply Kd.V_drew)); exact HO_0.out⟩, ⟨by repeat (first | (with_reducible first | exact HB.out | apply below_alloc | apply pw_below_drewN | apply below_drew1) | exact HB.out)⟩⟩
   case rest =>
    clear HC9
    try clear c1
    try clear p1
    try clear q1
    try clear hx1
    try clear qi1
    try clear p2
    try clear c4
    try clear c4b0
    try clear c4b1
    try clear c5
    try clear c5b0
    try clear c5b1
    try clear c6
    try clear c6b0
    try clear c6b1
    try clear c7
    try clear q7
    try clear c9
    try clear c10
    try clear c10b0
    try clear p10
    try clear q10
    try clear hx10
    try clear qi10
    try clear hx101_0
    try clear p1
    try clear p101
    try clear p2
    try clear q1
    try clear q101
    try clear q7
    obtain ⟨kq, x25_8, rfl, HA, HJ8, HO_0, HB⟩ := hcut
    cases kq with
    | zero => exact absurd HA.out (by simp [bobbinetkeep_ExprText.j1])
    | succ kj8 =>
     have H := HA.out
     clear HA
     simp only [bobbinetkeep_ExprText.j1] at H
     by_cases c11 : x25_8 = true
     ·
      subst c11
      have H1 : ((bobbinetkeep_Picked.f (wrap64 (Int.tdiv x6_2 9)) 3).bind fun t108 => (if 0 ≤ t108 then (if t108 ≤ 3 then (if 0 ≤ 1 then (if 1 ≤ (((⟨#[97, 98, 99]⟩ : ByteArray).extract (t108 : Int).toNat (⟨#[97, 98, 99]⟩ : ByteArray).size).size : Int) then ((some (([(⟨#[]⟩ : ByteArray), (⟨#[]⟩ : ByteArray), (⟨#[42]⟩ : ByteArray), (⟨#[63]⟩ : ByteArray)] : List ByteArray) : List ByteArray)).bind fun y109 => ((bobbinetkeep_Picked.f (wrap64 (Int.tdiv x6_2 27)) 4).bind fun t112 => (if 0 ≤ t112 then (if t112 < (y109.length : Int) then (if (((⟨#[97, 98, 99]⟩ : ByteArray).extract (t108 : Int).toNat (⟨#[97, 98, 99]⟩ : ByteArray).size).extract 0 1).size + (rdOf ByteArray.empty y109 t112).size ≤ 9223372036854775807 then (some ((((⟨#[97, 98, 99]⟩ : ByteArray).extract (t108 : Int).toNat (⟨#[97, 98, 99]⟩ : ByteArray).size).extract 0 1) ++ (rdOf ByteArray.empty y109 t112), x0_2)) else (none)) else (none)) else (none)))) else (none)) else (none)) else (none)) else (none))) = some (r1, r2) := by rw [if_pos rfl] at H; exact H
      clear H
      have H := H1
      clear H1
      replace H := Option.bind_eq_some_iff.mp H
      obtain ⟨t108, A120, H⟩ := H
      replace H : (if 0 ≤ t108 then (if t108 ≤ 3 then (if 0 ≤ 1 then (if 1 ≤ (((⟨#[97, 98, 99]⟩ : ByteArray).extract (t108 : Int).toNat (⟨#[97, 98, 99]⟩ : ByteArray).size).size : Int) then ((some (([(⟨#[]⟩ : ByteArray), (⟨#[]⟩ : ByteArray), (⟨#[42]⟩ : ByteArray), (⟨#[63]⟩ : ByteArray)] : List ByteArray) : List ByteArray)).bind fun y109 => ((bobbinetkeep_Picked.f (wrap64 (Int.tdiv x6_2 27)) 4).bind fun t112 => (if 0 ≤ t112 then (if t112 < (y109.length : Int) then (if (((⟨#[97, 98, 99]⟩ : ByteArray).extract (t108 : Int).toNat (⟨#[97, 98, 99]⟩ : ByteArray).size).extract 0 1).size + (rdOf ByteArray.empty y109 t112).size ≤ 9223372036854775807 then (some ((((⟨#[97, 98, 99]⟩ : ByteArray).extract (t108 : Int).toNat (⟨#[97, 98, 99]⟩ : ByteArray).size).extract 0 1) ++ (rdOf ByteArray.empty y109 t112), x0_2)) else (none)) else (none)) else (none)))) else (none)) else (none)) else (none)) else (none)) = some (r1, r2) := H
      have A12 := Aside0.mk A120
      clear A120
      by_cases c13 : 0 ≤ t108
      ·
       rw [if_pos c13] at H
       have c13b0 := eq_true c13
       have c13b1 : decide (0 ≤ t108) = true := decide_eq_true c13
       clear c13
       by_cases c14 : t108 ≤ 3
       ·
        rw [if_pos c14] at H
        have c14b0 := eq_true c14
        have c14b1 : decide (t108 ≤ 3) = true := decide_eq_true c14
        clear c14
        by_cases c15 : 0 ≤ 1
        ·
         rw [if_pos c15] at H
         have c15b0 := eq_true c15
         have c15b1 : decide (0 ≤ 1) = true := decide_eq_true c15
         clear c15
         by_cases c16 : 1 ≤ (((⟨#[97, 98, 99]⟩ : ByteArray).extract (t108 : Int).toNat (⟨#[97, 98, 99]⟩ : ByteArray).size).size : Int)
         ·
          rw [if_pos c16] at H
          have c16b0 := eq_true c16
          have c16b1 : decide (1 ≤ (((⟨#[97, 98, 99]⟩ : ByteArray).extract (t108 : Int).toNat (⟨#[97, 98, 99]⟩ : ByteArray).size).size : Int)) = true := decide_eq_true c16
          clear c16
          obtain ⟨y109, hy109⟩ : ∃ y_ : List ByteArray, y_ = (([(⟨#[]⟩ : ByteArray), (⟨#[]⟩ : ByteArray), (⟨#[42]⟩ : ByteArray), (⟨#[63]⟩ : ByteArray)] : List ByteArray)) := ⟨_, rfl⟩
          replace H : ((bobbinetkeep_Picked.f (wrap64 (Int.tdiv x6_2 27)) 4).bind fun t112 => (if 0 ≤ t112 then (if t112 < (y109.length : Int) then (if (((⟨#[97, 98, 99]⟩ : ByteArray).extract (t108 : Int).toNat (⟨#[97, 98, 99]⟩ : ByteArray).size).extract 0 1).size + (rdOf ByteArray.empty y109 t112).size ≤ 9223372036854775807 then (some ((((⟨#[97, 98, 99]⟩ : ByteArray).extract (t108 : Int).toNat (⟨#[97, 98, 99]⟩ : ByteArray).size).extract 0 1) ++ (rdOf ByteArray.empty y109 t112), x0_2)) else (none)) else (none)) else (none))) = some (r1, r2) := by first | (rw [hy109]; with_reducible exact H) | (have H2_ := (Option.bind_some _ _).symm.trans H; rw [hy109]; with_reducible exact H2_) | (have H2_ := (Option.bind_some _ _).symm.trans H; with_reducible exact H2_) | with_reducible exact H | (rw [hy109]; exact H) | exact H
          have Ny109 := Aside0.mk hy109
          clear hy109
          replace H := Option.bind_eq_some_iff.mp H
          obtain ⟨t112, A170, H⟩ := H
          replace H : (if 0 ≤ t112 then (if t112 < (y109.length : Int) then (if (((⟨#[97, 98, 99]⟩ : ByteArray).extract (t108 : Int).toNat (⟨#[97, 98, 99]⟩ : ByteArray).size).extract 0 1).size + (rdOf ByteArray.empty y109 t112).size ≤ 9223372036854775807 then (some ((((⟨#[97, 98, 99]⟩ : ByteArray).extract (t108 : Int).toNat (⟨#[97, 98, 99]⟩ : ByteArray).size).extract 0 1) ++ (rdOf ByteArray.empty y109 t112), x0_2)) else (none)) else (none)) else (none)) = some (r1, r2) := H
          have A17 := Aside0.mk A170
          clear A170
          by_cases c18 : 0 ≤ t112
          ·
           rw [if_pos c18] at H
           have c18b0 : decide (0 ≤ t112) = true := decide_eq_true c18
           clear c18
           by_cases c19 : t112 < (y109.length : Int)
           ·
            rw [if_pos c19] at H
            have c19b0 : decide (t112 < (y109.length : Int)) = true := decide_eq_true c19
            clear c19
            by_cases c20 : (((⟨#[97, 98, 99]⟩ : ByteArray).extract (t108 : Int).toNat (⟨#[97, 98, 99]⟩ : ByteArray).size).extract 0 1).size + (rdOf ByteArray.empty y109 t112).size ≤ 9223372036854775807
            ·
             rw [if_pos c20] at H
             have c20b0 := eq_true c20
             have c20b1 : decide ((((⟨#[97, 98, 99]⟩ : ByteArray).extract (t108 : Int).toNat (⟨#[97, 98, 99]⟩ : ByteArray).size).extract 0 1).size + (rdOf ByteArray.empty y109 t112).size ≤ 9223372036854775807) = true := decide_eq_true c20
             try have c20b2 : (9223372036854775807 < (((⟨#[97, 98, 99]⟩ : ByteArray).extract (t108 : Int).toNat (⟨#[97, 98, 99]⟩ : ByteArray).size).extract 0 1).size + (rdOf ByteArray.empty y109 t112).size) = False := eq_false (Nat.not_lt.2 c20)
             simp only [Option.some.injEq, Prod.mk.injEq] at H
             obtain ⟨rfl, rfl⟩ := H
             try go_wp2
             have pi113 : (0 ≤ (t112 : Int)) = True := eq_true (of_decide_eq_true (by first | (with_reducible assumption) | assumption))
             have qi113 : (t112 < (y109.length : Int)) = True := eq_true (of_decide_eq_true (by first | (with_reducible assumption) | assumption))
             obtain ⟨Ao, co, eo⟩ := Kd.V_slice HO_0.out
             subst eo
             have HO := HO_0
             clear HO_0
             obtain ⟨ti, rfl⟩ : ∃ ti : Nat, t112 = (ti : Int) := ⟨t112.toNat, (Int.toNat_of_nonneg (of_decide_eq_true c18b0)).symm⟩
             have q4 : (ti : Int) < 4 := by have := of_decide_eq_true c19b0; rw [Ny109.out] at this; simpa using this
             have p4 : (0 : Int) ≤ (ti : Int) := by omega
             obtain ⟨sx, hsx⟩ : ∃ sx, rdOf ByteArray.empty y109 (ti : Int) = sx := ⟨_, rfl⟩
             rw [hsx] at c20b0 c20b1
             have HSX := Aside0.mk hsx
             have hLit : ([Value.string (⟨#[]⟩ : ByteArray), Value.string (⟨#[]⟩ : ByteArray), Value.string (⟨#[42]⟩ : ByteArray), Value.string (⟨#[63]⟩ : ByteArray)] : List Value)[ti]? = some (Value.string sx) := by
               rw [← hsx, Ny109.out]
               exact bobbinetkeep_ExprText.lit [(⟨#[]⟩ : ByteArray), (⟨#[]⟩ : ByteArray), (⟨#[42]⟩ : ByteArray), (⟨#[63]⟩ : ByteArray)] ti (by simp; omega)
             have z3 : t108.toNat < 3 := by have z := of_eq_true c16b0; rw [ByteArray.size_extract, show (⟨#[97, 98, 99]⟩ : ByteArray).size = 3 from rfl] at z; omega
             have z4 : min 1 (3 - t108.toNat) + sx.size ≤ 9223372036854775807 := by have z := of_eq_true c20b0; rw [ByteArray.size_extract, ByteArray.size_extract, show (⟨#[97, 98, 99]⟩ : ByteArray).size = 3 from rfl] at z; omega
             have y30 : (((3 - t108.toNat : Nat) : Int) < 1) = False := eq_false (by omega)
             have y31 : (1 ≤ ((3 - t108.toNat : Nat) : Int)) = True := eq_true (by omega)
             have y37 := eq_true z4
             clear z3 z4
             try clear c20b2
             clear pi113 qi113 c18b0 c19b0 hsx
             refine bobbinetkeep_ExprText.pack (fun W => W = wc) rfl ?_
             rintro W1 rfl
             refine start_ (n := 15) (S := fun w' => True) (ds := []) #[false, false, false, false, false, false, false, false, false, false, false, false, false, false, false] (by kernel_rfl) rfl rfl trivial (fun hHeld => ?_)
             refine with_tabW bobbinetkeep_ExprText.rExprText7.tab7 bobbinetkeep_ExprText.rExprText7.bits7 (fun HT_ HW_ => ?_)
             have HB := Aside0.mk (below_drew1 HB.out)
             have HO := Aside0.mk (Kd.V_drew HO.out)
             generalize World.drew W1 = W1 at HB HO ⊢
             refine pure_ (i := 0) (N := some 26) (v := ?_) (a' := ?_) #[true, false, false, false, false, false, false, false, false, false, false, false, false, false, false] rfl rfl (any_of HT_.out (by kernel_rfl)) (fun _ _ _ h => h) (Or.inl ⟨by rfl, ?_⟩) ?_ ?_
             rotate_left
             · intro w'
               go_simp
               with_reducible rfl
             rotate_left
             · simp only [Act.put, List.setIfInBounds_toArray, List.set_cons_zero, List.set_cons_succ, i64_w, i32_w]
               rfl
             refine pure_ (i := 1) (N := some 27) (v := ?_) (a' := ?_) #[true, true, false, false, false, false, false, false, false, false, false, false, false, false, false] rfl rfl (any_of HT_.out (by kernel_rfl)) (fun _ _ _ h => h) (Or.inl ⟨by rfl, ?_⟩) ?_ ?_
             rotate_left
             · intro w'
               go_simp
               with_reducible rfl
             rotate_left
             · simp only [Act.put, List.setIfInBounds_toArray, List.set_cons_zero, List.set_cons_succ, i64_w, i32_w]
               rfl
             refine pure_ (i := 6) (N := some 32) (v := ?_) (a' := ?_) #[true, true, false, false, false, false, true, false, false, false, false, false, false, false, false] rfl rfl (any_of HT_.out (by kernel_rfl)) (fun _ _ _ h => h) (Or.inl ⟨by rfl, ?_⟩) ?_ ?_
             rotate_left
             · intro w'
               go_simp
               with_reducible rfl
             rotate_left
             · simp only [Act.put, List.setIfInBounds_toArray, List.set_cons_zero, List.set_cons_succ, i64_w, i32_w]
               rfl
             refine pure_ (i := 7) (N := some 33) (v := ?_) (a' := ?_) #[true, true, false, false, false, false, true, true, false, false, false, false, false, false, false] rfl rfl (any_of HT_.out (by kernel_rfl)) (fun _ _ _ h => h) (Or.inl ⟨by rfl, ?_⟩) ?_ ?_
             rotate_left
             · intro w'
               go_simp
               with_reducible rfl
             rotate_left
             · simp only [Act.put, List.setIfInBounds_toArray, List.set_cons_zero, List.set_cons_succ, i64_w, i32_w]
               rfl
             refine pure_ (i := 12) (N := some 38) (v := ?_) (a' := ?_) #[true, true, false, false, false, false, true, true, false, false, false, false, true, false, false] rfl rfl (any_of HT_.out (by kernel_rfl)) (fun _ _ _ h => h) (Or.inl ⟨by rfl, ?_⟩) ?_ ?_
             rotate_left
             · intro w'
               go_simp
               with_reducible rfl
             rotate_left
             · simp only [Act.put, List.setIfInBounds_toArray, List.set_cons_zero, List.set_cons_succ, i64_w, i32_w]
               rfl
             refine inv_at [2, 3, 4, 5, 8, 9, 10, 11, 13, 14] (fun a0_ b a w' => ∃ (g31 : Nat) (m5_ : Value) (m9_ : Value), a = putSel a0_ b [(2, 28, .int .i64 t108), (3, 29, .string ((⟨#[97, 98, 99]⟩ : ByteArray).extract (t108 : Int).toNat (⟨#[97, 98, 99]⟩ : ByteArray).size)), (4, 30, .string (((⟨#[97, 98, 99]⟩ : ByteArray).extract (t108 : Int).toNat (⟨#[97, 98, 99]⟩ : ByteArray).size).extract 0 1)), (5, 31, m5_), (8, 34, .int .i64 (ti : Int)), (9, 35, m9_), (10, 36, .string sx), (11, 37, .string ((((⟨#[97, 98, 99]⟩ : ByteArray).extract (t108 : Int).toNat (⟨#[97, 98, 99]⟩ : ByteArray).size).extract 0 1) ++ sx)), (13, 4, .string ((((⟨#[97, 98, 99]⟩ : ByteArray).extract (t108 : Int).toNat (⟨#[97, 98, 99]⟩ : ByteArray).size).extract 0 1) ++ sx)), (14, 5, .slice Ao x0_2.length co)] ∧ (Below w.heap.size w w') ∧ (Kd.V (Kd.int .i64) 3 w' w.heap.size (fun k_ => (P0_ k_ ∨ w.heap.size ≤ k_)) (.slice Ao x0_2.length co) x0_2) ∧ (b 5 = true → b 10 = false → w'.heap[g31]? = some (.cells #[.string (⟨#[]⟩ : ByteArray), .string (⟨#[]⟩ : ByteArray), .string (⟨#[42]⟩ : ByteArray), .string (⟨#[63]⟩ : ByteArray)] 9 (0, 0))) ∧ (b 5 = true → (m5_ : Value) = .slice (some ⟨g31, 0, none⟩) 4 4) ∧ (b 9 = true → (m9_ : Value) = .pointer (some ⟨g31, ti, none⟩))) HT_.out HW_.out (by kernel_rfl) (by kernel_rfl) ?_ ?_ ?_
             · exact ⟨0, .bool false, .bool false, by simp only [putSel, Bool.false_eq_true, if_false], HB.out, HO.out, fun h_ => absurd h_ (by decide), fun h_ => absurd h_ (by decide), fun h_ => absurd h_ (by decide)⟩
             · skip
               clear HB HO
               refine steps_cons ?_ ?_
               · rintro b a w' ⟨g31, m5_, m9_, ha, Q_HB, Q_HO, Q_L31, Q_X5_, Q_X9_⟩ hb_ hon hoff
                 refine ⟨_, rfl, fun K hK => ?_⟩
                 have e27 : a.tmps[27]? = some (.int .i64 (wrap64 (Int.tdiv x6_2 9))) := by rw [ha]; exact (putSel_off rfl).trans rfl
                 replace ha := Aside0.mk ha
                 have HB := Aside0.mk Q_HB
                 have HO := Aside0.mk Q_HO
                 refine goes_ Try.func10 (by kernel_rfl) rfl #[.int .i64 (wrap64 (Int.tdiv x6_2 9)), .int .i64 3] (by rfl) rfl rfl (by first | (simp only [List.map_toArray, List.map_cons, List.map_nil, Act.eval, Array.getD_eq_getD_getElem?, Option.getD_some, e27]; done) | (simp only [List.map_toArray, List.map_cons, List.map_nil, Act.eval, Array.getD_eq_getD_getElem?, Option.getD_some, e27]; rfl)) ?_
                 with_reducible refine (bobbinetkeep_Picked.calls _ _ _ _ A12.out).mono ?_
                 rintro e w3 ⟨rfl, ⟨nd, rfl⟩⟩
                 refine ⟨_, rfl, ?_⟩
                 refine hK.out _ _ ⟨g31, m5_, m9_, (by rw [ha.out]; exact putSel_upk 0 hb_ rfl rfl rfl), pw_below_drewN HB.out _, Kd.V_drewN HO.out _, fun h0_ h1_ => blk_drewN (Q_L31 h0_ h1_) _, Q_X5_, fun h0_ => absurd ((hoff 9 (by kernel_rfl)).symm.trans h0_) (by decide)⟩
               refine steps_cons ?_ ?_
               · rintro b a w' ⟨g31, m5_, m9_, ha, Q_HB, Q_HO, Q_L31, Q_X5_, Q_X9_⟩ hb_ hon hoff
                 refine ⟨_, rfl, fun K hK => ?_⟩
                 have e28 : a.tmps[28]? = some (.int .i64 t108) := by rw [ha]; exact putSel_on (e := (2, 28, .int .i64 t108)) 0 rfl rfl (hon 2 (by kernel_rfl)) rfl
                 replace ha := Aside0.mk ha
                 have HB := Aside0.mk Q_HB
                 have HO := Aside0.mk Q_HO
                 refine value_ (w1 := w') (v := .string ((⟨#[97, 98, 99]⟩ : ByteArray).extract (t108 : Int).toNat (⟨#[97, 98, 99]⟩ : ByteArray).size)) (by rfl) rfl ?_ ?_
                 · go_simp
                   (try simp only [i64_w])
                   try rfl
                 refine hK.out _ _ ⟨g31, m5_, m9_, (by rw [ha.out]; exact putSel_upk 1 hb_ rfl rfl rfl), Q_HB, Q_HO, Q_L31, Q_X5_, Q_X9_⟩
               refine steps_cons ?_ ?_
               · rintro b a w' ⟨g31, m5_, m9_, ha, Q_HB, Q_HO, Q_L31, Q_X5_, Q_X9_⟩ hb_ hon hoff
                 refine ⟨_, rfl, fun K hK => ?_⟩
                 have e29 : a.tmps[29]? = some (.string ((⟨#[97, 98, 99]⟩ : ByteArray).extract (t108 : Int).toNat (⟨#[97, 98, 99]⟩ : ByteArray).size)) := by rw [ha]; exact putSel_on (e := (3, 29, .string ((⟨#[97, 98, 99]⟩ : ByteArray).extract (t108 : Int).toNat (⟨#[97, 98, 99]⟩ : ByteArray).size))) 1 rfl rfl (hon 3 (by kernel_rfl)) rfl
                 replace ha := Aside0.mk ha
                 have HB := Aside0.mk Q_HB
                 have HO := Aside0.mk Q_HO
                 refine value_ (w1 := w') (v := .string (((⟨#[97, 98, 99]⟩ : ByteArray).extract (t108 : Int).toNat (⟨#[97, 98, 99]⟩ : ByteArray).size).extract 0 1)) (by rfl) rfl ?_ ?_
                 · go_simp
                   (try simp only [i64_w])
                   try rfl
                 refine hK.out _ _ ⟨g31, m5_, m9_, (by rw [ha.out]; exact putSel_upk 2 hb_ rfl rfl rfl), Q_HB, Q_HO, Q_L31, Q_X5_, Q_X9_⟩
               refine steps_cons ?_ ?_
               · rintro b a w' ⟨g31, m5_, m9_, ha, Q_HB, Q_HO, Q_L31, Q_X5_, Q_X9_⟩ hb_ hon hoff
                 refine ⟨_, rfl, fun K hK => ?_⟩
                 replace ha := Aside0.mk ha
                 have HB := Aside0.mk Q_HB
                 have HO := Aside0.mk Q_HO
                 refine value_ (w1 := w'.alloc (.cells #[.string (⟨#[]⟩ : ByteArray), .string (⟨#[]⟩ : ByteArray), .string (⟨#[42]⟩ : ByteArray), .string (⟨#[63]⟩ : ByteArray)] 9)) (v := .slice (some ⟨w'.heap.size, 0, none⟩) 4 4) (by rfl) rfl ?_ ?_
                 · go_simp
                   try rfl
                 refine hK.out _ _ ⟨w'.heap.size, (.slice (some ⟨w'.heap.size, 0, none⟩) 4 4), m9_, (by rw [ha.out]; exact putSel_upk 3 hb_ rfl rfl rfl), below_alloc HB.out _, Kd.V_alloc HO.out _, fun _ _ => blk_new w' _, fun _ => rfl, fun h0_ => absurd ((hoff 9 (by kernel_rfl)).symm.trans h0_) (by decide)⟩
               refine steps_cons ?_ ?_
               · rintro b a w' ⟨g31, m5_, m9_, ha, Q_HB, Q_HO, Q_L31, Q_X5_, Q_X9_⟩ hb_ hon hoff
                 refine ⟨_, rfl, fun K hK => ?_⟩
                 have e33 : a.tmps[33]? = some (.int .i64 (wrap64 (Int.tdiv x6_2 27))) := by rw [ha]; exact (putSel_off rfl).trans rfl
                 replace ha := Aside0.mk ha
                 have HB := Aside0.mk Q_HB
                 have HO := Aside0.mk Q_HO
                 refine goes_ Try.func10 (by kernel_rfl) rfl #[.int .i64 (wrap64 (Int.tdiv x6_2 27)), .int .i64 4] (by rfl) rfl rfl (by first | (simp only [List.map_toArray, List.map_cons, List.map_nil, Act.eval, Array.getD_eq_getD_getElem?, Option.getD_some, e33]; done) | (simp only [List.map_toArray, List.map_cons, List.map_nil, Act.eval, Array.getD_eq_getD_getElem?, Option.getD_some, e33]; rfl)) ?_
                 with_reducible refine (bobbinetkeep_Picked.calls _ _ _ _ A17.out).mono ?_
                 rintro e w3 ⟨rfl, ⟨nd, rfl⟩⟩
                 refine ⟨_, rfl, ?_⟩
                 refine hK.out _ _ ⟨g31, m5_, m9_, (by rw [ha.out]; exact putSel_upk 4 hb_ rfl rfl rfl), pw_below_drewN HB.out _, Kd.V_drewN HO.out _, fun h0_ h1_ => blk_drewN (Q_L31 h0_ h1_) _, Q_X5_, fun h0_ => absurd ((hoff 9 (by kernel_rfl)).symm.trans h0_) (by decide)⟩
               refine steps_cons ?_ ?_
               · rintro b a w' ⟨g31, m5_, m9_, ha, Q_HB, Q_HO, Q_L31, Q_X5_, Q_X9_⟩ hb_ hon hoff
                 refine ⟨_, rfl, fun K hK => ?_⟩
                 have e31 : a.tmps[31]? = some (m5_) := by rw [ha]; exact putSel_on (e := (5, 31, m5_)) 3 rfl rfl (hon 5 (by kernel_rfl)) rfl
                 rw [Q_X5_ (hon 5 (by kernel_rfl))] at e31
                 have e34 : a.tmps[34]? = some (.int .i64 (ti : Int)) := by rw [ha]; exact putSel_on (e := (8, 34, .int .i64 (ti : Int))) 4 rfl rfl (hon 8 (by kernel_rfl)) rfl
                 replace ha := Aside0.mk ha
                 have HB := Aside0.mk Q_HB
                 have HO := Aside0.mk Q_HO
                 have L31 := Aside0.mk (Q_L31 (hon 5 (by kernel_rfl)) (hoff 10 (by kernel_rfl)))
                 refine value_ (w1 := w') (v := .pointer (some ⟨g31, ti, none⟩)) (by rfl) rfl ?_ ?_
                 · go_simp
                   (try simp only [i64_w])
                   try rfl
                 refine hK.out _ _ ⟨g31, m5_, (.pointer (some ⟨g31, ti, none⟩)), (by rw [ha.out]; exact putSel_upk 5 hb_ rfl rfl rfl), Q_HB, Q_HO, Q_L31, Q_X5_, fun _ => rfl⟩
               refine steps_cons ?_ ?_
               · rintro b a w' ⟨g31, m5_, m9_, ha, Q_HB, Q_HO, Q_L31, Q_X5_, Q_X9_⟩ hb_ hon hoff
                 refine ⟨_, rfl, fun K hK => ?_⟩
                 have e35 : a.tmps[35]? = some (m9_) := by rw [ha]; exact putSel_on (e := (9, 35, m9_)) 5 rfl rfl (hon 9 (by kernel_rfl)) rfl
                 rw [Q_X9_ (hon 9 (by kernel_rfl))] at e35
                 replace ha := Aside0.mk ha
                 have HB := Aside0.mk Q_HB
                 have HO := Aside0.mk Q_HO
                 have L31 := Aside0.mk (Q_L31 (hon 5 (by kernel_rfl)) hb_)
                 have hc_ := blk_cell L31.out ti
                 simp only [List.getElem?_toArray] at hc_
                 rw [hLit] at hc_
                 refine value_ (w1 := w') (v := .string sx) (by rfl) rfl ?_ ?_
                 · go_simp
                   (try simp only [i64_w])
                   try rfl
                 refine hK.out _ _ ⟨g31, m5_, m9_, (by rw [ha.out]; exact putSel_upk 6 hb_ rfl rfl rfl), Q_HB, Q_HO, fun _ h1_ => absurd ((up_self b 10).symm.trans h1_) (by decide), Q_X5_, Q_X9_⟩
               refine steps_cons ?_ ?_
               · rintro b a w' ⟨g31, m5_, m9_, ha, Q_HB, Q_HO, Q_L31, Q_X5_, Q_X9_⟩ hb_ hon hoff
                 refine ⟨_, rfl, fun K hK => ?_⟩
                 have e30 : a.tmps[30]? = some (.string (((⟨#[97, 98, 99]⟩ : ByteArray).extract (t108 : Int).toNat (⟨#[97, 98, 99]⟩ : ByteArray).size).extract 0 1)) := by rw [ha]; exact putSel_on (e := (4, 30, .string (((⟨#[97, 98, 99]⟩ : ByteArray).extract (t108 : Int).toNat (⟨#[97, 98, 99]⟩ : ByteArray).size).extract 0 1))) 2 rfl rfl (hon 4 (by kernel_rfl)) rfl
                 have e36 : a.tmps[36]? = some (.string sx) := by rw [ha]; exact putSel_on (e := (10, 36, .string sx)) 6 rfl rfl (hon 10 (by kernel_rfl)) rfl
                 replace ha := Aside0.mk ha
                 have HB := Aside0.mk Q_HB
                 have HO := Aside0.mk Q_HO
                 refine value_ (w1 := w') (v := .string ((((⟨#[97, 98, 99]⟩ : ByteArray).extract (t108 : Int).toNat (⟨#[97, 98, 99]⟩ : ByteArray).size).extract 0 1) ++ sx)) (by rfl) rfl ?_ ?_
                 · go_simp
                   (try simp only [i64_w])
                   try rfl
                 refine hK.out _ _ ⟨g31, m5_, m9_, (by rw [ha.out]; exact putSel_upk 7 hb_ rfl rfl rfl), Q_HB, Q_HO, fun _ h1_ => absurd ((hon 10 (by kernel_rfl)).symm.trans h1_) (by decide), Q_X5_, Q_X9_⟩
               refine steps_cons ?_ ?_
               · rintro b a w' ⟨g31, m5_, m9_, ha, Q_HB, Q_HO, Q_L31, Q_X5_, Q_X9_⟩ hb_ hon hoff
                 refine ⟨_, rfl, fun K hK => ?_⟩
                 have e37 : a.tmps[37]? = some (.string ((((⟨#[97, 98, 99]⟩ : ByteArray).extract (t108 : Int).toNat (⟨#[97, 98, 99]⟩ : ByteArray).size).extract 0 1) ++ sx)) := by rw [ha]; exact putSel_on (e := (11, 37, .string ((((⟨#[97, 98, 99]⟩ : ByteArray).extract (t108 : Int).toNat (⟨#[97, 98, 99]⟩ : ByteArray).size).extract 0 1) ++ sx))) 7 rfl rfl (hon 11 (by kernel_rfl)) rfl
                 replace ha := Aside0.mk ha
                 have HB := Aside0.mk Q_HB
                 have HO := Aside0.mk Q_HO
                 refine value_ (w1 := w') (v := .string ((((⟨#[97, 98, 99]⟩ : ByteArray).extract (t108 : Int).toNat (⟨#[97, 98, 99]⟩ : ByteArray).size).extract 0 1) ++ sx)) (by rfl) rfl ?_ ?_
                 · go_simp
                   (try simp only [i64_w])
                   try rfl
                 refine hK.out _ _ ⟨g31, m5_, m9_, (by rw [ha.out]; exact putSel_upk 8 hb_ rfl rfl rfl), Q_HB, Q_HO, fun _ h1_ => absurd ((hon 10 (by kernel_rfl)).symm.trans h1_) (by decide), Q_X5_, Q_X9_⟩
               refine steps_cons ?_ ?_
               · rintro b a w' ⟨g31, m5_, m9_, ha, Q_HB, Q_HO, Q_L31, Q_X5_, Q_X9_⟩ hb_ hon hoff
                 refine ⟨_, rfl, fun K hK => ?_⟩
                 have e38 : a.tmps[38]? = some (.slice Ao x0_2.length co) := by rw [ha]; exact (putSel_off rfl).trans rfl
                 replace ha := Aside0.mk ha
                 have HB := Aside0.mk Q_HB
                 have HO := Aside0.mk Q_HO
                 refine value_ (w1 := w') (v := .slice Ao x0_2.length co) (by rfl) rfl ?_ ?_
                 · go_simp
                   (try simp only [i64_w])
                   try rfl
                 refine hK.out _ _ ⟨g31, m5_, m9_, (by rw [ha.out]; exact putSel_upk 9 hb_ rfl rfl rfl), Q_HB, Q_HO, fun _ h1_ => absurd ((hon 10 (by kernel_rfl)).symm.trans h1_) (by decide), Q_X5_, Q_X9_⟩
               exact steps_nil
             · rintro b a w' hall ⟨g31, m5_, m9_, ha, Q_HB, Q_HO, Q_L31, Q_X5_, Q_X9_⟩
               clear HB HO
               have hb2_ := hall 2 (by kernel_rfl)
               have hb3_ := hall 3 (by kernel_rfl)
               have hb4_ := hall 4 (by kernel_rfl)
               have hb5_ := hall 5 (by kernel_rfl)
               have hb8_ := hall 8 (by kernel_rfl)
               have hb9_ := hall 9 (by kernel_rfl)
               have hb10_ := hall 10 (by kernel_rfl)
               have hb11_ := hall 11 (by kernel_rfl)
               have hb13_ := hall 13 (by kernel_rfl)
               have hb14_ := hall 14 (by kernel_rfl)
               subst ha
               obtain rfl := Q_X5_ hb5_
               obtain rfl := Q_X9_ hb9_
               simp only [putSel, hb2_, hb3_, hb4_, hb5_, hb8_, hb9_, hb10_, hb11_, hb13_, hb14_, if_true, Act.put, List.setIfInBounds_toArray, List.set_cons_zero, List.set_cons_succ]
               have HB := Aside0.mk Q_HB
               clear Q_HB
               have HO := Aside0.mk Q_HO
               clear Q_HO
               clear Q_L31
               clear hall hb2_ hb3_ hb4_ hb5_ hb8_ hb9_ hb10_ hb11_ hb13_ hb14_
               try go_wp2
               go_ret2
               exact ⟨_, by rw [HSX.out]; rfl, Kd.V_mono HO.out (fun _ hk => (by first | exact hk.1 | grind)), HB.out⟩
            ·
             rw [if_neg c20] at H
             exact absurd H (by simp)
           ·
            rw [if_neg c19] at H
            exact absurd H (by simp)
          ·
           rw [if_neg c18] at H
           exact absurd H (by simp)
         ·
          rw [if_neg c16] at H
          exact absurd H (by simp)
        ·
         rw [if_neg c15] at H
         exact absurd H (by simp)
       ·
        rw [if_neg c14] at H
        exact absurd H (by simp)
      ·
       rw [if_neg c13] at H
       exact absurd H (by simp)
     ·
      replace c11 := Bool.eq_false_iff.mpr c11
      subst c11
      have H1 : ((bobbinetkeep_ExprText.f kj8 x0_2 (wrap64 (a1 - 1))).bind fun bt114 => ((bobbinetkeep_ExprText.f kj8 bt114.2 (wrap64 (a1 - 1))).bind fun bt118 => (if t107 < 6 then (if bt114.1.size + bt118.1.size ≤ 9223372036854775807 then (some (bt114.1 ++ bt118.1, bt118.2)) else (none)) else (if t107 = 6 then (if 1 + bt114.1.size ≤ 9223372036854775807 then (if ((⟨#[40]⟩ : ByteArray) ++ bt114.1).size + 1 ≤ 9223372036854775807 then (if (((⟨#[40]⟩ : ByteArray) ++ bt114.1) ++ (⟨#[124]⟩ : ByteArray)).size + bt118.1.size ≤ 9223372036854775807 then (if ((((⟨#[40]⟩ : ByteArray) ++ bt114.1) ++ (⟨#[124]⟩ : ByteArray)) ++ bt118.1).size + 1 ≤ 9223372036854775807 then (some (((((⟨#[40]⟩ : ByteArray) ++ bt114.1) ++ (⟨#[124]⟩ : ByteArray)) ++ bt118.1) ++ (⟨#[41]⟩ : ByteArray), bt118.2)) else (none)) else (none)) else (none)) else (none)) else (if t107 = 7 then (if 1 + bt114.1.size ≤ 9223372036854775807 then (if ((⟨#[40]⟩ : ByteArray) ++ bt114.1).size + 1 ≤ 9223372036854775807 then (if (((⟨#[40]⟩ : ByteArray) ++ bt114.1) ++ (⟨#[124]⟩ : ByteArray)).size + bt118.1.size ≤ 9223372036854775807 then (if ((((⟨#[40]⟩ : ByteArray) ++ bt114.1) ++ (⟨#[124]⟩ : ByteArray)) ++ bt118.1).size + 2 ≤ 9223372036854775807 then (some (((((⟨#[40]⟩ : ByteArray) ++ bt114.1) ++ (⟨#[124]⟩ : ByteArray)) ++ bt118.1) ++ (⟨#[41, 42]⟩ : ByteArray), bt118.2)) else (none)) else (none)) else (none)) else (none)) else (if 1 + bt114.1.size ≤ 9223372036854775807 then (if ((⟨#[40]⟩ : ByteArray) ++ bt114.1).size + bt118.1.size ≤ 9223372036854775807 then (if (((⟨#[40]⟩ : ByteArray) ++ bt114.1) ++ bt118.1).size + 1 ≤ 9223372036854775807 then ((some (([(⟨#[43]⟩ : ByteArray), (⟨#[63]⟩ : ByteArray)] : List ByteArray) : List ByteArray)).bind fun y122 => ((bobbinetkeep_Picked.f (wrap64 (Int.tdiv x6_2 9)) 2).bind fun t125 => (if 0 ≤ t125 then (if t125 < (y122.length : Int) then (if ((((⟨#[40]⟩ : ByteArray) ++ bt114.1) ++ bt118.1) ++ (⟨#[41]⟩ : ByteArray)).size + (rdOf ByteArray.empty y122 t125).size ≤ 9223372036854775807 then (some (((((⟨#[40]⟩ : ByteArray) ++ bt114.1) ++ bt118.1) ++ (⟨#[41]⟩ : ByteArray)) ++ (rdOf ByteArray.empty y122 t125), bt118.2)) else (none)) else (none)) else (none)))) else (none)) else (none)) else (none))))))) = some (r1, r2) := by rw [if_neg (show ¬ (false = true) by decide)] at H; exact H
      clear H
      have H := H1
      clear H1
      replace H := Option.bind_eq_some_iff.mp H
      obtain ⟨⟨t114, t115⟩, A270, H⟩ := H
      replace H : ((bobbinetkeep_ExprText.f kj8 t115 (wrap64 (a1 - 1))).bind fun bt118 => (if t107 < 6 then (if t114.size + bt118.1.size ≤ 9223372036854775807 then (some (t114 ++ bt118.1, bt118.2)) else (none)) else (if t107 = 6 then (if 1 + t114.size ≤ 9223372036854775807 then (if ((⟨#[40]⟩ : ByteArray) ++ t114).size + 1 ≤ 9223372036854775807 then (if (((⟨#[40]⟩ : ByteArray) ++ t114) ++ (⟨#[124]⟩ : ByteArray)).size + bt118.1.size ≤ 9223372036854775807 then (if ((((⟨#[40]⟩ : ByteArray) ++ t114) ++ (⟨#[124]⟩ : ByteArray)) ++ bt118.1).size + 1 ≤ 9223372036854775807 then (some (((((⟨#[40]⟩ : ByteArray) ++ t114) ++ (⟨#[124]⟩ : ByteArray)) ++ bt118.1) ++ (⟨#[41]⟩ : ByteArray), bt118.2)) else (none)) else (none)) else (none)) else (none)) else (if t107 = 7 then (if 1 + t114.size ≤ 9223372036854775807 then (if ((⟨#[40]⟩ : ByteArray) ++ t114).size + 1 ≤ 9223372036854775807 then (if (((⟨#[40]⟩ : ByteArray) ++ t114) ++ (⟨#[124]⟩ : ByteArray)).size + bt118.1.size ≤ 9223372036854775807 then (if ((((⟨#[40]⟩ : ByteArray) ++ t114) ++ (⟨#[124]⟩ : ByteArray)) ++ bt118.1).size + 2 ≤ 9223372036854775807 then (some (((((⟨#[40]⟩ : ByteArray) ++ t114) ++ (⟨#[124]⟩ : ByteArray)) ++ bt118.1) ++ (⟨#[41, 42]⟩ : ByteArray), bt118.2)) else (none)) else (none)) else (none)) else (none)) else (if 1 + t114.size ≤ 9223372036854775807 then (if ((⟨#[40]⟩ : ByteArray) ++ t114).size + bt118.1.size ≤ 9223372036854775807 then (if (((⟨#[40]⟩ : ByteArray) ++ t114) ++ bt118.1).size + 1 ≤ 9223372036854775807 then ((some (([(⟨#[43]⟩ : ByteArray), (⟨#[63]⟩ : ByteArray)] : List ByteArray) : List ByteArray)).bind fun y122 => ((bobbinetkeep_Picked.f (wrap64 (Int.tdiv x6_2 9)) 2).bind fun t125 => (if 0 ≤ t125 then (if t125 < (y122.length : Int) then (if ((((⟨#[40]⟩ : ByteArray) ++ t114) ++ bt118.1) ++ (⟨#[41]⟩ : ByteArray)).size + (rdOf ByteArray.empty y122 t125).size ≤ 9223372036854775807 then (some (((((⟨#[40]⟩ : ByteArray) ++ t114) ++ bt118.1) ++ (⟨#[41]⟩ : ByteArray)) ++ (rdOf ByteArray.empty y122 t125), bt118.2)) else (none)) else (none)) else (none)))) else (none)) else (none)) else (none)))))) = some (r1, r2) := H
      have A27 := Aside0.mk A270
      clear A270
      replace H := Option.bind_eq_some_iff.mp H
      obtain ⟨⟨t118, t119⟩, A280, H⟩ := H
      replace H : (if t107 < 6 then (if t114.size + t118.size ≤ 9223372036854775807 then (some (t114 ++ t118, t119)) else (none)) else (if t107 = 6 then (if 1 + t114.size ≤ 9223372036854775807 then (if ((⟨#[40]⟩ : ByteArray) ++ t114).size + 1 ≤ 9223372036854775807 then (if (((⟨#[40]⟩ : ByteArray) ++ t114) ++ (⟨#[124]⟩ : ByteArray)).size + t118.size ≤ 9223372036854775807 then (if ((((⟨#[40]⟩ : ByteArray) ++ t114) ++ (⟨#[124]⟩ : ByteArray)) ++ t118).size + 1 ≤ 9223372036854775807 then (some (((((⟨#[40]⟩ : ByteArray) ++ t114) ++ (⟨#[124]⟩ : ByteArray)) ++ t118) ++ (⟨#[41]⟩ : ByteArray), t119)) else (none)) else (none)) else (none)) else (none)) else (if t107 = 7 then (if 1 + t114.size ≤ 9223372036854775807 then (if ((⟨#[40]⟩ : ByteArray) ++ t114).size + 1 ≤ 9223372036854775807 then (if (((⟨#[40]⟩ : ByteArray) ++ t114) ++ (⟨#[124]⟩ : ByteArray)).size + t118.size ≤ 9223372036854775807 then (if ((((⟨#[40]⟩ : ByteArray) ++ t114) ++ (⟨#[124]⟩ : ByteArray)) ++ t118).size + 2 ≤ 9223372036854775807 then (some (((((⟨#[40]⟩ : ByteArray) ++ t114) ++ (⟨#[124]⟩ : ByteArray)) ++ t118) ++ (⟨#[41, 42]⟩ : ByteArray), t119)) else (none)) else (none)) else (none)) else (none)) else (if 1 + t114.size ≤ 9223372036854775807 then (if ((⟨#[40]⟩ : ByteArray) ++ t114).size + t118.size ≤ 9223372036854775807 then (if (((⟨#[40]⟩ : ByteArray) ++ t114) ++ t118).size + 1 ≤ 9223372036854775807 then ((some (([(⟨#[43]⟩ : ByteArray), (⟨#[63]⟩ : ByteArray)] : List ByteArray) : List ByteArray)).bind fun y122 => ((bobbinetkeep_Picked.f (wrap64 (Int.tdiv x6_2 9)) 2).bind fun t125 => (if 0 ≤ t125 then (if t125 < (y122.length : Int) then (if ((((⟨#[40]⟩ : ByteArray) ++ t114) ++ t118) ++ (⟨#[41]⟩ : ByteArray)).size + (rdOf ByteArray.empty y122 t125).size ≤ 9223372036854775807 then (some (((((⟨#[40]⟩ : ByteArray) ++ t114) ++ t118) ++ (⟨#[41]⟩ : ByteArray)) ++ (rdOf ByteArray.empty y122 t125), t119)) else (none)) else (none)) else (none)))) else (none)) else (none)) else (none))))) = some (r1, r2) := H
      have A28 := Aside0.mk A280
      clear A280
      by_cases c29 : t107 < 6
      ·
       rw [if_pos c29] at H
       have c29b0 : decide (t107 < 6) = true := decide_eq_true c29
       clear c29
       by_cases c30 : t114.size + t118.size ≤ 9223372036854775807
       ·
        rw [if_pos c30] at H
        have c30b0 := eq_true c30
        have c30b1 : decide (t114.size + t118.size ≤ 9223372036854775807) = true := decide_eq_true c30
        try have c30b2 : (9223372036854775807 < t114.size + t118.size) = False := eq_false (Nat.not_lt.2 c30)
        simp only [Option.some.injEq, Prod.mk.injEq] at H
        obtain ⟨rfl, rfl⟩ := H
        obtain ⟨Ao31, co31, eo31⟩ := Kd.V_slice HO_0.out
        subst eo31
        go_wp2_with (first | ((with_reducible refine gate_callee (f := 9) rfl ?_); refine goesL_ (some 43) rfl rfl Try.func9 (by kernel_rfl) rfl #[.slice Ao31 x0_2.length co31, .int .i64 (wrap64 (a1 - 1))] rfl (by (try simp only [List.map_toArray, List.map_cons, List.map_nil]); first | done | rfl | (simp only [List.length_drop, List.length_take]; rfl)) ?_; (with_reducible refine (ih kj8 (by have := HJ2.out; have := HJ8.out; omega) (fun k_ => (P0_ k_ ∨ w.heap.size ≤ k_)) _ _ x0_2 (wrap64 (a1 - 1)) t114 t115 _ ?side1 A27.out).mono ?_); (case side1 => first | exact HO_0.out | exact Kd.V_mono HO_0.out (fun k_ h_ => by grind)); rintro e w32 ⟨v116, rfl, ho0, hb⟩; refine ⟨_, rfl, ?_⟩; have n0_ := Aside0.mk (Kd.V_below (by (with_reducible repeat (first | apply Kd.V_alloc | apply Kd.V_drewN | apply Kd.V_drew)); exact HO_0.out) hb); have n1_ := Aside0.mk (Kd.V_lower (Kd.V_mono (ok' := fun k_ => (P0_ k_ ∨ w.heap.size ≤ k_)) ho0 (fun k_ hk_ => Or.elim hk_ (fun hs_ => hs_) (fun hn_ => (.inr (Nat.le_trans (below_size (by repeat (first | (with_reducible first | exact HB.out | apply below_alloc | apply pw_below_drewN | apply below_drew1) | exact HB.out))) hn_))))) (below_size (by repeat (first | (with_reducible first | exact HB.out | apply below_alloc | apply pw_below_drewN | apply below_drew1) | exact HB.out)))); have n2_ := Aside0.mk (below_step (by repeat (first | (with_reducible first | exact HB.out | apply below_alloc | apply pw_below_drewN | apply below_drew1) | exact HB.out)) hb); clear HO_0; clear HB; have HO_0 := n0_; have HO117 := n1_; have HB := n2_; clear n0_ n1_ n2_; (try clear hb); (try clear hb2); (try clear hk); (try clear hi); (try clear ho0); obtain ⟨Ao33, co33, eo33⟩ := Kd.V_slice HO117.out; subst eo33) | ((with_reducible refine gate_callee (f := 9) rfl ?_); refine goesL_ (some 50) rfl rfl Try.func9 (by kernel_rfl) rfl #[.slice Ao33 t115.length co33, .int .i64 (wrap64 (a1 - 1))] rfl (by (try simp only [List.map_toArray, List.map_cons, List.map_nil]); first | done | rfl | (simp only [List.length_drop, List.length_take]; rfl)) ?_; (with_reducible refine (ih kj8 (by have := HJ2.out; have := HJ8.out; omega) (fun k_ => (P0_ k_ ∨ w.heap.size ≤ k_)) _ _ t115 (wrap64 (a1 - 1)) t118 t119 _ ?side1 A28.out).mono ?_); (case side1 => first | exact HO117.out | exact Kd.V_mono HO117.out (fun k_ h_ => by grind)); rintro e w34 ⟨v120, rfl, ho0, hb⟩; refine ⟨_, rfl, ?_⟩; have n0_ := Aside0.mk (Kd.V_below (by (with_reducible repeat (first | apply Kd.V_alloc | apply Kd.V_drewN | apply Kd.V_drew)); exact HO_0.out) hb); have n1_ := Aside0.mk (Kd.V_below (by (with_reducible repeat (first | apply Kd.V_alloc | apply Kd.V_drewN | apply Kd.V_drew)); exact HO117.out) hb); have n2_ := Aside0.mk (Kd.V_lower (Kd.V_mono (ok' := fun k_ => (P0_ k_ ∨ w.heap.size ≤ k_)) ho0 (fun k_ hk_ => Or.elim hk_ (fun hs_ => hs_) (fun hn_ => (.inr (Nat.le_trans (below_size (by repeat (first | (with_reducible first | exact HB.out | apply below_alloc | apply pw_below_drewN | apply below_drew1) | exact HB.out))) hn_))))) (below_size (by repeat (first | (with_reducible first | exact HB.out | apply below_alloc | apply pw_below_drewN | apply below_drew1) | exact HB.out)))); have n3_ := Aside0.mk (below_step (by repeat (first | (with_reducible first | exact HB.out | apply below_alloc | apply pw_below_drewN | apply below_drew1) | exact HB.out)) hb); clear HO_0; clear HO117; clear HB; have HO_0 := n0_; have HO117 := n1_; have HO121 := n2_; have HB := n3_; clear n0_ n1_ n2_ n3_; (try clear hb); (try clear hb2); (try clear hk); (try clear hi); (try clear ho0)))
        go_ret2
        exact ⟨_, by first | rfl | (simp [errW_none, errW_some] <;> rfl) | (simp [*, errW_none, errW_some] <;> rfl), by (with_reducible repeat (first | apply Kd.V_alloc | apply Kd.V_drewN | apply Kd.V_drew)); exact HO121.out, by repeat (first | (with_reducible first | exact HB.out | apply below_alloc | apply pw_below_drewN | apply below_drew1) | exact HB.out)⟩
       ·
        rw [if_neg c30] at H
        exact absurd H (by simp)
      ·
       rw [if_neg c29] at H
       have c29b0 : decide (t107 < 6) = false := decide_eq_false c29
       clear c29
       by_cases c35 : t107 = 6
       ·
        rw [if_pos c35] at H
        have c35b0 : (t107 == 6) = true := beq_iff_eq.mpr c35
        have c35b1 : (t107 != 6) = false := bne_eq_false_iff_eq.mpr c35
        clear c35
        by_cases c36 : 1 + t114.size ≤ 9223372036854775807
        ·
         rw [if_pos c36] at H
         have c36b0 := eq_true c36
         have c36b1 : decide (1 + t114.size ≤ 9223372036854775807) = true := decide_eq_true c36
         try have c36b2 : (9223372036854775807 < 1 + t114.size) = False := eq_false (Nat.not_lt.2 c36)
         by_cases c37 : ((⟨#[40]⟩ : ByteArray) ++ t114).size + 1 ≤ 9223372036854775807
         ·
          rw [if_pos c37] at H
          have c37b0 := eq_true c37
          have c37b1 : decide (((⟨#[40]⟩ : ByteArray) ++ t114).size + 1 ≤ 9223372036854775807) = true := decide_eq_true c37
          try have c37b2 : (9223372036854775807 < ((⟨#[40]⟩ : ByteArray) ++ t114).size + 1) = False := eq_false (Nat.not_lt.2 c37)
          try (have c37b3 := c37b2; simp only [ByteArray.size_append] at c37b3)
          try (have c37b4 := c37b2; simp only [ByteArray.size_append, show (⟨#[40]⟩ : ByteArray).size = 1 from rfl] at c37b4)
          by_cases c38 : (((⟨#[40]⟩ : ByteArray) ++ t114) ++ (⟨#[124]⟩ : ByteArray)).size + t118.size ≤ 9223372036854775807
          ·
           rw [if_pos c38] at H
           have c38b0 := eq_true c38
           have c38b1 : decide ((((⟨#[40]⟩ : ByteArray) ++ t114) ++ (⟨#[124]⟩ : ByteArray)).size + t118.size ≤ 9223372036854775807) = true := decide_eq_true c38
           try have c38b2 : (9223372036854775807 < (((⟨#[40]⟩ : ByteArray) ++ t114) ++ (⟨#[124]⟩ : ByteArray)).size + t118.size) = False := eq_false (Nat.not_lt.2 c38)
           try (have c38b3 := c38b2; simp only [ByteArray.size_append] at c38b3)
           try (have c38b4 := c38b2; simp only [ByteArray.size_append, show (⟨#[124]⟩ : ByteArray).size = 1 from rfl, show (⟨#[40]⟩ : ByteArray).size = 1 from rfl] at c38b4)
           by_cases c39 : ((((⟨#[40]⟩ : ByteArray) ++ t114) ++ (⟨#[124]⟩ : ByteArray)) ++ t118).size + 1 ≤ 9223372036854775807
           ·
            rw [if_pos c39] at H
            have c39b0 := eq_true c39
            have c39b1 : decide (((((⟨#[40]⟩ : ByteArray) ++ t114) ++ (⟨#[124]⟩ : ByteArray)) ++ t118).size + 1 ≤ 9223372036854775807) = true := decide_eq_true c39
            try have c39b2 : (9223372036854775807 < ((((⟨#[40]⟩ : ByteArray) ++ t114) ++ (⟨#[124]⟩ : ByteArray)) ++ t118).size + 1) = False := eq_false (Nat.not_lt.2 c39)
            try (have c39b3 := c39b2; simp only [ByteArray.size_append] at c39b3)
            try (have c39b4 := c39b2; simp only [ByteArray.size_append, show (⟨#[124]⟩ : ByteArray).size = 1 from rfl, show (⟨#[40]⟩ : ByteArray).size = 1 from rfl] at c39b4)
            simp only [Option.some.injEq, Prod.mk.injEq] at H
            obtain ⟨rfl, rfl⟩ := H
            obtain ⟨Ao40, co40, eo40⟩ := Kd.V_slice HO_0.out
            subst eo40
            go_wp2_with (first | ((with_reducible refine gate_callee (f := 9) rfl ?_); refine goesL_ (some 43) rfl rfl Try.func9 (by kernel_rfl) rfl #[.slice Ao40 x0_2.length co40, .int .i64 (wrap64 (a1 - 1))] rfl (by (try simp only [List.map_toArray, List.map_cons, List.map_nil]); first | done | rfl | (simp only [List.length_drop, List.length_take]; rfl)) ?_; (with_reducible refine (ih kj8 (by have := HJ2.out; have := HJ8.out; omega) (fun k_ => (P0_ k_ ∨ w.heap.size ≤ k_)) _ _ x0_2 (wrap64 (a1 - 1)) t114 t115 _ ?side1 A27.out).mono ?_); (case side1 => first | exact HO_0.out | exact Kd.V_mono HO_0.out (fun k_ h_ => by grind)); rintro e w41 ⟨v116, rfl, ho0, hb⟩; refine ⟨_, rfl, ?_⟩; have n0_ := Aside0.mk (Kd.V_below (by (with_reducible repeat (first | apply Kd.V_alloc | apply Kd.V_drewN | apply Kd.V_drew)); exact HO_0.out) hb); have n1_ := Aside0.mk (Kd.V_lower (Kd.V_mono (ok' := fun k_ => (P0_ k_ ∨ w.heap.size ≤ k_)) ho0 (fun k_ hk_ => Or.elim hk_ (fun hs_ => hs_) (fun hn_ => (.inr (Nat.le_trans (below_size (by repeat (first | (with_reducible first | exact HB.out | apply below_alloc | apply pw_below_drewN | apply below_drew1) | exact HB.out))) hn_))))) (below_size (by repeat (first | (with_reducible first | exact HB.out | apply below_alloc | apply pw_below_drewN | apply below_drew1) | exact HB.out)))); have n2_ := Aside0.mk (below_step (by repeat (first | (with_reducible first | exact HB.out | apply below_alloc | apply pw_below_drewN | apply below_drew1) | exact HB.out)) hb); clear HO_0; clear HB; have HO_0 := n0_; have HO117 := n1_; have HB := n2_; clear n0_ n1_ n2_; (try clear hb); (try clear hb2); (try clear hk); (try clear hi); (try clear ho0); obtain ⟨Ao42, co42, eo42⟩ := Kd.V_slice HO117.out; subst eo42) | ((with_reducible refine gate_callee (f := 9) rfl ?_); refine goesL_ (some 50) rfl rfl Try.func9 (by kernel_rfl) rfl #[.slice Ao42 t115.length co42, .int .i64 (wrap64 (a1 - 1))] rfl (by (try simp only [List.map_toArray, List.map_cons, List.map_nil]); first | done | rfl | (simp only [List.length_drop, List.length_take]; rfl)) ?_; (with_reducible refine (ih kj8 (by have := HJ2.out; have := HJ8.out; omega) (fun k_ => (P0_ k_ ∨ w.heap.size ≤ k_)) _ _ t115 (wrap64 (a1 - 1)) t118 t119 _ ?side1 A28.out).mono ?_); (case side1 => first | exact HO117.out | exact Kd.V_mono HO117.out (fun k_ h_ => by grind)); rintro e w43 ⟨v120, rfl, ho0, hb⟩; refine ⟨_, rfl, ?_⟩; have n0_ := Aside0.mk (Kd.V_below (by (with_reducible repeat (first | apply Kd.V_alloc | apply Kd.V_drewN | apply Kd.V_drew)); exact HO_0.out) hb); have n1_ := Aside0.mk (Kd.V_below (by (with_reducible repeat (first | apply Kd.V_alloc | apply Kd.V_drewN | apply Kd.V_drew)); exact HO117.out) hb); have n2_ := Aside0.mk (Kd.V_lower (Kd.V_mono (ok' := fun k_ => (P0_ k_ ∨ w.heap.size ≤ k_)) ho0 (fun k_ hk_ => Or.elim hk_ (fun hs_ => hs_) (fun hn_ => (.inr (Nat.le_trans (below_size (by repeat (first | (with_reducible first | exact HB.out | apply below_alloc | apply pw_below_drewN | apply below_drew1) | exact HB.out))) hn_))))) (below_size (by repeat (first | (with_reducible first | exact HB.out | apply below_alloc | apply pw_below_drewN | apply below_drew1) | exact HB.out)))); have n3_ := Aside0.mk (below_step (by repeat (first | (with_reducible first | exact HB.out | apply below_alloc | apply pw_below_drewN | apply below_drew1) | exact HB.out)) hb); clear HO_0; clear HO117; clear HB; have HO_0 := n0_; have HO117 := n1_; have HO121 := n2_; have HB := n3_; clear n0_ n1_ n2_ n3_; (try clear hb); (try clear hb2); (try clear hk); (try clear hi); (try clear ho0)))
            go_ret2
            exact ⟨_, by first | rfl | (simp [errW_none, errW_some] <;> rfl) | (simp [*, errW_none, errW_some] <;> rfl), by (with_reducible repeat (first | apply Kd.V_alloc | apply Kd.V_drewN | apply Kd.V_drew)); exact HO121.out, by repeat (first | (with_reducible first | exact HB.out | apply below_alloc | apply pw_below_drewN | apply below_drew1) | exact HB.out)⟩
           ·
            rw [if_neg c39] at H
            exact absurd H (by simp)
          ·
           rw [if_neg c38] at H
           exact absurd H (by simp)
         ·
          rw [if_neg c37] at H
          exact absurd H (by simp)
        ·
         rw [if_neg c36] at H
         exact absurd H (by simp)
       ·
        rw [if_neg c35] at H
        have c35b0 : (t107 == 6) = false := beq_eq_false_iff_ne.mpr c35
        have c35b1 : (t107 != 6) = true := bne_iff_ne.mpr c35
        by_cases c44 : t107 = 7
        ·
         rw [if_pos c44] at H
         have c44b0 : (t107 == 7) = true := beq_iff_eq.mpr c44
         have c44b1 : (t107 != 7) = false := bne_eq_false_iff_eq.mpr c44
         clear c44
         by_cases c45 : 1 + t114.size ≤ 9223372036854775807
         ·
          rw [if_pos c45] at H
          have c45b0 := eq_true c45
          have c45b1 : decide (1 + t114.size ≤ 9223372036854775807) = true := decide_eq_true c45
          try have c45b2 : (9223372036854775807 < 1 + t114.size) = False := eq_false (Nat.not_lt.2 c45)
          by_cases c46 : ((⟨#[40]⟩ : ByteArray) ++ t114).size + 1 ≤ 9223372036854775807
          ·
           rw [if_pos c46] at H
           have c46b0 := eq_true c46
           have c46b1 : decide (((⟨#[40]⟩ : ByteArray) ++ t114).size + 1 ≤ 9223372036854775807) = true := decide_eq_true c46
           try have c46b2 : (9223372036854775807 < ((⟨#[40]⟩ : ByteArray) ++ t114).size + 1) = False := eq_false (Nat.not_lt.2 c46)
           try (have c46b3 := c46b2; simp only [ByteArray.size_append] at c46b3)
           try (have c46b4 := c46b2; simp only [ByteArray.size_append, show (⟨#[40]⟩ : ByteArray).size = 1 from rfl] at c46b4)
           by_cases c47 : (((⟨#[40]⟩ : ByteArray) ++ t114) ++ (⟨#[124]⟩ : ByteArray)).size + t118.size ≤ 9223372036854775807
           ·
            rw [if_pos c47] at H
            have c47b0 := eq_true c47
            have c47b1 : decide ((((⟨#[40]⟩ : ByteArray) ++ t114) ++ (⟨#[124]⟩ : ByteArray)).size + t118.size ≤ 9223372036854775807) = true := decide_eq_true c47
            try have c47b2 : (9223372036854775807 < (((⟨#[40]⟩ : ByteArray) ++ t114) ++ (⟨#[124]⟩ : ByteArray)).size + t118.size) = False := eq_false (Nat.not_lt.2 c47)
            try (have c47b3 := c47b2; simp only [ByteArray.size_append] at c47b3)
            try (have c47b4 := c47b2; simp only [ByteArray.size_append, show (⟨#[124]⟩ : ByteArray).size = 1 from rfl, show (⟨#[40]⟩ : ByteArray).size = 1 from rfl] at c47b4)
            by_cases c48 : ((((⟨#[40]⟩ : ByteArray) ++ t114) ++ (⟨#[124]⟩ : ByteArray)) ++ t118).size + 2 ≤ 9223372036854775807
            ·
             rw [if_pos c48] at H
             have c48b0 := eq_true c48
             have c48b1 : decide (((((⟨#[40]⟩ : ByteArray) ++ t114) ++ (⟨#[124]⟩ : ByteArray)) ++ t118).size + 2 ≤ 9223372036854775807) = true := decide_eq_true c48
             try have c48b2 : (9223372036854775807 < ((((⟨#[40]⟩ : ByteArray) ++ t114) ++ (⟨#[124]⟩ : ByteArray)) ++ t118).size + 2) = False := eq_false (Nat.not_lt.2 c48)
             try (have c48b3 := c48b2; simp only [ByteArray.size_append] at c48b3)
             try (have c48b4 := c48b2; simp only [ByteArray.size_append, show (⟨#[124]⟩ : ByteArray).size = 1 from rfl, show (⟨#[40]⟩ : ByteArray).size = 1 from rfl] at c48b4)
             simp only [Option.some.injEq, Prod.mk.injEq] at H
             obtain ⟨rfl, rfl⟩ := H
             obtain ⟨Ao49, co49, eo49⟩ := Kd.V_slice HO_0.out
             subst eo49
             go_wp2_with (first | ((with_reducible refine gate_callee (f := 9) rfl ?_); refine goesL_ (some 43) rfl rfl Try.func9 (by kernel_rfl) rfl #[.slice Ao49 x0_2.length co49, .int .i64 (wrap64 (a1 - 1))] rfl (by (try simp only [List.map_toArray, List.map_cons, List.map_nil]); first | done | rfl | (simp only [List.length_drop, List.length_take]; rfl)) ?_; (with_reducible refine (ih kj8 (by have := HJ2.out; have := HJ8.out; omega) (fun k_ => (P0_ k_ ∨ w.heap.size ≤ k_)) _ _ x0_2 (wrap64 (a1 - 1)) t114 t115 _ ?side1 A27.out).mono ?_); (case side1 => first | exact HO_0.out | exact Kd.V_mono HO_0.out (fun k_ h_ => by grind)); rintro e w50 ⟨v116, rfl, ho0, hb⟩; refine ⟨_, rfl, ?_⟩; have n0_ := Aside0.mk (Kd.V_below (by (with_reducible repeat (first | apply Kd.V_alloc | apply Kd.V_drewN | apply Kd.V_drew)); exact HO_0.out) hb); have n1_ := Aside0.mk (Kd.V_lower (Kd.V_mono (ok' := fun k_ => (P0_ k_ ∨ w.heap.size ≤ k_)) ho0 (fun k_ hk_ => Or.elim hk_ (fun hs_ => hs_) (fun hn_ => (.inr (Nat.le_trans (below_size (by repeat (first | (with_reducible first | exact HB.out | apply below_alloc | apply pw_below_drewN | apply below_drew1) | exact HB.out))) hn_))))) (below_size (by repeat (first | (with_reducible first | exact HB.out | apply below_alloc | apply pw_below_drewN | apply below_drew1) | exact HB.out)))); have n2_ := Aside0.mk (below_step (by repeat (first | (with_reducible first | exact HB.out | apply below_alloc | apply pw_below_drewN | apply below_drew1) | exact HB.out)) hb); clear HO_0; clear HB; have HO_0 := n0_; have HO117 := n1_; have HB := n2_; clear n0_ n1_ n2_; (try clear hb); (try clear hb2); (try clear hk); (try clear hi); (try clear ho0); obtain ⟨Ao51, co51, eo51⟩ := Kd.V_slice HO117.out; subst eo51) | ((with_reducible refine gate_callee (f := 9) rfl ?_); refine goesL_ (some 50) rfl rfl Try.func9 (by kernel_rfl) rfl #[.slice Ao51 t115.length co51, .int .i64 (wrap64 (a1 - 1))] rfl (by (try simp only [List.map_toArray, List.map_cons, List.map_nil]); first | done | rfl | (simp only [List.length_drop, List.length_take]; rfl)) ?_; (with_reducible refine (ih kj8 (by have := HJ2.out; have := HJ8.out; omega) (fun k_ => (P0_ k_ ∨ w.heap.size ≤ k_)) _ _ t115 (wrap64 (a1 - 1)) t118 t119 _ ?side1 A28.out).mono ?_); (case side1 => first | exact HO117.out | exact Kd.V_mono HO117.out (fun k_ h_ => by grind)); rintro e w52 ⟨v120, rfl, ho0, hb⟩; refine ⟨_, rfl, ?_⟩; have n0_ := Aside0.mk (Kd.V_below (by (with_reducible repeat (first | apply Kd.V_alloc | apply Kd.V_drewN | apply Kd.V_drew)); exact HO_0.out) hb); have n1_ := Aside0.mk (Kd.V_below (by (with_reducible repeat (first | apply Kd.V_alloc | apply Kd.V_drewN | apply Kd.V_drew)); exact HO117.out) hb); have n2_ := Aside0.mk (Kd.V_lower (Kd.V_mono (ok' := fun k_ => (P0_ k_ ∨ w.heap.size ≤ k_)) ho0 (fun k_ hk_ => Or.elim hk_ (fun hs_ => hs_) (fun hn_ => (.inr (Nat.le_trans (below_size (by repeat (first | (with_reducible first | exact HB.out | apply below_alloc | apply pw_below_drewN | apply below_drew1) | exact HB.out))) hn_))))) (below_size (by repeat (first | (with_reducible first | exact HB.out | apply below_alloc | apply pw_below_drewN | apply below_drew1) | exact HB.out)))); have n3_ := Aside0.mk (below_step (by repeat (first | (with_reducible first | exact HB.out | apply below_alloc | apply pw_below_drewN | apply below_drew1) | exact HB.out)) hb); clear HO_0; clear HO117; clear HB; have HO_0 := n0_; have HO117 := n1_; have HO121 := n2_; have HB := n3_; clear n0_ n1_ n2_ n3_; (try clear hb); (try clear hb2); (try clear hk); (try clear hi); (try clear ho0)))
             go_ret2
             exact ⟨_, by first | rfl | (simp [errW_none, errW_some] <;> rfl) | (simp [*, errW_none, errW_some] <;> rfl), by (with_reducible repeat (first | apply Kd.V_alloc | apply Kd.V_drewN | apply Kd.V_drew)); exact HO121.out, by repeat (first | (with_reducible first | exact HB.out | apply below_alloc | apply pw_below_drewN | apply below_drew1) | exact HB.out)⟩
            ·
             rw [if_neg c48] at H
             exact absurd H (by simp)
           ·
            rw [if_neg c47] at H
            exact absurd H (by simp)
          ·
           rw [if_neg c46] at H
           exact absurd H (by simp)
         ·
          rw [if_neg c45] at H
          exact absurd H (by simp)
        ·
         rw [if_neg c44] at H
         have c44b0 : (t107 == 7) = false := beq_eq_false_iff_ne.mpr c44
         have c44b1 : (t107 != 7) = true := bne_iff_ne.mpr c44
         by_cases c53 : 1 + t114.size ≤ 9223372036854775807
         ·
          rw [if_pos c53] at H
          have c53b0 := eq_true c53
          have c53b1 : decide (1 + t114.size ≤ 9223372036854775807) = true := decide_eq_true c53
          try have c53b2 : (9223372036854775807 < 1 + t114.size) = False := eq_false (Nat.not_lt.2 c53)
          by_cases c54 : ((⟨#[40]⟩ : ByteArray) ++ t114).size + t118.size ≤ 9223372036854775807
          ·
           rw [if_pos c54] at H
           have c54b0 := eq_true c54
           have c54b1 : decide (((⟨#[40]⟩ : ByteArray) ++ t114).size + t118.size ≤ 9223372036854775807) = true := decide_eq_true c54
           try have c54b2 : (9223372036854775807 < ((⟨#[40]⟩ : ByteArray) ++ t114).size + t118.size) = False := eq_false (Nat.not_lt.2 c54)
           try (have c54b3 := c54b2; simp only [ByteArray.size_append] at c54b3)
           try (have c54b4 := c54b2; simp only [ByteArray.size_append, show (⟨#[40]⟩ : ByteArray).size = 1 from rfl] at c54b4)
           by_cases c55 : (((⟨#[40]⟩ : ByteArray) ++ t114) ++ t118).size + 1 ≤ 9223372036854775807
           ·
            rw [if_pos c55] at H
            have c55b0 := eq_true c55
            have c55b1 : decide ((((⟨#[40]⟩ : ByteArray) ++ t114) ++ t118).size + 1 ≤ 9223372036854775807) = true := decide_eq_true c55
            try have c55b2 : (9223372036854775807 < (((⟨#[40]⟩ : ByteArray) ++ t114) ++ t118).size + 1) = False := eq_false (Nat.not_lt.2 c55)
            try (have c55b3 := c55b2; simp only [ByteArray.size_append] at c55b3)
            try (have c55b4 := c55b2; simp only [ByteArray.size_append, show (⟨#[40]⟩ : ByteArray).size = 1 from rfl] at c55b4)
            obtain ⟨y122, hy122⟩ : ∃ y_ : List ByteArray, y_ = (([(⟨#[43]⟩ : ByteArray), (⟨#[63]⟩ : ByteArray)] : List ByteArray)) := ⟨_, rfl⟩
            replace H : ((bobbinetkeep_Picked.f (wrap64 (Int.tdiv x6_2 9)) 2).bind fun t125 => (if 0 ≤ t125 then (if t125 < (y122.length : Int) then (if ((((⟨#[40]⟩ : ByteArray) ++ t114) ++ t118) ++ (⟨#[41]⟩ : ByteArray)).size + (rdOf ByteArray.empty y122 t125).size ≤ 9223372036854775807 then (some (((((⟨#[40]⟩ : ByteArray) ++ t114) ++ t118) ++ (⟨#[41]⟩ : ByteArray)) ++ (rdOf ByteArray.empty y122 t125), t119)) else (none)) else (none)) else (none))) = some (r1, r2) := by first | (rw [hy122]; with_reducible exact H) | (have H2_ := (Option.bind_some _ _).symm.trans H; rw [hy122]; with_reducible exact H2_) | (have H2_ := (Option.bind_some _ _).symm.trans H; with_reducible exact H2_) | with_reducible exact H | (rw [hy122]; exact H) | exact H
            have Ny122 := Aside0.mk hy122
            clear hy122
            replace H := Option.bind_eq_some_iff.mp H
            obtain ⟨t125, A560, H⟩ := H
            replace H : (if 0 ≤ t125 then (if t125 < (y122.length : Int) then (if ((((⟨#[40]⟩ : ByteArray) ++ t114) ++ t118) ++ (⟨#[41]⟩ : ByteArray)).size + (rdOf ByteArray.empty y122 t125).size ≤ 9223372036854775807 then (some (((((⟨#[40]⟩ : ByteArray) ++ t114) ++ t118) ++ (⟨#[41]⟩ : ByteArray)) ++ (rdOf ByteArray.empty y122 t125), t119)) else (none)) else (none)) else (none)) = some (r1, r2) := H
            have A56 := Aside0.mk A560
            clear A560
            by_cases c57 : 0 ≤ t125
            ·
             rw [if_pos c57] at H
             have c57b0 : decide (0 ≤ t125) = true := decide_eq_true c57
             clear c57
             by_cases c58 : t125 < (y122.length : Int)
             ·
              rw [if_pos c58] at H
              have c58b0 : decide (t125 < (y122.length : Int)) = true := decide_eq_true c58
              clear c58
              by_cases c59 : ((((⟨#[40]⟩ : ByteArray) ++ t114) ++ t118) ++ (⟨#[41]⟩ : ByteArray)).size + (rdOf ByteArray.empty y122 t125).size ≤ 9223372036854775807
              ·
               rw [if_pos c59] at H
               have c59b0 := eq_true c59
               have c59b1 : decide (((((⟨#[40]⟩ : ByteArray) ++ t114) ++ t118) ++ (⟨#[41]⟩ : ByteArray)).size + (rdOf ByteArray.empty y122 t125).size ≤ 9223372036854775807) = true := decide_eq_true c59
               try have c59b2 : (9223372036854775807 < ((((⟨#[40]⟩ : ByteArray) ++ t114) ++ t118) ++ (⟨#[41]⟩ : ByteArray)).size + (rdOf ByteArray.empty y122 t125).size) = False := eq_false (Nat.not_lt.2 c59)
               try (have c59b3 := c59b2; simp only [ByteArray.size_append] at c59b3)
               try (have c59b4 := c59b2; simp only [ByteArray.size_append, show (⟨#[40]⟩ : ByteArray).size = 1 from rfl, show (⟨#[41]⟩ : ByteArray).size = 1 from rfl] at c59b4)
               simp only [Option.some.injEq, Prod.mk.injEq] at H
               obtain ⟨rfl, rfl⟩ := H
               obtain ⟨Ao60, co60, eo60⟩ := Kd.V_slice HO_0.out
               subst eo60
               go_wp2_with (first | ((with_reducible refine gate_callee (f := 9) rfl ?_); refine goesL_ (some 43) rfl rfl Try.func9 (by kernel_rfl) rfl #[.slice Ao60 x0_2.length co60, .int .i64 (wrap64 (a1 - 1))] rfl (by (try simp only [List.map_toArray, List.map_cons, List.map_nil]); first | done | rfl | (simp only [List.length_drop, List.length_take]; rfl)) ?_; (with_reducible refine (ih kj8 (by have := HJ2.out; have := HJ8.out; omega) (fun k_ => (P0_ k_ ∨ w.heap.size ≤ k_)) _ _ x0_2 (wrap64 (a1 - 1)) t114 t115 _ ?side1 A27.out).mono ?_); (case side1 => first | exact HO_0.out | exact Kd.V_mono HO_0.out (fun k_ h_ => by grind)); rintro e w61 ⟨v116, rfl, ho0, hb⟩; refine ⟨_, rfl, ?_⟩; have n0_ := Aside0.mk (Kd.V_below (by (with_reducible repeat (first | apply Kd.V_alloc | apply Kd.V_drewN | apply Kd.V_drew)); exact HO_0.out) hb); have n1_ := Aside0.mk (Kd.V_lower (Kd.V_mono (ok' := fun k_ => (P0_ k_ ∨ w.heap.size ≤ k_)) ho0 (fun k_ hk_ => Or.elim hk_ (fun hs_ => hs_) (fun hn_ => (.inr (Nat.le_trans (below_size (by repeat (first | (with_reducible first | exact HB.out | apply below_alloc | apply pw_below_drewN | apply below_drew1) | exact HB.out))) hn_))))) (below_size (by repeat (first | (with_reducible first | exact HB.out | apply below_alloc | apply pw_below_drewN | apply below_drew1) | exact HB.out)))); have n2_ := Aside0.mk (below_step (by repeat (first | (with_reducible first | exact HB.out | apply below_alloc | apply pw_below_drewN | apply below_drew1) | exact HB.out)) hb); clear HO_0; clear HB; have HO_0 := n0_; have HO117 := n1_; have HB := n2_; clear n0_ n1_ n2_; (try clear hb); (try clear hb2); (try clear hk); (try clear hi); (try clear ho0); obtain ⟨Ao62, co62, eo62⟩ := Kd.V_slice HO117.out; subst eo62) | ((with_reducible refine gate_callee (f := 9) rfl ?_); refine goesL_ (some 50) rfl rfl Try.func9 (by kernel_rfl) rfl #[.slice Ao62 t115.length co62, .int .i64 (wrap64 (a1 - 1))] rfl (by (try simp only [List.map_toArray, List.map_cons, List.map_nil]); first | done | rfl | (simp only [List.length_drop, List.length_take]; rfl)) ?_; (with_reducible refine (ih kj8 (by have := HJ2.out; have := HJ8.out; omega) (fun k_ => (P0_ k_ ∨ w.heap.size ≤ k_)) _ _ t115 (wrap64 (a1 - 1)) t118 t119 _ ?side1 A28.out).mono ?_); (case side1 => first | exact HO117.out | exact Kd.V_mono HO117.out (fun k_ h_ => by grind)); rintro e w63 ⟨v120, rfl, ho0, hb⟩; refine ⟨_, rfl, ?_⟩; have n0_ := Aside0.mk (Kd.V_below (by (with_reducible repeat (first | apply Kd.V_alloc | apply Kd.V_drewN | apply Kd.V_drew)); exact HO_0.out) hb); have n1_ := Aside0.mk (Kd.V_below (by (with_reducible repeat (first | apply Kd.V_alloc | apply Kd.V_drewN | apply Kd.V_drew)); exact HO117.out) hb); have n2_ := Aside0.mk (Kd.V_lower (Kd.V_mono (ok' := fun k_ => (P0_ k_ ∨ w.heap.size ≤ k_)) ho0 (fun k_ hk_ => Or.elim hk_ (fun hs_ => hs_) (fun hn_ => (.inr (Nat.le_trans (below_size (by repeat (first | (with_reducible first | exact HB.out | apply below_alloc | apply pw_below_drewN | apply below_drew1) | exact HB.out))) hn_))))) (below_size (by repeat (first | (with_reducible first | exact HB.out | apply below_alloc | apply pw_below_drewN | apply below_drew1) | exact HB.out)))); have n3_ := Aside0.mk (below_step (by repeat (first | (with_reducible first | exact HB.out | apply below_alloc | apply pw_below_drewN | apply below_drew1) | exact HB.out)) hb); clear HO_0; clear HO117; clear HB; have HO_0 := n0_; have HO117 := n1_; have HO121 := n2_; have HB := n3_; clear n0_ n1_ n2_ n3_; (try clear hb); (try clear hb2); (try clear hk); (try clear hi); (try clear ho0)) | ((with_reducible refine gate_dst (N := 85) rfl ?_); refine Kd.R_lit Kd.string _ 9 ?hg (N := 85) ?hd (xs := ([(⟨#[43]⟩ : ByteArray), (⟨#[63]⟩ : ByteArray)] : List ByteArray)) (inner := [.string (⟨#[43]⟩ : ByteArray), .string (⟨#[63]⟩ : ByteArray)]) (ok := fun _ => True) (okp := fun _ => True) ?hr ?hp (fun _ hk => hk) trivial (Below.refl _ _) (Nat.le_refl _) (by simp) ?_; (case hd => rfl); (case hg => rfl); (case hr => first | (go_simp; done) | (go_simp; rfl)); (case hp => exact (Reps.one (show Kd.M Kd.string _ _ _ (⟨#[43]⟩ : ByteArray) [.string (⟨#[43]⟩ : ByteArray)] from rfl) (Reps.one (show Kd.M Kd.string _ _ _ (⟨#[63]⟩ : ByteArray) [.string (⟨#[63]⟩ : ByteArray)] from rfl) (Reps.none _ _)))); intro v123 w64 ho65 hb hg_ hnew_; clear hg_ hnew_; (first | rw [← Ny122.out] at ho65 | (simp only [Int.reduceToNat] at ho65; rw [← Ny122.out] at ho65)); have n0_ := Aside0.mk (Kd.V_elder' (by (with_reducible repeat (first | apply Kd.V_alloc | apply Kd.V_drewN | apply Kd.V_drew)); exact HO_0.out) (Kd.R_base ho65) hb); have n1_ := Aside0.mk (Kd.V_elder' (by (with_reducible repeat (first | apply Kd.V_alloc | apply Kd.V_drewN | apply Kd.V_drew)); exact HO117.out) (Kd.R_base ho65) hb); have n2_ := Aside0.mk (Kd.V_elder' (by (with_reducible repeat (first | apply Kd.V_alloc | apply Kd.V_drewN | apply Kd.V_drew)); exact HO121.out) (Kd.R_base ho65) hb); have n3_ := Aside0.mk (Kd.R_lower (Kd.R_newM (M := fun k_ => (w.heap.size ≤ k_)) ho65 (below_size (by repeat (first | (with_reducible first | exact HB.out | apply below_alloc | apply pw_below_drewN | apply below_drew1) | exact HB.out))) (fun k_ h_ => h_)) (below_size (by repeat (first | (with_reducible first | exact HB.out | apply below_alloc | apply pw_below_drewN | apply below_drew1) | exact HB.out)))); have n4_ := Aside0.mk (below_step (by repeat (first | (with_reducible first | exact HB.out | apply below_alloc | apply pw_below_drewN | apply below_drew1) | exact HB.out)) hb); clear HO_0; clear HO117; clear HO121; clear HB; have HO_0 := n0_; have HO117 := n1_; have HO121 := n2_; have HO124 := n3_; have HB := n4_; clear n0_ n1_ n2_ n3_ n4_; clear hb ho65) | ((with_reducible refine gate_callee (f := 10) rfl ?_); refine goesL_ (some 88) rfl rfl Try.func10 (by kernel_rfl) rfl #[.int .i64 (wrap64 (Int.tdiv x6_2 9)), .int .i64 2] rfl (by (try simp only [List.map_toArray, List.map_cons, List.map_nil]); first | done | rfl | (simp only [List.length_drop, List.length_take]; rfl)) ?_; (with_reducible refine (bobbinetkeep_Picked.calls (wrap64 (Int.tdiv x6_2 9)) 2 t125 _ A56.out).mono ?_); rintro e w' ⟨rfl, ⟨nd, rfl⟩⟩; refine ⟨_, rfl, ?_⟩; obtain ⟨Ao66, co66, eo66⟩ := Kd.R_slice HO124.out; subst eo66; have p126 : 0 ≤ (t125 : Int) := of_decide_eq_true (by first | (with_reducible assumption) | assumption); have q126 : t125 < (y122.length : Int) := of_decide_eq_true (by first | (with_reducible assumption) | assumption); obtain ⟨ad126, e126, hx126_0⟩ := Kd.at_string (Kd.R_reads' HO124.out).2.2 t125 p126 q126; cases e126; replace p126 := eq_true p126; replace q126 := eq_true q126))
               go_ret2
               exact ⟨_, by first | rfl | (simp [errW_none, errW_some] <;> rfl) | (simp [*, errW_none, errW_some] <;> rfl), by (with_reducible repeat (first | apply Kd.V_alloc | apply Kd.V_drewN | apply Kd.V_drew)); exact Kd.V_mono HO121.out (fun _ hk => (by first | exact hk.1 | grind)), by repeat (first | (with_reducible first | exact HB.out | apply below_alloc | apply pw_below_drewN | apply below_drew1) | exact HB.out)⟩
              ·
               rw [if_neg c59] at H
               exact absurd H (by simp)
             ·
              rw [if_neg c58] at H
              exact absurd H (by simp)
            ·
             rw [if_neg c57] at H
             exact absurd H (by simp)
           ·
            rw [if_neg c55] at H
            exact absurd H (by simp)
          ·
           rw [if_neg c54] at H
           exact absurd H (by simp)
         ·
          rw [if_neg c53] at H
          exact absurd H (by simp)
end Go.Proofs.Ytjmhihadgpdiaaa.X
end
section
namespace Go.Proofs.Ytjmhihadgpdiaaa.X
open Go.RowKit Go.Proofs.YtjmhihadgpdiaaaW.PrintWords Go.Proofs.YtjmhihadgpdiaaaW.PrintLast Go.Proofs.YtjmhihadgpdiaaaW.PrintMore
attribute [local go_sem] max2_int min2_int max_two min_two max_three min_three max_four min_four   -- for this text's walks alone
set_option linter.unusedVariables false
set_option linter.unusedSimpArgs false
def bobbinetkeep_WordOf.l0 : Nat → List Int → Int → List Int → Int → Option (List Int)
  | 0, _, _, _, _ => none
  | k + 1, x0, x1, x5, x6 => if x6 < (x0.length : Int) then (if x6 < x1 then (if 0 ≤ x6 then ((bobbinetkeep_Picked.f (rd x0 x6) 3).bind fun t207 => (if x5.length < 17592186044416 then (bobbinetkeep_WordOf.l0 k x0 x1 (x5 ++ [t207]) (wrap64 (x6 + 1))) else (none))) else (none)) else (some x5)) else (some x5)
def bobbinetkeep_WordOf.f (k : Nat) (l0 : List Int) (a1 : Int) : Option (List Int) := bobbinetkeep_WordOf.l0 k l0 a1 ([] : List Int) 0
set_option maxHeartbeats 8000000 in
set_option maxRecDepth 100000 in
theorem bobbinetkeep_WordOf.calls (k : Nat) (A0 : Option Addr) (c0 : Nat) (l0 : List Int) (a1 : Int) (r : List Int) (w : World) (hr0 : Kd.C (Kd.int .i64) w A0 l0.length l0) (hc0 : l0.length ≤ c0) (h : bobbinetkeep_WordOf.f k l0 a1 = some r) :
    Calls Try.prog 14 #[.slice A0 l0.length c0, .int .i64 a1] w fun e w' => ∃ v0_ : Value, e = .returned (v0_) ∧ Kd.R (Kd.int .i64) 3 w' w.heap.size (fun _ => True) v0_ r ∧ Below w.heap.size w w' := by
  have HR0 := Aside0.mk hr0
  have HC0 := Aside0.mk hc0
  clear hr0 hc0
  have HB := Aside0.mk (Below.refl w.heap.size w)
  have H : (bobbinetkeep_WordOf.l0 k l0 a1 ([] : List Int) 0) = some r := h
  clear h
  have H' := Aside0.mk H
  clear H
  go_enter Try.func14, Try.ntmps14
  go_wp2
  go_loopg [5, 6] k (fun kq v5 v6 w' => ∃ (x5_1 : List Int) (x6_1 : Int), v6 = .int .i64 x6_1 ∧ Aside0 (bobbinetkeep_WordOf.l0 kq l0 a1 x5_1 x6_1 = some r) ∧ Aside0 (kq ≤ k) ∧ Aside0 (Kd.R (Kd.int .i64) 3 w' w.heap.size (fun _ => True) v5 x5_1) ∧ Aside0 (Below w.heap.size w w'))
  case atStart => exact ⟨(([] : List Int)), (0), (by first | rfl | (simp; done) | (simp [*]; done) | (simp [bne]; done)), H', ⟨Nat.le_refl _⟩, ⟨by first | exact Kd.R_nil _ _ _ _ _ | exact Kd.N_nil _ _ _ _ _ | exact Kd.V_nil _ _ _ _ _ | exact Kd.Q_nil _ _ _ _ _ | exact Kd.S_nil _ _ _ _ _⟩, ⟨by repeat (first | (with_reducible first | exact HB.out | apply below_alloc | apply pw_below_drewN | apply below_drew1) | exact HB.out)⟩⟩
  case round =>
    clear H'
    try clear c1
    try clear p2
    obtain ⟨x5_1, x6_1, rfl, HA, HK1, HO_5, HB⟩ := hrel
    cases gk with
    | zero => exact absurd HA.out (by simp [bobbinetkeep_WordOf.l0])
    | succ k1 =>
      have H := HA.out
      clear HA
      simp only [bobbinetkeep_WordOf.l0] at H
      by_cases c3 : x6_1 < (l0.length : Int)
      · rw [if_pos c3] at H
        have c3b0 : decide (x6_1 < (l0.length : Int)) = true := decide_eq_true c3
        clear c3
        by_cases c4 : x6_1 < a1
        · rw [if_pos c4] at H
          have c4b0 : decide (x6_1 < a1) = true := decide_eq_true c4
          clear c4
          by_cases c5 : 0 ≤ x6_1
          · rw [if_pos c5] at H
            have c5b0 : decide (0 ≤ x6_1) = true := decide_eq_true c5
            clear c5
            replace H := Option.bind_eq_some_iff.mp H
            obtain ⟨t207, A60, H⟩ := H
            replace H : (if x5_1.length < 17592186044416 then (bobbinetkeep_WordOf.l0 k1 l0 a1 (x5_1 ++ [t207]) (wrap64 (x6_1 + 1))) else (none)) = some r := H
            have A6 := Aside0.mk A60
            clear A60
            by_cases c7 : x5_1.length < 17592186044416
            · rw [if_pos c7] at H
              have LMc7 := Aside0.mk c7
              clear c7
              obtain ⟨y208, hy208⟩ : ∃ y_ : List Int, y_ = (x5_1 ++ [t207]) := ⟨_, rfl⟩
              replace H : (bobbinetkeep_WordOf.l0 k1 l0 a1 y208 (wrap64 (x6_1 + 1))) = some r := by first | (rw [hy208]; with_reducible exact H) | (have H2_ := (Option.bind_some _ _).symm.trans H; rw [hy208]; with_reducible exact H2_) | (have H2_ := (Option.bind_some _ _).symm.trans H; with_reducible exact H2_) | with_reducible exact H | (rw [hy208]; exact H) | exact H
              have Ny208 := Aside0.mk hy208
              clear hy208
              have H' := Aside0.mk H
              clear H
              have p206 : 0 ≤ (x6_1 : Int) := of_decide_eq_true (by first | (with_reducible assumption) | assumption)
              have q206 : x6_1 < (l0.length : Int) := of_decide_eq_true (by first | (with_reducible assumption) | assumption)
              obtain ⟨ad206, e206, hx206_0⟩ := Kd.at_int HR0.out x6_1 p206 q206
              cases e206
              replace hx206_0 := (HB.out.cell (World.block_lt_of_cell? w _ hx206_0)).trans hx206_0
              replace p206 := eq_true p206
              replace q206 := eq_true q206
              go_wp2_with (first | ((with_reducible refine gate_callee (f := 10) rfl ?_); refine goesL_ (some 23) rfl rfl Try.func10 (by kernel_rfl) rfl #[.int .i64 (rd l0 x6_1), .int .i64 3] rfl (by (try simp only [List.map_toArray, List.map_cons, List.map_nil]); first | done | rfl | (simp only [List.length_drop, List.length_take]; rfl)) ?_; (with_reducible refine (bobbinetkeep_Picked.calls (rd l0 x6_1) 3 t207 _ A6.out).mono ?_); rintro e w' ⟨rfl, ⟨nd, rfl⟩⟩; refine ⟨_, rfl, ?_⟩) | ((with_reducible refine gate_builtin (b := .append) (xs := #[.tmp 18, .tmp 24]) rfl ?_); at_builtin; refine Kd.R_append (Kd.int .i64) (w0 := w) w.heap.size rfl (.tmp 18) (.tmp 24) 22 3 (.int .i64 0) 8 rfl Try.underlying22 info3 rfl (by decide) (by omega) u5 x5_1 t207 [.int .i64 t207] (fun _ => True) (fun _ => False) rfl rfl ?aP (fun _ hk => hk.elim) ?aF ?aO ?aB ?aS ?aL ?_; (case aP => exact rfl); (case aB => exact (by repeat (first | (with_reducible first | exact HB.out | apply below_alloc | apply pw_below_drewN | apply below_drew1) | exact HB.out))); (case aF => exact (fun _ _ => trivial)); (case aO => exact (by (with_reducible repeat (first | apply Kd.R_alloc | apply Kd.R_drewN | apply Kd.R_drew)); exact HO_5.out)); (case aS => exact (below_size (by repeat (first | (with_reducible first | exact HB.out | apply below_alloc | apply pw_below_drewN | apply below_drew1) | exact HB.out)))); (case aL => have := LMc7.out; omega); intro v209 w8 ho hb hg hat; rw [← Ny208.out] at ho; have n0_ := Aside0.mk (hb); have n1_ := Aside0.mk (ho); clear HB; clear HO_5; have HB := n0_; have HO210 := n1_; clear n0_ n1_; clear ho hb hg hat))
              go_roundg k1
              case measure => have := HK1.out; omega
              case rel => exact ⟨(y208), (wrap64 (x6_1 + 1)), (by first | rfl | (simp; done) | (simp [*]; done) | (simp [bne]; done)), H', ⟨by have := HK1.out; omega⟩, ⟨by (with_reducible repeat (first | apply Kd.R_alloc | apply Kd.R_drewN | apply Kd.R_drew)); exact HO210.out⟩, ⟨by repeat (first | (with_reducible first | exact HB.out | apply below_alloc | apply pw_below_drewN | apply below_drew1) | exact HB.out)⟩⟩
            · rw [if_neg c7] at H
              exact absurd H (by simp)
          · rw [if_neg c5] at H
            exact absurd H (by simp)
        · rw [if_neg c4] at H
          have c4b0 : decide (x6_1 < a1) = false := decide_eq_false c4
          clear c4
          obtain rfl := Option.some.inj H
          go_wp2
          go_ret
          exact ⟨_, by first | rfl | (simp [errW_none, errW_some] <;> rfl) | (simp [*, errW_none, errW_some] <;> rfl), by (with_reducible repeat (first | apply Kd.R_alloc | apply Kd.R_drewN | apply Kd.R_drew)); exact HO_5.out, by repeat (first | (with_reducible first | exact HB.out | apply below_alloc | apply pw_below_drewN | apply below_drew1) | exact HB.out)⟩
      · rw [if_neg c3] at H
        have c3b0 : decide (x6_1 < (l0.length : Int)) = false := decide_eq_false c3
        clear c3
        obtain rfl := Option.some.inj H
        go_wp2
        go_ret
        exact ⟨_, by first | rfl | (simp [errW_none, errW_some] <;> rfl) | (simp [*, errW_none, errW_some] <;> rfl), by (with_reducible repeat (first | apply Kd.R_alloc | apply Kd.R_drewN | apply Kd.R_drew)); exact HO_5.out, by repeat (first | (with_reducible first | exact HB.out | apply below_alloc | apply pw_below_drewN | apply below_drew1) | exact HB.out)⟩
end Go.Proofs.Ytjmhihadgpdiaaa.X
end
