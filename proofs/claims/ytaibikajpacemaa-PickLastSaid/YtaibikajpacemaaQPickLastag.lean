/- Parts of the proof of PickLast that are needed, put together by pack.py. -/
import Derived.Test.YtaibikajpacemaaQPickLastaf
section
namespace Go.Proofs.Ytaibikajpacemaa.X
open Go.RowKit Go.Proofs.YtaibikajpacemaaW.PrintWords Go.Proofs.YtaibikajpacemaaW.PrintLast Go.Proofs.YtaibikajpacemaaW.PrintMore
attribute [local go_sem] max2_int min2_int max_two min_two max_three min_three max_four min_four   -- for this text's walks alone
set_option linter.unusedVariables false
set_option linter.unusedSimpArgs false
def bobbinetkeep_Picked.f (a0 : Int) (a1 : Int) : Option (Int) := if a1 = 0 then (none) else (if (Int.tmod a0 a1) < 0 then (some (wrap64 ((Int.tmod a0 a1) + a1))) else (some (Int.tmod a0 a1)))
set_option maxHeartbeats 8000000 in
set_option maxRecDepth 100000 in
theorem bobbinetkeep_Picked.calls (a0 : Int) (a1 : Int) (r : Int) (w : World) (h : bobbinetkeep_Picked.f a0 a1 = some r) :
    Calls Try.prog 22 #[.int .i64 a0, .int .i64 a1] w fun e w' => e = .returned (.int .i64 r) ∧ Drawn0 w w' := by
  have H : (if a1 = 0 then (none) else (if (Int.tmod a0 a1) < 0 then (some (wrap64 ((Int.tmod a0 a1) + a1))) else (some (Int.tmod a0 a1)))) = some r := h
  clear h
  by_cases c3 : a1 = 0
  · rw [if_pos c3] at H
    exact absurd H (by simp)
  · rw [if_neg c3] at H
    have c3b0 : (a1 == 0) = false := beq_eq_false_iff_ne.mpr c3
    have c3b1 : (a1 != 0) = true := bne_iff_ne.mpr c3
    by_cases c4 : (Int.tmod a0 a1) < 0
    · rw [if_pos c4] at H
      have c4b0 : decide ((Int.tmod a0 a1) < 0) = true := decide_eq_true c4
      clear c4
      obtain rfl := Option.some.inj H
      go_enter Try.func22, Try.ntmps22
      go_wp2
      go_ret
      exact ⟨by first | rfl | (simp; done) | (simp [*]; done), by repeat (first | exact Drawn0.refl _ | apply Drawn0.step)⟩
    · rw [if_neg c4] at H
      have c4b0 : decide ((Int.tmod a0 a1) < 0) = false := decide_eq_false c4
      clear c4
      obtain rfl := Option.some.inj H
      go_enter Try.func22, Try.ntmps22
      go_wp2
      go_ret
      exact ⟨by first | rfl | (simp; done) | (simp [*]; done), by repeat (first | exact Drawn0.refl _ | apply Drawn0.step)⟩
end Go.Proofs.Ytaibikajpacemaa.X
end
section
namespace Go.Proofs.Ytaibikajpacemaa.X
open Go.RowKit Go.Proofs.YtaibikajpacemaaW.PrintWords Go.Proofs.YtaibikajpacemaaW.PrintLast Go.Proofs.YtaibikajpacemaaW.PrintMore
attribute [local go_sem] max2_int min2_int max_two min_two max_three min_three max_four min_four   -- for this text's walks alone
set_option linter.unusedVariables false
set_option linter.unusedSimpArgs false
mutual
def bobbinetkeep_Nodes.l0 : Nat → List Int → Int → Int → List (S28) → Option ((List (S28)) × List Int)
 | 0, _, _, _, _ => none
 | k + 1, x0, x1, x2, x8 => if (x0.length : Int) > 0 then (bobbinetkeep_Nodes.j1 k x0 x1 x2 x8 (decide ((x8.length : Int) < x2))) else (bobbinetkeep_Nodes.j1 k x0 x1 x2 x8 false)
def bobbinetkeep_Nodes.j1 : Nat → List Int → Int → Int → List (S28) → Bool → Option ((List (S28)) × List Int)
 | 0, _, _, _, _, _ => none
 | k + 1, x0, x1, x2, x8, x21 => if x21 = true then (if 0 < (x0.length : Int) then (if 1 ≤ (x0.length : Int) then ((some (x0.drop 1 : List Int)).bind fun y102 => ((bobbinetkeep_Picked.f (rd x0 0) 6).bind fun t107 => (if t107 = 0 then (some (x8, y102)) else (if t107 = 1 then (if (x8.length : Int) > 0 then (if 0 ≤ (wrap64 ((x8.length : Int) - 1)) then (if (wrap64 ((x8.length : Int) - 1)) < (x8.length : Int) then (if ((rd_T28 x8 (wrap64 ((x8.length : Int) - 1))).f0).toList = ([] : List UInt8) then (bobbinetkeep_Nodes.l0 k y102 x1 x2 x8) else ((some (([(⟨#[120]⟩ : ByteArray), (⟨#[97, 60, 98]⟩ : ByteArray), (⟨#[38, 97, 109, 112, 59]⟩ : ByteArray), (⟨#[121, 32, 122]⟩ : ByteArray), (⟨#[32]⟩ : ByteArray), (⟨#[60, 112, 62]⟩ : ByteArray)] : List ByteArray) : List ByteArray)).bind fun y109 => ((bobbinetkeep_Picked.f (wrap64 (Int.tdiv (rd x0 0) 6)) 6).bind fun t112 => (if 0 ≤ t112 then (if t112 < (y109.length : Int) then (if x8.length < 1759218604441 then (bobbinetkeep_Nodes.l0 k y102 x1 x2 (x8 ++ [(⟨(⟨#[]⟩ : ByteArray), ([] : List (S68)), rdOf ByteArray.empty y109 t112, ([] : List (S28))⟩ : S28)])) else (none)) else (none)) else (none))))) else (none)) else (none)) else ((some (([(⟨#[120]⟩ : ByteArray), (⟨#[97, 60, 98]⟩ : ByteArray), (⟨#[38, 97, 109, 112, 59]⟩ : ByteArray), (⟨#[121, 32, 122]⟩ : ByteArray), (⟨#[32]⟩ : ByteArray), (⟨#[60, 112, 62]⟩ : ByteArray)] : List ByteArray) : List ByteArray)).bind fun y117 => ((bobbinetkeep_Picked.f (wrap64 (Int.tdiv (rd x0 0) 6)) 6).bind fun t120 => (if 0 ≤ t120 then (if t120 < (y117.length : Int) then (if x8.length < 1759218604441 then (bobbinetkeep_Nodes.l0 k y102 x1 x2 (x8 ++ [(⟨(⟨#[]⟩ : ByteArray), ([] : List (S68)), rdOf ByteArray.empty y117 t120, ([] : List (S28))⟩ : S28)])) else (none)) else (none)) else (none))))) else (if t107 = 2 then ((some (([(⟨#[98, 114]⟩ : ByteArray), (⟨#[105, 109, 103]⟩ : ByteArray)] : List ByteArray) : List ByteArray)).bind fun y125 => ((bobbinetkeep_Picked.f (wrap64 (Int.tdiv (rd x0 0) 6)) 2).bind fun t128 => (if 0 ≤ t128 then (if t128 < (y125.length : Int) then (if x8.length < 1759218604441 then (bobbinetkeep_Nodes.l0 k y102 x1 x2 (x8 ++ [(⟨rdOf ByteArray.empty y125 t128, ([] : List (S68)), (⟨#[]⟩ : ByteArray), ([] : List (S28))⟩ : S28)])) else (none)) else (none)) else (none)))) else (if x1 > 1 then ((some (([(⟨#[100, 105, 118]⟩ : ByteArray), (⟨#[98]⟩ : ByteArray), (⟨#[101, 109]⟩ : ByteArray), (⟨#[112]⟩ : ByteArray), (⟨#[97]⟩ : ByteArray), (⟨#[117, 108]⟩ : ByteArray)] : List ByteArray) : List ByteArray)).bind fun y133 => ((bobbinetkeep_Picked.f (wrap64 (Int.tdiv (rd x0 0) 6)) 6).bind fun t136 => (if 0 ≤ t136 then (if t136 < (y133.length : Int) then ((bobbinetkeep_Picked.f (wrap64 (Int.tdiv (rd x0 0) 36)) 3).bind fun t139 => (if t139 = 0 then ((some (([(⟨#[]⟩ : ByteArray), (⟨#[120]⟩ : ByteArray), (⟨#[97, 34, 98, 38]⟩ : ByteArray), (⟨#[60]⟩ : ByteArray), (⟨#[104, 116, 116, 112, 58, 47, 47, 121]⟩ : ByteArray)] : List ByteArray) : List ByteArray)).bind fun y140 => ((bobbinetkeep_Picked.f (wrap64 (Int.tdiv (rd x0 0) 100)) 5).bind fun t143 => (if 0 ≤ t143 then (if t143 < (y140.length : Int) then ((bobbinetkeep_Nodes.f k y102 (wrap64 (x1 - 1)) 4).bind fun bt148 => (if x8.length < 1759218604441 then (bobbinetkeep_Nodes.l0 k bt148.2 x1 x2 (x8 ++ [(⟨rdOf ByteArray.empty y133 t136, (([(⟨(⟨#[104, 114, 101, 102]⟩ : ByteArray), rdOf ByteArray.empty y140 t143⟩ : S68)] : List (S68))), (⟨#[]⟩ : ByteArray), bt148.1⟩ : S28)])) else (none))) else (none)) else (none)))) else ((bobbinetkeep_Nodes.f k y102 (wrap64 (x1 - 1)) 4).bind fun bt157 => (if x8.length < 1759218604441 then (bobbinetkeep_Nodes.l0 k bt157.2 x1 x2 (x8 ++ [(⟨rdOf ByteArray.empty y133 t136, ([] : List (S68)), (⟨#[]⟩ : ByteArray), bt157.1⟩ : S28)])) else (none))))) else (none)) else (none)))) else (bobbinetkeep_Nodes.l0 k y102 x1 x2 x8))))))) else (none)) else (none)) else (some (x8, x0))
def bobbinetkeep_Nodes.f : Nat → List Int → Int → Int → Option ((List (S28)) × List Int)
 | 0, _, _, _ => none
 | k + 1, l0, a1, a2 => bobbinetkeep_Nodes.l0 k l0 a1 a2 ([] : List (S28))
end
set_option maxHeartbeats 8000000 in
set_option maxRecDepth 100000 in
theorem bobbinetkeep_Nodes.calls (k : Nat) : ∀ (P0_ : Nat → Prop) (A0 : Option Addr) (c0 : Nat) (l0 : List Int) (a1 : Int) (a2 : Int) (r1 : List (S28)) (r2 : List Int) (w : World) (hs0 : Kd.V (Kd.int .i64) 3 w w.heap.size (fun k_ => P0_ k_) (.slice A0 l0.length c0) l0) (h : bobbinetkeep_Nodes.f k l0 a1 a2 = some (r1, r2)),
  Calls Try.prog 12 #[.slice A0 l0.length c0, .int .i64 a1, .int .i64 a2] w fun e w' => ∃ v0_ v1_ : Value, e = .returned (.tuple #[v0_, v1_]) ∧ Kd.R k28 28 w' w.heap.size (fun k_ => (w.heap.size ≤ k_)) v0_ r1 ∧ Kd.V (Kd.int .i64) 3 w' w.heap.size (fun k_ => (P0_ k_ ∨ w.heap.size ≤ k_) ∧ some k_ ≠ (v0_ : Value).ownBlock) v1_ r2 ∧ Below w.heap.size w w' := by
 induction k using Nat.strongRecOn with
 | _ k ih =>
 intro P0_ A0 c0 l0 a1 a2 r1 r2 w hs0 h
 cases k with
 | zero => exact absurd h (by simp [bobbinetkeep_Nodes.f])
 | succ k =>
 simp only [bobbinetkeep_Nodes.f] at h
 have hu28 := Try.underlying28
 have hu68 := Try.underlying68
 have HO0 := Aside0.mk (show Kd.V (Kd.int .i64) 3 w w.heap.size (fun k_ => (P0_ k_ ∨ w.heap.size ≤ k_)) (.slice A0 l0.length c0) l0 from Kd.V_mono hs0 (fun k_ hk => .inl hk))
 have HB := Aside0.mk (Below.refl w.heap.size w)
 have H : (bobbinetkeep_Nodes.l0 k l0 a1 a2 ([] : List (S28))) = some (r1, r2) := h
 clear h
 have H' := Aside0.mk H
 clear H
 go_enter Try.func12, Try.ntmps12
 go_wp2
 go_loopg [0, 8] k (fun kq v0 v8 w' => ∃ (x0_1 : List Int) (x8_1 : List (S28)), Aside0 (bobbinetkeep_Nodes.l0 kq x0_1 a1 a2 x8_1 = some (r1, r2)) ∧ Aside0 (kq ≤ k) ∧ Aside0 (Kd.V (Kd.int .i64) 3 w' w.heap.size (fun k_ => (P0_ k_ ∨ w.heap.size ≤ k_) ∧ some k_ ≠ (v8 : Value).ownBlock) v0 x0_1) ∧ Aside0 (Kd.R k28 28 w' w.heap.size (fun k_ => (w.heap.size ≤ k_)) v8 x8_1) ∧ Aside0 (Below w.heap.size w w'))
 case atStart => exact ⟨(l0), (([] : List (S28))), H', ⟨Nat.le_refl _⟩, ⟨by (with_reducible repeat (first | apply Kd.V_alloc | apply Kd.V_drewN | apply Kd.V_drew)); exact Kd.V_mono HO0.out (fun _ hk => (by first | exact ⟨hk, (by simp [Value.ownBlock])⟩ | grind))⟩, ⟨by first | exact Kd.R_nil _ _ _ _ _ | exact Kd.N_nil _ _ _ _ _ | exact Kd.V_nil _ _ _ _ _ | exact Kd.Q_nil _ _ _ _ _ | exact Kd.S_nil _ _ _ _ _⟩, ⟨by repeat (first | (with_reducible first | exact HB.out | apply below_alloc | apply pw_below_drewN | apply below_drew1) | exact HB.out)⟩⟩
 case round =>
  clear H'
  try clear c1
  try clear p2
  obtain ⟨x0_1, x8_1, HA, HK1, HO_0, HO_8, HB⟩ := hrel
  cases gk with
  | zero => exact absurd HA.out (by simp [bobbinetkeep_Nodes.l0])
  | succ k1 =>
   have H := HA.out
   clear HA
   simp only [bobbinetkeep_Nodes.l0] at H
   have HC4 := Aside0.mk H
   clear H
   go_upto_region 2 with (fail)
   go_cut [21] (fun v21 wc => ∃ (kq : Nat) (x21_3 : Bool), v21 = .bool x21_3 ∧ Aside0 (bobbinetkeep_Nodes.j1 kq x0_1 a1 a2 x8_1 x21_3 = some (r1, r2)) ∧ Aside0 (kq ≤ k1) ∧ Aside0 (Kd.V (Kd.int .i64) 3 wc w.heap.size (fun k_ => (P0_ k_ ∨ w.heap.size ≤ k_) ∧ some k_ ≠ (u8 : Value).ownBlock) u0 x0_1) ∧ Aside0 (Kd.R k28 28 wc w.heap.size (fun k_ => (w.heap.size ≤ k_)) u8 x8_1) ∧ Aside0 (Below w.heap.size w wc))
   case first =>
    have H := HC4.out
    clear HC4
    by_cases c5 : (x0_1.length : Int) > 0
    ·
     rw [if_pos c5] at H
     have c5b0 : decide (0 < (x0_1.length : Int)) = true := decide_eq_true c5
     have c5b1 : decide (0 < x0_1.length) = true := decide_eq_true (by omega)
     clear c5
     (first | rw [c5b0] | (simp only [i64_w, i32_w]; rw [c5b0]) | rw [c5b1] | skip)
     have H' := Aside0.mk H
     clear H
     obtain ⟨Ao6, co6, eo6⟩ := Kd.V_slice HO_0.out
     subst eo6
     obtain ⟨Ao7, co7, eo7⟩ := Kd.R_slice HO_8.out
     subst eo7
     go_wp2
     go_meet
     case rel => exact ⟨_, (decide ((x8_1.length : Int) < a2)), (by first | rfl | (simp; done) | (simp [*]; done) | (simp [bne]; done)), H', ⟨by have := HK1.out; first | omega | exact Nat.le_refl _⟩, ⟨by (with_reducible repeat (first | apply Kd.V_alloc | apply Kd.V_drewN | apply Kd.V_drew)); exact HO_0.out⟩, ⟨by (with_reducible repeat (first | apply Kd.R_alloc | apply Kd.R_drewN | apply Kd.R_drew)); exact HO_8.out⟩, ⟨by repeat (first | (with_reducible first | exact HB.out | apply below_alloc | apply pw_below_drewN | apply below_drew1) | exact HB.out)⟩⟩
    ·
     rw [if_neg c5] at H
     have c5b0 : decide (0 < (x0_1.length : Int)) = false := decide_eq_false c5
     have c5b1 : decide (0 < x0_1.length) = false := decide_eq_false (by omega)
     clear c5
     (first | rw [c5b0] | (simp only [i64_w, i32_w]; rw [c5b0]) | rw [c5b1] | skip)
     have H' := Aside0.mk H
     clear H
     obtain ⟨Ao8, co8, eo8⟩ := Kd.V_slice HO_0.out
     subst eo8
     go_wp2
     go_meet
     case rel => exact ⟨_, (false), (by first | rfl | (simp; done) | (simp [*]; done) | (simp [bne]; done)), H', ⟨by have := HK1.out; first | omega | exact Nat.le_refl _⟩, ⟨by (with_reducible repeat (first | apply Kd.V_alloc | apply Kd.V_drewN | apply Kd.V_drew)); exact HO_0.out⟩, ⟨by (with_reducible repeat (first | apply Kd.R_alloc | apply Kd.R_drewN | apply Kd.R_drew)); exact HO_8.out⟩, ⟨by repeat (first | (with_reducible first | exact HB.out | apply below_alloc | apply pw_below_drewN | apply below_drew1) | exact HB.out)⟩⟩
   case rest =>
    clear HC4
    try clear c1
    try clear p2
    try clear c5
    try clear c5b0
    try clear c5b1
    try clear p2
    obtain ⟨kq, x21_3, rfl, HA, HJ3, HO_0, HO_8, HB⟩ := hcut
    cases kq with
    | zero => exact absurd HA.out (by simp [bobbinetkeep_Nodes.j1])
    | succ kj3 =>
     have H := HA.out
     clear HA
     simp only [bobbinetkeep_Nodes.j1] at H
     by_cases c9 : x21_3 = true
     ·
      subst c9
      have H1 : (if 0 < (x0_1.length : Int) then (if 1 ≤ (x0_1.length : Int) then ((some (x0_1.drop 1 : List Int)).bind fun y102 => ((bobbinetkeep_Picked.f (rd x0_1 0) 6).bind fun t107 => (if t107 = 0 then (some (x8_1, y102)) else (if t107 = 1 then (if (x8_1.length : Int) > 0 then (if 0 ≤ (wrap64 ((x8_1.length : Int) - 1)) then (if (wrap64 ((x8_1.length : Int) - 1)) < (x8_1.length : Int) then (if ((rd_T28 x8_1 (wrap64 ((x8_1.length : Int) - 1))).f0).toList = ([] : List UInt8) then (bobbinetkeep_Nodes.l0 kj3 y102 a1 a2 x8_1) else ((some (([(⟨#[120]⟩ : ByteArray), (⟨#[97, 60, 98]⟩ : ByteArray), (⟨#[38, 97, 109, 112, 59]⟩ : ByteArray), (⟨#[121, 32, 122]⟩ : ByteArray), (⟨#[32]⟩ : ByteArray), (⟨#[60, 112, 62]⟩ : ByteArray)] : List ByteArray) : List ByteArray)).bind fun y109 => ((bobbinetkeep_Picked.f (wrap64 (Int.tdiv (rd x0_1 0) 6)) 6).bind fun t112 => (if 0 ≤ t112 then (if t112 < (y109.length : Int) then (if x8_1.length < 1759218604441 then (bobbinetkeep_Nodes.l0 kj3 y102 a1 a2 (x8_1 ++ [(⟨(⟨#[]⟩ : ByteArray), ([] : List (S68)), rdOf ByteArray.empty y109 t112, ([] : List (S28))⟩ : S28)])) else (none)) else (none)) else (none))))) else (none)) else (none)) else ((some (([(⟨#[120]⟩ : ByteArray), (⟨#[97, 60, 98]⟩ : ByteArray), (⟨#[38, 97, 109, 112, 59]⟩ : ByteArray), (⟨#[121, 32, 122]⟩ : ByteArray), (⟨#[32]⟩ : ByteArray), (⟨#[60, 112, 62]⟩ : ByteArray)] : List ByteArray) : List ByteArray)).bind fun y117 => ((bobbinetkeep_Picked.f (wrap64 (Int.tdiv (rd x0_1 0) 6)) 6).bind fun t120 => (if 0 ≤ t120 then (if t120 < (y117.length : Int) then (if x8_1.length < 1759218604441 then (bobbinetkeep_Nodes.l0 kj3 y102 a1 a2 (x8_1 ++ [(⟨(⟨#[]⟩ : ByteArray), ([] : List (S68)), rdOf ByteArray.empty y117 t120, ([] : List (S28))⟩ : S28)])) else (none)) else (none)) else (none))))) else (if t107 = 2 then ((some (([(⟨#[98, 114]⟩ : ByteArray), (⟨#[105, 109, 103]⟩ : ByteArray)] : List ByteArray) : List ByteArray)).bind fun y125 => ((bobbinetkeep_Picked.f (wrap64 (Int.tdiv (rd x0_1 0) 6)) 2).bind fun t128 => (if 0 ≤ t128 then (if t128 < (y125.length : Int) then (if x8_1.length < 1759218604441 then (bobbinetkeep_Nodes.l0 kj3 y102 a1 a2 (x8_1 ++ [(⟨rdOf ByteArray.empty y125 t128, ([] : List (S68)), (⟨#[]⟩ : ByteArray), ([] : List (S28))⟩ : S28)])) else (none)) else (none)) else (none)))) else (if a1 > 1 then ((some (([(⟨#[100, 105, 118]⟩ : ByteArray), (⟨#[98]⟩ : ByteArray), (⟨#[101, 109]⟩ : ByteArray), (⟨#[112]⟩ : ByteArray), (⟨#[97]⟩ : ByteArray), (⟨#[117, 108]⟩ : ByteArray)] : List ByteArray) : List ByteArray)).bind fun y133 => ((bobbinetkeep_Picked.f (wrap64 (Int.tdiv (rd x0_1 0) 6)) 6).bind fun t136 => (if 0 ≤ t136 then (if t136 < (y133.length : Int) then ((bobbinetkeep_Picked.f (wrap64 (Int.tdiv (rd x0_1 0) 36)) 3).bind fun t139 => (if t139 = 0 then ((some (([(⟨#[]⟩ : ByteArray), (⟨#[120]⟩ : ByteArray), (⟨#[97, 34, 98, 38]⟩ : ByteArray), (⟨#[60]⟩ : ByteArray), (⟨#[104, 116, 116, 112, 58, 47, 47, 121]⟩ : ByteArray)] : List ByteArray) : List ByteArray)).bind fun y140 => ((bobbinetkeep_Picked.f (wrap64 (Int.tdiv (rd x0_1 0) 100)) 5).bind fun t143 => (if 0 ≤ t143 then (if t143 < (y140.length : Int) then ((bobbinetkeep_Nodes.f kj3 y102 (wrap64 (a1 - 1)) 4).bind fun bt148 => (if x8_1.length < 1759218604441 then (bobbinetkeep_Nodes.l0 kj3 bt148.2 a1 a2 (x8_1 ++ [(⟨rdOf ByteArray.empty y133 t136, (([(⟨(⟨#[104, 114, 101, 102]⟩ : ByteArray), rdOf ByteArray.empty y140 t143⟩ : S68)] : List (S68))), (⟨#[]⟩ : ByteArray), bt148.1⟩ : S28)])) else (none))) else (none)) else (none)))) else ((bobbinetkeep_Nodes.f kj3 y102 (wrap64 (a1 - 1)) 4).bind fun bt157 => (if x8_1.length < 1759218604441 then (bobbinetkeep_Nodes.l0 kj3 bt157.2 a1 a2 (x8_1 ++ [(⟨rdOf ByteArray.empty y133 t136, ([] : List (S68)), (⟨#[]⟩ : ByteArray), bt157.1⟩ : S28)])) else (none))))) else (none)) else (none)))) else (bobbinetkeep_Nodes.l0 kj3 y102 a1 a2 x8_1))))))) else (none)) else (none)) = some (r1, r2) := by rw [if_pos rfl] at H; exact H
      clear H
      have H := H1
      clear H1
      by_cases c10 : 0 < (x0_1.length : Int)
      ·
       rw [if_pos c10] at H
       have c10b0 : decide (0 < (x0_1.length : Int)) = true := decide_eq_true c10
       have c10b1 : decide (0 < x0_1.length) = true := decide_eq_true (by omega)
       clear c10
       by_cases c11 : 1 ≤ (x0_1.length : Int)
       ·
        rw [if_pos c11] at H
        have c11b0 := eq_true c11
        have c11b1 : decide (1 ≤ (x0_1.length : Int)) = true := decide_eq_true c11
        clear c11
        obtain ⟨y102, hy102⟩ : ∃ y_ : List Int, y_ = (x0_1.drop 1) := ⟨_, rfl⟩
        replace H : ((bobbinetkeep_Picked.f (rd x0_1 0) 6).bind fun t107 => (if t107 = 0 then (some (x8_1, y102)) else (if t107 = 1 then (if (x8_1.length : Int) > 0 then (if 0 ≤ (wrap64 ((x8_1.length : Int) - 1)) then (if (wrap64 ((x8_1.length : Int) - 1)) < (x8_1.length : Int) then (if ((rd_T28 x8_1 (wrap64 ((x8_1.length : Int) - 1))).f0).toList = ([] : List UInt8) then (bobbinetkeep_Nodes.l0 kj3 y102 a1 a2 x8_1) else ((some (([(⟨#[120]⟩ : ByteArray), (⟨#[97, 60, 98]⟩ : ByteArray), (⟨#[38, 97, 109, 112, 59]⟩ : ByteArray), (⟨#[121, 32, 122]⟩ : ByteArray), (⟨#[32]⟩ : ByteArray), (⟨#[60, 112, 62]⟩ : ByteArray)] : List ByteArray) : List ByteArray)).bind fun y109 => ((bobbinetkeep_Picked.f (wrap64 (Int.tdiv (rd x0_1 0) 6)) 6).bind fun t112 => (if 0 ≤ t112 then (if t112 < (y109.length : Int) then (if x8_1.length < 1759218604441 then (bobbinetkeep_Nodes.l0 kj3 y102 a1 a2 (x8_1 ++ [(⟨(⟨#[]⟩ : ByteArray), ([] : List (S68)), rdOf ByteArray.empty y109 t112, ([] : List (S28))⟩ : S28)])) else (none)) else (none)) else (none))))) else (none)) else (none)) else ((some (([(⟨#[120]⟩ : ByteArray), (⟨#[97, 60, 98]⟩ : ByteArray), (⟨#[38, 97, 109, 112, 59]⟩ : ByteArray), (⟨#[121, 32, 122]⟩ : ByteArray), (⟨#[32]⟩ : ByteArray), (⟨#[60, 112, 62]⟩ : ByteArray)] : List ByteArray) : List ByteArray)).bind fun y117 => ((bobbinetkeep_Picked.f (wrap64 (Int.tdiv (rd x0_1 0) 6)) 6).bind fun t120 => (if 0 ≤ t120 then (if t120 < (y117.length : Int) then (if x8_1.length < 1759218604441 then (bobbinetkeep_Nodes.l0 kj3 y102 a1 a2 (x8_1 ++ [(⟨(⟨#[]⟩ : ByteArray), ([] : List (S68)), rdOf ByteArray.empty y117 t120, ([] : List (S28))⟩ : S28)])) else (none)) else (none)) else (none))))) else (if t107 = 2 then ((some (([(⟨#[98, 114]⟩ : ByteArray), (⟨#[105, 109, 103]⟩ : ByteArray)] : List ByteArray) : List ByteArray)).bind fun y125 => ((bobbinetkeep_Picked.f (wrap64 (Int.tdiv (rd x0_1 0) 6)) 2).bind fun t128 => (if 0 ≤ t128 then (if t128 < (y125.length : Int) then (if x8_1.length < 1759218604441 then (bobbinetkeep_Nodes.l0 kj3 y102 a1 a2 (x8_1 ++ [(⟨rdOf ByteArray.empty y125 t128, ([] : List (S68)), (⟨#[]⟩ : ByteArray), ([] : List (S28))⟩ : S28)])) else (none)) else (none)) else (none)))) else (if a1 > 1 then ((some (([(⟨#[100, 105, 118]⟩ : ByteArray), (⟨#[98]⟩ : ByteArray), (⟨#[101, 109]⟩ : ByteArray), (⟨#[112]⟩ : ByteArray), (⟨#[97]⟩ : ByteArray), (⟨#[117, 108]⟩ : ByteArray)] : List ByteArray) : List ByteArray)).bind fun y133 => ((bobbinetkeep_Picked.f (wrap64 (Int.tdiv (rd x0_1 0) 6)) 6).bind fun t136 => (if 0 ≤ t136 then (if t136 < (y133.length : Int) then ((bobbinetkeep_Picked.f (wrap64 (Int.tdiv (rd x0_1 0) 36)) 3).bind fun t139 => (if t139 = 0 then ((some (([(⟨#[]⟩ : ByteArray), (⟨#[120]⟩ : ByteArray), (⟨#[97, 34, 98, 38]⟩ : ByteArray), (⟨#[60]⟩ : ByteArray), (⟨#[104, 116, 116, 112, 58, 47, 47, 121]⟩ : ByteArray)] : List ByteArray) : List ByteArray)).bind fun y140 => ((bobbinetkeep_Picked.f (wrap64 (Int.tdiv (rd x0_1 0) 100)) 5).bind fun t143 => (if 0 ≤ t143 then (if t143 < (y140.length : Int) then ((bobbinetkeep_Nodes.f kj3 y102 (wrap64 (a1 - 1)) 4).bind fun bt148 => (if x8_1.length < 1759218604441 then (bobbinetkeep_Nodes.l0 kj3 bt148.2 a1 a2 (x8_1 ++ [(⟨rdOf ByteArray.empty y133 t136, (([(⟨(⟨#[104, 114, 101, 102]⟩ : ByteArray), rdOf ByteArray.empty y140 t143⟩ : S68)] : List (S68))), (⟨#[]⟩ : ByteArray), bt148.1⟩ : S28)])) else (none))) else (none)) else (none)))) else ((bobbinetkeep_Nodes.f kj3 y102 (wrap64 (a1 - 1)) 4).bind fun bt157 => (if x8_1.length < 1759218604441 then (bobbinetkeep_Nodes.l0 kj3 bt157.2 a1 a2 (x8_1 ++ [(⟨rdOf ByteArray.empty y133 t136, ([] : List (S68)), (⟨#[]⟩ : ByteArray), bt157.1⟩ : S28)])) else (none))))) else (none)) else (none)))) else (bobbinetkeep_Nodes.l0 kj3 y102 a1 a2 x8_1)))))) = some (r1, r2) := by first | (rw [hy102]; with_reducible exact H) | (have H2_ := (Option.bind_some _ _).symm.trans H; rw [hy102]; with_reducible exact H2_) | (have H2_ := (Option.bind_some _ _).symm.trans H; with_reducible exact H2_) | with_reducible exact H | (rw [hy102]; exact H) | exact H
        have Ny102 := Aside0.mk hy102
        clear hy102
        replace H := Option.bind_eq_some_iff.mp H
        obtain ⟨t107, A120, H⟩ := H
        replace H : (if t107 = 0 then (some (x8_1, y102)) else (if t107 = 1 then (if (x8_1.length : Int) > 0 then (if 0 ≤ (wrap64 ((x8_1.length : Int) - 1)) then (if (wrap64 ((x8_1.length : Int) - 1)) < (x8_1.length : Int) then (if ((rd_T28 x8_1 (wrap64 ((x8_1.length : Int) - 1))).f0).toList = ([] : List UInt8) then (bobbinetkeep_Nodes.l0 kj3 y102 a1 a2 x8_1) else ((some (([(⟨#[120]⟩ : ByteArray), (⟨#[97, 60, 98]⟩ : ByteArray), (⟨#[38, 97, 109, 112, 59]⟩ : ByteArray), (⟨#[121, 32, 122]⟩ : ByteArray), (⟨#[32]⟩ : ByteArray), (⟨#[60, 112, 62]⟩ : ByteArray)] : List ByteArray) : List ByteArray)).bind fun y109 => ((bobbinetkeep_Picked.f (wrap64 (Int.tdiv (rd x0_1 0) 6)) 6).bind fun t112 => (if 0 ≤ t112 then (if t112 < (y109.length : Int) then (if x8_1.length < 1759218604441 then (bobbinetkeep_Nodes.l0 kj3 y102 a1 a2 (x8_1 ++ [(⟨(⟨#[]⟩ : ByteArray), ([] : List (S68)), rdOf ByteArray.empty y109 t112, ([] : List (S28))⟩ : S28)])) else (none)) else (none)) else (none))))) else (none)) else (none)) else ((some (([(⟨#[120]⟩ : ByteArray), (⟨#[97, 60, 98]⟩ : ByteArray), (⟨#[38, 97, 109, 112, 59]⟩ : ByteArray), (⟨#[121, 32, 122]⟩ : ByteArray), (⟨#[32]⟩ : ByteArray), (⟨#[60, 112, 62]⟩ : ByteArray)] : List ByteArray) : List ByteArray)).bind fun y117 => ((bobbinetkeep_Picked.f (wrap64 (Int.tdiv (rd x0_1 0) 6)) 6).bind fun t120 => (if 0 ≤ t120 then (if t120 < (y117.length : Int) then (if x8_1.length < 1759218604441 then (bobbinetkeep_Nodes.l0 kj3 y102 a1 a2 (x8_1 ++ [(⟨(⟨#[]⟩ : ByteArray), ([] : List (S68)), rdOf ByteArray.empty y117 t120, ([] : List (S28))⟩ : S28)])) else (none)) else (none)) else (none))))) else (if t107 = 2 then ((some (([(⟨#[98, 114]⟩ : ByteArray), (⟨#[105, 109, 103]⟩ : ByteArray)] : List ByteArray) : List ByteArray)).bind fun y125 => ((bobbinetkeep_Picked.f (wrap64 (Int.tdiv (rd x0_1 0) 6)) 2).bind fun t128 => (if 0 ≤ t128 then (if t128 < (y125.length : Int) then (if x8_1.length < 1759218604441 then (bobbinetkeep_Nodes.l0 kj3 y102 a1 a2 (x8_1 ++ [(⟨rdOf ByteArray.empty y125 t128, ([] : List (S68)), (⟨#[]⟩ : ByteArray), ([] : List (S28))⟩ : S28)])) else (none)) else (none)) else (none)))) else (if a1 > 1 then ((some (([(⟨#[100, 105, 118]⟩ : ByteArray), (⟨#[98]⟩ : ByteArray), (⟨#[101, 109]⟩ : ByteArray), (⟨#[112]⟩ : ByteArray), (⟨#[97]⟩ : ByteArray), (⟨#[117, 108]⟩ : ByteArray)] : List ByteArray) : List ByteArray)).bind fun y133 => ((bobbinetkeep_Picked.f (wrap64 (Int.tdiv (rd x0_1 0) 6)) 6).bind fun t136 => (if 0 ≤ t136 then (if t136 < (y133.length : Int) then ((bobbinetkeep_Picked.f (wrap64 (Int.tdiv (rd x0_1 0) 36)) 3).bind fun t139 => (if t139 = 0 then ((some (([(⟨#[]⟩ : ByteArray), (⟨#[120]⟩ : ByteArray), (⟨#[97, 34, 98, 38]⟩ : ByteArray), (⟨#[60]⟩ : ByteArray), (⟨#[104, 116, 116, 112, 58, 47, 47, 121]⟩ : ByteArray)] : List ByteArray) : List ByteArray)).bind fun y140 => ((bobbinetkeep_Picked.f (wrap64 (Int.tdiv (rd x0_1 0) 100)) 5).bind fun t143 => (if 0 ≤ t143 then (if t143 < (y140.length : Int) then ((bobbinetkeep_Nodes.f kj3 y102 (wrap64 (a1 - 1)) 4).bind fun bt148 => (if x8_1.length < 1759218604441 then (bobbinetkeep_Nodes.l0 kj3 bt148.2 a1 a2 (x8_1 ++ [(⟨rdOf ByteArray.empty y133 t136, (([(⟨(⟨#[104, 114, 101, 102]⟩ : ByteArray), rdOf ByteArray.empty y140 t143⟩ : S68)] : List (S68))), (⟨#[]⟩ : ByteArray), bt148.1⟩ : S28)])) else (none))) else (none)) else (none)))) else ((bobbinetkeep_Nodes.f kj3 y102 (wrap64 (a1 - 1)) 4).bind fun bt157 => (if x8_1.length < 1759218604441 then (bobbinetkeep_Nodes.l0 kj3 bt157.2 a1 a2 (x8_1 ++ [(⟨rdOf ByteArray.empty y133 t136, ([] : List (S68)), (⟨#[]⟩ : ByteArray), bt157.1⟩ : S28)])) else (none))))) else (none)) else (none)))) else (bobbinetkeep_Nodes.l0 kj3 y102 a1 a2 x8_1))))) = some (r1, r2) := H
        have A12 := Aside0.mk A120
        clear A120
        by_cases c13 : t107 = 0
        ·
         rw [if_pos c13] at H
         have c13b0 : (t107 == 0) = true := beq_iff_eq.mpr c13
         have c13b1 : (t107 != 0) = false := bne_eq_false_iff_eq.mpr c13
         clear c13
         simp only [Option.some.injEq, Prod.mk.injEq] at H
         obtain ⟨rfl, rfl⟩ := H
         obtain ⟨Ao14, co14, eo14⟩ := Kd.V_slice HO_0.out
         subst eo14
         have p101 : 0 ≤ (0 : Int) := (by omega)
         have q101 : 0 < (x0_1.length : Int) := of_decide_eq_true (by first | (with_reducible assumption) | assumption)
         obtain ⟨ad101, e101, hx101_0⟩ := Kd.at_int (Kd.V_reads' HO_0.out).2.2 0 p101 q101
         cases e101
         have qi101 : (0 < x0_1.length) = True := eq_true (by omega)
         (try rw [show ((0 : Int)).toNat = 0 from rfl] at hx101_0)
         (try rw [Addr.add_zero'] at hx101_0)
         replace p101 := eq_true p101
         replace q101 := eq_true q101
         have q15 : (1 : Int) ≤ ((x0_1.length : Int) : Int) := of_decide_eq_true (by first | (with_reducible assumption) | assumption)
         obtain ⟨i015, hi015, _, hsz15, _⟩ := info_parts info3
         have hroom15 : x0_1.length ≤ co14 := (Kd.V_reads' HO_0.out).2.1
         have hC15 : Kd.F (Kd.int .i64) _ _ (some ad101) x0_1.length x0_1 := (Kd.V_at (base := w.heap.size) HO_0.out).2.2
         have hcut15 := cut_from (P := Try.prog) 22 3 .i64 Try.underlying22 hi015 1 hsz15 (some ad101) x0_1.length co14 1 (by omega) q15
         have hr15 := Kd.F_cut (m := (1 : Int).toNat) (c := co14) hC15 (by omega) hroom15
         obtain ⟨A15, hA15⟩ : ∃ A1, A1 = (if co14 = (1 : Int).toNat then (some ad101) else ((some ad101) : Option Addr).map (·.add ((1 : Int).toNat * 1))) := ⟨_, rfl⟩
         obtain ⟨c15, hc15⟩ : ∃ c1, c1 = co14 - (1 : Int).toNat := ⟨_, rfl⟩
         have hy15 : y102.length = x0_1.length - (1 : Int).toNat := (by rw [Ny102.out, List.length_drop] <;> omega)
         rw [show (x0_1).drop (1 : Int).toNat = y102 from Ny102.out.symm] at hr15
         replace hr15 : Kd.F (Kd.int .i64) _ _ A15 y102.length y102 := (by rw [hA15]; exact hr15)
         rw [← hy15, ← hA15, ← hc15] at hcut15
         have HO106 := Aside0.mk (show Kd.V (Kd.int .i64) 3 _ w.heap.size _ (.slice A15 y102.length c15) y102 from Kd.V_mk (by rw [hy15, hc15]; exact Nat.sub_le_sub_right hroom15 _) hr15)
         have HC106 := Aside0.mk (show y102.length ≤ c15 from by rw [hy15, hc15]; exact Nat.sub_le_sub_right hroom15 _)
         clear hr15 hC15 hroom15 hi015 hsz15 hc15
         have KY15 := Aside0.mk hy15
         have KA15 := Aside0.mk hA15
         clear hy15 hA15
         replace q15 := eq_true q15
         go_wp2_with (first | ((with_reducible refine gate_callee (f := 22) rfl ?_); refine goesL_ (some 28) rfl rfl Try.func22 (by kernel_rfl) rfl #[.int .i64 (rd x0_1 0), .int .i64 6] rfl (by (try simp only [List.map_toArray, List.map_cons, List.map_nil]); first | done | rfl | (simp only [List.length_drop, List.length_take]; rfl)) ?_; (with_reducible refine (bobbinetkeep_Picked.calls (rd x0_1 0) 6 t107 _ A12.out).mono ?_); rintro e w' ⟨rfl, ⟨nd, rfl⟩⟩; refine ⟨_, rfl, ?_⟩))
         go_ret2
         exact ⟨_, _, by first | rfl | (simp [errW_none, errW_some] <;> rfl) | (simp [*, errW_none, errW_some] <;> rfl), by (with_reducible repeat (first | apply Kd.R_alloc | apply Kd.R_drewN | apply Kd.R_drew)); exact HO_8.out, by (with_reducible repeat (first | apply Kd.V_alloc | apply Kd.V_drewN | apply Kd.V_drew)); exact HO106.out, by repeat (first | (with_reducible first | exact HB.out | apply below_alloc | apply pw_below_drewN | apply below_drew1) | exact HB.out)⟩
        ·
         rw [if_neg c13] at H
         have c13b0 : (t107 == 0) = false := beq_eq_false_iff_ne.mpr c13
         have c13b1 : (t107 != 0) = true := bne_iff_ne.mpr c13
         by_cases c16 : t107 = 1
         ·
          rw [if_pos c16] at H
          have c16b0 : (t107 == 1) = true := beq_iff_eq.mpr c16
          have c16b1 : (t107 != 1) = false := bne_eq_false_iff_eq.mpr c16
          clear c16
          by_cases c17 : (x8_1.length : Int) > 0
          ·
           rw [if_pos c17] at H
           have c17b0 : decide (0 < (x8_1.length : Int)) = true := decide_eq_true c17
           have c17b1 : decide (0 < x8_1.length) = true := decide_eq_true (by omega)
           clear c17
           obtain ⟨ji18, hji18⟩ : ∃ j_ : Int, (wrap64 ((x8_1.length : Int) - 1)) = j_ := ⟨_, rfl⟩
           replace H : (if 0 ≤ (ji18) then (if (ji18) < (x8_1.length : Int) then (if ((rd_T28 x8_1 (ji18)).f0).toList = ([] : List UInt8) then (bobbinetkeep_Nodes.l0 kj3 y102 a1 a2 x8_1) else ((some (([(⟨#[120]⟩ : ByteArray), (⟨#[97, 60, 98]⟩ : ByteArray), (⟨#[38, 97, 109, 112, 59]⟩ : ByteArray), (⟨#[121, 32, 122]⟩ : ByteArray), (⟨#[32]⟩ : ByteArray), (⟨#[60, 112, 62]⟩ : ByteArray)] : List ByteArray) : List ByteArray)).bind fun y109 => ((bobbinetkeep_Picked.f (wrap64 (Int.tdiv (rd x0_1 0) 6)) 6).bind fun t112 => (if 0 ≤ t112 then (if t112 < (y109.length : Int) then (if x8_1.length < 1759218604441 then (bobbinetkeep_Nodes.l0 kj3 y102 a1 a2 (x8_1 ++ [(⟨(⟨#[]⟩ : ByteArray), ([] : List (S68)), rdOf ByteArray.empty y109 t112, ([] : List (S28))⟩ : S28)])) else (none)) else (none)) else (none))))) else (none)) else (none)) = some (r1, r2) := by first | (rw [hji18] at H; exact H) | (simp only [hji18] at H ⊢; exact H)
           (try rw [hji18] at A12)
           have hji18w : (IntKind.i64.wrap ((x8_1.length : Int) - 1)) = ji18 := (i64_w _).trans hji18
           by_cases c19 : 0 ≤ (ji18)
           ·
            rw [if_pos c19] at H
            have c19b0 : decide (0 ≤ (ji18)) = true := decide_eq_true c19
            clear c19
            by_cases c20 : (ji18) < (x8_1.length : Int)
            ·
             rw [if_pos c20] at H
             have c20b0 : decide ((ji18) < (x8_1.length : Int)) = true := decide_eq_true c20
             clear c20
             by_cases c21 : ((rd_T28 x8_1 (ji18)).f0).toList = ([] : List UInt8)
             ·
              rw [if_pos c21] at H
              have c21b0 : (((rd_T28 x8_1 (ji18)).f0).toList == ([] : List UInt8)) = true := beq_iff_eq.mpr c21
              have c21b1 : (((rd_T28 x8_1 (ji18)).f0).toList != ([] : List UInt8)) = false := bne_eq_false_iff_eq.mpr c21
              clear c21
              have H' := Aside0.mk H
              clear H
              obtain ⟨Ao22, co22, eo22⟩ := Kd.V_slice HO_0.out
              subst eo22
              have p101 : 0 ≤ (0 : Int) := (by omega)
              have q101 : 0 < (x0_1.length : Int) := of_decide_eq_true (by first | (with_reducible assumption) | assumption)
              obtain ⟨ad101, e101, hx101_0⟩ := Kd.at_int (Kd.V_reads' HO_0.out).2.2 0 p101 q101
              cases e101
              have qi101 : (0 < x0_1.length) = True := eq_true (by omega)
              (try rw [show ((0 : Int)).toNat = 0 from rfl] at hx101_0)
              (try rw [Addr.add_zero'] at hx101_0)
              replace p101 := eq_true p101
              replace q101 := eq_true q101
              have q23 : (1 : Int) ≤ ((x0_1.length : Int) : Int) := of_decide_eq_true (by first | (with_reducible assumption) | assumption)
              obtain ⟨i023, hi023, _, hsz23, _⟩ := info_parts info3
              have hroom23 : x0_1.length ≤ co22 := (Kd.V_reads' HO_0.out).2.1
              have hC23 : Kd.F (Kd.int .i64) _ _ (some ad101) x0_1.length x0_1 := (Kd.V_at (base := w.heap.size) HO_0.out).2.2
              have hcut23 := cut_from (P := Try.prog) 22 3 .i64 Try.underlying22 hi023 1 hsz23 (some ad101) x0_1.length co22 1 (by omega) q23
              have hr23 := Kd.F_cut (m := (1 : Int).toNat) (c := co22) hC23 (by omega) hroom23
              obtain ⟨A23, hA23⟩ : ∃ A1, A1 = (if co22 = (1 : Int).toNat then (some ad101) else ((some ad101) : Option Addr).map (·.add ((1 : Int).toNat * 1))) := ⟨_, rfl⟩
              obtain ⟨c23, hc23⟩ : ∃ c1, c1 = co22 - (1 : Int).toNat := ⟨_, rfl⟩
              have hy23 : y102.length = x0_1.length - (1 : Int).toNat := (by rw [Ny102.out, List.length_drop] <;> omega)
              rw [show (x0_1).drop (1 : Int).toNat = y102 from Ny102.out.symm] at hr23
              replace hr23 : Kd.F (Kd.int .i64) _ _ A23 y102.length y102 := (by rw [hA23]; exact hr23)
              rw [← hy23, ← hA23, ← hc23] at hcut23
              have HO106 := Aside0.mk (show Kd.V (Kd.int .i64) 3 _ w.heap.size _ (.slice A23 y102.length c23) y102 from Kd.V_mk (by rw [hy23, hc23]; exact Nat.sub_le_sub_right hroom23 _) hr23)
              have HC106 := Aside0.mk (show y102.length ≤ c23 from by rw [hy23, hc23]; exact Nat.sub_le_sub_right hroom23 _)
              clear hr23 hC23 hroom23 hi023 hsz23 hc23
              have KY23 := Aside0.mk hy23
              have KA23 := Aside0.mk hA23
              clear hy23 hA23
              replace q23 := eq_true q23
              go_wp2_with (first | ((with_reducible refine gate_callee (f := 22) rfl ?_); refine goesL_ (some 28) rfl rfl Try.func22 (by kernel_rfl) rfl #[.int .i64 (rd x0_1 0), .int .i64 6] rfl (by (try simp only [List.map_toArray, List.map_cons, List.map_nil]); first | done | rfl | (simp only [List.length_drop, List.length_take]; rfl)) ?_; (with_reducible refine (bobbinetkeep_Picked.calls (rd x0_1 0) 6 t107 _ A12.out).mono ?_); rintro e w' ⟨rfl, ⟨nd, rfl⟩⟩; refine ⟨_, rfl, ?_⟩; obtain ⟨Ao24, co24, eo24⟩ := Kd.R_slice HO_8.out; subst eo24; have p108 : 0 ≤ ((ji18) : Int) := of_decide_eq_true (by first | (with_reducible assumption) | assumption); have q108 : (ji18) < (x8_1.length : Int) := of_decide_eq_true (by first | (with_reducible assumption) | assumption); obtain ⟨ad108, A108_1, c108_1, A108_3, c108_3, e108, hx108_0, hx108_1, hx108_2, hx108_3, hl108_1, hi108_1, hl108_3, hi108_3⟩ := at_T28 (Kd.R_reads' HO_8.out).2.2 (ji18) p108 q108; cases e108; obtain ⟨ce108, hce108, hMe108, hcc108⟩ := Kd.R_get HO_8.out z28 (ji18) p108 (by first | exact q108 | exact of_decide_eq_true (by first | (with_reducible assumption) | assumption) | (have e_ := (Kd.R_reads' HO_8.out).1; omega)); obtain ⟨ve108_1, ve108_3, rfl, ge108_1, ge108_3⟩ := k28_openM hMe108; have hv108_1 := hcc108 1 _ rfl; rw [add_field _ _ 1 (by omega)] at hv108_1; replace hv108_1 := Option.some.inj (hv108_1.symm.trans hx108_1); rw [hv108_1] at ge108_1; have HL108_1 := Aside0.mk (show Kd.R k68 68 _ _ _ _ ((rd_T28 x8_1 (ji18)).f1) from ge108_1); clear hv108_1 ge108_1; have hv108_3 := hcc108 3 _ rfl; rw [add_field _ _ 3 (by omega)] at hv108_3; replace hv108_3 := Option.some.inj (hv108_3.symm.trans hx108_3); rw [hv108_3] at ge108_3; have HL108_3 := Aside0.mk (show Kd.R k28 28 _ _ _ _ ((rd_T28 x8_1 (ji18)).f3) from ge108_3); clear hv108_3 ge108_3; clear hcc108 hce108; have HR108_1 := Aside0.mk hi108_1; have HC108_1 := Aside0.mk hl108_1; clear hi108_1 hl108_1; have HR108_3 := Aside0.mk hi108_3; have HC108_3 := Aside0.mk hl108_3; clear hi108_3 hl108_3; replace p108 := eq_true p108; replace q108 := eq_true q108))
              go_roundg kj3
              case measure => have := HK1.out; have := HJ3.out; omega
              case rel => exact ⟨(y102), (x8_1), H', ⟨by have := HK1.out; have := HJ3.out; omega⟩, ⟨by (with_reducible repeat (first | apply Kd.V_alloc | apply Kd.V_drewN | apply Kd.V_drew)); exact HO106.out⟩, ⟨by (with_reducible repeat (first | apply Kd.R_alloc | apply Kd.R_drewN | apply Kd.R_drew)); exact HO_8.out⟩, ⟨by repeat (first | (with_reducible first | exact HB.out | apply below_alloc | apply pw_below_drewN | apply below_drew1) | exact HB.out)⟩⟩
             ·
              rw [if_neg c21] at H
              have c21b0 : (((rd_T28 x8_1 (ji18)).f0).toList == ([] : List UInt8)) = false := beq_eq_false_iff_ne.mpr c21
              have c21b1 : (((rd_T28 x8_1 (ji18)).f0).toList != ([] : List UInt8)) = true := bne_iff_ne.mpr c21
              obtain ⟨y109, hy109⟩ : ∃ y_ : List ByteArray, y_ = (([(⟨#[120]⟩ : ByteArray), (⟨#[97, 60, 98]⟩ : ByteArray), (⟨#[38, 97, 109, 112, 59]⟩ : ByteArray), (⟨#[121, 32, 122]⟩ : ByteArray), (⟨#[32]⟩ : ByteArray), (⟨#[60, 112, 62]⟩ : ByteArray)] : List ByteArray)) := ⟨_, rfl⟩
              replace H : ((bobbinetkeep_Picked.f (wrap64 (Int.tdiv (rd x0_1 0) 6)) 6).bind fun t112 => (if 0 ≤ t112 then (if t112 < (y109.length : Int) then (if x8_1.length < 1759218604441 then (bobbinetkeep_Nodes.l0 kj3 y102 a1 a2 (x8_1 ++ [(⟨(⟨#[]⟩ : ByteArray), ([] : List (S68)), rdOf ByteArray.empty y109 t112, ([] : List (S28))⟩ : S28)])) else (none)) else (none)) else (none))) = some (r1, r2) := by first | (rw [hy109]; with_reducible exact H) | (have H2_ := (Option.bind_some _ _).symm.trans H; rw [hy109]; with_reducible exact H2_) | (have H2_ := (Option.bind_some _ _).symm.trans H; with_reducible exact H2_) | with_reducible exact H | (rw [hy109]; exact H) | exact H
              have Ny109 := Aside0.mk hy109
              clear hy109
              replace H := Option.bind_eq_some_iff.mp H
              obtain ⟨t112, A250, H⟩ := H
              replace H : (if 0 ≤ t112 then (if t112 < (y109.length : Int) then (if x8_1.length < 1759218604441 then (bobbinetkeep_Nodes.l0 kj3 y102 a1 a2 (x8_1 ++ [(⟨(⟨#[]⟩ : ByteArray), ([] : List (S68)), rdOf ByteArray.empty y109 t112, ([] : List (S28))⟩ : S28)])) else (none)) else (none)) else (none)) = some (r1, r2) := H
              have A25 := Aside0.mk A250
              clear A250
              by_cases c26 : 0 ≤ t112
              ·
               rw [if_pos c26] at H
               have c26b0 : decide (0 ≤ t112) = true := decide_eq_true c26
               clear c26
               by_cases c27 : t112 < (y109.length : Int)
               ·
                rw [if_pos c27] at H
                have c27b0 : decide (t112 < (y109.length : Int)) = true := decide_eq_true c27
                clear c27
                by_cases c28 : x8_1.length < 1759218604441
                ·
                 rw [if_pos c28] at H
                 have LMc28 := Aside0.mk c28
                 clear c28
                 obtain ⟨y114, hy114⟩ : ∃ y_ : List (S28), y_ = (x8_1 ++ [(⟨(⟨#[]⟩ : ByteArray), ([] : List (S68)), rdOf ByteArray.empty y109 t112, ([] : List (S28))⟩ : S28)]) := ⟨_, rfl⟩
                 replace H : (bobbinetkeep_Nodes.l0 kj3 y102 a1 a2 y114) = some (r1, r2) := by first | (rw [hy114]; with_reducible exact H) | (have H2_ := (Option.bind_some _ _).symm.trans H; rw [hy114]; with_reducible exact H2_) | (have H2_ := (Option.bind_some _ _).symm.trans H; with_reducible exact H2_) | with_reducible exact H | (rw [hy114]; exact H) | exact H
                 have Ny114 := Aside0.mk hy114
                 clear hy114
                 have H' := Aside0.mk H
                 clear H
                 obtain ⟨Ao29, co29, eo29⟩ := Kd.V_slice HO_0.out
                 subst eo29
                 have p101 : 0 ≤ (0 : Int) := (by omega)
                 have q101 : 0 < (x0_1.length : Int) := of_decide_eq_true (by first | (with_reducible assumption) | assumption)
                 obtain ⟨ad101, e101, hx101_0⟩ := Kd.at_int (Kd.V_reads' HO_0.out).2.2 0 p101 q101
                 cases e101
                 have qi101 : (0 < x0_1.length) = True := eq_true (by omega)
                 (try rw [show ((0 : Int)).toNat = 0 from rfl] at hx101_0)
                 (try rw [Addr.add_zero'] at hx101_0)
                 replace p101 := eq_true p101
                 replace q101 := eq_true q101
                 have q30 : (1 : Int) ≤ ((x0_1.length : Int) : Int) := of_decide_eq_true (by first | (with_reducible assumption) | assumption)
                 obtain ⟨i030, hi030, _, hsz30, _⟩ := info_parts info3
                 have hroom30 : x0_1.length ≤ co29 := (Kd.V_reads' HO_0.out).2.1
                 have hC30 : Kd.F (Kd.int .i64) _ _ (some ad101) x0_1.length x0_1 := (Kd.V_at (base := w.heap.size) HO_0.out).2.2
                 have hcut30 := cut_from (P := Try.prog) 22 3 .i64 Try.underlying22 hi030 1 hsz30 (some ad101) x0_1.length co29 1 (by omega) q30
                 have hr30 := Kd.F_cut (m := (1 : Int).toNat) (c := co29) hC30 (by omega) hroom30
                 obtain ⟨A30, hA30⟩ : ∃ A1, A1 = (if co29 = (1 : Int).toNat then (some ad101) else ((some ad101) : Option Addr).map (·.add ((1 : Int).toNat * 1))) := ⟨_, rfl⟩
                 obtain ⟨c30, hc30⟩ : ∃ c1, c1 = co29 - (1 : Int).toNat := ⟨_, rfl⟩
                 have hy30 : y102.length = x0_1.length - (1 : Int).toNat := (by rw [Ny102.out, List.length_drop] <;> omega)
                 rw [show (x0_1).drop (1 : Int).toNat = y102 from Ny102.out.symm] at hr30
                 replace hr30 : Kd.F (Kd.int .i64) _ _ A30 y102.length y102 := (by rw [hA30]; exact hr30)
                 rw [← hy30, ← hA30, ← hc30] at hcut30
                 have HO106 := Aside0.mk (show Kd.V (Kd.int .i64) 3 _ w.heap.size _ (.slice A30 y102.length c30) y102 from Kd.V_mk (by rw [hy30, hc30]; exact Nat.sub_le_sub_right hroom30 _) hr30)
                 have HC106 := Aside0.mk (show y102.length ≤ c30 from by rw [hy30, hc30]; exact Nat.sub_le_sub_right hroom30 _)
                 clear hr30 hC30 hroom30 hi030 hsz30 hc30
                 have KY30 := Aside0.mk hy30
                 have KA30 := Aside0.mk hA30
                 clear hy30 hA30
                 replace q30 := eq_true q30
                 go_wp2_with (first | ((with_reducible refine gate_callee (f := 22) rfl ?_); refine goesL_ (some 28) rfl rfl Try.func22 (by kernel_rfl) rfl #[.int .i64 (rd x0_1 0), .int .i64 6] rfl (by (try simp only [List.map_toArray, List.map_cons, List.map_nil]); first | done | rfl | (simp only [List.length_drop, List.length_take]; rfl)) ?_; (with_reducible refine (bobbinetkeep_Picked.calls (rd x0_1 0) 6 t107 _ A12.out).mono ?_); rintro e w' ⟨rfl, ⟨nd, rfl⟩⟩; refine ⟨_, rfl, ?_⟩; obtain ⟨Ao31, co31, eo31⟩ := Kd.R_slice HO_8.out; subst eo31; have p108 : 0 ≤ ((ji18) : Int) := of_decide_eq_true (by first | (with_reducible assumption) | assumption); have q108 : (ji18) < (x8_1.length : Int) := of_decide_eq_true (by first | (with_reducible assumption) | assumption); obtain ⟨ad108, A108_1, c108_1, A108_3, c108_3, e108, hx108_0, hx108_1, hx108_2, hx108_3, hl108_1, hi108_1, hl108_3, hi108_3⟩ := at_T28 (Kd.R_reads' HO_8.out).2.2 (ji18) p108 q108; cases e108; obtain ⟨ce108, hce108, hMe108, hcc108⟩ := Kd.R_get HO_8.out z28 (ji18) p108 (by first | exact q108 | exact of_decide_eq_true (by first | (with_reducible assumption) | assumption) | (have e_ := (Kd.R_reads' HO_8.out).1; omega)); obtain ⟨ve108_1, ve108_3, rfl, ge108_1, ge108_3⟩ := k28_openM hMe108; have hv108_1 := hcc108 1 _ rfl; rw [add_field _ _ 1 (by omega)] at hv108_1; replace hv108_1 := Option.some.inj (hv108_1.symm.trans hx108_1); rw [hv108_1] at ge108_1; have HL108_1 := Aside0.mk (show Kd.R k68 68 _ _ _ _ ((rd_T28 x8_1 (ji18)).f1) from ge108_1); clear hv108_1 ge108_1; have hv108_3 := hcc108 3 _ rfl; rw [add_field _ _ 3 (by omega)] at hv108_3; replace hv108_3 := Option.some.inj (hv108_3.symm.trans hx108_3); rw [hv108_3] at ge108_3; have HL108_3 := Aside0.mk (show Kd.R k28 28 _ _ _ _ ((rd_T28 x8_1 (ji18)).f3) from ge108_3); clear hv108_3 ge108_3; clear hcc108 hce108; have HR108_1 := Aside0.mk hi108_1; have HC108_1 := Aside0.mk hl108_1; clear hi108_1 hl108_1; have HR108_3 := Aside0.mk hi108_3; have HC108_3 := Aside0.mk hl108_3; clear hi108_3 hl108_3; replace p108 := eq_true p108; replace q108 := eq_true q108) | ((with_reducible refine gate_dst (N := 51) rfl ?_); (try (refine gate_guard (by rfl) ?_; dsimp only)); refine Kd.R_lit Kd.string _ 9 ?hg (N := 51) ?hd (xs := ([(⟨#[120]⟩ : ByteArray), (⟨#[97, 60, 98]⟩ : ByteArray), (⟨#[38, 97, 109, 112, 59]⟩ : ByteArray), (⟨#[121, 32, 122]⟩ : ByteArray), (⟨#[32]⟩ : ByteArray), (⟨#[60, 112, 62]⟩ : ByteArray)] : List ByteArray)) (inner := [.string (⟨#[120]⟩ : ByteArray), .string (⟨#[97, 60, 98]⟩ : ByteArray), .string (⟨#[38, 97, 109, 112, 59]⟩ : ByteArray), .string (⟨#[121, 32, 122]⟩ : ByteArray), .string (⟨#[32]⟩ : ByteArray), .string (⟨#[60, 112, 62]⟩ : ByteArray)]) (ok := fun _ => True) (okp := fun _ => True) ?hr ?hp (fun _ hk => hk) trivial (Below.refl _ _) (Nat.le_refl _) (by simp) ?_; (case hd => rfl); (case hg => rfl); (case hr => first | (go_simp; done) | (go_simp; rfl)); (case hp => exact (Reps.one (show Kd.M Kd.string _ _ _ (⟨#[120]⟩ : ByteArray) [.string (⟨#[120]⟩ : ByteArray)] from rfl) (Reps.one (show Kd.M Kd.string _ _ _ (⟨#[97, 60, 98]⟩ : ByteArray) [.string (⟨#[97, 60, 98]⟩ : ByteArray)] from rfl) (Reps.one (show Kd.M Kd.string _ _ _ (⟨#[38, 97, 109, 112, 59]⟩ : ByteArray) [.string (⟨#[38, 97, 109, 112, 59]⟩ : ByteArray)] from rfl) (Reps.one (show Kd.M Kd.string _ _ _ (⟨#[121, 32, 122]⟩ : ByteArray) [.string (⟨#[121, 32, 122]⟩ : ByteArray)] from rfl) (Reps.one (show Kd.M Kd.string _ _ _ (⟨#[32]⟩ : ByteArray) [.string (⟨#[32]⟩ : ByteArray)] from rfl) (Reps.one (show Kd.M Kd.string _ _ _ (⟨#[60, 112, 62]⟩ : ByteArray) [.string (⟨#[60, 112, 62]⟩ : ByteArray)] from rfl) (Reps.none _ _)))))))); intro v110 w32 ho33 hb hg_ hnew_; clear hg_ hnew_; (first | rw [← Ny109.out] at ho33 | (simp only [Int.reduceToNat] at ho33; rw [← Ny109.out] at ho33)); have n0_ := Aside0.mk (Kd.V_elder' (by (with_reducible repeat (first | apply Kd.V_alloc | apply Kd.V_drewN | apply Kd.V_drew)); exact HO_0.out) (Kd.R_base ho33) hb); have n1_ := Aside0.mk (Kd.R_below (by (with_reducible repeat (first | apply Kd.R_alloc | apply Kd.R_drewN | apply Kd.R_drew)); exact HO_8.out) hb); have n2_ := Aside0.mk (Kd.V_elder' (by (with_reducible repeat (first | apply Kd.V_alloc | apply Kd.V_drewN | apply Kd.V_drew)); exact HO106.out) (Kd.R_base ho33) hb); have n3_ := Aside0.mk (Kd.R_below (by (with_reducible repeat (first | apply Kd.R_alloc | apply Kd.R_drewN | apply Kd.R_drew)); exact HL108_1.out) hb); have n4_ := Aside0.mk (Kd.R_below (by (with_reducible repeat (first | apply Kd.R_alloc | apply Kd.R_drewN | apply Kd.R_drew)); exact HL108_3.out) hb); have n5_ := Aside0.mk (Kd.R_lower (Kd.R_newM (M := fun k_ => (w.heap.size ≤ k_)) ho33 (below_size (by repeat (first | (with_reducible first | exact HB.out | apply below_alloc | apply pw_below_drewN | apply below_drew1) | exact HB.out))) (fun k_ h_ => h_)) (below_size (by repeat (first | (with_reducible first | exact HB.out | apply below_alloc | apply pw_below_drewN | apply below_drew1) | exact HB.out)))); (first | have n6_ := Aside0.mk (Kd.C_below (Kd.C_drewN HR108_1.out _) hb) | have n6_ := Aside0.mk (Kd.C_below HR108_1.out hb) | have n6_ := Aside0.mk (Kd.C_below (by repeat (first | (with_reducible exact HR108_1.out) | (with_reducible refine Kd.C_alloc ?_ _) | (with_reducible refine Kd.C_drewN ?_ _) | (with_reducible refine Kd.C_drew ?_) | exact HR108_1.out)) hb)); (first | have n7_ := Aside0.mk (Kd.C_below (Kd.C_drewN HR108_3.out _) hb) | have n7_ := Aside0.mk (Kd.C_below HR108_3.out hb) | have n7_ := Aside0.mk (Kd.C_below (by repeat (first | (with_reducible exact HR108_3.out) | (with_reducible refine Kd.C_alloc ?_ _) | (with_reducible refine Kd.C_drewN ?_ _) | (with_reducible refine Kd.C_drew ?_) | exact HR108_3.out)) hb)); have n8_ := Aside0.mk (below_step (by repeat (first | (with_reducible first | exact HB.out | apply below_alloc | apply pw_below_drewN | apply below_drew1) | exact HB.out)) hb); clear HO_0; clear HO_8; clear HO106; clear HL108_1; clear HL108_3; clear HR108_1; clear HR108_3; clear HB; have HO_0 := n0_; have HO_8 := n1_; have HO106 := n2_; have HL108_1 := n3_; have HL108_3 := n4_; have HO111 := n5_; have HR108_1 := n6_; have HR108_3 := n7_; have HB := n8_; clear n0_ n1_ n2_ n3_ n4_ n5_ n6_ n7_ n8_; clear hb ho33) | ((with_reducible refine gate_callee (f := 22) rfl ?_); refine goesL_ (some 54) rfl rfl Try.func22 (by kernel_rfl) rfl #[.int .i64 (wrap64 (Int.tdiv (rd x0_1 0) 6)), .int .i64 6] rfl (by (try simp only [List.map_toArray, List.map_cons, List.map_nil]); first | done | rfl | (simp only [List.length_drop, List.length_take]; rfl)) ?_; (with_reducible refine (bobbinetkeep_Picked.calls (wrap64 (Int.tdiv (rd x0_1 0) 6)) 6 t112 _ A25.out).mono ?_); rintro e w' ⟨rfl, ⟨nd, rfl⟩⟩; refine ⟨_, rfl, ?_⟩; obtain ⟨Ao34, co34, eo34⟩ := Kd.R_slice HO111.out; subst eo34; have p113 : 0 ≤ (t112 : Int) := of_decide_eq_true (by first | (with_reducible assumption) | assumption); have q113 : t112 < (y109.length : Int) := of_decide_eq_true (by first | (with_reducible assumption) | assumption); obtain ⟨ad113, e113, hx113_0⟩ := Kd.at_string (Kd.R_reads' HO111.out).2.2 t112 p113 q113; cases e113; replace p113 := eq_true p113; replace q113 := eq_true q113) | ((with_reducible refine gate_builtin (b := .append) (xs := #[.tmp 50, .tmp 58]) rfl ?_); (try (refine gate_guard (by rfl) ?_; dsimp only)); at_builtin; refine Kd.R_append k28 (w0 := w) w.heap.size rfl (.tmp 50) (.tmp 58) 23 28 (.agg #[(.string ⟨#[]⟩), (.slice none 0 0), (.string ⟨#[]⟩), (.slice none 0 0)]) 80 rfl Try.underlying23 info28 rfl (by decide) (by omega) (.slice (some ad108) x8_1.length co31) x8_1 (⟨(⟨#[]⟩ : ByteArray), ([] : List (S68)), rdOf ByteArray.empty y109 t112, ([] : List (S28))⟩ : S28) [.string (⟨#[]⟩ : ByteArray), .slice none 0 0, .string (rdOf ByteArray.empty y109 t112), .slice none 0 0] (fun k_ => (w.heap.size ≤ k_)) (fun k_ => ((fun k_ => (w.heap.size ≤ k_))) k_ ∧ some k_ ≠ (.slice (some ad108) x8_1.length co31 : Value).ownBlock) rfl rfl ?aP (fun _ hk => hk) ?aF ?aO ?aB ?aS ?aL ?_; (case aP => exact k28_mkM _ _ _ (⟨(⟨#[]⟩ : ByteArray), ([] : List (S68)), rdOf ByteArray.empty y109 t112, ([] : List (S28))⟩ : S28) (Kd.R_nil _ _ _ _ _) (Kd.R_nil _ _ _ _ _)); (case aB => exact (by repeat (first | (with_reducible first | exact HB.out | apply below_alloc | apply pw_below_drewN | apply below_drew1) | exact HB.out))); (case aF => exact (fun k_ hk => (Nat.le_trans (below_size (by repeat (first | (with_reducible first | exact HB.out | apply below_alloc | apply pw_below_drewN | apply below_drew1) | exact HB.out))) hk))); (case aO => exact (by (with_reducible repeat (first | apply Kd.R_alloc | apply Kd.R_drewN | apply Kd.R_drew)); exact HO_8.out)); (case aS => exact (below_size (by repeat (first | (with_reducible first | exact HB.out | apply below_alloc | apply pw_below_drewN | apply below_drew1) | exact HB.out)))); (case aL => have := LMc28.out; omega); intro v115 w35 ho hb hg hat; rw [← Ny114.out] at ho; have n0_ := Aside0.mk (Kd.V_afterv (ok := (fun k_ => (P0_ k_ ∨ w.heap.size ≤ k_) ∧ some k_ ≠ (.slice (some ad113) y109.length co34 : Value).ownBlock)) (by (with_reducible repeat (first | apply Kd.V_alloc | apply Kd.V_drewN | apply Kd.V_drew)); exact Kd.V_mono HO_0.out (fun _ hk => (by first | exact ⟨⟨hk.1.1, hk.2⟩, hk.1.2⟩ | grind))) hg hat); have n1_ := Aside0.mk (Kd.V_afterv (ok := (fun k_ => (P0_ k_ ∨ w.heap.size ≤ k_) ∧ some k_ ≠ (.slice (some ad113) y109.length co34 : Value).ownBlock)) (by (with_reducible repeat (first | apply Kd.V_alloc | apply Kd.V_drewN | apply Kd.V_drew)); exact Kd.V_mono HO106.out (fun _ hk => (by first | exact ⟨⟨hk.1.1, hk.2⟩, hk.1.2⟩ | grind))) hg hat); have n2_ := Aside0.mk (Kd.R_after (ok := (fun k_ => (w.heap.size ≤ k_))) (by (with_reducible repeat (first | apply Kd.R_alloc | apply Kd.R_drewN | apply Kd.R_drew)); exact HL108_1.out) hg hat); have n3_ := Aside0.mk (Kd.R_after (ok := (fun k_ => (w.heap.size ≤ k_))) (by (with_reducible repeat (first | apply Kd.R_alloc | apply Kd.R_drewN | apply Kd.R_drew)); exact HL108_3.out) hg hat); have n4_ := Aside0.mk (Kd.R_over' (by (with_reducible repeat (first | apply Kd.R_alloc | apply Kd.R_drewN | apply Kd.R_drew)); exact HO111.out) (Kd.R_typed (by (with_reducible repeat (first | apply Kd.R_alloc | apply Kd.R_drewN | apply Kd.R_drew)); exact HO_8.out)) (by decide) hg); have n5_ := Aside0.mk (hb); have n6_ := Aside0.mk (ho); clear HO_0; clear HO106; clear HL108_1; clear HL108_3; clear HO111; clear HB; clear HO_8; have HO_0 := n0_; have HO106 := n1_; have HL108_1 := n2_; have HL108_3 := n3_; have HO111 := n4_; have HB := n5_; have HO116 := n6_; clear n0_ n1_ n2_ n3_ n4_ n5_ n6_; clear ho hb hg hat))
                 go_roundg kj3
                 case measure => have := HK1.out; have := HJ3.out; omega
                 case rel => exact ⟨(y102), (y114), H', ⟨by have := HK1.out; have := HJ3.out; omega⟩, ⟨by (with_reducible repeat (first | apply Kd.V_alloc | apply Kd.V_drewN | apply Kd.V_drew)); exact Kd.V_mono HO106.out (fun _ hk => (by first | exact ⟨hk.1.1, hk.2⟩ | grind))⟩, ⟨by (with_reducible repeat (first | apply Kd.R_alloc | apply Kd.R_drewN | apply Kd.R_drew)); exact HO116.out⟩, ⟨by repeat (first | (with_reducible first | exact HB.out | apply below_alloc | apply pw_below_drewN | apply below_drew1) | exact HB.out)⟩⟩
                ·
                 rw [if_neg c28] at H
                 exact absurd H (by simp)
               ·
                rw [if_neg c27] at H
                exact absurd H (by simp)
              ·
               rw [if_neg c26] at H
               exact absurd H (by simp)
            ·
             rw [if_neg c20] at H
             exact absurd H (by simp)
           ·
            rw [if_neg c19] at H
            exact absurd H (by simp)
          ·
           rw [if_neg c17] at H
           have c17b0 : decide (0 < (x8_1.length : Int)) = false := decide_eq_false c17
           have c17b1 : decide (0 < x8_1.length) = false := decide_eq_false (by omega)
           clear c17
           obtain ⟨y117, hy117⟩ : ∃ y_ : List ByteArray, y_ = (([(⟨#[120]⟩ : ByteArray), (⟨#[97, 60, 98]⟩ : ByteArray), (⟨#[38, 97, 109, 112, 59]⟩ : ByteArray), (⟨#[121, 32, 122]⟩ : ByteArray), (⟨#[32]⟩ : ByteArray), (⟨#[60, 112, 62]⟩ : ByteArray)] : List ByteArray)) := ⟨_, rfl⟩
           replace H : ((bobbinetkeep_Picked.f (wrap64 (Int.tdiv (rd x0_1 0) 6)) 6).bind fun t120 => (if 0 ≤ t120 then (if t120 < (y117.length : Int) then (if x8_1.length < 1759218604441 then (bobbinetkeep_Nodes.l0 kj3 y102 a1 a2 (x8_1 ++ [(⟨(⟨#[]⟩ : ByteArray), ([] : List (S68)), rdOf ByteArray.empty y117 t120, ([] : List (S28))⟩ : S28)])) else (none)) else (none)) else (none))) = some (r1, r2) := by first | (rw [hy117]; with_reducible exact H) | (have H2_ := (Option.bind_some _ _).symm.trans H; rw [hy117]; with_reducible exact H2_) | (have H2_ := (Option.bind_some _ _).symm.trans H; with_reducible exact H2_) | with_reducible exact H | (rw [hy117]; exact H) | exact H
           have Ny117 := Aside0.mk hy117
           clear hy117
           replace H := Option.bind_eq_some_iff.mp H
           obtain ⟨t120, A360, H⟩ := H
           replace H : (if 0 ≤ t120 then (if t120 < (y117.length : Int) then (if x8_1.length < 1759218604441 then (bobbinetkeep_Nodes.l0 kj3 y102 a1 a2 (x8_1 ++ [(⟨(⟨#[]⟩ : ByteArray), ([] : List (S68)), rdOf ByteArray.empty y117 t120, ([] : List (S28))⟩ : S28)])) else (none)) else (none)) else (none)) = some (r1, r2) := H
           have A36 := Aside0.mk A360
           clear A360
           by_cases c37 : 0 ≤ t120
           ·
            rw [if_pos c37] at H
            have c37b0 : decide (0 ≤ t120) = true := decide_eq_true c37
            clear c37
            by_cases c38 : t120 < (y117.length : Int)
            ·
             rw [if_pos c38] at H
             have c38b0 : decide (t120 < (y117.length : Int)) = true := decide_eq_true c38
             clear c38
             by_cases c39 : x8_1.length < 1759218604441
             ·
              rw [if_pos c39] at H
              have LMc39 := Aside0.mk c39
              clear c39
              obtain ⟨y122, hy122⟩ : ∃ y_ : List (S28), y_ = (x8_1 ++ [(⟨(⟨#[]⟩ : ByteArray), ([] : List (S68)), rdOf ByteArray.empty y117 t120, ([] : List (S28))⟩ : S28)]) := ⟨_, rfl⟩
              replace H : (bobbinetkeep_Nodes.l0 kj3 y102 a1 a2 y122) = some (r1, r2) := by first | (rw [hy122]; with_reducible exact H) | (have H2_ := (Option.bind_some _ _).symm.trans H; rw [hy122]; with_reducible exact H2_) | (have H2_ := (Option.bind_some _ _).symm.trans H; with_reducible exact H2_) | with_reducible exact H | (rw [hy122]; exact H) | exact H
              have Ny122 := Aside0.mk hy122
              clear hy122
              have H' := Aside0.mk H
              clear H
              obtain ⟨Ao40, co40, eo40⟩ := Kd.V_slice HO_0.out
              subst eo40
              have p101 : 0 ≤ (0 : Int) := (by omega)
              have q101 : 0 < (x0_1.length : Int) := of_decide_eq_true (by first | (with_reducible assumption) | assumption)
              obtain ⟨ad101, e101, hx101_0⟩ := Kd.at_int (Kd.V_reads' HO_0.out).2.2 0 p101 q101
              cases e101
              have qi101 : (0 < x0_1.length) = True := eq_true (by omega)
              (try rw [show ((0 : Int)).toNat = 0 from rfl] at hx101_0)
              (try rw [Addr.add_zero'] at hx101_0)
              replace p101 := eq_true p101
              replace q101 := eq_true q101
              have q41 : (1 : Int) ≤ ((x0_1.length : Int) : Int) := of_decide_eq_true (by first | (with_reducible assumption) | assumption)
              obtain ⟨i041, hi041, _, hsz41, _⟩ := info_parts info3
              have hroom41 : x0_1.length ≤ co40 := (Kd.V_reads' HO_0.out).2.1
              have hC41 : Kd.F (Kd.int .i64) _ _ (some ad101) x0_1.length x0_1 := (Kd.V_at (base := w.heap.size) HO_0.out).2.2
              have hcut41 := cut_from (P := Try.prog) 22 3 .i64 Try.underlying22 hi041 1 hsz41 (some ad101) x0_1.length co40 1 (by omega) q41
              have hr41 := Kd.F_cut (m := (1 : Int).toNat) (c := co40) hC41 (by omega) hroom41
              obtain ⟨A41, hA41⟩ : ∃ A1, A1 = (if co40 = (1 : Int).toNat then (some ad101) else ((some ad101) : Option Addr).map (·.add ((1 : Int).toNat * 1))) := ⟨_, rfl⟩
              obtain ⟨c41, hc41⟩ : ∃ c1, c1 = co40 - (1 : Int).toNat := ⟨_, rfl⟩
              have hy41 : y102.length = x0_1.length - (1 : Int).toNat := (by rw [Ny102.out, List.length_drop] <;> omega)
              rw [show (x0_1).drop (1 : Int).toNat = y102 from Ny102.out.symm] at hr41
              replace hr41 : Kd.F (Kd.int .i64) _ _ A41 y102.length y102 := (by rw [hA41]; exact hr41)
              rw [← hy41, ← hA41, ← hc41] at hcut41
              have HO106 := Aside0.mk (show Kd.V (Kd.int .i64) 3 _ w.heap.size _ (.slice A41 y102.length c41) y102 from Kd.V_mk (by rw [hy41, hc41]; exact Nat.sub_le_sub_right hroom41 _) hr41)
              have HC106 := Aside0.mk (show y102.length ≤ c41 from by rw [hy41, hc41]; exact Nat.sub_le_sub_right hroom41 _)
              clear hr41 hC41 hroom41 hi041 hsz41 hc41
              have KY41 := Aside0.mk hy41
              have KA41 := Aside0.mk hA41
              clear hy41 hA41
              replace q41 := eq_true q41
              go_wp2_with (first | ((with_reducible refine gate_callee (f := 22) rfl ?_); refine goesL_ (some 28) rfl rfl Try.func22 (by kernel_rfl) rfl #[.int .i64 (rd x0_1 0), .int .i64 6] rfl (by (try simp only [List.map_toArray, List.map_cons, List.map_nil]); first | done | rfl | (simp only [List.length_drop, List.length_take]; rfl)) ?_; (with_reducible refine (bobbinetkeep_Picked.calls (rd x0_1 0) 6 t107 _ A12.out).mono ?_); rintro e w' ⟨rfl, ⟨nd, rfl⟩⟩; refine ⟨_, rfl, ?_⟩; obtain ⟨Ao42, co42, eo42⟩ := Kd.R_slice HO_8.out; subst eo42) | ((with_reducible refine gate_dst (N := 51) rfl ?_); (try (refine gate_guard (by rfl) ?_; dsimp only)); refine Kd.R_lit Kd.string _ 9 ?hg (N := 51) ?hd (xs := ([(⟨#[120]⟩ : ByteArray), (⟨#[97, 60, 98]⟩ : ByteArray), (⟨#[38, 97, 109, 112, 59]⟩ : ByteArray), (⟨#[121, 32, 122]⟩ : ByteArray), (⟨#[32]⟩ : ByteArray), (⟨#[60, 112, 62]⟩ : ByteArray)] : List ByteArray)) (inner := [.string (⟨#[120]⟩ : ByteArray), .string (⟨#[97, 60, 98]⟩ : ByteArray), .string (⟨#[38, 97, 109, 112, 59]⟩ : ByteArray), .string (⟨#[121, 32, 122]⟩ : ByteArray), .string (⟨#[32]⟩ : ByteArray), .string (⟨#[60, 112, 62]⟩ : ByteArray)]) (ok := fun _ => True) (okp := fun _ => True) ?hr ?hp (fun _ hk => hk) trivial (Below.refl _ _) (Nat.le_refl _) (by simp) ?_; (case hd => rfl); (case hg => rfl); (case hr => first | (go_simp; done) | (go_simp; rfl)); (case hp => exact (Reps.one (show Kd.M Kd.string _ _ _ (⟨#[120]⟩ : ByteArray) [.string (⟨#[120]⟩ : ByteArray)] from rfl) (Reps.one (show Kd.M Kd.string _ _ _ (⟨#[97, 60, 98]⟩ : ByteArray) [.string (⟨#[97, 60, 98]⟩ : ByteArray)] from rfl) (Reps.one (show Kd.M Kd.string _ _ _ (⟨#[38, 97, 109, 112, 59]⟩ : ByteArray) [.string (⟨#[38, 97, 109, 112, 59]⟩ : ByteArray)] from rfl) (Reps.one (show Kd.M Kd.string _ _ _ (⟨#[121, 32, 122]⟩ : ByteArray) [.string (⟨#[121, 32, 122]⟩ : ByteArray)] from rfl) (Reps.one (show Kd.M Kd.string _ _ _ (⟨#[32]⟩ : ByteArray) [.string (⟨#[32]⟩ : ByteArray)] from rfl) (Reps.one (show Kd.M Kd.string _ _ _ (⟨#[60, 112, 62]⟩ : ByteArray) [.string (⟨#[60, 112, 62]⟩ : ByteArray)] from rfl) (Reps.none _ _)))))))); intro v118 w43 ho44 hb hg_ hnew_; clear hg_ hnew_; (first | rw [← Ny117.out] at ho44 | (simp only [Int.reduceToNat] at ho44; rw [← Ny117.out] at ho44)); have n0_ := Aside0.mk (Kd.V_elder' (by (with_reducible repeat (first | apply Kd.V_alloc | apply Kd.V_drewN | apply Kd.V_drew)); exact HO_0.out) (Kd.R_base ho44) hb); have n1_ := Aside0.mk (Kd.R_below (by (with_reducible repeat (first | apply Kd.R_alloc | apply Kd.R_drewN | apply Kd.R_drew)); exact HO_8.out) hb); have n2_ := Aside0.mk (Kd.V_elder' (by (with_reducible repeat (first | apply Kd.V_alloc | apply Kd.V_drewN | apply Kd.V_drew)); exact HO106.out) (Kd.R_base ho44) hb); have n3_ := Aside0.mk (Kd.R_lower (Kd.R_newM (M := fun k_ => (w.heap.size ≤ k_)) ho44 (below_size (by repeat (first | (with_reducible first | exact HB.out | apply below_alloc | apply pw_below_drewN | apply below_drew1) | exact HB.out))) (fun k_ h_ => h_)) (below_size (by repeat (first | (with_reducible first | exact HB.out | apply below_alloc | apply pw_below_drewN | apply below_drew1) | exact HB.out)))); have n4_ := Aside0.mk (below_step (by repeat (first | (with_reducible first | exact HB.out | apply below_alloc | apply pw_below_drewN | apply below_drew1) | exact HB.out)) hb); clear HO_0; clear HO_8; clear HO106; clear HB; have HO_0 := n0_; have HO_8 := n1_; have HO106 := n2_; have HO119 := n3_; have HB := n4_; clear n0_ n1_ n2_ n3_ n4_; clear hb ho44) | ((with_reducible refine gate_callee (f := 22) rfl ?_); refine goesL_ (some 54) rfl rfl Try.func22 (by kernel_rfl) rfl #[.int .i64 (wrap64 (Int.tdiv (rd x0_1 0) 6)), .int .i64 6] rfl (by (try simp only [List.map_toArray, List.map_cons, List.map_nil]); first | done | rfl | (simp only [List.length_drop, List.length_take]; rfl)) ?_; (with_reducible refine (bobbinetkeep_Picked.calls (wrap64 (Int.tdiv (rd x0_1 0) 6)) 6 t120 _ A36.out).mono ?_); rintro e w' ⟨rfl, ⟨nd, rfl⟩⟩; refine ⟨_, rfl, ?_⟩; obtain ⟨Ao45, co45, eo45⟩ := Kd.R_slice HO119.out; subst eo45; have p121 : 0 ≤ (t120 : Int) := of_decide_eq_true (by first | (with_reducible assumption) | assumption); have q121 : t120 < (y117.length : Int) := of_decide_eq_true (by first | (with_reducible assumption) | assumption); obtain ⟨ad121, e121, hx121_0⟩ := Kd.at_string (Kd.R_reads' HO119.out).2.2 t120 p121 q121; cases e121; replace p121 := eq_true p121; replace q121 := eq_true q121) | ((with_reducible refine gate_builtin (b := .append) (xs := #[.tmp 50, .tmp 58]) rfl ?_); (try (refine gate_guard (by rfl) ?_; dsimp only)); at_builtin; refine Kd.R_append k28 (w0 := w) w.heap.size rfl (.tmp 50) (.tmp 58) 23 28 (.agg #[(.string ⟨#[]⟩), (.slice none 0 0), (.string ⟨#[]⟩), (.slice none 0 0)]) 80 rfl Try.underlying23 info28 rfl (by decide) (by omega) (.slice Ao42 x8_1.length co42) x8_1 (⟨(⟨#[]⟩ : ByteArray), ([] : List (S68)), rdOf ByteArray.empty y117 t120, ([] : List (S28))⟩ : S28) [.string (⟨#[]⟩ : ByteArray), .slice none 0 0, .string (rdOf ByteArray.empty y117 t120), .slice none 0 0] (fun k_ => (w.heap.size ≤ k_)) (fun k_ => ((fun k_ => (w.heap.size ≤ k_))) k_ ∧ some k_ ≠ (.slice Ao42 x8_1.length co42 : Value).ownBlock) rfl rfl ?aP (fun _ hk => hk) ?aF ?aO ?aB ?aS ?aL ?_; (case aP => exact k28_mkM _ _ _ (⟨(⟨#[]⟩ : ByteArray), ([] : List (S68)), rdOf ByteArray.empty y117 t120, ([] : List (S28))⟩ : S28) (Kd.R_nil _ _ _ _ _) (Kd.R_nil _ _ _ _ _)); (case aB => exact (by repeat (first | (with_reducible first | exact HB.out | apply below_alloc | apply pw_below_drewN | apply below_drew1) | exact HB.out))); (case aF => exact (fun k_ hk => (Nat.le_trans (below_size (by repeat (first | (with_reducible first | exact HB.out | apply below_alloc | apply pw_below_drewN | apply below_drew1) | exact HB.out))) hk))); (case aO => exact (by (with_reducible repeat (first | apply Kd.R_alloc | apply Kd.R_drewN | apply Kd.R_drew)); exact HO_8.out)); (case aS => exact (below_size (by repeat (first | (with_reducible first | exact HB.out | apply below_alloc | apply pw_below_drewN | apply below_drew1) | exact HB.out)))); (case aL => have := LMc39.out; omega); intro v123 w46 ho hb hg hat; rw [← Ny122.out] at ho; have n0_ := Aside0.mk (Kd.V_afterv (ok := (fun k_ => (P0_ k_ ∨ w.heap.size ≤ k_) ∧ some k_ ≠ (.slice (some ad121) y117.length co45 : Value).ownBlock)) (by (with_reducible repeat (first | apply Kd.V_alloc | apply Kd.V_drewN | apply Kd.V_drew)); exact Kd.V_mono HO_0.out (fun _ hk => (by first | exact ⟨⟨hk.1.1, hk.2⟩, hk.1.2⟩ | grind))) hg hat); have n1_ := Aside0.mk (Kd.V_afterv (ok := (fun k_ => (P0_ k_ ∨ w.heap.size ≤ k_) ∧ some k_ ≠ (.slice (some ad121) y117.length co45 : Value).ownBlock)) (by (with_reducible repeat (first | apply Kd.V_alloc | apply Kd.V_drewN | apply Kd.V_drew)); exact Kd.V_mono HO106.out (fun _ hk => (by first | exact ⟨⟨hk.1.1, hk.2⟩, hk.1.2⟩ | grind))) hg hat); have n2_ := Aside0.mk (Kd.R_over' (by (with_reducible repeat (first | apply Kd.R_alloc | apply Kd.R_drewN | apply Kd.R_drew)); exact HO119.out) (Kd.R_typed (by (with_reducible repeat (first | apply Kd.R_alloc | apply Kd.R_drewN | apply Kd.R_drew)); exact HO_8.out)) (by decide) hg); have n3_ := Aside0.mk (hb); have n4_ := Aside0.mk (ho); clear HO_0; clear HO106; clear HO119; clear HB; clear HO_8; have HO_0 := n0_; have HO106 := n1_; have HO119 := n2_; have HB := n3_; have HO124 := n4_; clear n0_ n1_ n2_ n3_ n4_; clear ho hb hg hat))
              go_roundg kj3
              case measure => have := HK1.out; have := HJ3.out; omega
              case rel => exact ⟨(y102), (y122), H', ⟨by have := HK1.out; have := HJ3.out; omega⟩, ⟨by (with_reducible repeat (first | apply Kd.V_alloc | apply Kd.V_drewN | apply Kd.V_drew)); exact Kd.V_mono HO106.out (fun _ hk => (by first | exact ⟨hk.1.1, hk.2⟩ | grind))⟩, ⟨by (with_reducible repeat (first | apply Kd.R_alloc | apply Kd.R_drewN | apply Kd.R_drew)); exact HO124.out⟩, ⟨by repeat (first | (with_reducible first | exact HB.out | apply below_alloc | apply pw_below_drewN | apply below_drew1) | exact HB.out)⟩⟩
             ·
              rw [if_neg c39] at H
              exact absurd H (by simp)
            ·
             rw [if_neg c38] at H
             exact absurd H (by simp)
           ·
            rw [if_neg c37] at H
            exact absurd H (by simp)
         ·
          rw [if_neg c16] at H
          have c16b0 : (t107 == 1) = false := beq_eq_false_iff_ne.mpr c16
          have c16b1 : (t107 != 1) = true := bne_iff_ne.mpr c16
          by_cases c47 : t107 = 2
          ·
           rw [if_pos c47] at H
           have c47b0 : (t107 == 2) = true := beq_iff_eq.mpr c47
           have c47b1 : (t107 != 2) = false := bne_eq_false_iff_eq.mpr c47
           clear c47
           obtain ⟨y125, hy125⟩ : ∃ y_ : List ByteArray, y_ = (([(⟨#[98, 114]⟩ : ByteArray), (⟨#[105, 109, 103]⟩ : ByteArray)] : List ByteArray)) := ⟨_, rfl⟩
           replace H : ((bobbinetkeep_Picked.f (wrap64 (Int.tdiv (rd x0_1 0) 6)) 2).bind fun t128 => (if 0 ≤ t128 then (if t128 < (y125.length : Int) then (if x8_1.length < 1759218604441 then (bobbinetkeep_Nodes.l0 kj3 y102 a1 a2 (x8_1 ++ [(⟨rdOf ByteArray.empty y125 t128, ([] : List (S68)), (⟨#[]⟩ : ByteArray), ([] : List (S28))⟩ : S28)])) else (none)) else (none)) else (none))) = some (r1, r2) := by first | (rw [hy125]; with_reducible exact H) | (have H2_ := (Option.bind_some _ _).symm.trans H; rw [hy125]; with_reducible exact H2_) | (have H2_ := (Option.bind_some _ _).symm.trans H; with_reducible exact H2_) | with_reducible exact H | (rw [hy125]; exact H) | exact H
           have Ny125 := Aside0.mk hy125
           clear hy125
           replace H := Option.bind_eq_some_iff.mp H
           obtain ⟨t128, A480, H⟩ := H
           replace H : (if 0 ≤ t128 then (if t128 < (y125.length : Int) then (if x8_1.length < 1759218604441 then (bobbinetkeep_Nodes.l0 kj3 y102 a1 a2 (x8_1 ++ [(⟨rdOf ByteArray.empty y125 t128, ([] : List (S68)), (⟨#[]⟩ : ByteArray), ([] : List (S28))⟩ : S28)])) else (none)) else (none)) else (none)) = some (r1, r2) := H
           have A48 := Aside0.mk A480
           clear A480
           by_cases c49 : 0 ≤ t128
           ·
            rw [if_pos c49] at H
            have c49b0 : decide (0 ≤ t128) = true := decide_eq_true c49
            clear c49
            by_cases c50 : t128 < (y125.length : Int)
            ·
             rw [if_pos c50] at H
             have c50b0 : decide (t128 < (y125.length : Int)) = true := decide_eq_true c50
             clear c50
             by_cases c51 : x8_1.length < 1759218604441
             ·
              rw [if_pos c51] at H
              have LMc51 := Aside0.mk c51
              clear c51
              obtain ⟨y130, hy130⟩ : ∃ y_ : List (S28), y_ = (x8_1 ++ [(⟨rdOf ByteArray.empty y125 t128, ([] : List (S68)), (⟨#[]⟩ : ByteArray), ([] : List (S28))⟩ : S28)]) := ⟨_, rfl⟩
              replace H : (bobbinetkeep_Nodes.l0 kj3 y102 a1 a2 y130) = some (r1, r2) := by first | (rw [hy130]; with_reducible exact H) | (have H2_ := (Option.bind_some _ _).symm.trans H; rw [hy130]; with_reducible exact H2_) | (have H2_ := (Option.bind_some _ _).symm.trans H; with_reducible exact H2_) | with_reducible exact H | (rw [hy130]; exact H) | exact H
              have Ny130 := Aside0.mk hy130
              clear hy130
              have H' := Aside0.mk H
              clear H
              obtain ⟨Ao52, co52, eo52⟩ := Kd.V_slice HO_0.out
              subst eo52
              have p101 : 0 ≤ (0 : Int) := (by omega)
              have q101 : 0 < (x0_1.length : Int) := of_decide_eq_true (by first | (with_reducible assumption) | assumption)
              obtain ⟨ad101, e101, hx101_0⟩ := Kd.at_int (Kd.V_reads' HO_0.out).2.2 0 p101 q101
              cases e101
              have qi101 : (0 < x0_1.length) = True := eq_true (by omega)
              (try rw [show ((0 : Int)).toNat = 0 from rfl] at hx101_0)
              (try rw [Addr.add_zero'] at hx101_0)
              replace p101 := eq_true p101
              replace q101 := eq_true q101
              have q53 : (1 : Int) ≤ ((x0_1.length : Int) : Int) := of_decide_eq_true (by first | (with_reducible assumption) | assumption)
              obtain ⟨i053, hi053, _, hsz53, _⟩ := info_parts info3
              have hroom53 : x0_1.length ≤ co52 := (Kd.V_reads' HO_0.out).2.1
              have hC53 : Kd.F (Kd.int .i64) _ _ (some ad101) x0_1.length x0_1 := (Kd.V_at (base := w.heap.size) HO_0.out).2.2
              have hcut53 := cut_from (P := Try.prog) 22 3 .i64 Try.underlying22 hi053 1 hsz53 (some ad101) x0_1.length co52 1 (by omega) q53
              have hr53 := Kd.F_cut (m := (1 : Int).toNat) (c := co52) hC53 (by omega) hroom53
              obtain ⟨A53, hA53⟩ : ∃ A1, A1 = (if co52 = (1 : Int).toNat then (some ad101) else ((some ad101) : Option Addr).map (·.add ((1 : Int).toNat * 1))) := ⟨_, rfl⟩
              obtain ⟨c53, hc53⟩ : ∃ c1, c1 = co52 - (1 : Int).toNat := ⟨_, rfl⟩
              have hy53 : y102.length = x0_1.length - (1 : Int).toNat := (by rw [Ny102.out, List.length_drop] <;> omega)
              rw [show (x0_1).drop (1 : Int).toNat = y102 from Ny102.out.symm] at hr53
              replace hr53 : Kd.F (Kd.int .i64) _ _ A53 y102.length y102 := (by rw [hA53]; exact hr53)
              rw [← hy53, ← hA53, ← hc53] at hcut53
              have HO106 := Aside0.mk (show Kd.V (Kd.int .i64) 3 _ w.heap.size _ (.slice A53 y102.length c53) y102 from Kd.V_mk (by rw [hy53, hc53]; exact Nat.sub_le_sub_right hroom53 _) hr53)
              have HC106 := Aside0.mk (show y102.length ≤ c53 from by rw [hy53, hc53]; exact Nat.sub_le_sub_right hroom53 _)
              clear hr53 hC53 hroom53 hi053 hsz53 hc53
              have KY53 := Aside0.mk hy53
              have KA53 := Aside0.mk hA53
              clear hy53 hA53
              replace q53 := eq_true q53
              go_wp2_with (first | ((with_reducible refine gate_callee (f := 22) rfl ?_); refine goesL_ (some 28) rfl rfl Try.func22 (by kernel_rfl) rfl #[.int .i64 (rd x0_1 0), .int .i64 6] rfl (by (try simp only [List.map_toArray, List.map_cons, List.map_nil]); first | done | rfl | (simp only [List.length_drop, List.length_take]; rfl)) ?_; (with_reducible refine (bobbinetkeep_Picked.calls (rd x0_1 0) 6 t107 _ A12.out).mono ?_); rintro e w' ⟨rfl, ⟨nd, rfl⟩⟩; refine ⟨_, rfl, ?_⟩) | ((with_reducible refine gate_dst (N := 64) rfl ?_); (try (refine gate_guard (by rfl) ?_; dsimp only)); refine Kd.R_lit Kd.string _ 9 ?hg (N := 64) ?hd (xs := ([(⟨#[98, 114]⟩ : ByteArray), (⟨#[105, 109, 103]⟩ : ByteArray)] : List ByteArray)) (inner := [.string (⟨#[98, 114]⟩ : ByteArray), .string (⟨#[105, 109, 103]⟩ : ByteArray)]) (ok := fun _ => True) (okp := fun _ => True) ?hr ?hp (fun _ hk => hk) trivial (Below.refl _ _) (Nat.le_refl _) (by simp) ?_; (case hd => rfl); (case hg => rfl); (case hr => first | (go_simp; done) | (go_simp; rfl)); (case hp => exact (Reps.one (show Kd.M Kd.string _ _ _ (⟨#[98, 114]⟩ : ByteArray) [.string (⟨#[98, 114]⟩ : ByteArray)] from rfl) (Reps.one (show Kd.M Kd.string _ _ _ (⟨#[105, 109, 103]⟩ : ByteArray) [.string (⟨#[105, 109, 103]⟩ : ByteArray)] from rfl) (Reps.none _ _)))); intro v126 w54 ho55 hb hg_ hnew_; clear hg_ hnew_; (first | rw [← Ny125.out] at ho55 | (simp only [Int.reduceToNat] at ho55; rw [← Ny125.out] at ho55)); have n0_ := Aside0.mk (Kd.V_elder' (by (with_reducible repeat (first | apply Kd.V_alloc | apply Kd.V_drewN | apply Kd.V_drew)); exact HO_0.out) (Kd.R_base ho55) hb); have n1_ := Aside0.mk (Kd.R_below (by (with_reducible repeat (first | apply Kd.R_alloc | apply Kd.R_drewN | apply Kd.R_drew)); exact HO_8.out) hb); have n2_ := Aside0.mk (Kd.V_elder' (by (with_reducible repeat (first | apply Kd.V_alloc | apply Kd.V_drewN | apply Kd.V_drew)); exact HO106.out) (Kd.R_base ho55) hb); have n3_ := Aside0.mk (Kd.R_lower (Kd.R_newM (M := fun k_ => (w.heap.size ≤ k_)) ho55 (below_size (by repeat (first | (with_reducible first | exact HB.out | apply below_alloc | apply pw_below_drewN | apply below_drew1) | exact HB.out))) (fun k_ h_ => h_)) (below_size (by repeat (first | (with_reducible first | exact HB.out | apply below_alloc | apply pw_below_drewN | apply below_drew1) | exact HB.out)))); have n4_ := Aside0.mk (below_step (by repeat (first | (with_reducible first | exact HB.out | apply below_alloc | apply pw_below_drewN | apply below_drew1) | exact HB.out)) hb); clear HO_0; clear HO_8; clear HO106; clear HB; have HO_0 := n0_; have HO_8 := n1_; have HO106 := n2_; have HO127 := n3_; have HB := n4_; clear n0_ n1_ n2_ n3_ n4_; clear hb ho55) | ((with_reducible refine gate_callee (f := 22) rfl ?_); refine goesL_ (some 67) rfl rfl Try.func22 (by kernel_rfl) rfl #[.int .i64 (wrap64 (Int.tdiv (rd x0_1 0) 6)), .int .i64 2] rfl (by (try simp only [List.map_toArray, List.map_cons, List.map_nil]); first | done | rfl | (simp only [List.length_drop, List.length_take]; rfl)) ?_; (with_reducible refine (bobbinetkeep_Picked.calls (wrap64 (Int.tdiv (rd x0_1 0) 6)) 2 t128 _ A48.out).mono ?_); rintro e w' ⟨rfl, ⟨nd, rfl⟩⟩; refine ⟨_, rfl, ?_⟩; obtain ⟨Ao56, co56, eo56⟩ := Kd.R_slice HO127.out; subst eo56; have p129 : 0 ≤ (t128 : Int) := of_decide_eq_true (by first | (with_reducible assumption) | assumption); have q129 : t128 < (y125.length : Int) := of_decide_eq_true (by first | (with_reducible assumption) | assumption); obtain ⟨ad129, e129, hx129_0⟩ := Kd.at_string (Kd.R_reads' HO127.out).2.2 t128 p129 q129; cases e129; replace p129 := eq_true p129; replace q129 := eq_true q129) | ((with_reducible refine gate_builtin (b := .append) (xs := #[.tmp 63, .tmp 71]) rfl ?_); (try (refine gate_guard (by rfl) ?_; dsimp only)); at_builtin; refine Kd.R_append k28 (w0 := w) w.heap.size rfl (.tmp 63) (.tmp 71) 23 28 (.agg #[(.string ⟨#[]⟩), (.slice none 0 0), (.string ⟨#[]⟩), (.slice none 0 0)]) 80 rfl Try.underlying23 info28 rfl (by decide) (by omega) u8 x8_1 (⟨rdOf ByteArray.empty y125 t128, ([] : List (S68)), (⟨#[]⟩ : ByteArray), ([] : List (S28))⟩ : S28) [.string (rdOf ByteArray.empty y125 t128), .slice none 0 0, .string (⟨#[]⟩ : ByteArray), .slice none 0 0] (fun k_ => (w.heap.size ≤ k_)) (fun k_ => ((fun k_ => (w.heap.size ≤ k_))) k_ ∧ some k_ ≠ (u8 : Value).ownBlock) rfl rfl ?aP (fun _ hk => hk) ?aF ?aO ?aB ?aS ?aL ?_; (case aP => exact k28_mkM _ _ _ (⟨rdOf ByteArray.empty y125 t128, ([] : List (S68)), (⟨#[]⟩ : ByteArray), ([] : List (S28))⟩ : S28) (Kd.R_nil _ _ _ _ _) (Kd.R_nil _ _ _ _ _)); (case aB => exact (by repeat (first | (with_reducible first | exact HB.out | apply below_alloc | apply pw_below_drewN | apply below_drew1) | exact HB.out))); (case aF => exact (fun k_ hk => (Nat.le_trans (below_size (by repeat (first | (with_reducible first | exact HB.out | apply below_alloc | apply pw_below_drewN | apply below_drew1) | exact HB.out))) hk))); (case aO => exact (by (with_reducible repeat (first | apply Kd.R_alloc | apply Kd.R_drewN | apply Kd.R_drew)); exact HO_8.out)); (case aS => exact (below_size (by repeat (first | (with_reducible first | exact HB.out | apply below_alloc | apply pw_below_drewN | apply below_drew1) | exact HB.out)))); (case aL => have := LMc51.out; omega); intro v131 w57 ho hb hg hat; rw [← Ny130.out] at ho; have n0_ := Aside0.mk (Kd.V_afterv (ok := (fun k_ => (P0_ k_ ∨ w.heap.size ≤ k_) ∧ some k_ ≠ (.slice (some ad129) y125.length co56 : Value).ownBlock)) (by (with_reducible repeat (first | apply Kd.V_alloc | apply Kd.V_drewN | apply Kd.V_drew)); exact Kd.V_mono HO_0.out (fun _ hk => (by first | exact ⟨⟨hk.1.1, hk.2⟩, hk.1.2⟩ | grind))) hg hat); have n1_ := Aside0.mk (Kd.V_afterv (ok := (fun k_ => (P0_ k_ ∨ w.heap.size ≤ k_) ∧ some k_ ≠ (.slice (some ad129) y125.length co56 : Value).ownBlock)) (by (with_reducible repeat (first | apply Kd.V_alloc | apply Kd.V_drewN | apply Kd.V_drew)); exact Kd.V_mono HO106.out (fun _ hk => (by first | exact ⟨⟨hk.1.1, hk.2⟩, hk.1.2⟩ | grind))) hg hat); have n2_ := Aside0.mk (Kd.R_over' (by (with_reducible repeat (first | apply Kd.R_alloc | apply Kd.R_drewN | apply Kd.R_drew)); exact HO127.out) (Kd.R_typed (by (with_reducible repeat (first | apply Kd.R_alloc | apply Kd.R_drewN | apply Kd.R_drew)); exact HO_8.out)) (by decide) hg); have n3_ := Aside0.mk (hb); have n4_ := Aside0.mk (ho); clear HO_0; clear HO106; clear HO127; clear HB; clear HO_8; have HO_0 := n0_; have HO106 := n1_; have HO127 := n2_; have HB := n3_; have HO132 := n4_; clear n0_ n1_ n2_ n3_ n4_; clear ho hb hg hat))
              go_roundg kj3
              case measure => have := HK1.out; have := HJ3.out; omega
              case rel => exact ⟨(y102), (y130), H', ⟨by have := HK1.out; have := HJ3.out; omega⟩, ⟨by (with_reducible repeat (first | apply Kd.V_alloc | apply Kd.V_drewN | apply Kd.V_drew)); exact Kd.V_mono HO106.out (fun _ hk => (by first | exact ⟨hk.1.1, hk.2⟩ | grind))⟩, ⟨by (with_reducible repeat (first | apply Kd.R_alloc | apply Kd.R_drewN | apply Kd.R_drew)); exact HO132.out⟩, ⟨by repeat (first | (with_reducible first | exact HB.out | apply below_alloc | apply pw_below_drewN | apply below_drew1) | exact HB.out)⟩⟩
             ·
              rw [if_neg c51] at H
              exact absurd H (by simp)
            ·
             rw [if_neg c50] at H
             exact absurd H (by simp)
           ·
            rw [if_neg c49] at H
            exact absurd H (by simp)
          ·
           rw [if_neg c47] at H
           have c47b0 : (t107 == 2) = false := beq_eq_false_iff_ne.mpr c47
           have c47b1 : (t107 != 2) = true := bne_iff_ne.mpr c47
           by_cases c58 : a1 > 1
           ·
            rw [if_pos c58] at H
            have c58b0 : decide (1 < a1) = true := decide_eq_true c58
            clear c58
            obtain ⟨y133, hy133⟩ : ∃ y_ : List ByteArray, y_ = (([(⟨#[100, 105, 118]⟩ : ByteArray), (⟨#[98]⟩ : ByteArray), (⟨#[101, 109]⟩ : ByteArray), (⟨#[112]⟩ : ByteArray), (⟨#[97]⟩ : ByteArray), (⟨#[117, 108]⟩ : ByteArray)] : List ByteArray)) := ⟨_, rfl⟩
            replace H : ((bobbinetkeep_Picked.f (wrap64 (Int.tdiv (rd x0_1 0) 6)) 6).bind fun t136 => (if 0 ≤ t136 then (if t136 < (y133.length : Int) then ((bobbinetkeep_Picked.f (wrap64 (Int.tdiv (rd x0_1 0) 36)) 3).bind fun t139 => (if t139 = 0 then ((some (([(⟨#[]⟩ : ByteArray), (⟨#[120]⟩ : ByteArray), (⟨#[97, 34, 98, 38]⟩ : ByteArray), (⟨#[60]⟩ : ByteArray), (⟨#[104, 116, 116, 112, 58, 47, 47, 121]⟩ : ByteArray)] : List ByteArray) : List ByteArray)).bind fun y140 => ((bobbinetkeep_Picked.f (wrap64 (Int.tdiv (rd x0_1 0) 100)) 5).bind fun t143 => (if 0 ≤ t143 then (if t143 < (y140.length : Int) then ((bobbinetkeep_Nodes.f kj3 y102 (wrap64 (a1 - 1)) 4).bind fun bt148 => (if x8_1.length < 1759218604441 then (bobbinetkeep_Nodes.l0 kj3 bt148.2 a1 a2 (x8_1 ++ [(⟨rdOf ByteArray.empty y133 t136, (([(⟨(⟨#[104, 114, 101, 102]⟩ : ByteArray), rdOf ByteArray.empty y140 t143⟩ : S68)] : List (S68))), (⟨#[]⟩ : ByteArray), bt148.1⟩ : S28)])) else (none))) else (none)) else (none)))) else ((bobbinetkeep_Nodes.f kj3 y102 (wrap64 (a1 - 1)) 4).bind fun bt157 => (if x8_1.length < 1759218604441 then (bobbinetkeep_Nodes.l0 kj3 bt157.2 a1 a2 (x8_1 ++ [(⟨rdOf ByteArray.empty y133 t136, ([] : List (S68)), (⟨#[]⟩ : ByteArray), bt157.1⟩ : S28)])) else (none))))) else (none)) else (none))) = some (r1, r2) := by first | (rw [hy133]; with_reducible exact H) | (have H2_ := (Option.bind_some _ _).symm.trans H; rw [hy133]; with_reducible exact H2_) | (have H2_ := (Option.bind_some _ _).symm.trans H; with_reducible exact H2_) | with_reducible exact H | (rw [hy133]; exact H) | exact H
            have Ny133 := Aside0.mk hy133
            clear hy133
            replace H := Option.bind_eq_some_iff.mp H
            obtain ⟨t136, A590, H⟩ := H
            replace H : (if 0 ≤ t136 then (if t136 < (y133.length : Int) then ((bobbinetkeep_Picked.f (wrap64 (Int.tdiv (rd x0_1 0) 36)) 3).bind fun t139 => (if t139 = 0 then ((some (([(⟨#[]⟩ : ByteArray), (⟨#[120]⟩ : ByteArray), (⟨#[97, 34, 98, 38]⟩ : ByteArray), (⟨#[60]⟩ : ByteArray), (⟨#[104, 116, 116, 112, 58, 47, 47, 121]⟩ : ByteArray)] : List ByteArray) : List ByteArray)).bind fun y140 => ((bobbinetkeep_Picked.f (wrap64 (Int.tdiv (rd x0_1 0) 100)) 5).bind fun t143 => (if 0 ≤ t143 then (if t143 < (y140.length : Int) then ((bobbinetkeep_Nodes.f kj3 y102 (wrap64 (a1 - 1)) 4).bind fun bt148 => (if x8_1.length < 1759218604441 then (bobbinetkeep_Nodes.l0 kj3 bt148.2 a1 a2 (x8_1 ++ [(⟨rdOf ByteArray.empty y133 t136, (([(⟨(⟨#[104, 114, 101, 102]⟩ : ByteArray), rdOf ByteArray.empty y140 t143⟩ : S68)] : List (S68))), (⟨#[]⟩ : ByteArray), bt148.1⟩ : S28)])) else (none))) else (none)) else (none)))) else ((bobbinetkeep_Nodes.f kj3 y102 (wrap64 (a1 - 1)) 4).bind fun bt157 => (if x8_1.length < 1759218604441 then (bobbinetkeep_Nodes.l0 kj3 bt157.2 a1 a2 (x8_1 ++ [(⟨rdOf ByteArray.empty y133 t136, ([] : List (S68)), (⟨#[]⟩ : ByteArray), bt157.1⟩ : S28)])) else (none))))) else (none)) else (none)) = some (r1, r2) := H
            have A59 := Aside0.mk A590
            clear A590
            by_cases c60 : 0 ≤ t136
            ·
             rw [if_pos c60] at H
             have c60b0 : decide (0 ≤ t136) = true := decide_eq_true c60
             clear c60
             by_cases c61 : t136 < (y133.length : Int)
             ·
              rw [if_pos c61] at H
              have c61b0 : decide (t136 < (y133.length : Int)) = true := decide_eq_true c61
              clear c61
              replace H := Option.bind_eq_some_iff.mp H
              obtain ⟨t139, A620, H⟩ := H
              replace H : (if t139 = 0 then ((some (([(⟨#[]⟩ : ByteArray), (⟨#[120]⟩ : ByteArray), (⟨#[97, 34, 98, 38]⟩ : ByteArray), (⟨#[60]⟩ : ByteArray), (⟨#[104, 116, 116, 112, 58, 47, 47, 121]⟩ : ByteArray)] : List ByteArray) : List ByteArray)).bind fun y140 => ((bobbinetkeep_Picked.f (wrap64 (Int.tdiv (rd x0_1 0) 100)) 5).bind fun t143 => (if 0 ≤ t143 then (if t143 < (y140.length : Int) then ((bobbinetkeep_Nodes.f kj3 y102 (wrap64 (a1 - 1)) 4).bind fun bt148 => (if x8_1.length < 1759218604441 then (bobbinetkeep_Nodes.l0 kj3 bt148.2 a1 a2 (x8_1 ++ [(⟨rdOf ByteArray.empty y133 t136, (([(⟨(⟨#[104, 114, 101, 102]⟩ : ByteArray), rdOf ByteArray.empty y140 t143⟩ : S68)] : List (S68))), (⟨#[]⟩ : ByteArray), bt148.1⟩ : S28)])) else (none))) else (none)) else (none)))) else ((bobbinetkeep_Nodes.f kj3 y102 (wrap64 (a1 - 1)) 4).bind fun bt157 => (if x8_1.length < 1759218604441 then (bobbinetkeep_Nodes.l0 kj3 bt157.2 a1 a2 (x8_1 ++ [(⟨rdOf ByteArray.empty y133 t136, ([] : List (S68)), (⟨#[]⟩ : ByteArray), bt157.1⟩ : S28)])) else (none)))) = some (r1, r2) := H
              have A62 := Aside0.mk A620
              clear A620
              by_cases c63 : t139 = 0
              ·
               rw [if_pos c63] at H
               have c63b0 : (t139 == 0) = true := beq_iff_eq.mpr c63
               have c63b1 : (t139 != 0) = false := bne_eq_false_iff_eq.mpr c63
               clear c63
               obtain ⟨y140, hy140⟩ : ∃ y_ : List ByteArray, y_ = (([(⟨#[]⟩ : ByteArray), (⟨#[120]⟩ : ByteArray), (⟨#[97, 34, 98, 38]⟩ : ByteArray), (⟨#[60]⟩ : ByteArray), (⟨#[104, 116, 116, 112, 58, 47, 47, 121]⟩ : ByteArray)] : List ByteArray)) := ⟨_, rfl⟩
               replace H : ((bobbinetkeep_Picked.f (wrap64 (Int.tdiv (rd x0_1 0) 100)) 5).bind fun t143 => (if 0 ≤ t143 then (if t143 < (y140.length : Int) then ((bobbinetkeep_Nodes.f kj3 y102 (wrap64 (a1 - 1)) 4).bind fun bt148 => (if x8_1.length < 1759218604441 then (bobbinetkeep_Nodes.l0 kj3 bt148.2 a1 a2 (x8_1 ++ [(⟨rdOf ByteArray.empty y133 t136, (([(⟨(⟨#[104, 114, 101, 102]⟩ : ByteArray), rdOf ByteArray.empty y140 t143⟩ : S68)] : List (S68))), (⟨#[]⟩ : ByteArray), bt148.1⟩ : S28)])) else (none))) else (none)) else (none))) = some (r1, r2) := by first | (rw [hy140]; with_reducible exact H) | (have H2_ := (Option.bind_some _ _).symm.trans H; rw [hy140]; with_reducible exact H2_) | (have H2_ := (Option.bind_some _ _).symm.trans H; with_reducible exact H2_) | with_reducible exact H | (rw [hy140]; exact H) | exact H
               have Ny140 := Aside0.mk hy140
               clear hy140
               replace H := Option.bind_eq_some_iff.mp H
               obtain ⟨t143, A640, H⟩ := H
               replace H : (if 0 ≤ t143 then (if t143 < (y140.length : Int) then ((bobbinetkeep_Nodes.f kj3 y102 (wrap64 (a1 - 1)) 4).bind fun bt148 => (if x8_1.length < 1759218604441 then (bobbinetkeep_Nodes.l0 kj3 bt148.2 a1 a2 (x8_1 ++ [(⟨rdOf ByteArray.empty y133 t136, (([(⟨(⟨#[104, 114, 101, 102]⟩ : ByteArray), rdOf ByteArray.empty y140 t143⟩ : S68)] : List (S68))), (⟨#[]⟩ : ByteArray), bt148.1⟩ : S28)])) else (none))) else (none)) else (none)) = some (r1, r2) := H
               have A64 := Aside0.mk A640
               clear A640
               by_cases c65 : 0 ≤ t143
               ·
                rw [if_pos c65] at H
                have c65b0 : decide (0 ≤ t143) = true := decide_eq_true c65
                clear c65
                by_cases c66 : t143 < (y140.length : Int)
                ·
                 rw [if_pos c66] at H
                 have c66b0 : decide (t143 < (y140.length : Int)) = true := decide_eq_true c66
                 clear c66
                 obtain ⟨y145, hy145⟩ : ∃ y_ : List (S68), y_ = (([(⟨(⟨#[104, 114, 101, 102]⟩ : ByteArray), rdOf ByteArray.empty y140 t143⟩ : S68)] : List (S68))) := ⟨_, rfl⟩
                 replace H : ((bobbinetkeep_Nodes.f kj3 y102 (wrap64 (a1 - 1)) 4).bind fun bt148 => (if x8_1.length < 1759218604441 then (bobbinetkeep_Nodes.l0 kj3 bt148.2 a1 a2 (x8_1 ++ [(⟨rdOf ByteArray.empty y133 t136, y145, (⟨#[]⟩ : ByteArray), bt148.1⟩ : S28)])) else (none))) = some (r1, r2) := by first | (rw [hy145]; with_reducible exact H) | (have H2_ := (Option.bind_some _ _).symm.trans H; rw [hy145]; with_reducible exact H2_) | (have H2_ := (Option.bind_some _ _).symm.trans H; with_reducible exact H2_) | with_reducible exact H | (rw [hy145]; exact H) | exact H
                 have Ny145 := Aside0.mk hy145
                 clear hy145
                 replace H := Option.bind_eq_some_iff.mp H
                 obtain ⟨⟨t148, t151⟩, A670, H⟩ := H
                 replace H : (if x8_1.length < 1759218604441 then (bobbinetkeep_Nodes.l0 kj3 t151 a1 a2 (x8_1 ++ [(⟨rdOf ByteArray.empty y133 t136, y145, (⟨#[]⟩ : ByteArray), t148⟩ : S28)])) else (none)) = some (r1, r2) := H
                 have A67 := Aside0.mk A670
                 clear A670
                 by_cases c68 : x8_1.length < 1759218604441
                 ·
                  rw [if_pos c68] at H
                  have LMc68 := Aside0.mk c68
                  clear c68
                  obtain ⟨y154, hy154⟩ : ∃ y_ : List (S28), y_ = (x8_1 ++ [(⟨rdOf ByteArray.empty y133 t136, y145, (⟨#[]⟩ : ByteArray), t148⟩ : S28)]) := ⟨_, rfl⟩
                  replace H : (bobbinetkeep_Nodes.l0 kj3 t151 a1 a2 y154) = some (r1, r2) := by first | (rw [hy154]; with_reducible exact H) | (have H2_ := (Option.bind_some _ _).symm.trans H; rw [hy154]; with_reducible exact H2_) | (have H2_ := (Option.bind_some _ _).symm.trans H; with_reducible exact H2_) | with_reducible exact H | (rw [hy154]; exact H) | exact H
                  have Ny154 := Aside0.mk hy154
                  clear hy154
                  have H' := Aside0.mk H
                  clear H
                  obtain ⟨Ao69, co69, eo69⟩ := Kd.V_slice HO_0.out
                  subst eo69
                  have p101 : 0 ≤ (0 : Int) := (by omega)
                  have q101 : 0 < (x0_1.length : Int) := of_decide_eq_true (by first | (with_reducible assumption) | assumption)
                  obtain ⟨ad101, e101, hx101_0⟩ := Kd.at_int (Kd.V_reads' HO_0.out).2.2 0 p101 q101
                  cases e101
                  have qi101 : (0 < x0_1.length) = True := eq_true (by omega)
                  (try rw [show ((0 : Int)).toNat = 0 from rfl] at hx101_0)
                  (try rw [Addr.add_zero'] at hx101_0)
                  replace p101 := eq_true p101
                  replace q101 := eq_true q101
                  have q70 : (1 : Int) ≤ ((x0_1.length : Int) : Int) := of_decide_eq_true (by first | (with_reducible assumption) | assumption)
                  obtain ⟨i070, hi070, _, hsz70, _⟩ := info_parts info3
                  have hroom70 : x0_1.length ≤ co69 := (Kd.V_reads' HO_0.out).2.1
                  have hC70 : Kd.F (Kd.int .i64) _ _ (some ad101) x0_1.length x0_1 := (Kd.V_at (base := w.heap.size) HO_0.out).2.2
                  have hcut70 := cut_from (P := Try.prog) 22 3 .i64 Try.underlying22 hi070 1 hsz70 (some ad101) x0_1.length co69 1 (by omega) q70
                  have hr70 := Kd.F_cut (m := (1 : Int).toNat) (c := co69) hC70 (by omega) hroom70
                  obtain ⟨A70, hA70⟩ : ∃ A1, A1 = (if co69 = (1 : Int).toNat then (some ad101) else ((some ad101) : Option Addr).map (·.add ((1 : Int).toNat * 1))) := ⟨_, rfl⟩
                  obtain ⟨c70, hc70⟩ : ∃ c1, c1 = co69 - (1 : Int).toNat := ⟨_, rfl⟩
                  have hy70 : y102.length = x0_1.length - (1 : Int).toNat := (by rw [Ny102.out, List.length_drop] <;> omega)
                  rw [show (x0_1).drop (1 : Int).toNat = y102 from Ny102.out.symm] at hr70
                  replace hr70 : Kd.F (Kd.int .i64) _ _ A70 y102.length y102 := (by rw [hA70]; exact hr70)
                  rw [← hy70, ← hA70, ← hc70] at hcut70
                  have HO106 := Aside0.mk (show Kd.V (Kd.int .i64) 3 _ w.heap.size _ (.slice A70 y102.length c70) y102 from Kd.V_mk (by rw [hy70, hc70]; exact Nat.sub_le_sub_right hroom70 _) hr70)
                  have HC106 := Aside0.mk (show y102.length ≤ c70 from by rw [hy70, hc70]; exact Nat.sub_le_sub_right hroom70 _)
                  clear hr70 hC70 hroom70 hi070 hsz70 hc70
                  have KY70 := Aside0.mk hy70
                  have KA70 := Aside0.mk hA70
                  clear hy70 hA70
                  replace q70 := eq_true q70
                  go_wp2_with (first | ((with_reducible refine gate_callee (f := 22) rfl ?_); refine goesL_ (some 28) rfl rfl Try.func22 (by kernel_rfl) rfl #[.int .i64 (rd x0_1 0), .int .i64 6] rfl (by (try simp only [List.map_toArray, List.map_cons, List.map_nil]); first | done | rfl | (simp only [List.length_drop, List.length_take]; rfl)) ?_; (with_reducible refine (bobbinetkeep_Picked.calls (rd x0_1 0) 6 t107 _ A12.out).mono ?_); rintro e w' ⟨rfl, ⟨nd, rfl⟩⟩; refine ⟨_, rfl, ?_⟩; (try (rw [drewN_self wc]; generalize hq_ : World.drewN wc _ = wc; have n0_ : Aside0 (Kd.V (Kd.int .i64) 3 wc w.heap.size (fun k_ => (P0_ k_ ∨ w.heap.size ≤ k_) ∧ some k_ ≠ (u8 : Value).ownBlock) (.slice A70 y102.length c70) y102) := ⟨by rw [← hq_]; exact (by (with_reducible repeat (first | apply Kd.V_alloc | apply Kd.V_drewN | apply Kd.V_drew)); exact HO106.out)⟩; have n1_ : Aside0 (Kd.V (Kd.int .i64) 3 wc w.heap.size (fun k_ => (P0_ k_ ∨ w.heap.size ≤ k_) ∧ some k_ ≠ (u8 : Value).ownBlock) (.slice (some ad101) x0_1.length co69) x0_1) := ⟨by rw [← hq_]; exact (by (with_reducible repeat (first | apply Kd.V_alloc | apply Kd.V_drewN | apply Kd.V_drew)); exact HO_0.out)⟩; have n2_ : Aside0 (Kd.R k28 28 wc w.heap.size (fun k_ => (w.heap.size ≤ k_)) u8 x8_1) := ⟨by rw [← hq_]; exact (by (with_reducible repeat (first | apply Kd.R_alloc | apply Kd.R_drewN | apply Kd.R_drew)); exact HO_8.out)⟩; have n3_ : Aside0 (Below w.heap.size w wc) := ⟨by rw [← hq_]; exact (by repeat (first | (with_reducible first | exact HB.out | apply below_alloc | apply pw_below_drewN | apply below_drew1) | exact HB.out))⟩; clear HO106 HO_0 HO_8 HB hq_; have HO106 := n0_; have HO_0 := n1_; have HO_8 := n2_; have HB := n3_; clear n0_ n1_ n2_ n3_))) | ((with_reducible refine gate_dst (N := 76) rfl ?_); (try (refine gate_guard (by rfl) ?_; dsimp only)); refine Kd.R_lit Kd.string _ 9 ?hg (N := 76) ?hd (xs := ([(⟨#[100, 105, 118]⟩ : ByteArray), (⟨#[98]⟩ : ByteArray), (⟨#[101, 109]⟩ : ByteArray), (⟨#[112]⟩ : ByteArray), (⟨#[97]⟩ : ByteArray), (⟨#[117, 108]⟩ : ByteArray)] : List ByteArray)) (inner := [.string (⟨#[100, 105, 118]⟩ : ByteArray), .string (⟨#[98]⟩ : ByteArray), .string (⟨#[101, 109]⟩ : ByteArray), .string (⟨#[112]⟩ : ByteArray), .string (⟨#[97]⟩ : ByteArray), .string (⟨#[117, 108]⟩ : ByteArray)]) (ok := fun _ => True) (okp := fun _ => True) ?hr ?hp (fun _ hk => hk) trivial (Below.refl _ _) (Nat.le_refl _) (by simp) ?_; (case hd => rfl); (case hg => rfl); (case hr => first | (go_simp; done) | (go_simp; rfl)); (case hp => exact (Reps.one (show Kd.M Kd.string _ _ _ (⟨#[100, 105, 118]⟩ : ByteArray) [.string (⟨#[100, 105, 118]⟩ : ByteArray)] from rfl) (Reps.one (show Kd.M Kd.string _ _ _ (⟨#[98]⟩ : ByteArray) [.string (⟨#[98]⟩ : ByteArray)] from rfl) (Reps.one (show Kd.M Kd.string _ _ _ (⟨#[101, 109]⟩ : ByteArray) [.string (⟨#[101, 109]⟩ : ByteArray)] from rfl) (Reps.one (show Kd.M Kd.string _ _ _ (⟨#[112]⟩ : ByteArray) [.string (⟨#[112]⟩ : ByteArray)] from rfl) (Reps.one (show Kd.M Kd.string _ _ _ (⟨#[97]⟩ : ByteArray) [.string (⟨#[97]⟩ : ByteArray)] from rfl) (Reps.one (show Kd.M Kd.string _ _ _ (⟨#[117, 108]⟩ : ByteArray) [.string (⟨#[117, 108]⟩ : ByteArray)] from rfl) (Reps.none _ _)))))))); intro v134 w71 ho72 hb hg_ hnew_; clear hg_ hnew_; (first | rw [← Ny133.out] at ho72 | (simp only [Int.reduceToNat] at ho72; rw [← Ny133.out] at ho72)); have n0_ := Aside0.mk (Kd.V_elder' (by (with_reducible repeat (first | apply Kd.V_alloc | apply Kd.V_drewN | apply Kd.V_drew)); exact HO_0.out) (Kd.R_base ho72) hb); have n1_ := Aside0.mk (Kd.R_below (by (with_reducible repeat (first | apply Kd.R_alloc | apply Kd.R_drewN | apply Kd.R_drew)); exact HO_8.out) hb); have n2_ := Aside0.mk (Kd.V_elder' (by (with_reducible repeat (first | apply Kd.V_alloc | apply Kd.V_drewN | apply Kd.V_drew)); exact HO106.out) (Kd.R_base ho72) hb); have n3_ := Aside0.mk (Kd.R_lower (Kd.R_newM (M := fun k_ => (w.heap.size ≤ k_)) ho72 (below_size (by repeat (first | (with_reducible first | exact HB.out | apply below_alloc | apply pw_below_drewN | apply below_drew1) | exact HB.out))) (fun k_ h_ => h_)) (below_size (by repeat (first | (with_reducible first | exact HB.out | apply below_alloc | apply pw_below_drewN | apply below_drew1) | exact HB.out)))); have n4_ := Aside0.mk (below_step (by repeat (first | (with_reducible first | exact HB.out | apply below_alloc | apply pw_below_drewN | apply below_drew1) | exact HB.out)) hb); clear HO_0; clear HO_8; clear HO106; clear HB; have HO_0 := n0_; have HO_8 := n1_; have HO106 := n2_; have HO135 := n3_; have HB := n4_; clear n0_ n1_ n2_ n3_ n4_; clear hb ho72) | ((with_reducible refine gate_callee (f := 22) rfl ?_); refine goesL_ (some 79) rfl rfl Try.func22 (by kernel_rfl) rfl #[.int .i64 (wrap64 (Int.tdiv (rd x0_1 0) 6)), .int .i64 6] rfl (by (try simp only [List.map_toArray, List.map_cons, List.map_nil]); first | done | rfl | (simp only [List.length_drop, List.length_take]; rfl)) ?_; (with_reducible refine (bobbinetkeep_Picked.calls (wrap64 (Int.tdiv (rd x0_1 0) 6)) 6 t136 _ A59.out).mono ?_); rintro e w' ⟨rfl, ⟨nd, rfl⟩⟩; refine ⟨_, rfl, ?_⟩; (try (rw [drewN_self w71]; generalize hq_ : World.drewN w71 _ = w71; have n0_ : Aside0 (Kd.V (Kd.int .i64) 3 w71 w.heap.size (fun k_ => (P0_ k_ ∨ w.heap.size ≤ k_) ∧ some k_ ≠ (v134 : Value).ownBlock ∧ some k_ ≠ (u8 : Value).ownBlock) (.slice A70 y102.length c70) y102) := ⟨by rw [← hq_]; exact (by (with_reducible repeat (first | apply Kd.V_alloc | apply Kd.V_drewN | apply Kd.V_drew)); exact Kd.V_mono HO106.out (fun _ hk => (by first | exact ⟨hk.1.1, ⟨hk.2, hk.1.2⟩⟩ | grind)))⟩; have n1_ : Aside0 (Kd.R Kd.string 9 w71 w.heap.size (fun k_ => (w.heap.size ≤ k_)) v134 y133) := ⟨by rw [← hq_]; exact (by (with_reducible repeat (first | apply Kd.R_alloc | apply Kd.R_drewN | apply Kd.R_drew)); exact Kd.R_mono HO135.out (fun _ hk => (by first | exact hk.1 | grind)))⟩; have n2_ : Aside0 (Kd.V (Kd.int .i64) 3 w71 w.heap.size (fun k_ => (P0_ k_ ∨ w.heap.size ≤ k_) ∧ some k_ ≠ (v134 : Value).ownBlock ∧ some k_ ≠ (u8 : Value).ownBlock) (.slice (some ad101) x0_1.length co69) x0_1) := ⟨by rw [← hq_]; exact (by (with_reducible repeat (first | apply Kd.V_alloc | apply Kd.V_drewN | apply Kd.V_drew)); exact Kd.V_mono HO_0.out (fun _ hk => (by first | exact ⟨hk.1.1, ⟨hk.2, hk.1.2⟩⟩ | grind)))⟩; have n3_ : Aside0 (Kd.R k28 28 w71 w.heap.size (fun k_ => (w.heap.size ≤ k_)) u8 x8_1) := ⟨by rw [← hq_]; exact (by (with_reducible repeat (first | apply Kd.R_alloc | apply Kd.R_drewN | apply Kd.R_drew)); exact HO_8.out)⟩; have n4_ : Aside0 (Below w.heap.size w w71) := ⟨by rw [← hq_]; exact (by repeat (first | (with_reducible first | exact HB.out | apply below_alloc | apply pw_below_drewN | apply below_drew1) | exact HB.out))⟩; clear HO106 HO135 HO_0 HO_8 HB hq_; have HO106 := n0_; have HO135 := n1_; have HO_0 := n2_; have HO_8 := n3_; have HB := n4_; clear n0_ n1_ n2_ n3_ n4_)); obtain ⟨Ao73, co73, eo73⟩ := Kd.R_slice HO135.out; subst eo73; have p137 : 0 ≤ (t136 : Int) := of_decide_eq_true (by first | (with_reducible assumption) | assumption); have q137 : t136 < (y133.length : Int) := of_decide_eq_true (by first | (with_reducible assumption) | assumption); obtain ⟨ad137, e137, hx137_0⟩ := Kd.at_string (Kd.R_reads' HO135.out).2.2 t136 p137 q137; cases e137; replace p137 := eq_true p137; replace q137 := eq_true q137) | ((with_reducible refine gate_dst (N := 12) rfl ?_); (try (refine gate_guard (by rfl) ?_; dsimp only)); refine box_event ?hg (N := 12) ?hd (cs := #[.string (⟨#[]⟩ : ByteArray), .slice none 0 0, .string (⟨#[]⟩ : ByteArray), .slice none 0 0]) (t := 28) ?hr ?_; (case hd => rfl); (case hg => rfl); (case hr => first | (go_simp; done) | (go_simp; rfl)); intro gb138 hg w74 hbox hb; have n0_ := Aside0.mk (Kd.V_below (Kd.V_elderB (by (with_reducible repeat (first | apply Kd.V_alloc | apply Kd.V_drewN | apply Kd.V_drew)); exact HO_0.out) gb138 (Nat.le_of_eq hg.symm)) hb); have n1_ := Aside0.mk (Kd.R_below (Kd.R_elderB (by (with_reducible repeat (first | apply Kd.R_alloc | apply Kd.R_drewN | apply Kd.R_drew)); exact HO_8.out) gb138 (Nat.le_of_eq hg.symm)) hb); have n2_ := Aside0.mk (Kd.V_below (Kd.V_elderB (by (with_reducible repeat (first | apply Kd.V_alloc | apply Kd.V_drewN | apply Kd.V_drew)); exact HO106.out) gb138 (Nat.le_of_eq hg.symm)) hb); have n3_ := Aside0.mk (Kd.R_below (by (with_reducible repeat (first | apply Kd.R_alloc | apply Kd.R_drewN | apply Kd.R_drew)); exact HO135.out) hb); have n4_ := Aside0.mk (below_step (by repeat (first | (with_reducible first | exact HB.out | apply below_alloc | apply pw_below_drewN | apply below_drew1) | exact HB.out)) hb); have n5_ := Aside0.mk (hbox); have n6_ := Aside0.mk ((by rw [hg]; exact (below_size (by repeat (first | (with_reducible first | exact HB.out | apply below_alloc | apply pw_below_drewN | apply below_drew1) | exact HB.out))) : w.heap.size ≤ gb138)); have n7_ := Aside0.mk ((by rw [hg]; exact (below_size (by repeat (first | (with_reducible first | exact HB.out | apply below_alloc | apply pw_below_drewN | apply below_drew1) | exact HB.out))) : w.heap.size ≤ gb138)); clear HO_0; clear HO_8; clear HO106; clear HO135; clear HB; have HO_0 := n0_; have HO_8 := n1_; have HO106 := n2_; have HO135 := n3_; have HB := n4_; have BK138 := n5_; have GW138 := n6_; have GE138 := n7_; clear n0_ n1_ n2_ n3_ n4_ n5_ n6_ n7_; clear hb hbox hg; have hcz75_0 : w74.cell? ⟨gb138, 0, none⟩ = some (.string (⟨#[]⟩ : ByteArray)) := (blk_cell BK138.out 0).trans rfl; have hcz75_1 : w74.cell? ⟨gb138, 1, none⟩ = some (.slice none 0 0) := (blk_cell BK138.out 1).trans rfl; have hcz75_2 : w74.cell? ⟨gb138, 2, none⟩ = some (.string (⟨#[]⟩ : ByteArray)) := (blk_cell BK138.out 2).trans rfl; have hcz75_3 : w74.cell? ⟨gb138, 3, none⟩ = some (.slice none 0 0) := (blk_cell BK138.out 3).trans rfl; have hfz75_0 := blk_frozen BK138.out 0; have hfz75_1 := blk_frozen BK138.out 1; have hfz75_2 := blk_frozen BK138.out 2; have hfz75_3 := blk_frozen BK138.out 3) | ((with_reducible refine gate_callee (f := 22) rfl ?_); refine goesL_ (some 85) rfl rfl Try.func22 (by kernel_rfl) rfl #[.int .i64 (wrap64 (Int.tdiv (rd x0_1 0) 36)), .int .i64 3] rfl (by (try simp only [List.map_toArray, List.map_cons, List.map_nil]); first | done | rfl | (simp only [List.length_drop, List.length_take]; rfl)) ?_; (with_reducible refine (bobbinetkeep_Picked.calls (wrap64 (Int.tdiv (rd x0_1 0) 36)) 3 t139 _ A62.out).mono ?_); rintro e w' ⟨rfl, ⟨nd, rfl⟩⟩; refine ⟨_, rfl, ?_⟩) | ((with_reducible refine gate_dst (N := 87) rfl ?_); (try (refine gate_guard (by rfl) ?_; dsimp only)); refine Kd.R_lit Kd.string _ 9 ?hg (N := 87) ?hd (xs := ([(⟨#[]⟩ : ByteArray), (⟨#[120]⟩ : ByteArray), (⟨#[97, 34, 98, 38]⟩ : ByteArray), (⟨#[60]⟩ : ByteArray), (⟨#[104, 116, 116, 112, 58, 47, 47, 121]⟩ : ByteArray)] : List ByteArray)) (inner := [.string (⟨#[]⟩ : ByteArray), .string (⟨#[120]⟩ : ByteArray), .string (⟨#[97, 34, 98, 38]⟩ : ByteArray), .string (⟨#[60]⟩ : ByteArray), .string (⟨#[104, 116, 116, 112, 58, 47, 47, 121]⟩ : ByteArray)]) (ok := fun _ => True) (okp := fun _ => True) ?hr ?hp (fun _ hk => hk) trivial (Below.refl _ _) (Nat.le_refl _) (by simp) ?_; (case hd => rfl); (case hg => rfl); (case hr => first | (go_simp; done) | (go_simp; rfl)); (case hp => exact (Reps.one (show Kd.M Kd.string _ _ _ (⟨#[]⟩ : ByteArray) [.string (⟨#[]⟩ : ByteArray)] from rfl) (Reps.one (show Kd.M Kd.string _ _ _ (⟨#[120]⟩ : ByteArray) [.string (⟨#[120]⟩ : ByteArray)] from rfl) (Reps.one (show Kd.M Kd.string _ _ _ (⟨#[97, 34, 98, 38]⟩ : ByteArray) [.string (⟨#[97, 34, 98, 38]⟩ : ByteArray)] from rfl) (Reps.one (show Kd.M Kd.string _ _ _ (⟨#[60]⟩ : ByteArray) [.string (⟨#[60]⟩ : ByteArray)] from rfl) (Reps.one (show Kd.M Kd.string _ _ _ (⟨#[104, 116, 116, 112, 58, 47, 47, 121]⟩ : ByteArray) [.string (⟨#[104, 116, 116, 112, 58, 47, 47, 121]⟩ : ByteArray)] from rfl) (Reps.none _ _))))))); intro v141 w76 ho77 hb hg_ hnew_; clear hg_ hnew_; (first | rw [← Ny140.out] at ho77 | (simp only [Int.reduceToNat] at ho77; rw [← Ny140.out] at ho77)); have n0_ := Aside0.mk (Kd.V_elder' (by (with_reducible repeat (first | apply Kd.V_alloc | apply Kd.V_drewN | apply Kd.V_drew)); exact (Kd.V_mono (Kd.V_far (p := ⟨gb138, 3, none⟩) (Kd.V_far (p := ⟨gb138, 2, none⟩) (Kd.V_far (p := ⟨gb138, 1, none⟩) (Kd.V_far (p := ⟨gb138, 0, none⟩) (Kd.V_mono HO_0.out (fun k_ hk => (⟨hk, (by first | exact hk.2 | grind)⟩ : _ ∧ k_ ≠ gb138))) (fun _ hk => hk.2) (.string (rdOf ByteArray.empty y133 t136))) (fun _ hk => hk.2) (.slice none 0 0)) (fun _ hk => hk.2) (.string (⟨#[]⟩ : ByteArray))) (fun _ hk => hk.2) (.slice none 0 0)) (fun _ h_ => h_.1))) (Kd.R_base ho77) hb); have n1_ := Aside0.mk (Kd.R_below (by (with_reducible repeat (first | apply Kd.R_alloc | apply Kd.R_drewN | apply Kd.R_drew)); exact (Kd.R_mono (Kd.R_far (p := ⟨gb138, 3, none⟩) (Kd.R_far (p := ⟨gb138, 2, none⟩) (Kd.R_far (p := ⟨gb138, 1, none⟩) (Kd.R_far (p := ⟨gb138, 0, none⟩) (Kd.R_mono HO_8.out (fun k_ hk => (⟨hk, (by first | exact hk.2 | grind)⟩ : _ ∧ k_ ≠ gb138))) (fun _ hk => hk.2) (.string (rdOf ByteArray.empty y133 t136))) (fun _ hk => hk.2) (.slice none 0 0)) (fun _ hk => hk.2) (.string (⟨#[]⟩ : ByteArray))) (fun _ hk => hk.2) (.slice none 0 0)) (fun _ h_ => h_.1))) hb); have n2_ := Aside0.mk (Kd.V_elder' (by (with_reducible repeat (first | apply Kd.V_alloc | apply Kd.V_drewN | apply Kd.V_drew)); exact (Kd.V_mono (Kd.V_far (p := ⟨gb138, 3, none⟩) (Kd.V_far (p := ⟨gb138, 2, none⟩) (Kd.V_far (p := ⟨gb138, 1, none⟩) (Kd.V_far (p := ⟨gb138, 0, none⟩) (Kd.V_mono HO106.out (fun k_ hk => (⟨hk, (by first | exact hk.2 | grind)⟩ : _ ∧ k_ ≠ gb138))) (fun _ hk => hk.2) (.string (rdOf ByteArray.empty y133 t136))) (fun _ hk => hk.2) (.slice none 0 0)) (fun _ hk => hk.2) (.string (⟨#[]⟩ : ByteArray))) (fun _ hk => hk.2) (.slice none 0 0)) (fun _ h_ => h_.1))) (Kd.R_base ho77) hb); have n3_ := Aside0.mk (Kd.R_elder' (by (with_reducible repeat (first | apply Kd.R_alloc | apply Kd.R_drewN | apply Kd.R_drew)); exact (Kd.R_mono (Kd.R_far (p := ⟨gb138, 3, none⟩) (Kd.R_far (p := ⟨gb138, 2, none⟩) (Kd.R_far (p := ⟨gb138, 1, none⟩) (Kd.R_far (p := ⟨gb138, 0, none⟩) (Kd.R_types HO135.out BK138.out (by decide)) (fun _ hk => hk.2) (.string (rdOf ByteArray.empty y133 t136))) (fun _ hk => hk.2) (.slice none 0 0)) (fun _ hk => hk.2) (.string (⟨#[]⟩ : ByteArray))) (fun _ hk => hk.2) (.slice none 0 0)) (fun _ h_ => h_.1))) (Kd.R_base ho77) hb); have n4_ := Aside0.mk (Kd.R_lower (Kd.R_new' (Kd.R_newM (M := fun k_ => (w.heap.size ≤ k_)) ho77 (below_size (by repeat (first | (with_reducible first | exact HB.out | apply below_alloc | apply pw_below_drewN | apply below_drew1 | refine below_set ?_ GE138.out) | exact HB.out))) (fun k_ h_ => h_)) (Kd.R_lt (by (with_reducible repeat (first | apply Kd.R_alloc | apply Kd.R_drewN | apply Kd.R_drew)); exact (Kd.R_mono (Kd.R_far (p := ⟨gb138, 3, none⟩) (Kd.R_far (p := ⟨gb138, 2, none⟩) (Kd.R_far (p := ⟨gb138, 1, none⟩) (Kd.R_far (p := ⟨gb138, 0, none⟩) (Kd.R_types HO135.out BK138.out (by decide)) (fun _ hk => hk.2) (.string (rdOf ByteArray.empty y133 t136))) (fun _ hk => hk.2) (.slice none 0 0)) (fun _ hk => hk.2) (.string (⟨#[]⟩ : ByteArray))) (fun _ hk => hk.2) (.slice none 0 0)) (fun _ h_ => h_.1))))) (below_size (by repeat (first | (with_reducible first | exact HB.out | apply below_alloc | apply pw_below_drewN | apply below_drew1 | refine below_set ?_ GE138.out) | exact HB.out)))); have n5_ := Aside0.mk (blk_below (g := gb138) (o := .cells #[.string (rdOf ByteArray.empty y133 t136), .slice none 0 0, .string (⟨#[]⟩ : ByteArray), .slice none 0 0] 28 (0, 0)) (by (with_reducible repeat (first | refine blk_drewN ?_ _ | refine blk_drew ?_ | refine blk_alloc ?_ _)); refine blk_put (cs := #[.string (rdOf ByteArray.empty y133 t136), .slice none 0 0, .string (⟨#[]⟩ : ByteArray), .slice none 0 0]) ?_ 3 _ rfl; (with_reducible repeat (first | refine blk_drewN ?_ _ | refine blk_drew ?_ | refine blk_alloc ?_ _)); refine blk_put (cs := #[.string (rdOf ByteArray.empty y133 t136), .slice none 0 0, .string (⟨#[]⟩ : ByteArray), .slice none 0 0]) ?_ 2 _ rfl; (with_reducible repeat (first | refine blk_drewN ?_ _ | refine blk_drew ?_ | refine blk_alloc ?_ _)); refine blk_put (cs := #[.string (rdOf ByteArray.empty y133 t136), .slice none 0 0, .string (⟨#[]⟩ : ByteArray), .slice none 0 0]) ?_ 1 _ rfl; (with_reducible repeat (first | refine blk_drewN ?_ _ | refine blk_drew ?_ | refine blk_alloc ?_ _)); refine blk_put (cs := #[.string (⟨#[]⟩ : ByteArray), .slice none 0 0, .string (⟨#[]⟩ : ByteArray), .slice none 0 0]) ?_ 0 _ rfl; (with_reducible repeat (first | refine blk_drewN ?_ _ | refine blk_drew ?_ | refine blk_alloc ?_ _)); exact BK138.out) hb); have n6_ := Aside0.mk (below_step (by repeat (first | (with_reducible first | exact HB.out | apply below_alloc | apply pw_below_drewN | apply below_drew1 | refine below_set ?_ GE138.out) | exact HB.out)) hb); clear HO_0; clear HO_8; clear HO106; clear HO135; clear BK138; clear HB; have HO_0 := n0_; have HO_8 := n1_; have HO106 := n2_; have HO135 := n3_; have HO142 := n4_; have BK138 := n5_; have HB := n6_; clear n0_ n1_ n2_ n3_ n4_ n5_ n6_; clear hb ho77) | ((with_reducible refine gate_callee (f := 22) rfl ?_); refine goesL_ (some 90) rfl rfl Try.func22 (by kernel_rfl) rfl #[.int .i64 (wrap64 (Int.tdiv (rd x0_1 0) 100)), .int .i64 5] rfl (by (try simp only [List.map_toArray, List.map_cons, List.map_nil]); first | done | rfl | (simp only [List.length_drop, List.length_take]; rfl)) ?_; (with_reducible refine (bobbinetkeep_Picked.calls (wrap64 (Int.tdiv (rd x0_1 0) 100)) 5 t143 _ A64.out).mono ?_); rintro e w' ⟨rfl, ⟨nd, rfl⟩⟩; refine ⟨_, rfl, ?_⟩; (try (rw [drewN_self w76]; generalize hq_ : World.drewN w76 _ = w76; have n0_ : Aside0 (Kd.V (Kd.int .i64) 3 w76 w.heap.size (fun k_ => (P0_ k_ ∨ w.heap.size ≤ k_) ∧ some k_ ≠ (.slice (some ad137) y133.length co73 : Value).ownBlock ∧ some k_ ≠ (v141 : Value).ownBlock ∧ some k_ ≠ (u8 : Value).ownBlock ∧ k_ ≠ gb138) (.slice A70 y102.length c70) y102) := ⟨by rw [← hq_]; exact (by (with_reducible repeat (first | apply Kd.V_alloc | apply Kd.V_drewN | apply Kd.V_drew)); exact Kd.V_mono HO106.out (fun _ hk => (by first | exact ⟨hk.1.1.1.1, ⟨hk.1.1.2, ⟨hk.2, ⟨hk.1.1.1.2, hk.1.2⟩⟩⟩⟩ | grind)))⟩; have n1_ : Aside0 (Kd.R Kd.string 9 w76 w.heap.size (fun k_ => (w.heap.size ≤ k_) ∧ some k_ ≠ (v141 : Value).ownBlock) (.slice (some ad137) y133.length co73) y133) := ⟨by rw [← hq_]; exact (by (with_reducible repeat (first | apply Kd.R_alloc | apply Kd.R_drewN | apply Kd.R_drew)); exact Kd.R_mono HO135.out (fun _ hk => (by first | exact ⟨hk.1.1, hk.2⟩ | grind)))⟩; have n2_ : Aside0 (Kd.R Kd.string 9 w76 w.heap.size (fun k_ => (w.heap.size ≤ k_) ∧ some k_ ≠ (.slice (some ad137) y133.length co73 : Value).ownBlock) v141 y140) := ⟨by rw [← hq_]; exact (by (with_reducible repeat (first | apply Kd.R_alloc | apply Kd.R_drewN | apply Kd.R_drew)); exact Kd.R_mono HO142.out (fun _ hk => (by first | exact ⟨hk.1.1, hk.2⟩ | grind)))⟩; have n3_ : Aside0 (Kd.V (Kd.int .i64) 3 w76 w.heap.size (fun k_ => (P0_ k_ ∨ w.heap.size ≤ k_) ∧ some k_ ≠ (.slice (some ad137) y133.length co73 : Value).ownBlock ∧ some k_ ≠ (v141 : Value).ownBlock ∧ some k_ ≠ (u8 : Value).ownBlock ∧ k_ ≠ gb138) (.slice (some ad101) x0_1.length co69) x0_1) := ⟨by rw [← hq_]; exact (by (with_reducible repeat (first | apply Kd.V_alloc | apply Kd.V_drewN | apply Kd.V_drew)); exact Kd.V_mono HO_0.out (fun _ hk => (by first | exact ⟨hk.1.1.1.1, ⟨hk.1.1.2, ⟨hk.2, ⟨hk.1.1.1.2, hk.1.2⟩⟩⟩⟩ | grind)))⟩; have n4_ : Aside0 (Kd.R k28 28 w76 w.heap.size (fun k_ => (w.heap.size ≤ k_) ∧ k_ ≠ gb138) u8 x8_1) := ⟨by rw [← hq_]; exact (by (with_reducible repeat (first | apply Kd.R_alloc | apply Kd.R_drewN | apply Kd.R_drew)); exact HO_8.out)⟩; have n5_ : Aside0 (w76.heap[gb138]? = some (.cells #[.string (rdOf ByteArray.empty y133 t136), .slice none 0 0, .string (⟨#[]⟩ : ByteArray), .slice none 0 0] 28 (0, 0))) := ⟨by rw [← hq_]; exact (by (with_reducible repeat (first | refine blk_drewN ?_ _ | refine blk_drew ?_ | refine blk_alloc ?_ _)); exact BK138.out)⟩; have n6_ : Aside0 (Below w.heap.size w w76) := ⟨by rw [← hq_]; exact (by repeat (first | (with_reducible first | exact HB.out | apply below_alloc | apply pw_below_drewN | apply below_drew1 | refine below_set ?_ GE138.out) | exact HB.out))⟩; clear HO106 HO135 HO142 HO_0 HO_8 BK138 HB hq_; have HO106 := n0_; have HO135 := n1_; have HO142 := n2_; have HO_0 := n3_; have HO_8 := n4_; have BK138 := n5_; have HB := n6_; clear n0_ n1_ n2_ n3_ n4_ n5_ n6_)); obtain ⟨Ao78, co78, eo78⟩ := Kd.R_slice HO142.out; subst eo78; have p144 : 0 ≤ (t143 : Int) := of_decide_eq_true (by first | (with_reducible assumption) | assumption); have q144 : t143 < (y140.length : Int) := of_decide_eq_true (by first | (with_reducible assumption) | assumption); obtain ⟨ad144, e144, hx144_0⟩ := Kd.at_string (Kd.R_reads' HO142.out).2.2 t143 p144 q144; cases e144; replace p144 := eq_true p144; replace q144 := eq_true q144) | ((with_reducible refine gate_dst (N := 94) rfl ?_); (try (refine gate_guard (by rfl) ?_; dsimp only)); refine Kd.R_lit k68 _ 68 ?hg (N := 94) ?hd (xs := ([(⟨(⟨#[104, 114, 101, 102]⟩ : ByteArray), rdOf ByteArray.empty y140 t143⟩ : S68)] : List (S68))) (inner := [.string (⟨#[104, 114, 101, 102]⟩ : ByteArray), .string (rdOf ByteArray.empty y140 t143)]) (ok := fun _ => True) (okp := fun _ => True) ?hr ?hp (fun _ hk => hk) trivial (Below.refl _ _) (Nat.le_refl _) (by simp) ?_; (case hd => rfl); (case hg => rfl); (case hr => first | (go_simp; done) | (go_simp; rfl)); (case hp => exact (Reps.c2 (show Kd.M k68 _ _ _ (⟨(⟨#[104, 114, 101, 102]⟩ : ByteArray), rdOf ByteArray.empty y140 t143⟩ : S68) [.string (⟨#[104, 114, 101, 102]⟩ : ByteArray), .string (rdOf ByteArray.empty y140 t143)] from (k68_mkM _ _ _ (⟨(⟨#[104, 114, 101, 102]⟩ : ByteArray), rdOf ByteArray.empty y140 t143⟩ : S68) )) (Reps.none _ _))); intro v146 w79 ho80 hb hg_ hnew_; clear hg_ hnew_; (first | rw [← Ny145.out] at ho80 | (simp only [Int.reduceToNat] at ho80; rw [← Ny145.out] at ho80)); have n0_ := Aside0.mk (Kd.V_elder' (by (with_reducible repeat (first | apply Kd.V_alloc | apply Kd.V_drewN | apply Kd.V_drew)); exact HO_0.out) (Kd.R_base ho80) hb); have n1_ := Aside0.mk (Kd.R_elder' (by (with_reducible repeat (first | apply Kd.R_alloc | apply Kd.R_drewN | apply Kd.R_drew)); exact HO_8.out) (Kd.R_base ho80) hb); have n2_ := Aside0.mk (Kd.V_elder' (by (with_reducible repeat (first | apply Kd.V_alloc | apply Kd.V_drewN | apply Kd.V_drew)); exact HO106.out) (Kd.R_base ho80) hb); have n3_ := Aside0.mk (Kd.R_below (by (with_reducible repeat (first | apply Kd.R_alloc | apply Kd.R_drewN | apply Kd.R_drew)); exact HO135.out) hb); have n4_ := Aside0.mk (Kd.R_below (by (with_reducible repeat (first | apply Kd.R_alloc | apply Kd.R_drewN | apply Kd.R_drew)); exact HO142.out) hb); have n5_ := Aside0.mk (Kd.R_lower (Kd.R_newM (M := fun k_ => (w.heap.size ≤ k_)) ho80 (below_size (by repeat (first | (with_reducible first | exact HB.out | apply below_alloc | apply pw_below_drewN | apply below_drew1 | refine below_set ?_ GE138.out) | exact HB.out))) (fun k_ h_ => h_)) (below_size (by repeat (first | (with_reducible first | exact HB.out | apply below_alloc | apply pw_below_drewN | apply below_drew1 | refine below_set ?_ GE138.out) | exact HB.out)))); have n6_ := Aside0.mk (blk_below (g := gb138) (o := .cells #[.string (rdOf ByteArray.empty y133 t136), .slice none 0 0, .string (⟨#[]⟩ : ByteArray), .slice none 0 0] 28 (0, 0)) (by (with_reducible repeat (first | refine blk_drewN ?_ _ | refine blk_drew ?_ | refine blk_alloc ?_ _)); exact BK138.out) hb); have n7_ := Aside0.mk (below_step (by repeat (first | (with_reducible first | exact HB.out | apply below_alloc | apply pw_below_drewN | apply below_drew1 | refine below_set ?_ GE138.out) | exact HB.out)) hb); clear HO_0; clear HO_8; clear HO106; clear HO135; clear HO142; clear BK138; clear HB; have HO_0 := n0_; have HO_8 := n1_; have HO106 := n2_; have HO135 := n3_; have HO142 := n4_; have HO147 := n5_; have BK138 := n6_; have HB := n7_; clear n0_ n1_ n2_ n3_ n4_ n5_ n6_ n7_; clear hb ho80; obtain ⟨Ao81, co81, eo81⟩ := Kd.R_slice HO147.out; subst eo81; have hcz82_0 : w79.cell? ⟨gb138, 0, none⟩ = some (.string (rdOf ByteArray.empty y133 t136)) := (blk_cell BK138.out 0).trans rfl; have hcz82_1 : w79.cell? ⟨gb138, 1, none⟩ = some (.slice none 0 0) := (blk_cell BK138.out 1).trans rfl; have hcz82_2 : w79.cell? ⟨gb138, 2, none⟩ = some (.string (⟨#[]⟩ : ByteArray)) := (blk_cell BK138.out 2).trans rfl; have hcz82_3 : w79.cell? ⟨gb138, 3, none⟩ = some (.slice none 0 0) := (blk_cell BK138.out 3).trans rfl; have hfz82_0 := blk_frozen BK138.out 0; have hfz82_1 := blk_frozen BK138.out 1; have hfz82_2 := blk_frozen BK138.out 2; have hfz82_3 := blk_frozen BK138.out 3) | ((with_reducible refine gate_store (t := 26) (p := 95) rfl ?_); refine store_event (t := 26) (p := 95) (v := ?vo_w83) (w1 := (w79.setCell ⟨gb138, 1, none⟩ (.slice Ao81 y145.length co81))) ?hg ?ho ?hn ?hr ?_; (case ho => rfl); (case hg => rfl); (case hn => rfl); (case hr => first | (go_simp; done) | (go_simp; rfl)); intro w83 hw; have n0_ : Aside0 (Kd.V (Kd.int .i64) 3 w83 w.heap.size (fun k_ => (P0_ k_ ∨ w.heap.size ≤ k_) ∧ some k_ ≠ (u8 : Value).ownBlock ∧ some k_ ≠ (.slice (some ad137) y133.length co73 : Value).ownBlock ∧ some k_ ≠ (.slice (some ad144) y140.length co78 : Value).ownBlock ∧ some k_ ≠ (.slice Ao81 y145.length co81 : Value).ownBlock ∧ k_ ≠ gb138) (.slice (some ad101) x0_1.length co69) x0_1) := ⟨(by rw [hw]; exact (by (with_reducible repeat (first | apply Kd.V_alloc | apply Kd.V_drewN | apply Kd.V_drew)); exact Kd.V_mono (Kd.V_far (p := ⟨gb138, 1, none⟩) (Kd.V_mono HO_0.out (fun k_ hk => (⟨hk, (by first | exact hk.1.1.2 | grind)⟩ : _ ∧ k_ ≠ gb138))) (fun _ hk => hk.2) (.slice Ao81 y145.length co81)) (fun _ hk => (by first | exact ⟨hk.1.1.1.1.1.1, ⟨hk.1.1.1.1.1.2, ⟨hk.1.1.1.1.2, ⟨hk.1.1.2, ⟨hk.1.2, hk.1.1.1.2⟩⟩⟩⟩⟩ | grind))))⟩; have n1_ : Aside0 (Kd.R k28 28 w83 w.heap.size (fun k_ => (w.heap.size ≤ k_) ∧ some k_ ≠ (.slice Ao81 y145.length co81 : Value).ownBlock ∧ k_ ≠ gb138) u8 x8_1) := ⟨(by rw [hw]; exact (by (with_reducible repeat (first | apply Kd.R_alloc | apply Kd.R_drewN | apply Kd.R_drew)); exact Kd.R_mono (Kd.R_far (p := ⟨gb138, 1, none⟩) (Kd.R_mono HO_8.out (fun k_ hk => (⟨hk, (by first | exact hk.1.2 | grind)⟩ : _ ∧ k_ ≠ gb138))) (fun _ hk => hk.2) (.slice Ao81 y145.length co81)) (fun _ hk => (by first | exact ⟨hk.1.1.1, ⟨hk.1.2, hk.1.1.2⟩⟩ | grind))))⟩; have n2_ : Aside0 (Kd.V (Kd.int .i64) 3 w83 w.heap.size (fun k_ => (P0_ k_ ∨ w.heap.size ≤ k_) ∧ some k_ ≠ (u8 : Value).ownBlock ∧ some k_ ≠ (.slice (some ad137) y133.length co73 : Value).ownBlock ∧ some k_ ≠ (.slice (some ad144) y140.length co78 : Value).ownBlock ∧ some k_ ≠ (.slice Ao81 y145.length co81 : Value).ownBlock ∧ k_ ≠ gb138) (.slice A70 y102.length c70) y102) := ⟨(by rw [hw]; exact (by (with_reducible repeat (first | apply Kd.V_alloc | apply Kd.V_drewN | apply Kd.V_drew)); exact Kd.V_mono (Kd.V_far (p := ⟨gb138, 1, none⟩) (Kd.V_mono HO106.out (fun k_ hk => (⟨hk, (by first | exact hk.1.1.2 | grind)⟩ : _ ∧ k_ ≠ gb138))) (fun _ hk => hk.2) (.slice Ao81 y145.length co81)) (fun _ hk => (by first | exact ⟨hk.1.1.1.1.1.1, ⟨hk.1.1.1.1.1.2, ⟨hk.1.1.1.1.2, ⟨hk.1.1.2, ⟨hk.1.2, hk.1.1.1.2⟩⟩⟩⟩⟩ | grind))))⟩; have n3_ : Aside0 (Kd.R Kd.string 9 w83 w.heap.size (fun k_ => (w.heap.size ≤ k_) ∧ some k_ ≠ (.slice (some ad144) y140.length co78 : Value).ownBlock) (.slice (some ad137) y133.length co73) y133) := ⟨(by rw [hw]; exact (by (with_reducible repeat (first | apply Kd.R_alloc | apply Kd.R_drewN | apply Kd.R_drew)); exact Kd.R_mono (Kd.R_far (p := ⟨gb138, 1, none⟩) (Kd.R_types HO135.out BK138.out (by decide)) (fun _ hk => hk.2) (.slice Ao81 y145.length co81)) (fun _ hk => (by first | exact ⟨hk.1.1.1, hk.1.2⟩ | grind))))⟩; have n4_ : Aside0 (Kd.R Kd.string 9 w83 w.heap.size (fun k_ => (w.heap.size ≤ k_) ∧ some k_ ≠ (.slice (some ad137) y133.length co73 : Value).ownBlock) (.slice (some ad144) y140.length co78) y140) := ⟨(by rw [hw]; exact (by (with_reducible repeat (first | apply Kd.R_alloc | apply Kd.R_drewN | apply Kd.R_drew)); exact Kd.R_mono (Kd.R_far (p := ⟨gb138, 1, none⟩) (Kd.R_types HO142.out BK138.out (by decide)) (fun _ hk => hk.2) (.slice Ao81 y145.length co81)) (fun _ hk => (by first | exact ⟨hk.1.1.1, hk.1.2⟩ | grind))))⟩; have n5_ : Aside0 (Kd.R k68 68 w83 w.heap.size (fun k_ => (w.heap.size ≤ k_)) (.slice Ao81 y145.length co81) y145) := ⟨(by rw [hw]; exact (by (with_reducible repeat (first | apply Kd.R_alloc | apply Kd.R_drewN | apply Kd.R_drew)); exact Kd.R_mono (Kd.R_far (p := ⟨gb138, 1, none⟩) (Kd.R_types HO147.out BK138.out (by decide)) (fun _ hk => hk.2) (.slice Ao81 y145.length co81)) (fun _ hk => (by first | exact hk.1.1 | grind))))⟩; have n6_ : Aside0 (w83.heap[gb138]? = some (.cells #[.string (rdOf ByteArray.empty y133 t136), .slice Ao81 y145.length co81, .string (⟨#[]⟩ : ByteArray), .slice none 0 0] 28 (0, 0))) := ⟨(by rw [hw]; exact (by (with_reducible repeat (first | refine blk_drewN ?_ _ | refine blk_drew ?_ | refine blk_alloc ?_ _)); refine blk_put (cs := #[.string (rdOf ByteArray.empty y133 t136), .slice none 0 0, .string (⟨#[]⟩ : ByteArray), .slice none 0 0]) ?_ 1 _ rfl; (with_reducible repeat (first | refine blk_drewN ?_ _ | refine blk_drew ?_ | refine blk_alloc ?_ _)); exact BK138.out))⟩; have n7_ : Aside0 (Below w.heap.size w w83) := ⟨(by rw [hw]; exact (by repeat (first | (with_reducible first | exact HB.out | apply below_alloc | apply pw_below_drewN | apply below_drew1 | refine below_set ?_ GE138.out) | exact HB.out)))⟩; clear hw; clear HO_0; clear HO_8; clear HO106; clear HO135; clear HO142; clear HO147; clear BK138; clear HB; have HO_0 := n0_; have HO_8 := n1_; have HO106 := n2_; have HO135 := n3_; have HO142 := n4_; have HO147 := n5_; have BK138 := n6_; have HB := n7_; clear n0_ n1_ n2_ n3_ n4_ n5_ n6_ n7_) | ((with_reducible refine gate_callee (f := 12) rfl ?_); refine goesL_ (some 100) rfl rfl Try.func12 (by kernel_rfl) rfl #[.slice A70 y102.length c70, .int .i64 (wrap64 (a1 - 1)), .int .i64 4] rfl (by (try simp only [List.map_toArray, List.map_cons, List.map_nil]); first | done | rfl | (simp only [List.length_drop, List.length_take]; rfl)) ?_; (with_reducible refine (ih kj3 (by have := HK1.out; have := HJ3.out; omega) (fun k_ => ((P0_ k_ ∨ w.heap.size ≤ k_) ∧ (some k_ ≠ (u8 : Value).ownBlock ∧ (some k_ ≠ (.slice (some ad137) y133.length co73 : Value).ownBlock ∧ (some k_ ≠ (.slice (some ad144) y140.length co78 : Value).ownBlock ∧ (some k_ ≠ (.slice Ao81 y145.length co81 : Value).ownBlock ∧ k_ ≠ gb138)))))) _ _ y102 (wrap64 (a1 - 1)) 4 t148 t151 _ ?side1 A67.out).mono ?_); (case side1 => first | exact HO106.out | exact Kd.V_mono HO106.out (fun k_ h_ => by grind)); rintro e w84 ⟨v149, v152, rfl, ho0, ho1, hb⟩; refine ⟨_, rfl, ?_⟩; have n0_ := Aside0.mk (Kd.V_elder' (by (with_reducible repeat (first | apply Kd.V_alloc | apply Kd.V_drewN | apply Kd.V_drew)); exact HO_0.out) (Kd.R_base ho0) hb); have n1_ := Aside0.mk (Kd.R_elder' (by (with_reducible repeat (first | apply Kd.R_alloc | apply Kd.R_drewN | apply Kd.R_drew)); exact HO_8.out) (Kd.R_base ho0) hb); have n2_ := Aside0.mk (Kd.V_elder' (by (with_reducible repeat (first | apply Kd.V_alloc | apply Kd.V_drewN | apply Kd.V_drew)); exact HO106.out) (Kd.R_base ho0) hb); have n3_ := Aside0.mk (Kd.R_below (by (with_reducible repeat (first | apply Kd.R_alloc | apply Kd.R_drewN | apply Kd.R_drew)); exact HO135.out) hb); have n4_ := Aside0.mk (Kd.R_below (by (with_reducible repeat (first | apply Kd.R_alloc | apply Kd.R_drewN | apply Kd.R_drew)); exact HO142.out) hb); have n5_ := Aside0.mk (Kd.R_below (by (with_reducible repeat (first | apply Kd.R_alloc | apply Kd.R_drewN | apply Kd.R_drew)); exact HO147.out) hb); have n6_ := Aside0.mk (Kd.R_lower (Kd.R_newB (Kd.R_new' (Kd.R_new' (Kd.R_newM (M := fun k_ => (w.heap.size ≤ k_)) (Kd.R_mono (ok' := fun k_ => True) ho0 (fun _ hk_ => trivial)) (below_size (by repeat (first | (with_reducible first | exact HB.out | apply below_alloc | apply pw_below_drewN | apply below_drew1 | refine below_set ?_ GE138.out) | exact HB.out))) (fun k_ h_ => h_)) (Kd.R_lt (by (with_reducible repeat (first | apply Kd.R_alloc | apply Kd.R_drewN | apply Kd.R_drew)); exact HO_8.out))) (Kd.R_lt (by (with_reducible repeat (first | apply Kd.R_alloc | apply Kd.R_drewN | apply Kd.R_drew)); exact HO147.out))) (g := gb138) (o := .cells #[.string (rdOf ByteArray.empty y133 t136), .slice Ao81 y145.length co81, .string (⟨#[]⟩ : ByteArray), .slice none 0 0] 28 (0, 0)) (by (with_reducible repeat (first | refine blk_drewN ?_ _ | refine blk_drew ?_ | refine blk_alloc ?_ _)); exact BK138.out)) (below_size (by repeat (first | (with_reducible first | exact HB.out | apply below_alloc | apply pw_below_drewN | apply below_drew1 | refine below_set ?_ GE138.out) | exact HB.out)))); have n7_ := Aside0.mk (Kd.V_lower (Kd.V_mono (ok' := fun k_ => (P0_ k_ ∨ w.heap.size ≤ k_) ∧ some k_ ≠ (v149 : Value).ownBlock ∧ some k_ ≠ (u8 : Value).ownBlock ∧ some k_ ≠ (.slice (some ad137) y133.length co73 : Value).ownBlock ∧ some k_ ≠ (.slice (some ad144) y140.length co78 : Value).ownBlock ∧ some k_ ≠ (.slice Ao81 y145.length co81 : Value).ownBlock ∧ k_ ≠ gb138) ho1 (fun k_ hk_ => ⟨Or.elim hk_.1 (fun hs_ => (by first | exact hs_.1 | grind)) (fun hn_ => (.inr (Nat.le_trans (below_size (by repeat (first | (with_reducible first | exact HB.out | apply below_alloc | apply pw_below_drewN | apply below_drew1 | refine below_set ?_ GE138.out) | exact HB.out))) hn_))), hk_.2, Or.elim hk_.1 (fun hs_ => (by first | exact hs_.2.1 | grind)) (fun hn_ => (Kd.fresh' (Kd.R_lt (by (with_reducible repeat (first | apply Kd.R_alloc | apply Kd.R_drewN | apply Kd.R_drew)); exact HO_8.out)) k_ hn_)), Or.elim hk_.1 (fun hs_ => (by first | exact hs_.2.2.1 | grind)) (fun hn_ => (Kd.fresh' (Kd.R_lt (by (with_reducible repeat (first | apply Kd.R_alloc | apply Kd.R_drewN | apply Kd.R_drew)); exact HO135.out)) k_ hn_)), Or.elim hk_.1 (fun hs_ => (by first | exact hs_.2.2.2.1 | grind)) (fun hn_ => (Kd.fresh' (Kd.R_lt (by (with_reducible repeat (first | apply Kd.R_alloc | apply Kd.R_drewN | apply Kd.R_drew)); exact HO142.out)) k_ hn_)), Or.elim hk_.1 (fun hs_ => (by first | exact hs_.2.2.2.2.1 | grind)) (fun hn_ => (Kd.fresh' (Kd.R_lt (by (with_reducible repeat (first | apply Kd.R_alloc | apply Kd.R_drewN | apply Kd.R_drew)); exact HO147.out)) k_ hn_)), Or.elim hk_.1 (fun hs_ => (by first | exact hs_.2.2.2.2.2 | grind)) (fun hn_ => (Kd.freshB (g := gb138) (o := .cells #[.string (rdOf ByteArray.empty y133 t136), .slice Ao81 y145.length co81, .string (⟨#[]⟩ : ByteArray), .slice none 0 0] 28 (0, 0)) (by (with_reducible repeat (first | refine blk_drewN ?_ _ | refine blk_drew ?_ | refine blk_alloc ?_ _)); exact BK138.out) k_ hn_))⟩)) (below_size (by repeat (first | (with_reducible first | exact HB.out | apply below_alloc | apply pw_below_drewN | apply below_drew1 | refine below_set ?_ GE138.out) | exact HB.out)))); have n8_ := Aside0.mk (blk_below (g := gb138) (o := .cells #[.string (rdOf ByteArray.empty y133 t136), .slice Ao81 y145.length co81, .string (⟨#[]⟩ : ByteArray), .slice none 0 0] 28 (0, 0)) (by (with_reducible repeat (first | refine blk_drewN ?_ _ | refine blk_drew ?_ | refine blk_alloc ?_ _)); exact BK138.out) hb); have n9_ := Aside0.mk (below_step (by repeat (first | (with_reducible first | exact HB.out | apply below_alloc | apply pw_below_drewN | apply below_drew1 | refine below_set ?_ GE138.out) | exact HB.out)) hb); clear HO_0; clear HO_8; clear HO106; clear HO135; clear HO142; clear HO147; clear BK138; clear HB; have HO_0 := n0_; have HO_8 := n1_; have HO106 := n2_; have HO135 := n3_; have HO142 := n4_; have HO147 := n5_; have HO150 := n6_; have HO153 := n7_; have BK138 := n8_; have HB := n9_; clear n0_ n1_ n2_ n3_ n4_ n5_ n6_ n7_ n8_ n9_; (try clear hb); (try clear hb2); (try clear hk); (try clear hi); (try clear ho0); (try clear ho1); obtain ⟨Ao85, co85, eo85⟩ := Kd.R_slice HO150.out; subst eo85; have hcz86_0 : w84.cell? ⟨gb138, 0, none⟩ = some (.string (rdOf ByteArray.empty y133 t136)) := (blk_cell BK138.out 0).trans rfl; have hcz86_1 : w84.cell? ⟨gb138, 1, none⟩ = some (.slice Ao81 y145.length co81) := (blk_cell BK138.out 1).trans rfl; have hcz86_2 : w84.cell? ⟨gb138, 2, none⟩ = some (.string (⟨#[]⟩ : ByteArray)) := (blk_cell BK138.out 2).trans rfl; have hcz86_3 : w84.cell? ⟨gb138, 3, none⟩ = some (.slice none 0 0) := (blk_cell BK138.out 3).trans rfl; have hfz86_0 := blk_frozen BK138.out 0; have hfz86_1 := blk_frozen BK138.out 1; have hfz86_2 := blk_frozen BK138.out 2; have hfz86_3 := blk_frozen BK138.out 3) | ((with_reducible refine gate_store (t := 23) (p := 103) rfl ?_); refine store_event (t := 23) (p := 103) (v := ?vo_w87) (w1 := (w84.setCell ⟨gb138, 3, none⟩ (.slice Ao85 t148.length co85))) ?hg ?ho ?hn ?hr ?_; (case ho => rfl); (case hg => rfl); (case hn => rfl); (case hr => first | (go_simp; done) | (go_simp; rfl)); intro w87 hw; have n0_ : Aside0 (Kd.V (Kd.int .i64) 3 w87 w.heap.size (fun k_ => (P0_ k_ ∨ w.heap.size ≤ k_) ∧ some k_ ≠ (u8 : Value).ownBlock ∧ some k_ ≠ (.slice (some ad137) y133.length co73 : Value).ownBlock ∧ some k_ ≠ (.slice (some ad144) y140.length co78 : Value).ownBlock ∧ some k_ ≠ (.slice Ao81 y145.length co81 : Value).ownBlock ∧ some k_ ≠ (.slice Ao85 t148.length co85 : Value).ownBlock ∧ k_ ≠ gb138) (.slice (some ad101) x0_1.length co69) x0_1) := ⟨(by rw [hw]; exact (by (with_reducible repeat (first | apply Kd.V_alloc | apply Kd.V_drewN | apply Kd.V_drew)); exact Kd.V_mono (Kd.V_far (p := ⟨gb138, 3, none⟩) (Kd.V_mono HO_0.out (fun k_ hk => (⟨hk, (by first | exact hk.1.2.2.2.2.2 | grind)⟩ : _ ∧ k_ ≠ gb138))) (fun _ hk => hk.2) (.slice Ao85 t148.length co85)) (fun _ hk => (by first | exact ⟨hk.1.1.1, ⟨hk.1.1.2.1, ⟨hk.1.1.2.2.1, ⟨hk.1.1.2.2.2.1, ⟨hk.1.1.2.2.2.2.1, ⟨hk.1.2, hk.1.1.2.2.2.2.2⟩⟩⟩⟩⟩⟩ | grind))))⟩; have n1_ : Aside0 (Kd.R k28 28 w87 w.heap.size (fun k_ => (w.heap.size ≤ k_) ∧ some k_ ≠ (.slice Ao81 y145.length co81 : Value).ownBlock ∧ some k_ ≠ (.slice Ao85 t148.length co85 : Value).ownBlock ∧ k_ ≠ gb138) u8 x8_1) := ⟨(by rw [hw]; exact (by (with_reducible repeat (first | apply Kd.R_alloc | apply Kd.R_drewN | apply Kd.R_drew)); exact Kd.R_mono (Kd.R_far (p := ⟨gb138, 3, none⟩) (Kd.R_mono HO_8.out (fun k_ hk => (⟨hk, (by first | exact hk.1.2.2 | grind)⟩ : _ ∧ k_ ≠ gb138))) (fun _ hk => hk.2) (.slice Ao85 t148.length co85)) (fun _ hk => (by first | exact ⟨hk.1.1.1, ⟨hk.1.1.2.1, ⟨hk.1.2, hk.1.1.2.2⟩⟩⟩ | grind))))⟩; have n2_ : Aside0 (Kd.V (Kd.int .i64) 3 w87 w.heap.size (fun k_ => (P0_ k_ ∨ w.heap.size ≤ k_) ∧ some k_ ≠ (u8 : Value).ownBlock ∧ some k_ ≠ (.slice (some ad137) y133.length co73 : Value).ownBlock ∧ some k_ ≠ (.slice (some ad144) y140.length co78 : Value).ownBlock ∧ some k_ ≠ (.slice Ao81 y145.length co81 : Value).ownBlock ∧ some k_ ≠ (.slice Ao85 t148.length co85 : Value).ownBlock ∧ k_ ≠ gb138) (.slice A70 y102.length c70) y102) := ⟨(by rw [hw]; exact (by (with_reducible repeat (first | apply Kd.V_alloc | apply Kd.V_drewN | apply Kd.V_drew)); exact Kd.V_mono (Kd.V_far (p := ⟨gb138, 3, none⟩) (Kd.V_mono HO106.out (fun k_ hk => (⟨hk, (by first | exact hk.1.2.2.2.2.2 | grind)⟩ : _ ∧ k_ ≠ gb138))) (fun _ hk => hk.2) (.slice Ao85 t148.length co85)) (fun _ hk => (by first | exact ⟨hk.1.1.1, ⟨hk.1.1.2.1, ⟨hk.1.1.2.2.1, ⟨hk.1.1.2.2.2.1, ⟨hk.1.1.2.2.2.2.1, ⟨hk.1.2, hk.1.1.2.2.2.2.2⟩⟩⟩⟩⟩⟩ | grind))))⟩; have n3_ : Aside0 (Kd.R Kd.string 9 w87 w.heap.size (fun k_ => (w.heap.size ≤ k_) ∧ some k_ ≠ (.slice (some ad144) y140.length co78 : Value).ownBlock) (.slice (some ad137) y133.length co73) y133) := ⟨(by rw [hw]; exact (by (with_reducible repeat (first | apply Kd.R_alloc | apply Kd.R_drewN | apply Kd.R_drew)); exact Kd.R_mono (Kd.R_far (p := ⟨gb138, 3, none⟩) (Kd.R_types HO135.out BK138.out (by decide)) (fun _ hk => hk.2) (.slice Ao85 t148.length co85)) (fun _ hk => (by first | exact ⟨hk.1.1, hk.1.2⟩ | grind))))⟩; have n4_ : Aside0 (Kd.R Kd.string 9 w87 w.heap.size (fun k_ => (w.heap.size ≤ k_) ∧ some k_ ≠ (.slice (some ad137) y133.length co73 : Value).ownBlock) (.slice (some ad144) y140.length co78) y140) := ⟨(by rw [hw]; exact (by (with_reducible repeat (first | apply Kd.R_alloc | apply Kd.R_drewN | apply Kd.R_drew)); exact Kd.R_mono (Kd.R_far (p := ⟨gb138, 3, none⟩) (Kd.R_types HO142.out BK138.out (by decide)) (fun _ hk => hk.2) (.slice Ao85 t148.length co85)) (fun _ hk => (by first | exact ⟨hk.1.1, hk.1.2⟩ | grind))))⟩; have n5_ : Aside0 (Kd.R k68 68 w87 w.heap.size (fun k_ => (w.heap.size ≤ k_)) (.slice Ao81 y145.length co81) y145) := ⟨(by rw [hw]; exact (by (with_reducible repeat (first | apply Kd.R_alloc | apply Kd.R_drewN | apply Kd.R_drew)); exact Kd.R_mono (Kd.R_far (p := ⟨gb138, 3, none⟩) (Kd.R_types HO147.out BK138.out (by decide)) (fun _ hk => hk.2) (.slice Ao85 t148.length co85)) (fun _ hk => (by first | exact hk.1 | grind))))⟩; have n6_ : Aside0 (Kd.R k28 28 w87 w.heap.size (fun k_ => (w.heap.size ≤ k_) ∧ some k_ ≠ (u8 : Value).ownBlock ∧ some k_ ≠ (.slice Ao81 y145.length co81 : Value).ownBlock ∧ k_ ≠ gb138) (.slice Ao85 t148.length co85) t148) := ⟨(by rw [hw]; exact (by (with_reducible repeat (first | apply Kd.R_alloc | apply Kd.R_drewN | apply Kd.R_drew)); exact Kd.R_mono (Kd.R_far (p := ⟨gb138, 3, none⟩) (Kd.R_mono HO150.out (fun k_ hk => (⟨hk, (by first | exact hk.2 | grind)⟩ : _ ∧ k_ ≠ gb138))) (fun _ hk => hk.2) (.slice Ao85 t148.length co85)) (fun _ hk => (by first | exact ⟨hk.1.1.1.1.1, ⟨hk.1.1.1.2, ⟨hk.1.1.2, hk.1.2⟩⟩⟩ | grind))))⟩; have n7_ : Aside0 (Kd.V (Kd.int .i64) 3 w87 w.heap.size (fun k_ => (P0_ k_ ∨ w.heap.size ≤ k_) ∧ some k_ ≠ (u8 : Value).ownBlock ∧ some k_ ≠ (.slice (some ad137) y133.length co73 : Value).ownBlock ∧ some k_ ≠ (.slice (some ad144) y140.length co78 : Value).ownBlock ∧ some k_ ≠ (.slice Ao81 y145.length co81 : Value).ownBlock ∧ some k_ ≠ (.slice Ao85 t148.length co85 : Value).ownBlock ∧ k_ ≠ gb138) v152 t151) := ⟨(by rw [hw]; exact (by (with_reducible repeat (first | apply Kd.V_alloc | apply Kd.V_drewN | apply Kd.V_drew)); exact Kd.V_mono (Kd.V_far (p := ⟨gb138, 3, none⟩) (Kd.V_mono HO153.out (fun k_ hk => (⟨hk, (by first | exact hk.2.2.2.2.2.2 | grind)⟩ : _ ∧ k_ ≠ gb138))) (fun _ hk => hk.2) (.slice Ao85 t148.length co85)) (fun _ hk => (by first | exact ⟨hk.1.1, ⟨hk.1.2.2.1, ⟨hk.1.2.2.2.1, ⟨hk.1.2.2.2.2.1, ⟨hk.1.2.2.2.2.2.1, ⟨hk.1.2.1, hk.1.2.2.2.2.2.2⟩⟩⟩⟩⟩⟩ | grind))))⟩; have n8_ : Aside0 (w87.heap[gb138]? = some (.cells #[.string (rdOf ByteArray.empty y133 t136), .slice Ao81 y145.length co81, .string (⟨#[]⟩ : ByteArray), .slice Ao85 t148.length co85] 28 (0, 0))) := ⟨(by rw [hw]; exact (by (with_reducible repeat (first | refine blk_drewN ?_ _ | refine blk_drew ?_ | refine blk_alloc ?_ _)); refine blk_put (cs := #[.string (rdOf ByteArray.empty y133 t136), .slice Ao81 y145.length co81, .string (⟨#[]⟩ : ByteArray), .slice none 0 0]) ?_ 3 _ rfl; (with_reducible repeat (first | refine blk_drewN ?_ _ | refine blk_drew ?_ | refine blk_alloc ?_ _)); exact BK138.out))⟩; have n9_ : Aside0 (Below w.heap.size w w87) := ⟨(by rw [hw]; exact (by repeat (first | (with_reducible first | exact HB.out | apply below_alloc | apply pw_below_drewN | apply below_drew1 | refine below_set ?_ GE138.out) | exact HB.out)))⟩; clear hw; clear HO_0; clear HO_8; clear HO106; clear HO135; clear HO142; clear HO147; clear HO150; clear HO153; clear BK138; clear HB; have HO_0 := n0_; have HO_8 := n1_; have HO106 := n2_; have HO135 := n3_; have HO142 := n4_; have HO147 := n5_; have HO150 := n6_; have HO153 := n7_; have BK138 := n8_; have HB := n9_; clear n0_ n1_ n2_ n3_ n4_ n5_ n6_ n7_ n8_ n9_; have hcz88_0 : w87.cell? ⟨gb138, 0, none⟩ = some (.string (rdOf ByteArray.empty y133 t136)) := (blk_cell BK138.out 0).trans rfl; have hcz88_1 : w87.cell? ⟨gb138, 1, none⟩ = some (.slice Ao81 y145.length co81) := (blk_cell BK138.out 1).trans rfl; have hcz88_2 : w87.cell? ⟨gb138, 2, none⟩ = some (.string (⟨#[]⟩ : ByteArray)) := (blk_cell BK138.out 2).trans rfl; have hcz88_3 : w87.cell? ⟨gb138, 3, none⟩ = some (.slice Ao85 t148.length co85) := (blk_cell BK138.out 3).trans rfl; have hfz88_0 := blk_frozen BK138.out 0; have hfz88_1 := blk_frozen BK138.out 1; have hfz88_2 := blk_frozen BK138.out 2; have hfz88_3 := blk_frozen BK138.out 3) | ((with_reducible refine gate_builtin (b := .append) (xs := #[.tmp 104, .tmp 106]) rfl ?_); (try (refine gate_guard (by rfl) ?_; dsimp only)); at_builtin; refine Kd.R_append k28 (w0 := w) w.heap.size rfl (.tmp 104) (.tmp 106) 23 28 (.agg #[(.string ⟨#[]⟩), (.slice none 0 0), (.string ⟨#[]⟩), (.slice none 0 0)]) 80 rfl Try.underlying23 info28 rfl (by decide) (by omega) u8 x8_1 (⟨rdOf ByteArray.empty y133 t136, y145, (⟨#[]⟩ : ByteArray), t148⟩ : S28) [.string (rdOf ByteArray.empty y133 t136), .slice Ao81 y145.length co81, .string (⟨#[]⟩ : ByteArray), .slice Ao85 t148.length co85] (fun k_ => (w.heap.size ≤ k_) ∧ k_ ≠ gb138) (fun k_ => ((fun k_ => (w.heap.size ≤ k_) ∧ k_ ≠ gb138)) k_ ∧ some k_ ≠ (u8 : Value).ownBlock) rfl rfl ?aP (fun _ hk => hk) ?aF ?aO ?aB ?aS ?aL ?_; (case aP => exact k28_mkM _ _ _ (⟨rdOf ByteArray.empty y133 t136, y145, (⟨#[]⟩ : ByteArray), t148⟩ : S28) (Kd.R_mono (Kd.R_types (Kd.R_apart' (HO147.out) (Kd.R_typed HO_8.out) (by decide)) BK138.out (by decide)) (fun k_ hk => (by first | exact ⟨⟨hk.1.1, hk.2⟩, hk.1.2⟩ | grind))) (Kd.R_mono (HO150.out) (fun k_ hk => (by first | exact ⟨⟨hk.1, hk.2.2.2⟩, hk.2.1⟩ | grind)))); (case aB => exact (by repeat (first | (with_reducible first | exact HB.out | apply below_alloc | apply pw_below_drewN | apply below_drew1 | refine below_set ?_ GE138.out) | exact HB.out))); (case aF => exact (fun k_ hk => ⟨(Nat.le_trans (below_size (by repeat (first | (with_reducible first | exact HB.out | apply below_alloc | apply pw_below_drewN | apply below_drew1 | refine below_set ?_ GE138.out) | exact HB.out))) hk), Kd.freshB (g := gb138) (o := .cells #[.string (rdOf ByteArray.empty y133 t136), .slice Ao81 y145.length co81, .string (⟨#[]⟩ : ByteArray), .slice Ao85 t148.length co85] 28 (0, 0)) (by (with_reducible repeat (first | refine blk_drewN ?_ _ | refine blk_drew ?_ | refine blk_alloc ?_ _)); exact BK138.out) k_ hk⟩)); (case aO => exact (by (with_reducible repeat (first | apply Kd.R_alloc | apply Kd.R_drewN | apply Kd.R_drew)); exact Kd.R_mono HO_8.out (fun _ hk => (by first | exact ⟨hk.1, hk.2.2.2⟩ | grind)))); (case aS => exact (below_size (by repeat (first | (with_reducible first | exact HB.out | apply below_alloc | apply pw_below_drewN | apply below_drew1 | refine below_set ?_ GE138.out) | exact HB.out)))); (case aL => have := LMc68.out; omega); intro v155 w89 ho hb hg hat; rw [← Ny154.out] at ho; have n0_ := Aside0.mk (Kd.V_afterv (ok := (fun k_ => (P0_ k_ ∨ w.heap.size ≤ k_) ∧ some k_ ≠ (.slice (some ad137) y133.length co73 : Value).ownBlock ∧ some k_ ≠ (.slice (some ad144) y140.length co78 : Value).ownBlock ∧ some k_ ≠ (.slice Ao81 y145.length co81 : Value).ownBlock ∧ some k_ ≠ (.slice Ao85 t148.length co85 : Value).ownBlock ∧ k_ ≠ gb138)) (by (with_reducible repeat (first | apply Kd.V_alloc | apply Kd.V_drewN | apply Kd.V_drew)); exact Kd.V_mono HO_0.out (fun _ hk => (by first | exact ⟨⟨hk.1, ⟨hk.2.2.1, ⟨hk.2.2.2.1, ⟨hk.2.2.2.2.1, ⟨hk.2.2.2.2.2.1, hk.2.2.2.2.2.2⟩⟩⟩⟩⟩, hk.2.1⟩ | grind))) hg hat); have n1_ := Aside0.mk (Kd.V_afterv (ok := (fun k_ => (P0_ k_ ∨ w.heap.size ≤ k_) ∧ some k_ ≠ (.slice (some ad137) y133.length co73 : Value).ownBlock ∧ some k_ ≠ (.slice (some ad144) y140.length co78 : Value).ownBlock ∧ some k_ ≠ (.slice Ao81 y145.length co81 : Value).ownBlock ∧ some k_ ≠ (.slice Ao85 t148.length co85 : Value).ownBlock ∧ k_ ≠ gb138)) (by (with_reducible repeat (first | apply Kd.V_alloc | apply Kd.V_drewN | apply Kd.V_drew)); exact Kd.V_mono HO106.out (fun _ hk => (by first | exact ⟨⟨hk.1, ⟨hk.2.2.1, ⟨hk.2.2.2.1, ⟨hk.2.2.2.2.1, ⟨hk.2.2.2.2.2.1, hk.2.2.2.2.2.2⟩⟩⟩⟩⟩, hk.2.1⟩ | grind))) hg hat); have n2_ := Aside0.mk (Kd.R_over' (by (with_reducible repeat (first | apply Kd.R_alloc | apply Kd.R_drewN | apply Kd.R_drew)); exact HO135.out) (Kd.R_typed (by (with_reducible repeat (first | apply Kd.R_alloc | apply Kd.R_drewN | apply Kd.R_drew)); exact HO_8.out)) (by decide) hg); have n3_ := Aside0.mk (blk_grown (g := gb138) (o := .cells #[.string (rdOf ByteArray.empty y133 t136), .slice Ao81 y145.length co81, .string (⟨#[]⟩ : ByteArray), .slice Ao85 t148.length co85] 28 (0, 0)) (by (with_reducible repeat (first | refine blk_drewN ?_ _ | refine blk_drew ?_ | refine blk_alloc ?_ _)); exact BK138.out) hg (Kd.R_away HO_8.out (fun _ hk => (by first | exact hk.2.2.2 | grind)))); have n4_ := Aside0.mk (Kd.R_over' (by (with_reducible repeat (first | apply Kd.R_alloc | apply Kd.R_drewN | apply Kd.R_drew)); exact HO142.out) (Kd.R_typed (by (with_reducible repeat (first | apply Kd.R_alloc | apply Kd.R_drewN | apply Kd.R_drew)); exact HO_8.out)) (by decide) hg); have n5_ := Aside0.mk (Kd.V_afterv (ok := (fun k_ => (P0_ k_ ∨ w.heap.size ≤ k_) ∧ some k_ ≠ (.slice (some ad137) y133.length co73 : Value).ownBlock ∧ some k_ ≠ (.slice (some ad144) y140.length co78 : Value).ownBlock ∧ some k_ ≠ (.slice Ao81 y145.length co81 : Value).ownBlock ∧ some k_ ≠ (.slice Ao85 t148.length co85 : Value).ownBlock ∧ k_ ≠ gb138)) (by (with_reducible repeat (first | apply Kd.V_alloc | apply Kd.V_drewN | apply Kd.V_drew)); exact Kd.V_mono HO153.out (fun _ hk => (by first | exact ⟨⟨hk.1, ⟨hk.2.2.1, ⟨hk.2.2.2.1, ⟨hk.2.2.2.2.1, ⟨hk.2.2.2.2.2.1, hk.2.2.2.2.2.2⟩⟩⟩⟩⟩, hk.2.1⟩ | grind))) hg hat); have n6_ := Aside0.mk (hb); have n7_ := Aside0.mk (ho); clear HO_0; clear HO106; clear HO135; clear BK138; clear HO142; clear HO153; clear HB; clear HO_8; clear HO147; clear HO150; have HO_0 := n0_; have HO106 := n1_; have HO135 := n2_; have BK138 := n3_; have HO142 := n4_; have HO153 := n5_; have HB := n6_; have HO156 := n7_; clear n0_ n1_ n2_ n3_ n4_ n5_ n6_ n7_; clear ho hb hg hat))
                  go_roundg kj3
                  case measure => have := HK1.out; have := HJ3.out; omega
                  case rel => exact ⟨(t151), (y154), H', ⟨by have := HK1.out; have := HJ3.out; omega⟩, ⟨by (with_reducible repeat (first | apply Kd.V_alloc | apply Kd.V_drewN | apply Kd.V_drew)); exact Kd.V_mono HO153.out (fun _ hk => (by first | exact ⟨hk.1.1, hk.2⟩ | grind))⟩, ⟨by (with_reducible repeat (first | apply Kd.R_alloc | apply Kd.R_drewN | apply Kd.R_drew)); exact Kd.R_mono HO156.out (fun _ hk => (by first | exact hk.1 | grind))⟩, ⟨by repeat (first | (with_reducible first | exact HB.out | apply below_alloc | apply pw_below_drewN | apply below_drew1 | refine below_set ?_ GE138.out) | exact HB.out)⟩⟩
                 ·
                  rw [if_neg c68] at H
                  exact absurd H (by simp)
                ·
                 rw [if_neg c66] at H
                 exact absurd H (by simp)
               ·
                rw [if_neg c65] at H
                exact absurd H (by simp)
              ·
               rw [if_neg c63] at H
               have c63b0 : (t139 == 0) = false := beq_eq_false_iff_ne.mpr c63
               have c63b1 : (t139 != 0) = true := bne_iff_ne.mpr c63
               replace H := Option.bind_eq_some_iff.mp H
               obtain ⟨⟨t157, t160⟩, A900, H⟩ := H
               replace H : (if x8_1.length < 1759218604441 then (bobbinetkeep_Nodes.l0 kj3 t160 a1 a2 (x8_1 ++ [(⟨rdOf ByteArray.empty y133 t136, ([] : List (S68)), (⟨#[]⟩ : ByteArray), t157⟩ : S28)])) else (none)) = some (r1, r2) := H
               have A90 := Aside0.mk A900
               clear A900
               by_cases c91 : x8_1.length < 1759218604441
               ·
                rw [if_pos c91] at H
                have LMc91 := Aside0.mk c91
                clear c91
                obtain ⟨y163, hy163⟩ : ∃ y_ : List (S28), y_ = (x8_1 ++ [(⟨rdOf ByteArray.empty y133 t136, ([] : List (S68)), (⟨#[]⟩ : ByteArray), t157⟩ : S28)]) := ⟨_, rfl⟩
                replace H : (bobbinetkeep_Nodes.l0 kj3 t160 a1 a2 y163) = some (r1, r2) := by first | (rw [hy163]; with_reducible exact H) | (have H2_ := (Option.bind_some _ _).symm.trans H; rw [hy163]; with_reducible exact H2_) | (have H2_ := (Option.bind_some _ _).symm.trans H; with_reducible exact H2_) | with_reducible exact H | (rw [hy163]; exact H) | exact H
                have Ny163 := Aside0.mk hy163
                clear hy163
                have H' := Aside0.mk H
                clear H
                obtain ⟨Ao92, co92, eo92⟩ := Kd.V_slice HO_0.out
                subst eo92
                have p101 : 0 ≤ (0 : Int) := (by omega)
                have q101 : 0 < (x0_1.length : Int) := of_decide_eq_true (by first | (with_reducible assumption) | assumption)
                obtain ⟨ad101, e101, hx101_0⟩ := Kd.at_int (Kd.V_reads' HO_0.out).2.2 0 p101 q101
                cases e101
                have qi101 : (0 < x0_1.length) = True := eq_true (by omega)
                (try rw [show ((0 : Int)).toNat = 0 from rfl] at hx101_0)
                (try rw [Addr.add_zero'] at hx101_0)
                replace p101 := eq_true p101
                replace q101 := eq_true q101
                have q93 : (1 : Int) ≤ ((x0_1.length : Int) : Int) := of_decide_eq_true (by first | (with_reducible assumption) | assumption)
                obtain ⟨i093, hi093, _, hsz93, _⟩ := info_parts info3
                have hroom93 : x0_1.length ≤ co92 := (Kd.V_reads' HO_0.out).2.1
                have hC93 : Kd.F (Kd.int .i64) _ _ (some ad101) x0_1.length x0_1 := (Kd.V_at (base := w.heap.size) HO_0.out).2.2
                have hcut93 := cut_from (P := Try.prog) 22 3 .i64 Try.underlying22 hi093 1 hsz93 (some ad101) x0_1.length co92 1 (by omega) q93
                have hr93 := Kd.F_cut (m := (1 : Int).toNat) (c := co92) hC93 (by omega) hroom93
                obtain ⟨A93, hA93⟩ : ∃ A1, A1 = (if co92 = (1 : Int).toNat then (some ad101) else ((some ad101) : Option Addr).map (·.add ((1 : Int).toNat * 1))) := ⟨_, rfl⟩
                obtain ⟨c93, hc93⟩ : ∃ c1, c1 = co92 - (1 : Int).toNat := ⟨_, rfl⟩
                have hy93 : y102.length = x0_1.length - (1 : Int).toNat := (by rw [Ny102.out, List.length_drop] <;> omega)
                rw [show (x0_1).drop (1 : Int).toNat = y102 from Ny102.out.symm] at hr93
                replace hr93 : Kd.F (Kd.int .i64) _ _ A93 y102.length y102 := (by rw [hA93]; exact hr93)
                rw [← hy93, ← hA93, ← hc93] at hcut93
                have HO106 := Aside0.mk (show Kd.V (Kd.int .i64) 3 _ w.heap.size _ (.slice A93 y102.length c93) y102 from Kd.V_mk (by rw [hy93, hc93]; exact Nat.sub_le_sub_right hroom93 _) hr93)
                have HC106 := Aside0.mk (show y102.length ≤ c93 from by rw [hy93, hc93]; exact Nat.sub_le_sub_right hroom93 _)
                clear hr93 hC93 hroom93 hi093 hsz93 hc93
                have KY93 := Aside0.mk hy93
                have KA93 := Aside0.mk hA93
                clear hy93 hA93
                replace q93 := eq_true q93
                go_wp2_with (first | ((with_reducible refine gate_callee (f := 22) rfl ?_); refine goesL_ (some 28) rfl rfl Try.func22 (by kernel_rfl) rfl #[.int .i64 (rd x0_1 0), .int .i64 6] rfl (by (try simp only [List.map_toArray, List.map_cons, List.map_nil]); first | done | rfl | (simp only [List.length_drop, List.length_take]; rfl)) ?_; (with_reducible refine (bobbinetkeep_Picked.calls (rd x0_1 0) 6 t107 _ A12.out).mono ?_); rintro e w' ⟨rfl, ⟨nd, rfl⟩⟩; refine ⟨_, rfl, ?_⟩; (try (rw [drewN_self wc]; generalize hq_ : World.drewN wc _ = wc; have n0_ : Aside0 (Kd.V (Kd.int .i64) 3 wc w.heap.size (fun k_ => (P0_ k_ ∨ w.heap.size ≤ k_) ∧ some k_ ≠ (u8 : Value).ownBlock) (.slice A93 y102.length c93) y102) := ⟨by rw [← hq_]; exact (by (with_reducible repeat (first | apply Kd.V_alloc | apply Kd.V_drewN | apply Kd.V_drew)); exact HO106.out)⟩; have n1_ : Aside0 (Kd.V (Kd.int .i64) 3 wc w.heap.size (fun k_ => (P0_ k_ ∨ w.heap.size ≤ k_) ∧ some k_ ≠ (u8 : Value).ownBlock) (.slice (some ad101) x0_1.length co92) x0_1) := ⟨by rw [← hq_]; exact (by (with_reducible repeat (first | apply Kd.V_alloc | apply Kd.V_drewN | apply Kd.V_drew)); exact HO_0.out)⟩; have n2_ : Aside0 (Kd.R k28 28 wc w.heap.size (fun k_ => (w.heap.size ≤ k_)) u8 x8_1) := ⟨by rw [← hq_]; exact (by (with_reducible repeat (first | apply Kd.R_alloc | apply Kd.R_drewN | apply Kd.R_drew)); exact HO_8.out)⟩; have n3_ : Aside0 (Below w.heap.size w wc) := ⟨by rw [← hq_]; exact (by repeat (first | (with_reducible first | exact HB.out | apply below_alloc | apply pw_below_drewN | apply below_drew1) | exact HB.out))⟩; clear HO106 HO_0 HO_8 HB hq_; have HO106 := n0_; have HO_0 := n1_; have HO_8 := n2_; have HB := n3_; clear n0_ n1_ n2_ n3_))) | ((with_reducible refine gate_dst (N := 76) rfl ?_); (try (refine gate_guard (by rfl) ?_; dsimp only)); refine Kd.R_lit Kd.string _ 9 ?hg (N := 76) ?hd (xs := ([(⟨#[100, 105, 118]⟩ : ByteArray), (⟨#[98]⟩ : ByteArray), (⟨#[101, 109]⟩ : ByteArray), (⟨#[112]⟩ : ByteArray), (⟨#[97]⟩ : ByteArray), (⟨#[117, 108]⟩ : ByteArray)] : List ByteArray)) (inner := [.string (⟨#[100, 105, 118]⟩ : ByteArray), .string (⟨#[98]⟩ : ByteArray), .string (⟨#[101, 109]⟩ : ByteArray), .string (⟨#[112]⟩ : ByteArray), .string (⟨#[97]⟩ : ByteArray), .string (⟨#[117, 108]⟩ : ByteArray)]) (ok := fun _ => True) (okp := fun _ => True) ?hr ?hp (fun _ hk => hk) trivial (Below.refl _ _) (Nat.le_refl _) (by simp) ?_; (case hd => rfl); (case hg => rfl); (case hr => first | (go_simp; done) | (go_simp; rfl)); (case hp => exact (Reps.one (show Kd.M Kd.string _ _ _ (⟨#[100, 105, 118]⟩ : ByteArray) [.string (⟨#[100, 105, 118]⟩ : ByteArray)] from rfl) (Reps.one (show Kd.M Kd.string _ _ _ (⟨#[98]⟩ : ByteArray) [.string (⟨#[98]⟩ : ByteArray)] from rfl) (Reps.one (show Kd.M Kd.string _ _ _ (⟨#[101, 109]⟩ : ByteArray) [.string (⟨#[101, 109]⟩ : ByteArray)] from rfl) (Reps.one (show Kd.M Kd.string _ _ _ (⟨#[112]⟩ : ByteArray) [.string (⟨#[112]⟩ : ByteArray)] from rfl) (Reps.one (show Kd.M Kd.string _ _ _ (⟨#[97]⟩ : ByteArray) [.string (⟨#[97]⟩ : ByteArray)] from rfl) (Reps.one (show Kd.M Kd.string _ _ _ (⟨#[117, 108]⟩ : ByteArray) [.string (⟨#[117, 108]⟩ : ByteArray)] from rfl) (Reps.none _ _)))))))); intro v134 w94 ho95 hb hg_ hnew_; clear hg_ hnew_; (first | rw [← Ny133.out] at ho95 | (simp only [Int.reduceToNat] at ho95; rw [← Ny133.out] at ho95)); have n0_ := Aside0.mk (Kd.V_elder' (by (with_reducible repeat (first | apply Kd.V_alloc | apply Kd.V_drewN | apply Kd.V_drew)); exact HO_0.out) (Kd.R_base ho95) hb); have n1_ := Aside0.mk (Kd.R_below (by (with_reducible repeat (first | apply Kd.R_alloc | apply Kd.R_drewN | apply Kd.R_drew)); exact HO_8.out) hb); have n2_ := Aside0.mk (Kd.V_elder' (by (with_reducible repeat (first | apply Kd.V_alloc | apply Kd.V_drewN | apply Kd.V_drew)); exact HO106.out) (Kd.R_base ho95) hb); have n3_ := Aside0.mk (Kd.R_lower (Kd.R_newM (M := fun k_ => (w.heap.size ≤ k_)) ho95 (below_size (by repeat (first | (with_reducible first | exact HB.out | apply below_alloc | apply pw_below_drewN | apply below_drew1) | exact HB.out))) (fun k_ h_ => h_)) (below_size (by repeat (first | (with_reducible first | exact HB.out | apply below_alloc | apply pw_below_drewN | apply below_drew1) | exact HB.out)))); have n4_ := Aside0.mk (below_step (by repeat (first | (with_reducible first | exact HB.out | apply below_alloc | apply pw_below_drewN | apply below_drew1) | exact HB.out)) hb); clear HO_0; clear HO_8; clear HO106; clear HB; have HO_0 := n0_; have HO_8 := n1_; have HO106 := n2_; have HO135 := n3_; have HB := n4_; clear n0_ n1_ n2_ n3_ n4_; clear hb ho95) | ((with_reducible refine gate_callee (f := 22) rfl ?_); refine goesL_ (some 79) rfl rfl Try.func22 (by kernel_rfl) rfl #[.int .i64 (wrap64 (Int.tdiv (rd x0_1 0) 6)), .int .i64 6] rfl (by (try simp only [List.map_toArray, List.map_cons, List.map_nil]); first | done | rfl | (simp only [List.length_drop, List.length_take]; rfl)) ?_; (with_reducible refine (bobbinetkeep_Picked.calls (wrap64 (Int.tdiv (rd x0_1 0) 6)) 6 t136 _ A59.out).mono ?_); rintro e w' ⟨rfl, ⟨nd, rfl⟩⟩; refine ⟨_, rfl, ?_⟩; (try (rw [drewN_self w94]; generalize hq_ : World.drewN w94 _ = w94; have n0_ : Aside0 (Kd.V (Kd.int .i64) 3 w94 w.heap.size (fun k_ => (P0_ k_ ∨ w.heap.size ≤ k_) ∧ some k_ ≠ (v134 : Value).ownBlock ∧ some k_ ≠ (u8 : Value).ownBlock) (.slice A93 y102.length c93) y102) := ⟨by rw [← hq_]; exact (by (with_reducible repeat (first | apply Kd.V_alloc | apply Kd.V_drewN | apply Kd.V_drew)); exact Kd.V_mono HO106.out (fun _ hk => (by first | exact ⟨hk.1.1, ⟨hk.2, hk.1.2⟩⟩ | grind)))⟩; have n1_ : Aside0 (Kd.R Kd.string 9 w94 w.heap.size (fun k_ => (w.heap.size ≤ k_)) v134 y133) := ⟨by rw [← hq_]; exact (by (with_reducible repeat (first | apply Kd.R_alloc | apply Kd.R_drewN | apply Kd.R_drew)); exact Kd.R_mono HO135.out (fun _ hk => (by first | exact hk.1 | grind)))⟩; have n2_ : Aside0 (Kd.V (Kd.int .i64) 3 w94 w.heap.size (fun k_ => (P0_ k_ ∨ w.heap.size ≤ k_) ∧ some k_ ≠ (v134 : Value).ownBlock ∧ some k_ ≠ (u8 : Value).ownBlock) (.slice (some ad101) x0_1.length co92) x0_1) := ⟨by rw [← hq_]; exact (by (with_reducible repeat (first | apply Kd.V_alloc | apply Kd.V_drewN | apply Kd.V_drew)); exact Kd.V_mono HO_0.out (fun _ hk => (by first | exact ⟨hk.1.1, ⟨hk.2, hk.1.2⟩⟩ | grind)))⟩; have n3_ : Aside0 (Kd.R k28 28 w94 w.heap.size (fun k_ => (w.heap.size ≤ k_)) u8 x8_1) := ⟨by rw [← hq_]; exact (by (with_reducible repeat (first | apply Kd.R_alloc | apply Kd.R_drewN | apply Kd.R_drew)); exact HO_8.out)⟩; have n4_ : Aside0 (Below w.heap.size w w94) := ⟨by rw [← hq_]; exact (by repeat (first | (with_reducible first | exact HB.out | apply below_alloc | apply pw_below_drewN | apply below_drew1) | exact HB.out))⟩; clear HO106 HO135 HO_0 HO_8 HB hq_; have HO106 := n0_; have HO135 := n1_; have HO_0 := n2_; have HO_8 := n3_; have HB := n4_; clear n0_ n1_ n2_ n3_ n4_)); obtain ⟨Ao96, co96, eo96⟩ := Kd.R_slice HO135.out; subst eo96; have p137 : 0 ≤ (t136 : Int) := of_decide_eq_true (by first | (with_reducible assumption) | assumption); have q137 : t136 < (y133.length : Int) := of_decide_eq_true (by first | (with_reducible assumption) | assumption); obtain ⟨ad137, e137, hx137_0⟩ := Kd.at_string (Kd.R_reads' HO135.out).2.2 t136 p137 q137; cases e137; replace p137 := eq_true p137; replace q137 := eq_true q137) | ((with_reducible refine gate_dst (N := 12) rfl ?_); (try (refine gate_guard (by rfl) ?_; dsimp only)); refine box_event ?hg (N := 12) ?hd (cs := #[.string (⟨#[]⟩ : ByteArray), .slice none 0 0, .string (⟨#[]⟩ : ByteArray), .slice none 0 0]) (t := 28) ?hr ?_; (case hd => rfl); (case hg => rfl); (case hr => first | (go_simp; done) | (go_simp; rfl)); intro gb138 hg w97 hbox hb; have n0_ := Aside0.mk (Kd.V_below (Kd.V_elderB (by (with_reducible repeat (first | apply Kd.V_alloc | apply Kd.V_drewN | apply Kd.V_drew)); exact HO_0.out) gb138 (Nat.le_of_eq hg.symm)) hb); have n1_ := Aside0.mk (Kd.R_below (Kd.R_elderB (by (with_reducible repeat (first | apply Kd.R_alloc | apply Kd.R_drewN | apply Kd.R_drew)); exact HO_8.out) gb138 (Nat.le_of_eq hg.symm)) hb); have n2_ := Aside0.mk (Kd.V_below (Kd.V_elderB (by (with_reducible repeat (first | apply Kd.V_alloc | apply Kd.V_drewN | apply Kd.V_drew)); exact HO106.out) gb138 (Nat.le_of_eq hg.symm)) hb); have n3_ := Aside0.mk (Kd.R_below (by (with_reducible repeat (first | apply Kd.R_alloc | apply Kd.R_drewN | apply Kd.R_drew)); exact HO135.out) hb); have n4_ := Aside0.mk (below_step (by repeat (first | (with_reducible first | exact HB.out | apply below_alloc | apply pw_below_drewN | apply below_drew1) | exact HB.out)) hb); have n5_ := Aside0.mk (hbox); have n6_ := Aside0.mk ((by rw [hg]; exact (below_size (by repeat (first | (with_reducible first | exact HB.out | apply below_alloc | apply pw_below_drewN | apply below_drew1) | exact HB.out))) : w.heap.size ≤ gb138)); have n7_ := Aside0.mk ((by rw [hg]; exact (below_size (by repeat (first | (with_reducible first | exact HB.out | apply below_alloc | apply pw_below_drewN | apply below_drew1) | exact HB.out))) : w.heap.size ≤ gb138)); clear HO_0; clear HO_8; clear HO106; clear HO135; clear HB; have HO_0 := n0_; have HO_8 := n1_; have HO106 := n2_; have HO135 := n3_; have HB := n4_; have BK138 := n5_; have GW138 := n6_; have GE138 := n7_; clear n0_ n1_ n2_ n3_ n4_ n5_ n6_ n7_; clear hb hbox hg; have hcz98_0 : w97.cell? ⟨gb138, 0, none⟩ = some (.string (⟨#[]⟩ : ByteArray)) := (blk_cell BK138.out 0).trans rfl; have hcz98_1 : w97.cell? ⟨gb138, 1, none⟩ = some (.slice none 0 0) := (blk_cell BK138.out 1).trans rfl; have hcz98_2 : w97.cell? ⟨gb138, 2, none⟩ = some (.string (⟨#[]⟩ : ByteArray)) := (blk_cell BK138.out 2).trans rfl; have hcz98_3 : w97.cell? ⟨gb138, 3, none⟩ = some (.slice none 0 0) := (blk_cell BK138.out 3).trans rfl; have hfz98_0 := blk_frozen BK138.out 0; have hfz98_1 := blk_frozen BK138.out 1; have hfz98_2 := blk_frozen BK138.out 2; have hfz98_3 := blk_frozen BK138.out 3) | ((with_reducible refine gate_store (t := 28) (p := 12) rfl ?_); refine store_event (t := 28) (p := 12) (v := ?vo_w99) (w1 := ((((w97.setCell ⟨gb138, 0, none⟩ (.string (rdOf ByteArray.empty y133 t136))).setCell ⟨gb138, 1, none⟩ (.slice none 0 0)).setCell ⟨gb138, 2, none⟩ (.string (⟨#[]⟩ : ByteArray))).setCell ⟨gb138, 3, none⟩ (.slice none 0 0))) ?hg ?ho ?hn ?hr ?_; (case ho => rfl); (case hg => rfl); (case hn => rfl); (case hr => first | (go_simp; done) | (go_simp; rfl)); intro w99 hw; have n0_ : Aside0 (Kd.V (Kd.int .i64) 3 w99 w.heap.size (fun k_ => (P0_ k_ ∨ w.heap.size ≤ k_) ∧ some k_ ≠ (u8 : Value).ownBlock ∧ some k_ ≠ (.slice (some ad137) y133.length co96 : Value).ownBlock ∧ k_ ≠ gb138) (.slice (some ad101) x0_1.length co92) x0_1) := ⟨(by rw [hw]; exact (by (with_reducible repeat (first | apply Kd.V_alloc | apply Kd.V_drewN | apply Kd.V_drew)); exact Kd.V_mono (Kd.V_far (p := ⟨gb138, 3, none⟩) (Kd.V_far (p := ⟨gb138, 2, none⟩) (Kd.V_far (p := ⟨gb138, 1, none⟩) (Kd.V_far (p := ⟨gb138, 0, none⟩) (Kd.V_mono HO_0.out (fun k_ hk => (⟨hk, (by first | exact hk.2 | grind)⟩ : _ ∧ k_ ≠ gb138))) (fun _ hk => hk.2) (.string (rdOf ByteArray.empty y133 t136))) (fun _ hk => hk.2) (.slice none 0 0)) (fun _ hk => hk.2) (.string (⟨#[]⟩ : ByteArray))) (fun _ hk => hk.2) (.slice none 0 0)) (fun _ hk => (by first | exact ⟨hk.1.1.1.1, ⟨hk.1.1.1.2, ⟨hk.1.1.2, hk.1.2⟩⟩⟩ | grind))))⟩; have n1_ : Aside0 (Kd.R k28 28 w99 w.heap.size (fun k_ => (w.heap.size ≤ k_) ∧ k_ ≠ gb138) u8 x8_1) := ⟨(by rw [hw]; exact (by (with_reducible repeat (first | apply Kd.R_alloc | apply Kd.R_drewN | apply Kd.R_drew)); exact Kd.R_mono (Kd.R_far (p := ⟨gb138, 3, none⟩) (Kd.R_far (p := ⟨gb138, 2, none⟩) (Kd.R_far (p := ⟨gb138, 1, none⟩) (Kd.R_far (p := ⟨gb138, 0, none⟩) (Kd.R_mono HO_8.out (fun k_ hk => (⟨hk, (by first | exact hk.2 | grind)⟩ : _ ∧ k_ ≠ gb138))) (fun _ hk => hk.2) (.string (rdOf ByteArray.empty y133 t136))) (fun _ hk => hk.2) (.slice none 0 0)) (fun _ hk => hk.2) (.string (⟨#[]⟩ : ByteArray))) (fun _ hk => hk.2) (.slice none 0 0)) (fun _ hk => (by first | exact ⟨hk.1.1, hk.1.2⟩ | grind))))⟩; have n2_ : Aside0 (Kd.V (Kd.int .i64) 3 w99 w.heap.size (fun k_ => (P0_ k_ ∨ w.heap.size ≤ k_) ∧ some k_ ≠ (u8 : Value).ownBlock ∧ some k_ ≠ (.slice (some ad137) y133.length co96 : Value).ownBlock ∧ k_ ≠ gb138) (.slice A93 y102.length c93) y102) := ⟨(by rw [hw]; exact (by (with_reducible repeat (first | apply Kd.V_alloc | apply Kd.V_drewN | apply Kd.V_drew)); exact Kd.V_mono (Kd.V_far (p := ⟨gb138, 3, none⟩) (Kd.V_far (p := ⟨gb138, 2, none⟩) (Kd.V_far (p := ⟨gb138, 1, none⟩) (Kd.V_far (p := ⟨gb138, 0, none⟩) (Kd.V_mono HO106.out (fun k_ hk => (⟨hk, (by first | exact hk.2 | grind)⟩ : _ ∧ k_ ≠ gb138))) (fun _ hk => hk.2) (.string (rdOf ByteArray.empty y133 t136))) (fun _ hk => hk.2) (.slice none 0 0)) (fun _ hk => hk.2) (.string (⟨#[]⟩ : ByteArray))) (fun _ hk => hk.2) (.slice none 0 0)) (fun _ hk => (by first | exact ⟨hk.1.1.1.1, ⟨hk.1.1.1.2, ⟨hk.1.1.2, hk.1.2⟩⟩⟩ | grind))))⟩; have n3_ : Aside0 (Kd.R Kd.string 9 w99 w.heap.size (fun k_ => (w.heap.size ≤ k_)) (.slice (some ad137) y133.length co96) y133) := ⟨(by rw [hw]; exact (by (with_reducible repeat (first | apply Kd.R_alloc | apply Kd.R_drewN | apply Kd.R_drew)); exact Kd.R_mono (Kd.R_far (p := ⟨gb138, 3, none⟩) (Kd.R_far (p := ⟨gb138, 2, none⟩) (Kd.R_far (p := ⟨gb138, 1, none⟩) (Kd.R_far (p := ⟨gb138, 0, none⟩) (Kd.R_types HO135.out BK138.out (by decide)) (fun _ hk => hk.2) (.string (rdOf ByteArray.empty y133 t136))) (fun _ hk => hk.2) (.slice none 0 0)) (fun _ hk => hk.2) (.string (⟨#[]⟩ : ByteArray))) (fun _ hk => hk.2) (.slice none 0 0)) (fun _ hk => (by first | exact hk.1.1 | grind))))⟩; have n4_ : Aside0 (w99.heap[gb138]? = some (.cells #[.string (rdOf ByteArray.empty y133 t136), .slice none 0 0, .string (⟨#[]⟩ : ByteArray), .slice none 0 0] 28 (0, 0))) := ⟨(by rw [hw]; exact (by (with_reducible repeat (first | refine blk_drewN ?_ _ | refine blk_drew ?_ | refine blk_alloc ?_ _)); refine blk_put (cs := #[.string (rdOf ByteArray.empty y133 t136), .slice none 0 0, .string (⟨#[]⟩ : ByteArray), .slice none 0 0]) ?_ 3 _ rfl; (with_reducible repeat (first | refine blk_drewN ?_ _ | refine blk_drew ?_ | refine blk_alloc ?_ _)); refine blk_put (cs := #[.string (rdOf ByteArray.empty y133 t136), .slice none 0 0, .string (⟨#[]⟩ : ByteArray), .slice none 0 0]) ?_ 2 _ rfl; (with_reducible repeat (first | refine blk_drewN ?_ _ | refine blk_drew ?_ | refine blk_alloc ?_ _)); refine blk_put (cs := #[.string (rdOf ByteArray.empty y133 t136), .slice none 0 0, .string (⟨#[]⟩ : ByteArray), .slice none 0 0]) ?_ 1 _ rfl; (with_reducible repeat (first | refine blk_drewN ?_ _ | refine blk_drew ?_ | refine blk_alloc ?_ _)); refine blk_put (cs := #[.string (⟨#[]⟩ : ByteArray), .slice none 0 0, .string (⟨#[]⟩ : ByteArray), .slice none 0 0]) ?_ 0 _ rfl; (with_reducible repeat (first | refine blk_drewN ?_ _ | refine blk_drew ?_ | refine blk_alloc ?_ _)); exact BK138.out))⟩; have n5_ : Aside0 (Below w.heap.size w w99) := ⟨(by rw [hw]; exact (by repeat (first | (with_reducible first | exact HB.out | apply below_alloc | apply pw_below_drewN | apply below_drew1 | refine below_set ?_ GE138.out) | exact HB.out)))⟩; clear hw; clear HO_0; clear HO_8; clear HO106; clear HO135; clear BK138; clear HB; have HO_0 := n0_; have HO_8 := n1_; have HO106 := n2_; have HO135 := n3_; have BK138 := n4_; have HB := n5_; clear n0_ n1_ n2_ n3_ n4_ n5_) | ((with_reducible refine gate_callee (f := 22) rfl ?_); refine goesL_ (some 85) rfl rfl Try.func22 (by kernel_rfl) rfl #[.int .i64 (wrap64 (Int.tdiv (rd x0_1 0) 36)), .int .i64 3] rfl (by (try simp only [List.map_toArray, List.map_cons, List.map_nil]); first | done | rfl | (simp only [List.length_drop, List.length_take]; rfl)) ?_; (with_reducible refine (bobbinetkeep_Picked.calls (wrap64 (Int.tdiv (rd x0_1 0) 36)) 3 t139 _ A62.out).mono ?_); rintro e w' ⟨rfl, ⟨nd, rfl⟩⟩; refine ⟨_, rfl, ?_⟩; (try (rw [drewN_self w99]; generalize hq_ : World.drewN w99 _ = w99; have n0_ : Aside0 (Kd.V (Kd.int .i64) 3 w99 w.heap.size (fun k_ => (P0_ k_ ∨ w.heap.size ≤ k_) ∧ some k_ ≠ (.slice (some ad137) y133.length co96 : Value).ownBlock ∧ some k_ ≠ (u8 : Value).ownBlock ∧ k_ ≠ gb138) (.slice A93 y102.length c93) y102) := ⟨by rw [← hq_]; exact (by (with_reducible repeat (first | apply Kd.V_alloc | apply Kd.V_drewN | apply Kd.V_drew)); exact Kd.V_mono HO106.out (fun _ hk => (by first | exact ⟨hk.1, ⟨hk.2.2.1, ⟨hk.2.1, hk.2.2.2⟩⟩⟩ | grind)))⟩; have n1_ : Aside0 (Kd.R Kd.string 9 w99 w.heap.size (fun k_ => (w.heap.size ≤ k_)) (.slice (some ad137) y133.length co96) y133) := ⟨by rw [← hq_]; exact (by (with_reducible repeat (first | apply Kd.R_alloc | apply Kd.R_drewN | apply Kd.R_drew)); exact HO135.out)⟩; have n2_ : Aside0 (Kd.V (Kd.int .i64) 3 w99 w.heap.size (fun k_ => (P0_ k_ ∨ w.heap.size ≤ k_) ∧ some k_ ≠ (.slice (some ad137) y133.length co96 : Value).ownBlock ∧ some k_ ≠ (u8 : Value).ownBlock ∧ k_ ≠ gb138) (.slice (some ad101) x0_1.length co92) x0_1) := ⟨by rw [← hq_]; exact (by (with_reducible repeat (first | apply Kd.V_alloc | apply Kd.V_drewN | apply Kd.V_drew)); exact Kd.V_mono HO_0.out (fun _ hk => (by first | exact ⟨hk.1, ⟨hk.2.2.1, ⟨hk.2.1, hk.2.2.2⟩⟩⟩ | grind)))⟩; have n3_ : Aside0 (Kd.R k28 28 w99 w.heap.size (fun k_ => (w.heap.size ≤ k_) ∧ k_ ≠ gb138) u8 x8_1) := ⟨by rw [← hq_]; exact (by (with_reducible repeat (first | apply Kd.R_alloc | apply Kd.R_drewN | apply Kd.R_drew)); exact HO_8.out)⟩; have n4_ : Aside0 (w99.heap[gb138]? = some (.cells #[.string (rdOf ByteArray.empty y133 t136), .slice none 0 0, .string (⟨#[]⟩ : ByteArray), .slice none 0 0] 28 (0, 0))) := ⟨by rw [← hq_]; exact (by (with_reducible repeat (first | refine blk_drewN ?_ _ | refine blk_drew ?_ | refine blk_alloc ?_ _)); exact BK138.out)⟩; have n5_ : Aside0 (Below w.heap.size w w99) := ⟨by rw [← hq_]; exact (by repeat (first | (with_reducible first | exact HB.out | apply below_alloc | apply pw_below_drewN | apply below_drew1 | refine below_set ?_ GE138.out) | exact HB.out))⟩; clear HO106 HO135 HO_0 HO_8 BK138 HB hq_; have HO106 := n0_; have HO135 := n1_; have HO_0 := n2_; have HO_8 := n3_; have BK138 := n4_; have HB := n5_; clear n0_ n1_ n2_ n3_ n4_ n5_))) | ((with_reducible refine gate_callee (f := 12) rfl ?_); refine goesL_ (some 100) rfl rfl Try.func12 (by kernel_rfl) rfl #[.slice A93 y102.length c93, .int .i64 (wrap64 (a1 - 1)), .int .i64 4] rfl (by (try simp only [List.map_toArray, List.map_cons, List.map_nil]); first | done | rfl | (simp only [List.length_drop, List.length_take]; rfl)) ?_; (with_reducible refine (ih kj3 (by have := HK1.out; have := HJ3.out; omega) (fun k_ => ((P0_ k_ ∨ w.heap.size ≤ k_) ∧ (some k_ ≠ (u8 : Value).ownBlock ∧ (some k_ ≠ (.slice (some ad137) y133.length co96 : Value).ownBlock ∧ k_ ≠ gb138)))) _ _ y102 (wrap64 (a1 - 1)) 4 t157 t160 _ ?side1 A90.out).mono ?_); (case side1 => first | exact HO106.out | exact Kd.V_mono HO106.out (fun k_ h_ => by grind)); rintro e w100 ⟨v158, v161, rfl, ho0, ho1, hb⟩; refine ⟨_, rfl, ?_⟩; have n0_ := Aside0.mk (Kd.V_elder' (by (with_reducible repeat (first | apply Kd.V_alloc | apply Kd.V_drewN | apply Kd.V_drew)); exact HO_0.out) (Kd.R_base ho0) hb); have n1_ := Aside0.mk (Kd.R_elder' (by (with_reducible repeat (first | apply Kd.R_alloc | apply Kd.R_drewN | apply Kd.R_drew)); exact HO_8.out) (Kd.R_base ho0) hb); have n2_ := Aside0.mk (Kd.V_elder' (by (with_reducible repeat (first | apply Kd.V_alloc | apply Kd.V_drewN | apply Kd.V_drew)); exact HO106.out) (Kd.R_base ho0) hb); have n3_ := Aside0.mk (Kd.R_below (by (with_reducible repeat (first | apply Kd.R_alloc | apply Kd.R_drewN | apply Kd.R_drew)); exact HO135.out) hb); have n4_ := Aside0.mk (Kd.R_lower (Kd.R_newB (Kd.R_new' (Kd.R_newM (M := fun k_ => (w.heap.size ≤ k_)) (Kd.R_mono (ok' := fun k_ => True) ho0 (fun _ hk_ => trivial)) (below_size (by repeat (first | (with_reducible first | exact HB.out | apply below_alloc | apply pw_below_drewN | apply below_drew1 | refine below_set ?_ GE138.out) | exact HB.out))) (fun k_ h_ => h_)) (Kd.R_lt (by (with_reducible repeat (first | apply Kd.R_alloc | apply Kd.R_drewN | apply Kd.R_drew)); exact HO_8.out))) (g := gb138) (o := .cells #[.string (rdOf ByteArray.empty y133 t136), .slice none 0 0, .string (⟨#[]⟩ : ByteArray), .slice none 0 0] 28 (0, 0)) (by (with_reducible repeat (first | refine blk_drewN ?_ _ | refine blk_drew ?_ | refine blk_alloc ?_ _)); exact BK138.out)) (below_size (by repeat (first | (with_reducible first | exact HB.out | apply below_alloc | apply pw_below_drewN | apply below_drew1 | refine below_set ?_ GE138.out) | exact HB.out)))); have n5_ := Aside0.mk (Kd.V_lower (Kd.V_mono (ok' := fun k_ => (P0_ k_ ∨ w.heap.size ≤ k_) ∧ some k_ ≠ (v158 : Value).ownBlock ∧ some k_ ≠ (u8 : Value).ownBlock ∧ some k_ ≠ (.slice (some ad137) y133.length co96 : Value).ownBlock ∧ k_ ≠ gb138) ho1 (fun k_ hk_ => ⟨Or.elim hk_.1 (fun hs_ => (by first | exact hs_.1 | grind)) (fun hn_ => (.inr (Nat.le_trans (below_size (by repeat (first | (with_reducible first | exact HB.out | apply below_alloc | apply pw_below_drewN | apply below_drew1 | refine below_set ?_ GE138.out) | exact HB.out))) hn_))), hk_.2, Or.elim hk_.1 (fun hs_ => (by first | exact hs_.2.1 | grind)) (fun hn_ => (Kd.fresh' (Kd.R_lt (by (with_reducible repeat (first | apply Kd.R_alloc | apply Kd.R_drewN | apply Kd.R_drew)); exact HO_8.out)) k_ hn_)), Or.elim hk_.1 (fun hs_ => (by first | exact hs_.2.2.1 | grind)) (fun hn_ => (Kd.fresh' (Kd.R_lt (by (with_reducible repeat (first | apply Kd.R_alloc | apply Kd.R_drewN | apply Kd.R_drew)); exact HO135.out)) k_ hn_)), Or.elim hk_.1 (fun hs_ => (by first | exact hs_.2.2.2 | grind)) (fun hn_ => (Kd.freshB (g := gb138) (o := .cells #[.string (rdOf ByteArray.empty y133 t136), .slice none 0 0, .string (⟨#[]⟩ : ByteArray), .slice none 0 0] 28 (0, 0)) (by (with_reducible repeat (first | refine blk_drewN ?_ _ | refine blk_drew ?_ | refine blk_alloc ?_ _)); exact BK138.out) k_ hn_))⟩)) (below_size (by repeat (first | (with_reducible first | exact HB.out | apply below_alloc | apply pw_below_drewN | apply below_drew1 | refine below_set ?_ GE138.out) | exact HB.out)))); have n6_ := Aside0.mk (blk_below (g := gb138) (o := .cells #[.string (rdOf ByteArray.empty y133 t136), .slice none 0 0, .string (⟨#[]⟩ : ByteArray), .slice none 0 0] 28 (0, 0)) (by (with_reducible repeat (first | refine blk_drewN ?_ _ | refine blk_drew ?_ | refine blk_alloc ?_ _)); exact BK138.out) hb); have n7_ := Aside0.mk (below_step (by repeat (first | (with_reducible first | exact HB.out | apply below_alloc | apply pw_below_drewN | apply below_drew1 | refine below_set ?_ GE138.out) | exact HB.out)) hb); clear HO_0; clear HO_8; clear HO106; clear HO135; clear BK138; clear HB; have HO_0 := n0_; have HO_8 := n1_; have HO106 := n2_; have HO135 := n3_; have HO159 := n4_; have HO162 := n5_; have BK138 := n6_; have HB := n7_; clear n0_ n1_ n2_ n3_ n4_ n5_ n6_ n7_; (try clear hb); (try clear hb2); (try clear hk); (try clear hi); (try clear ho0); (try clear ho1); obtain ⟨Ao101, co101, eo101⟩ := Kd.R_slice HO159.out; subst eo101; have hcz102_0 : w100.cell? ⟨gb138, 0, none⟩ = some (.string (rdOf ByteArray.empty y133 t136)) := (blk_cell BK138.out 0).trans rfl; have hcz102_1 : w100.cell? ⟨gb138, 1, none⟩ = some (.slice none 0 0) := (blk_cell BK138.out 1).trans rfl; have hcz102_2 : w100.cell? ⟨gb138, 2, none⟩ = some (.string (⟨#[]⟩ : ByteArray)) := (blk_cell BK138.out 2).trans rfl; have hcz102_3 : w100.cell? ⟨gb138, 3, none⟩ = some (.slice none 0 0) := (blk_cell BK138.out 3).trans rfl; have hfz102_0 := blk_frozen BK138.out 0; have hfz102_1 := blk_frozen BK138.out 1; have hfz102_2 := blk_frozen BK138.out 2; have hfz102_3 := blk_frozen BK138.out 3) | ((with_reducible refine gate_store (t := 23) (p := 103) rfl ?_); refine store_event (t := 23) (p := 103) (v := ?vo_w103) (w1 := (w100.setCell ⟨gb138, 3, none⟩ (.slice Ao101 t157.length co101))) ?hg ?ho ?hn ?hr ?_; (case ho => rfl); (case hg => rfl); (case hn => rfl); (case hr => first | (go_simp; done) | (go_simp; rfl)); intro w103 hw; have n0_ : Aside0 (Kd.V (Kd.int .i64) 3 w103 w.heap.size (fun k_ => (P0_ k_ ∨ w.heap.size ≤ k_) ∧ some k_ ≠ (u8 : Value).ownBlock ∧ some k_ ≠ (.slice (some ad137) y133.length co96 : Value).ownBlock ∧ some k_ ≠ (.slice Ao101 t157.length co101 : Value).ownBlock ∧ k_ ≠ gb138) (.slice (some ad101) x0_1.length co92) x0_1) := ⟨(by rw [hw]; exact (by (with_reducible repeat (first | apply Kd.V_alloc | apply Kd.V_drewN | apply Kd.V_drew)); exact Kd.V_mono (Kd.V_far (p := ⟨gb138, 3, none⟩) (Kd.V_mono HO_0.out (fun k_ hk => (⟨hk, (by first | exact hk.1.2.2.2 | grind)⟩ : _ ∧ k_ ≠ gb138))) (fun _ hk => hk.2) (.slice Ao101 t157.length co101)) (fun _ hk => (by first | exact ⟨hk.1.1.1, ⟨hk.1.1.2.1, ⟨hk.1.1.2.2.1, ⟨hk.1.2, hk.1.1.2.2.2⟩⟩⟩⟩ | grind))))⟩; have n1_ : Aside0 (Kd.R k28 28 w103 w.heap.size (fun k_ => (w.heap.size ≤ k_) ∧ some k_ ≠ (.slice Ao101 t157.length co101 : Value).ownBlock ∧ k_ ≠ gb138) u8 x8_1) := ⟨(by rw [hw]; exact (by (with_reducible repeat (first | apply Kd.R_alloc | apply Kd.R_drewN | apply Kd.R_drew)); exact Kd.R_mono (Kd.R_far (p := ⟨gb138, 3, none⟩) (Kd.R_mono HO_8.out (fun k_ hk => (⟨hk, (by first | exact hk.1.2 | grind)⟩ : _ ∧ k_ ≠ gb138))) (fun _ hk => hk.2) (.slice Ao101 t157.length co101)) (fun _ hk => (by first | exact ⟨hk.1.1.1, ⟨hk.1.2, hk.1.1.2⟩⟩ | grind))))⟩; have n2_ : Aside0 (Kd.V (Kd.int .i64) 3 w103 w.heap.size (fun k_ => (P0_ k_ ∨ w.heap.size ≤ k_) ∧ some k_ ≠ (u8 : Value).ownBlock ∧ some k_ ≠ (.slice (some ad137) y133.length co96 : Value).ownBlock ∧ some k_ ≠ (.slice Ao101 t157.length co101 : Value).ownBlock ∧ k_ ≠ gb138) (.slice A93 y102.length c93) y102) := ⟨(by rw [hw]; exact (by (with_reducible repeat (first | apply Kd.V_alloc | apply Kd.V_drewN | apply Kd.V_drew)); exact Kd.V_mono (Kd.V_far (p := ⟨gb138, 3, none⟩) (Kd.V_mono HO106.out (fun k_ hk => (⟨hk, (by first | exact hk.1.2.2.2 | grind)⟩ : _ ∧ k_ ≠ gb138))) (fun _ hk => hk.2) (.slice Ao101 t157.length co101)) (fun _ hk => (by first | exact ⟨hk.1.1.1, ⟨hk.1.1.2.1, ⟨hk.1.1.2.2.1, ⟨hk.1.2, hk.1.1.2.2.2⟩⟩⟩⟩ | grind))))⟩; have n3_ : Aside0 (Kd.R Kd.string 9 w103 w.heap.size (fun k_ => (w.heap.size ≤ k_)) (.slice (some ad137) y133.length co96) y133) := ⟨(by rw [hw]; exact (by (with_reducible repeat (first | apply Kd.R_alloc | apply Kd.R_drewN | apply Kd.R_drew)); exact Kd.R_mono (Kd.R_far (p := ⟨gb138, 3, none⟩) (Kd.R_types HO135.out BK138.out (by decide)) (fun _ hk => hk.2) (.slice Ao101 t157.length co101)) (fun _ hk => (by first | exact hk.1 | grind))))⟩; have n4_ : Aside0 (Kd.R k28 28 w103 w.heap.size (fun k_ => (w.heap.size ≤ k_) ∧ some k_ ≠ (u8 : Value).ownBlock ∧ k_ ≠ gb138) (.slice Ao101 t157.length co101) t157) := ⟨(by rw [hw]; exact (by (with_reducible repeat (first | apply Kd.R_alloc | apply Kd.R_drewN | apply Kd.R_drew)); exact Kd.R_mono (Kd.R_far (p := ⟨gb138, 3, none⟩) (Kd.R_mono HO159.out (fun k_ hk => (⟨hk, (by first | exact hk.2 | grind)⟩ : _ ∧ k_ ≠ gb138))) (fun _ hk => hk.2) (.slice Ao101 t157.length co101)) (fun _ hk => (by first | exact ⟨hk.1.1.1.1, ⟨hk.1.1.2, hk.1.2⟩⟩ | grind))))⟩; have n5_ : Aside0 (Kd.V (Kd.int .i64) 3 w103 w.heap.size (fun k_ => (P0_ k_ ∨ w.heap.size ≤ k_) ∧ some k_ ≠ (u8 : Value).ownBlock ∧ some k_ ≠ (.slice (some ad137) y133.length co96 : Value).ownBlock ∧ some k_ ≠ (.slice Ao101 t157.length co101 : Value).ownBlock ∧ k_ ≠ gb138) v161 t160) := ⟨(by rw [hw]; exact (by (with_reducible repeat (first | apply Kd.V_alloc | apply Kd.V_drewN | apply Kd.V_drew)); exact Kd.V_mono (Kd.V_far (p := ⟨gb138, 3, none⟩) (Kd.V_mono HO162.out (fun k_ hk => (⟨hk, (by first | exact hk.2.2.2.2 | grind)⟩ : _ ∧ k_ ≠ gb138))) (fun _ hk => hk.2) (.slice Ao101 t157.length co101)) (fun _ hk => (by first | exact ⟨hk.1.1, ⟨hk.1.2.2.1, ⟨hk.1.2.2.2.1, ⟨hk.1.2.1, hk.1.2.2.2.2⟩⟩⟩⟩ | grind))))⟩; have n6_ : Aside0 (w103.heap[gb138]? = some (.cells #[.string (rdOf ByteArray.empty y133 t136), .slice none 0 0, .string (⟨#[]⟩ : ByteArray), .slice Ao101 t157.length co101] 28 (0, 0))) := ⟨(by rw [hw]; exact (by (with_reducible repeat (first | refine blk_drewN ?_ _ | refine blk_drew ?_ | refine blk_alloc ?_ _)); refine blk_put (cs := #[.string (rdOf ByteArray.empty y133 t136), .slice none 0 0, .string (⟨#[]⟩ : ByteArray), .slice none 0 0]) ?_ 3 _ rfl; (with_reducible repeat (first | refine blk_drewN ?_ _ | refine blk_drew ?_ | refine blk_alloc ?_ _)); exact BK138.out))⟩; have n7_ : Aside0 (Below w.heap.size w w103) := ⟨(by rw [hw]; exact (by repeat (first | (with_reducible first | exact HB.out | apply below_alloc | apply pw_below_drewN | apply below_drew1 | refine below_set ?_ GE138.out) | exact HB.out)))⟩; clear hw; clear HO_0; clear HO_8; clear HO106; clear HO135; clear HO159; clear HO162; clear BK138; clear HB; have HO_0 := n0_; have HO_8 := n1_; have HO106 := n2_; have HO135 := n3_; have HO159 := n4_; have HO162 := n5_; have BK138 := n6_; have HB := n7_; clear n0_ n1_ n2_ n3_ n4_ n5_ n6_ n7_; have hcz104_0 : w103.cell? ⟨gb138, 0, none⟩ = some (.string (rdOf ByteArray.empty y133 t136)) := (blk_cell BK138.out 0).trans rfl; have hcz104_1 : w103.cell? ⟨gb138, 1, none⟩ = some (.slice none 0 0) := (blk_cell BK138.out 1).trans rfl; have hcz104_2 : w103.cell? ⟨gb138, 2, none⟩ = some (.string (⟨#[]⟩ : ByteArray)) := (blk_cell BK138.out 2).trans rfl; have hcz104_3 : w103.cell? ⟨gb138, 3, none⟩ = some (.slice Ao101 t157.length co101) := (blk_cell BK138.out 3).trans rfl; have hfz104_0 := blk_frozen BK138.out 0; have hfz104_1 := blk_frozen BK138.out 1; have hfz104_2 := blk_frozen BK138.out 2; have hfz104_3 := blk_frozen BK138.out 3) | ((with_reducible refine gate_builtin (b := .append) (xs := #[.tmp 104, .tmp 106]) rfl ?_); (try (refine gate_guard (by rfl) ?_; dsimp only)); at_builtin; refine Kd.R_append k28 (w0 := w) w.heap.size rfl (.tmp 104) (.tmp 106) 23 28 (.agg #[(.string ⟨#[]⟩), (.slice none 0 0), (.string ⟨#[]⟩), (.slice none 0 0)]) 80 rfl Try.underlying23 info28 rfl (by decide) (by omega) u8 x8_1 (⟨rdOf ByteArray.empty y133 t136, ([] : List (S68)), (⟨#[]⟩ : ByteArray), t157⟩ : S28) [.string (rdOf ByteArray.empty y133 t136), .slice none 0 0, .string (⟨#[]⟩ : ByteArray), .slice Ao101 t157.length co101] (fun k_ => (w.heap.size ≤ k_) ∧ k_ ≠ gb138) (fun k_ => ((fun k_ => (w.heap.size ≤ k_) ∧ k_ ≠ gb138)) k_ ∧ some k_ ≠ (u8 : Value).ownBlock) rfl rfl ?aP (fun _ hk => hk) ?aF ?aO ?aB ?aS ?aL ?_; (case aP => exact k28_mkM _ _ _ (⟨rdOf ByteArray.empty y133 t136, ([] : List (S68)), (⟨#[]⟩ : ByteArray), t157⟩ : S28) (Kd.R_nil _ _ _ _ _) (Kd.R_mono (HO159.out) (fun k_ hk => (by first | exact ⟨⟨hk.1, hk.2.2⟩, hk.2.1⟩ | grind)))); (case aB => exact (by repeat (first | (with_reducible first | exact HB.out | apply below_alloc | apply pw_below_drewN | apply below_drew1 | refine below_set ?_ GE138.out) | exact HB.out))); (case aF => exact (fun k_ hk => ⟨(Nat.le_trans (below_size (by repeat (first | (with_reducible first | exact HB.out | apply below_alloc | apply pw_below_drewN | apply below_drew1 | refine below_set ?_ GE138.out) | exact HB.out))) hk), Kd.freshB (g := gb138) (o := .cells #[.string (rdOf ByteArray.empty y133 t136), .slice none 0 0, .string (⟨#[]⟩ : ByteArray), .slice Ao101 t157.length co101] 28 (0, 0)) (by (with_reducible repeat (first | refine blk_drewN ?_ _ | refine blk_drew ?_ | refine blk_alloc ?_ _)); exact BK138.out) k_ hk⟩)); (case aO => exact (by (with_reducible repeat (first | apply Kd.R_alloc | apply Kd.R_drewN | apply Kd.R_drew)); exact Kd.R_mono HO_8.out (fun _ hk => (by first | exact ⟨hk.1, hk.2.2⟩ | grind)))); (case aS => exact (below_size (by repeat (first | (with_reducible first | exact HB.out | apply below_alloc | apply pw_below_drewN | apply below_drew1 | refine below_set ?_ GE138.out) | exact HB.out)))); (case aL => have := LMc91.out; omega); intro v164 w105 ho hb hg hat; rw [← Ny163.out] at ho; have n0_ := Aside0.mk (Kd.V_afterv (ok := (fun k_ => (P0_ k_ ∨ w.heap.size ≤ k_) ∧ some k_ ≠ (.slice (some ad137) y133.length co96 : Value).ownBlock ∧ some k_ ≠ (.slice Ao101 t157.length co101 : Value).ownBlock ∧ k_ ≠ gb138)) (by (with_reducible repeat (first | apply Kd.V_alloc | apply Kd.V_drewN | apply Kd.V_drew)); exact Kd.V_mono HO_0.out (fun _ hk => (by first | exact ⟨⟨hk.1, ⟨hk.2.2.1, ⟨hk.2.2.2.1, hk.2.2.2.2⟩⟩⟩, hk.2.1⟩ | grind))) hg hat); have n1_ := Aside0.mk (Kd.V_afterv (ok := (fun k_ => (P0_ k_ ∨ w.heap.size ≤ k_) ∧ some k_ ≠ (.slice (some ad137) y133.length co96 : Value).ownBlock ∧ some k_ ≠ (.slice Ao101 t157.length co101 : Value).ownBlock ∧ k_ ≠ gb138)) (by (with_reducible repeat (first | apply Kd.V_alloc | apply Kd.V_drewN | apply Kd.V_drew)); exact Kd.V_mono HO106.out (fun _ hk => (by first | exact ⟨⟨hk.1, ⟨hk.2.2.1, ⟨hk.2.2.2.1, hk.2.2.2.2⟩⟩⟩, hk.2.1⟩ | grind))) hg hat); have n2_ := Aside0.mk (Kd.R_over' (by (with_reducible repeat (first | apply Kd.R_alloc | apply Kd.R_drewN | apply Kd.R_drew)); exact HO135.out) (Kd.R_typed (by (with_reducible repeat (first | apply Kd.R_alloc | apply Kd.R_drewN | apply Kd.R_drew)); exact HO_8.out)) (by decide) hg); have n3_ := Aside0.mk (blk_grown (g := gb138) (o := .cells #[.string (rdOf ByteArray.empty y133 t136), .slice none 0 0, .string (⟨#[]⟩ : ByteArray), .slice Ao101 t157.length co101] 28 (0, 0)) (by (with_reducible repeat (first | refine blk_drewN ?_ _ | refine blk_drew ?_ | refine blk_alloc ?_ _)); exact BK138.out) hg (Kd.R_away HO_8.out (fun _ hk => (by first | exact hk.2.2 | grind)))); have n4_ := Aside0.mk (Kd.V_afterv (ok := (fun k_ => (P0_ k_ ∨ w.heap.size ≤ k_) ∧ some k_ ≠ (.slice (some ad137) y133.length co96 : Value).ownBlock ∧ some k_ ≠ (.slice Ao101 t157.length co101 : Value).ownBlock ∧ k_ ≠ gb138)) (by (with_reducible repeat (first | apply Kd.V_alloc | apply Kd.V_drewN | apply Kd.V_drew)); exact Kd.V_mono HO162.out (fun _ hk => (by first | exact ⟨⟨hk.1, ⟨hk.2.2.1, ⟨hk.2.2.2.1, hk.2.2.2.2⟩⟩⟩, hk.2.1⟩ | grind))) hg hat); have n5_ := Aside0.mk (hb); have n6_ := Aside0.mk (ho); clear HO_0; clear HO106; clear HO135; clear BK138; clear HO162; clear HB; clear HO_8; clear HO159; have HO_0 := n0_; have HO106 := n1_; have HO135 := n2_; have BK138 := n3_; have HO162 := n4_; have HB := n5_; have HO165 := n6_; clear n0_ n1_ n2_ n3_ n4_ n5_ n6_; clear ho hb hg hat))
                go_roundg kj3
                case measure => have := HK1.out; have := HJ3.out; omega
                case rel => exact ⟨(t160), (y163), H', ⟨by have := HK1.out; have := HJ3.out; omega⟩, ⟨by (with_reducible repeat (first | apply Kd.V_alloc | apply Kd.V_drewN | apply Kd.V_drew)); exact Kd.V_mono HO162.out (fun _ hk => (by first | exact ⟨hk.1.1, hk.2⟩ | grind))⟩, ⟨by (with_reducible repeat (first | apply Kd.R_alloc | apply Kd.R_drewN | apply Kd.R_drew)); exact Kd.R_mono HO165.out (fun _ hk => (by first | exact hk.1 | grind))⟩, ⟨by repeat (first | (with_reducible first | exact HB.out | apply below_alloc | apply pw_below_drewN | apply below_drew1 | refine below_set ?_ GE138.out) | exact HB.out)⟩⟩
               ·
                rw [if_neg c91] at H
                exact absurd H (by simp)
             ·
              rw [if_neg c61] at H
              exact absurd H (by simp)
            ·
             rw [if_neg c60] at H
             exact absurd H (by simp)
           ·
            rw [if_neg c58] at H
            have c58b0 : decide (1 < a1) = false := decide_eq_false c58
            clear c58
            have H' := Aside0.mk H
            clear H
            obtain ⟨Ao106, co106, eo106⟩ := Kd.V_slice HO_0.out
            subst eo106
            have p101 : 0 ≤ (0 : Int) := (by omega)
            have q101 : 0 < (x0_1.length : Int) := of_decide_eq_true (by first | (with_reducible assumption) | assumption)
            obtain ⟨ad101, e101, hx101_0⟩ := Kd.at_int (Kd.V_reads' HO_0.out).2.2 0 p101 q101
            cases e101
            have qi101 : (0 < x0_1.length) = True := eq_true (by omega)
            (try rw [show ((0 : Int)).toNat = 0 from rfl] at hx101_0)
            (try rw [Addr.add_zero'] at hx101_0)
            replace p101 := eq_true p101
            replace q101 := eq_true q101
            have q107 : (1 : Int) ≤ ((x0_1.length : Int) : Int) := of_decide_eq_true (by first | (with_reducible assumption) | assumption)
            obtain ⟨i0107, hi0107, _, hsz107, _⟩ := info_parts info3
            have hroom107 : x0_1.length ≤ co106 := (Kd.V_reads' HO_0.out).2.1
            have hC107 : Kd.F (Kd.int .i64) _ _ (some ad101) x0_1.length x0_1 := (Kd.V_at (base := w.heap.size) HO_0.out).2.2
            have hcut107 := cut_from (P := Try.prog) 22 3 .i64 Try.underlying22 hi0107 1 hsz107 (some ad101) x0_1.length co106 1 (by omega) q107
            have hr107 := Kd.F_cut (m := (1 : Int).toNat) (c := co106) hC107 (by omega) hroom107
            obtain ⟨A107, hA107⟩ : ∃ A1, A1 = (if co106 = (1 : Int).toNat then (some ad101) else ((some ad101) : Option Addr).map (·.add ((1 : Int).toNat * 1))) := ⟨_, rfl⟩
            obtain ⟨c107, hc107⟩ : ∃ c1, c1 = co106 - (1 : Int).toNat := ⟨_, rfl⟩
            have hy107 : y102.length = x0_1.length - (1 : Int).toNat := (by rw [Ny102.out, List.length_drop] <;> omega)
            rw [show (x0_1).drop (1 : Int).toNat = y102 from Ny102.out.symm] at hr107
            replace hr107 : Kd.F (Kd.int .i64) _ _ A107 y102.length y102 := (by rw [hA107]; exact hr107)
            rw [← hy107, ← hA107, ← hc107] at hcut107
            have HO106 := Aside0.mk (show Kd.V (Kd.int .i64) 3 _ w.heap.size _ (.slice A107 y102.length c107) y102 from Kd.V_mk (by rw [hy107, hc107]; exact Nat.sub_le_sub_right hroom107 _) hr107)
            have HC106 := Aside0.mk (show y102.length ≤ c107 from by rw [hy107, hc107]; exact Nat.sub_le_sub_right hroom107 _)
            clear hr107 hC107 hroom107 hi0107 hsz107 hc107
            have KY107 := Aside0.mk hy107
            have KA107 := Aside0.mk hA107
            clear hy107 hA107
            replace q107 := eq_true q107
            go_wp2_with (first | ((with_reducible refine gate_callee (f := 22) rfl ?_); refine goesL_ (some 28) rfl rfl Try.func22 (by kernel_rfl) rfl #[.int .i64 (rd x0_1 0), .int .i64 6] rfl (by (try simp only [List.map_toArray, List.map_cons, List.map_nil]); first | done | rfl | (simp only [List.length_drop, List.length_take]; rfl)) ?_; (with_reducible refine (bobbinetkeep_Picked.calls (rd x0_1 0) 6 t107 _ A12.out).mono ?_); rintro e w' ⟨rfl, ⟨nd, rfl⟩⟩; refine ⟨_, rfl, ?_⟩))
            go_roundg kj3
            case measure => have := HK1.out; have := HJ3.out; omega
            case rel => exact ⟨(y102), (x8_1), H', ⟨by have := HK1.out; have := HJ3.out; omega⟩, ⟨by (with_reducible repeat (first | apply Kd.V_alloc | apply Kd.V_drewN | apply Kd.V_drew)); exact HO106.out⟩, ⟨by (with_reducible repeat (first | apply Kd.R_alloc | apply Kd.R_drewN | apply Kd.R_drew)); exact HO_8.out⟩, ⟨by repeat (first | (with_reducible first | exact HB.out | apply below_alloc | apply pw_below_drewN | apply below_drew1) | exact HB.out)⟩⟩
       ·
        rw [if_neg c11] at H
        exact absurd H (by simp)
      ·
       rw [if_neg c10] at H
       exact absurd H (by simp)
     ·
      replace c9 := Bool.eq_false_iff.mpr c9
      subst c9
      have H1 : (some (x8_1, x0_1)) = some (r1, r2) := by rw [if_neg (show ¬ (false = true) by decide)] at H; exact H
      clear H
      have H := H1
      clear H1
      simp only [Option.some.injEq, Prod.mk.injEq] at H
      obtain ⟨rfl, rfl⟩ := H
      go_wp2
      go_ret2
      exact ⟨_, _, by first | rfl | (simp [errW_none, errW_some] <;> rfl) | (simp [*, errW_none, errW_some] <;> rfl), by (with_reducible repeat (first | apply Kd.R_alloc | apply Kd.R_drewN | apply Kd.R_drew)); exact HO_8.out, by (with_reducible repeat (first | apply Kd.V_alloc | apply Kd.V_drewN | apply Kd.V_drew)); exact HO_0.out, by repeat (first | (with_reducible first | exact HB.out | apply below_alloc | apply pw_below_drewN | apply below_drew1) | exact HB.out)⟩
end Go.Proofs.Ytaibikajpacemaa.X
end
section
namespace Go.Proofs.Ytaibikajpacemaa.X
open Go.RowKit Go.Proofs.YtaibikajpacemaaW.PrintWords Go.Proofs.YtaibikajpacemaaW.PrintLast Go.Proofs.YtaibikajpacemaaW.PrintMore
attribute [local go_sem] max2_int min2_int max_two min_two max_three min_three max_four min_four   -- for this text's walks alone
set_option linter.unusedVariables false
set_option linter.unusedSimpArgs false
def bobbinetkeep_nodeAt.l0 : Nat → List (S28) → List Int → Int → ByteArray → List (S68) → ByteArray → List (S28) → Option (ByteArray × (List (S68)) × ByteArray × (List (S28)) × Bool)
  | 0, _, _, _, _, _, _, _ => none
  | k + 1, x0, x1, x7, x168000, x168001, x168002, x168003 => if x7 < (x1.length : Int) then (if 0 ≤ x7 then (if (rd x1 x7) < 0 then (some ((⟨#[]⟩ : ByteArray), ([] : List (S68)), (⟨#[]⟩ : ByteArray), ([] : List (S28)), false)) else (if (rd x1 x7) ≥ (x0.length : Int) then (some ((⟨#[]⟩ : ByteArray), ([] : List (S68)), (⟨#[]⟩ : ByteArray), ([] : List (S28)), false)) else (if 0 ≤ (rd x1 x7) then (if (rd x1 x7) < (x0.length : Int) then (bobbinetkeep_nodeAt.l0 k ((rd_T28 x0 (rd x1 x7)).f3) x1 (wrap64 (x7 + 1)) ((rd_T28 x0 (rd x1 x7)).f0) ((rd_T28 x0 (rd x1 x7)).f1) ((rd_T28 x0 (rd x1 x7)).f2) ((rd_T28 x0 (rd x1 x7)).f3)) else (none)) else (none)))) else (none)) else (some (x168000, x168001, x168002, x168003, decide ((x1.length : Int) > 0)))
def bobbinetkeep_nodeAt.f (k : Nat) (l0 : List (S28)) (l1 : List Int) : Option (ByteArray × (List (S68)) × ByteArray × (List (S28)) × Bool) := bobbinetkeep_nodeAt.l0 k l0 l1 0 (⟨#[]⟩ : ByteArray) ([] : List (S68)) (⟨#[]⟩ : ByteArray) ([] : List (S28))
set_option maxHeartbeats 8000000 in
set_option maxRecDepth 100000 in
theorem bobbinetkeep_nodeAt.calls (k : Nat) (P0_ : Nat → Prop) (A0 : Option Addr) (c0 : Nat) (l0 : List (S28)) (A1 : Option Addr) (c1 : Nat) (l1 : List Int) (r1 : ByteArray) (r2 : List (S68)) (r3 : ByteArray) (r4 : List (S28)) (r5 : Bool) (w : World) (hs0 : Kd.V k28 28 w w.heap.size (fun k_ => P0_ k_) (.slice A0 l0.length c0) l0) (hr1 : Kd.C (Kd.int .i64) w A1 l1.length l1) (hc1 : l1.length ≤ c1) (h : bobbinetkeep_nodeAt.f k l0 l1 = some (r1, r2, r3, r4, r5)) :
    Calls Try.prog 16 #[.slice A0 l0.length c0, .slice A1 l1.length c1] w fun e w' => ∃ v1_ v3_ : Value, e = .returned (.tuple #[.agg #[.string r1, v1_, .string r3, v3_], .bool r5]) ∧ Kd.V k68 68 w' w.heap.size (fun k_ => (P0_ k_ ∨ w.heap.size ≤ k_)) v1_ r2 ∧ Kd.V k28 28 w' w.heap.size (fun k_ => (P0_ k_ ∨ w.heap.size ≤ k_)) v3_ r4 ∧ Below w.heap.size w w' := by
  have hu28 := Try.underlying28
  have HO0 := Aside0.mk (show Kd.V k28 28 w w.heap.size (fun k_ => (P0_ k_ ∨ w.heap.size ≤ k_)) (.slice A0 l0.length c0) l0 from Kd.V_mono hs0 (fun k_ hk => .inl hk))
  have HR1 := Aside0.mk hr1
  have HC1 := Aside0.mk hc1
  clear hr1 hc1
  have HB := Aside0.mk (Below.refl w.heap.size w)
  have H : (bobbinetkeep_nodeAt.l0 k l0 l1 0 (⟨#[]⟩ : ByteArray) ([] : List (S68)) (⟨#[]⟩ : ByteArray) ([] : List (S28))) = some (r1, r2, r3, r4, r5) := h
  clear h
  have H' := Aside0.mk H
  clear H
  go_enter Try.func16, Try.ntmps16
  go_wp2_with (first | ((with_reducible refine gate_dst (N := 4) rfl ?_); (try (refine gate_guard (by rfl) ?_; dsimp only)); refine box_event ?hg (N := 4) ?hd (cs := #[.string (⟨#[]⟩ : ByteArray), .slice none 0 0, .string (⟨#[]⟩ : ByteArray), .slice none 0 0]) (t := 28) ?hr ?_; (case hd => rfl); (case hg => rfl); (case hr => first | (go_simp; done) | (go_simp; rfl)); intro gb166 hg w3 hbox hb; have n0_ := Aside0.mk (Kd.V_below (Kd.V_elderB (by (with_reducible repeat (first | apply Kd.V_alloc | apply Kd.V_drewN | apply Kd.V_drew)); exact HO0.out) gb166 (Nat.le_of_eq hg.symm)) hb); have n1_ := Aside0.mk (below_step (by repeat (first | (with_reducible first | exact HB.out | apply below_alloc | apply pw_below_drewN | apply below_drew1) | exact HB.out)) hb); have n2_ := Aside0.mk (hbox); have n3_ := Aside0.mk ((by rw [hg]; exact (below_size (by repeat (first | (with_reducible first | exact HB.out | apply below_alloc | apply pw_below_drewN | apply below_drew1) | exact HB.out))) : w.heap.size ≤ gb166)); have n4_ := Aside0.mk ((by rw [hg]; exact (below_size (by repeat (first | (with_reducible first | exact HB.out | apply below_alloc | apply pw_below_drewN | apply below_drew1) | exact HB.out))) : w.heap.size ≤ gb166)); clear HO0; clear HB; have HO0 := n0_; have HB := n1_; have BK166 := n2_; have GW166 := n3_; have GE166 := n4_; clear n0_ n1_ n2_ n3_ n4_; clear hb hbox hg) | ((with_reducible refine gate_dst (N := 6) rfl ?_); (try (refine gate_guard (by rfl) ?_; dsimp only)); refine box_event ?hg (N := 6) ?hd (cs := #[.string (⟨#[]⟩ : ByteArray), .slice none 0 0, .string (⟨#[]⟩ : ByteArray), .slice none 0 0]) (t := 28) ?hr ?_; (case hd => rfl); (case hg => rfl); (case hr => first | (go_simp; done) | (go_simp; rfl)); intro gb167 hg w4 hbox hb; have n0_ := Aside0.mk (Kd.V_below (Kd.V_elderB (by (with_reducible repeat (first | apply Kd.V_alloc | apply Kd.V_drewN | apply Kd.V_drew)); exact HO0.out) gb167 (Nat.le_of_eq hg.symm)) hb); have n1_ := Aside0.mk (blk_below (g := gb166) (o := .cells #[.string (⟨#[]⟩ : ByteArray), .slice none 0 0, .string (⟨#[]⟩ : ByteArray), .slice none 0 0] 28 (0, 0)) (by (with_reducible repeat (first | refine blk_drewN ?_ _ | refine blk_drew ?_ | refine blk_alloc ?_ _)); exact BK166.out) hb); have n2_ := Aside0.mk (below_step (by repeat (first | (with_reducible first | exact HB.out | apply below_alloc | apply pw_below_drewN | apply below_drew1 | refine below_set ?_ GE166.out) | exact HB.out)) hb); have n3_ := Aside0.mk (hbox); have n4_ := Aside0.mk ((by rw [hg]; exact (below_size (by repeat (first | (with_reducible first | exact HB.out | apply below_alloc | apply pw_below_drewN | apply below_drew1 | refine below_set ?_ GE166.out) | exact HB.out))) : w.heap.size ≤ gb167)); have n5_ := Aside0.mk ((by rw [hg]; exact (below_size (by repeat (first | (with_reducible first | exact HB.out | apply below_alloc | apply pw_below_drewN | apply below_drew1 | refine below_set ?_ GE166.out) | exact HB.out))) : w.heap.size ≤ gb167)); have n6_ := Aside0.mk ((by rw [hg]; exact Nat.ne_of_lt (blk_lt (g := gb166) (o := .cells #[.string (⟨#[]⟩ : ByteArray), .slice none 0 0, .string (⟨#[]⟩ : ByteArray), .slice none 0 0] 28 (0, 0)) (by (with_reducible repeat (first | refine blk_drewN ?_ _ | refine blk_drew ?_ | refine blk_alloc ?_ _)); exact BK166.out)) : gb166 ≠ gb167)); have n7_ := Aside0.mk ((by rw [hg]; exact Nat.ne_of_gt (blk_lt (g := gb166) (o := .cells #[.string (⟨#[]⟩ : ByteArray), .slice none 0 0, .string (⟨#[]⟩ : ByteArray), .slice none 0 0] 28 (0, 0)) (by (with_reducible repeat (first | refine blk_drewN ?_ _ | refine blk_drew ?_ | refine blk_alloc ?_ _)); exact BK166.out)) : gb167 ≠ gb166)); clear HO0; clear BK166; clear HB; have HO0 := n0_; have BK166 := n1_; have HB := n2_; have BK167 := n3_; have GW167 := n4_; have GE167 := n5_; have NB166_167 := n6_; have NB167_166 := n7_; clear n0_ n1_ n2_ n3_ n4_ n5_ n6_ n7_; clear hb hbox hg))
  go_loopg [0, 7] k (fun kq v0 v7 w' => ∃ (x0_1 : List (S28)) (x7_1 : Int) (x167000_1 : ByteArray) (x167002_1 : ByteArray) (x168000_1 : ByteArray) (x168001_1 : List (S68)) (x168002_1 : ByteArray) (x168003_1 : List (S28)) (u168001 : Value) (u168003 : Value), v7 = .int .i64 x7_1 ∧ Aside0 (bobbinetkeep_nodeAt.l0 kq x0_1 l1 x7_1 x168000_1 x168001_1 x168002_1 x168003_1 = some (r1, r2, r3, r4, r5)) ∧ Aside0 (kq ≤ k) ∧ Aside0 (Kd.V k28 28 w' w.heap.size (fun k_ => (P0_ k_ ∨ w.heap.size ≤ k_) ∧ k_ ≠ gb166 ∧ k_ ≠ gb167) v0 x0_1) ∧ Aside0 (Kd.V k68 68 w' w.heap.size (fun k_ => (P0_ k_ ∨ w.heap.size ≤ k_) ∧ k_ ≠ gb166 ∧ k_ ≠ gb167) u168001 x168001_1) ∧ Aside0 (Kd.V k28 28 w' w.heap.size (fun k_ => (P0_ k_ ∨ w.heap.size ≤ k_) ∧ k_ ≠ gb166 ∧ k_ ≠ gb167) u168003 x168003_1) ∧ Aside0 (w'.heap[gb166]? = some (.cells #[.string x167000_1, (.slice none 0 0), .string x167002_1, (.slice none 0 0)] 28 (0, 0))) ∧ Aside0 (w'.heap[gb167]? = some (.cells #[.string x168000_1, u168001, .string x168002_1, u168003] 28 (0, 0))) ∧ Aside0 (Below w.heap.size w w'))
  case atStart => exact ⟨(l0), (0), ((⟨#[]⟩ : ByteArray)), ((⟨#[]⟩ : ByteArray)), ((⟨#[]⟩ : ByteArray)), (([] : List (S68))), ((⟨#[]⟩ : ByteArray)), (([] : List (S28))), (.slice none 0 0), (.slice none 0 0), (by first | rfl | (simp; done) | (simp [*]; done) | (simp [bne]; done)), H', ⟨Nat.le_refl _⟩, ⟨by (with_reducible repeat (first | apply Kd.V_alloc | apply Kd.V_drewN | apply Kd.V_drew)); exact Kd.V_mono HO0.out (fun _ hk => (by first | exact ⟨hk.1.1, ⟨hk.1.2, hk.2⟩⟩ | grind))⟩, ⟨Kd.V_nil _ _ _ _ _⟩, ⟨Kd.V_nil _ _ _ _ _⟩, ⟨by (with_reducible repeat (first | refine blk_drewN ?_ _ | refine blk_drew ?_ | refine blk_alloc ?_ _)); exact BK166.out⟩, ⟨by (with_reducible repeat (first | refine blk_drewN ?_ _ | refine blk_drew ?_ | refine blk_alloc ?_ _)); exact BK167.out⟩, ⟨by repeat (first | (with_reducible first | exact HB.out | apply below_alloc | apply pw_below_drewN | apply below_drew1 | refine below_set ?_ GE166.out | refine below_set ?_ GE167.out) | exact HB.out)⟩⟩
  case round =>
    clear H'
    try clear c1
    try clear p2
    obtain ⟨x0_1, x7_1, x167000_1, x167002_1, x168000_1, x168001_1, x168002_1, x168003_1, u168001, u168003, rfl, HA, HK1, HO_0, HO_168001, HO_168003, BK166, BK167, HB⟩ := hrel
    cases gk with
    | zero => exact absurd HA.out (by simp [bobbinetkeep_nodeAt.l0])
    | succ k1 =>
      have H := HA.out
      clear HA
      simp only [bobbinetkeep_nodeAt.l0] at H
      by_cases c5 : x7_1 < (l1.length : Int)
      · rw [if_pos c5] at H
        have c5b0 : decide (x7_1 < (l1.length : Int)) = true := decide_eq_true c5
        clear c5
        by_cases c6 : 0 ≤ x7_1
        · rw [if_pos c6] at H
          have c6b0 : decide (0 ≤ x7_1) = true := decide_eq_true c6
          clear c6
          by_cases c7 : (rd l1 x7_1) < 0
          · rw [if_pos c7] at H
            have c7b0 : decide ((rd l1 x7_1) < 0) = true := decide_eq_true c7
            clear c7
            simp only [Option.some.injEq, Prod.mk.injEq] at H
            obtain ⟨rfl, rfl, rfl, rfl, rfl⟩ := H
            have p168 : 0 ≤ (x7_1 : Int) := of_decide_eq_true (by first | (with_reducible assumption) | assumption)
            have q168 : x7_1 < (l1.length : Int) := of_decide_eq_true (by first | (with_reducible assumption) | assumption)
            obtain ⟨ad168, e168, hx168_0⟩ := Kd.at_int HR1.out x7_1 p168 q168
            cases e168
            replace hx168_0 := (HB.out.cell (World.block_lt_of_cell? w _ hx168_0)).trans hx168_0
            replace p168 := eq_true p168
            replace q168 := eq_true q168
            have hnb8 := NB166_167.out
            have hnc8 := NB167_166.out
            have hcz9_0 : wr.cell? ⟨gb166, 0, none⟩ = some (.string x167000_1) := (blk_cell BK166.out 0).trans rfl
            have hcz9_1 : wr.cell? ⟨gb166, 1, none⟩ = some (.slice none 0 0) := (blk_cell BK166.out 1).trans rfl
            have hcz9_2 : wr.cell? ⟨gb166, 2, none⟩ = some (.string x167002_1) := (blk_cell BK166.out 2).trans rfl
            have hcz9_3 : wr.cell? ⟨gb166, 3, none⟩ = some (.slice none 0 0) := (blk_cell BK166.out 3).trans rfl
            have hfz9_0 := blk_frozen BK166.out 0
            have hfz9_1 := blk_frozen BK166.out 1
            have hfz9_2 := blk_frozen BK166.out 2
            have hfz9_3 := blk_frozen BK166.out 3
            go_wp2
            refine bodyPost_ret (results_ct rfl _ _ gb166 28 #[.string (⟨#[]⟩ : ByteArray), .slice none 0 0, .string (⟨#[]⟩ : ByteArray), .slice none 0 0] (0, 0) _ rfl (by (with_reducible repeat (first | refine blk_drewN ?_ _ | refine blk_drew ?_ | refine blk_alloc ?_ _)); refine blk_put (cs := #[.string (⟨#[]⟩ : ByteArray), .slice none 0 0, .string (⟨#[]⟩ : ByteArray), .slice none 0 0]) ?_ 3 _ rfl; (with_reducible repeat (first | refine blk_drewN ?_ _ | refine blk_drew ?_ | refine blk_alloc ?_ _)); refine blk_put (cs := #[.string (⟨#[]⟩ : ByteArray), .slice none 0 0, .string x167002_1, .slice none 0 0]) ?_ 2 _ rfl; (with_reducible repeat (first | refine blk_drewN ?_ _ | refine blk_drew ?_ | refine blk_alloc ?_ _)); refine blk_put (cs := #[.string (⟨#[]⟩ : ByteArray), .slice none 0 0, .string x167002_1, .slice none 0 0]) ?_ 1 _ rfl; (with_reducible repeat (first | refine blk_drewN ?_ _ | refine blk_drew ?_ | refine blk_alloc ?_ _)); refine blk_put (cs := #[.string x167000_1, .slice none 0 0, .string x167002_1, .slice none 0 0]) ?_ 0 _ rfl; (with_reducible repeat (first | refine blk_drewN ?_ _ | refine blk_drew ?_ | refine blk_alloc ?_ _)); exact BK166.out) Try.underlying28 rfl (by kernel_rfl)) rfl ?_
            exact ⟨.slice none 0 0, .slice none 0 0, by first | rfl | (simp [errW_none, errW_some] <;> rfl) | (simp [*, errW_none, errW_some] <;> rfl), Kd.V_nil _ _ _ _ _, Kd.V_nil _ _ _ _ _, by repeat (first | (with_reducible first | exact HB.out | apply below_alloc | apply pw_below_drewN | apply below_drew1 | refine below_set ?_ GE166.out | refine below_set ?_ GE167.out) | exact HB.out)⟩
          · rw [if_neg c7] at H
            have c7b0 : decide ((rd l1 x7_1) < 0) = false := decide_eq_false c7
            clear c7
            by_cases c10 : (rd l1 x7_1) ≥ (x0_1.length : Int)
            · rw [if_pos c10] at H
              have c10b0 : decide ((x0_1.length : Int) ≤ (rd l1 x7_1)) = true := decide_eq_true c10
              clear c10
              simp only [Option.some.injEq, Prod.mk.injEq] at H
              obtain ⟨rfl, rfl, rfl, rfl, rfl⟩ := H
              have p168 : 0 ≤ (x7_1 : Int) := of_decide_eq_true (by first | (with_reducible assumption) | assumption)
              have q168 : x7_1 < (l1.length : Int) := of_decide_eq_true (by first | (with_reducible assumption) | assumption)
              obtain ⟨ad168, e168, hx168_0⟩ := Kd.at_int HR1.out x7_1 p168 q168
              cases e168
              replace hx168_0 := (HB.out.cell (World.block_lt_of_cell? w _ hx168_0)).trans hx168_0
              replace p168 := eq_true p168
              replace q168 := eq_true q168
              have p169 : 0 ≤ (x7_1 : Int) := of_decide_eq_true (by first | (with_reducible assumption) | assumption)
              have q169 : x7_1 < (l1.length : Int) := of_decide_eq_true (by first | (with_reducible assumption) | assumption)
              obtain ⟨ad169, e169, hx169_0⟩ := Kd.at_int HR1.out x7_1 p169 q169
              obtain rfl : ad168 = ad169 := (by injection e169)
              replace hx169_0 := (HB.out.cell (World.block_lt_of_cell? w _ hx169_0)).trans hx169_0
              replace p169 := eq_true p169
              replace q169 := eq_true q169
              obtain ⟨Ao11, co11, eo11⟩ := Kd.V_slice HO_0.out
              subst eo11
              have hnb12 := NB166_167.out
              have hnc12 := NB167_166.out
              have hcz13_0 : wr.cell? ⟨gb166, 0, none⟩ = some (.string x167000_1) := (blk_cell BK166.out 0).trans rfl
              have hcz13_1 : wr.cell? ⟨gb166, 1, none⟩ = some (.slice none 0 0) := (blk_cell BK166.out 1).trans rfl
              have hcz13_2 : wr.cell? ⟨gb166, 2, none⟩ = some (.string x167002_1) := (blk_cell BK166.out 2).trans rfl
              have hcz13_3 : wr.cell? ⟨gb166, 3, none⟩ = some (.slice none 0 0) := (blk_cell BK166.out 3).trans rfl
              have hfz13_0 := blk_frozen BK166.out 0
              have hfz13_1 := blk_frozen BK166.out 1
              have hfz13_2 := blk_frozen BK166.out 2
              have hfz13_3 := blk_frozen BK166.out 3
              go_wp2
              refine bodyPost_ret (results_ct rfl _ _ gb166 28 #[.string (⟨#[]⟩ : ByteArray), .slice none 0 0, .string (⟨#[]⟩ : ByteArray), .slice none 0 0] (0, 0) _ rfl (by (with_reducible repeat (first | refine blk_drewN ?_ _ | refine blk_drew ?_ | refine blk_alloc ?_ _)); refine blk_put (cs := #[.string (⟨#[]⟩ : ByteArray), .slice none 0 0, .string (⟨#[]⟩ : ByteArray), .slice none 0 0]) ?_ 3 _ rfl; (with_reducible repeat (first | refine blk_drewN ?_ _ | refine blk_drew ?_ | refine blk_alloc ?_ _)); refine blk_put (cs := #[.string (⟨#[]⟩ : ByteArray), .slice none 0 0, .string x167002_1, .slice none 0 0]) ?_ 2 _ rfl; (with_reducible repeat (first | refine blk_drewN ?_ _ | refine blk_drew ?_ | refine blk_alloc ?_ _)); refine blk_put (cs := #[.string (⟨#[]⟩ : ByteArray), .slice none 0 0, .string x167002_1, .slice none 0 0]) ?_ 1 _ rfl; (with_reducible repeat (first | refine blk_drewN ?_ _ | refine blk_drew ?_ | refine blk_alloc ?_ _)); refine blk_put (cs := #[.string x167000_1, .slice none 0 0, .string x167002_1, .slice none 0 0]) ?_ 0 _ rfl; (with_reducible repeat (first | refine blk_drewN ?_ _ | refine blk_drew ?_ | refine blk_alloc ?_ _)); exact BK166.out) Try.underlying28 rfl (by kernel_rfl)) rfl ?_
              exact ⟨.slice none 0 0, .slice none 0 0, by first | rfl | (simp [errW_none, errW_some] <;> rfl) | (simp [*, errW_none, errW_some] <;> rfl), Kd.V_nil _ _ _ _ _, Kd.V_nil _ _ _ _ _, by repeat (first | (with_reducible first | exact HB.out | apply below_alloc | apply pw_below_drewN | apply below_drew1 | refine below_set ?_ GE166.out | refine below_set ?_ GE167.out) | exact HB.out)⟩
            · rw [if_neg c10] at H
              have c10b0 : decide ((x0_1.length : Int) ≤ (rd l1 x7_1)) = false := decide_eq_false c10
              clear c10
              by_cases c14 : 0 ≤ (rd l1 x7_1)
              · rw [if_pos c14] at H
                have c14b0 : decide (0 ≤ (rd l1 x7_1)) = true := decide_eq_true c14
                clear c14
                by_cases c15 : (rd l1 x7_1) < (x0_1.length : Int)
                · rw [if_pos c15] at H
                  have c15b0 : decide ((rd l1 x7_1) < (x0_1.length : Int)) = true := decide_eq_true c15
                  clear c15
                  have H' := Aside0.mk H
                  clear H
                  have p168 : 0 ≤ (x7_1 : Int) := of_decide_eq_true (by first | (with_reducible assumption) | assumption)
                  have q168 : x7_1 < (l1.length : Int) := of_decide_eq_true (by first | (with_reducible assumption) | assumption)
                  obtain ⟨ad168, e168, hx168_0⟩ := Kd.at_int HR1.out x7_1 p168 q168
                  cases e168
                  replace hx168_0 := (HB.out.cell (World.block_lt_of_cell? w _ hx168_0)).trans hx168_0
                  replace p168 := eq_true p168
                  replace q168 := eq_true q168
                  have p169 : 0 ≤ (x7_1 : Int) := of_decide_eq_true (by first | (with_reducible assumption) | assumption)
                  have q169 : x7_1 < (l1.length : Int) := of_decide_eq_true (by first | (with_reducible assumption) | assumption)
                  obtain ⟨ad169, e169, hx169_0⟩ := Kd.at_int HR1.out x7_1 p169 q169
                  obtain rfl : ad168 = ad169 := (by injection e169)
                  replace hx169_0 := (HB.out.cell (World.block_lt_of_cell? w _ hx169_0)).trans hx169_0
                  replace p169 := eq_true p169
                  replace q169 := eq_true q169
                  obtain ⟨Ao16, co16, eo16⟩ := Kd.V_slice HO_0.out
                  subst eo16
                  have p170 : 0 ≤ (x7_1 : Int) := of_decide_eq_true (by first | (with_reducible assumption) | assumption)
                  have q170 : x7_1 < (l1.length : Int) := of_decide_eq_true (by first | (with_reducible assumption) | assumption)
                  obtain ⟨ad170, e170, hx170_0⟩ := Kd.at_int HR1.out x7_1 p170 q170
                  obtain rfl : ad168 = ad170 := (by injection e170)
                  replace hx170_0 := (HB.out.cell (World.block_lt_of_cell? w _ hx170_0)).trans hx170_0
                  replace p170 := eq_true p170
                  replace q170 := eq_true q170
                  have p171 : 0 ≤ ((rd l1 x7_1) : Int) := of_decide_eq_true (by first | (with_reducible assumption) | assumption)
                  have q171 : (rd l1 x7_1) < (x0_1.length : Int) := of_decide_eq_true (by first | (with_reducible assumption) | assumption)
                  obtain ⟨ad171, A171_1, c171_1, A171_3, c171_3, e171, hx171_0, hx171_1, hx171_2, hx171_3, hl171_1, hi171_1, hl171_3, hi171_3⟩ := at_T28 (Kd.V_reads' HO_0.out).2.2 (rd l1 x7_1) p171 q171
                  cases e171
                  obtain ⟨ce171, hce171, hMe171, hcc171⟩ := Kd.V_get HO_0.out z28 (rd l1 x7_1) p171 (by first | exact q171 | exact of_decide_eq_true (by first | (with_reducible assumption) | assumption) | (have e_ := (Kd.V_reads' HO_0.out).1; omega))
                  obtain ⟨ua171_1, uc171_1, ua171_3, uc171_3, rfl, ul171_1, ge171_1, ul171_3, ge171_3⟩ := k28_openF hMe171
                  have hv171_1 := hcc171 1 _ rfl
                  rw [add_field _ _ 1 (by omega)] at hv171_1
                  replace hv171_1 := Option.some.inj (hv171_1.symm.trans hx171_1)
                  injection hv171_1 with hva_ hvn_ hvc_
                  rw [hva_] at ge171_1
                  rw [hvc_] at ul171_1
                  have HL171_1 := Aside0.mk (show Kd.V k68 68 _ w.heap.size _ _ ((rd_T28 x0_1 (rd l1 x7_1)).f1) from Kd.V_mk ul171_1 ge171_1)
                  clear hva_ hvn_ hvc_ ge171_1 ul171_1
                  have hv171_3 := hcc171 3 _ rfl
                  rw [add_field _ _ 3 (by omega)] at hv171_3
                  replace hv171_3 := Option.some.inj (hv171_3.symm.trans hx171_3)
                  injection hv171_3 with hva_ hvn_ hvc_
                  rw [hva_] at ge171_3
                  rw [hvc_] at ul171_3
                  have HL171_3 := Aside0.mk (show Kd.V k28 28 _ w.heap.size _ _ ((rd_T28 x0_1 (rd l1 x7_1)).f3) from Kd.V_mk ul171_3 ge171_3)
                  clear hva_ hvn_ hvc_ ge171_3 ul171_3
                  clear hcc171 hce171
                  have HR171_1 := Aside0.mk hi171_1
                  have HC171_1 := Aside0.mk hl171_1
                  clear hi171_1 hl171_1
                  have HR171_3 := Aside0.mk hi171_3
                  have HC171_3 := Aside0.mk hl171_3
                  clear hi171_3 hl171_3
                  replace p171 := eq_true p171
                  replace q171 := eq_true q171
                  have hnb17 := NB167_166.out
                  have hnc17 := NB166_167.out
                  have hcz18_0 : wr.cell? ⟨gb167, 0, none⟩ = some (.string x168000_1) := (blk_cell BK167.out 0).trans rfl
                  have hcz18_1 : wr.cell? ⟨gb167, 1, none⟩ = some (u168001) := (blk_cell BK167.out 1).trans rfl
                  have hcz18_2 : wr.cell? ⟨gb167, 2, none⟩ = some (.string x168002_1) := (blk_cell BK167.out 2).trans rfl
                  have hcz18_3 : wr.cell? ⟨gb167, 3, none⟩ = some (u168003) := (blk_cell BK167.out 3).trans rfl
                  have hfz18_0 := blk_frozen BK167.out 0
                  have hfz18_1 := blk_frozen BK167.out 1
                  have hfz18_2 := blk_frozen BK167.out 2
                  have hfz18_3 := blk_frozen BK167.out 3
                  go_wp2
                  go_roundg k1
                  case measure => have := HK1.out; omega
                  case rel => exact ⟨((rd_T28 x0_1 (rd l1 x7_1)).f3), (wrap64 (x7_1 + 1)), (x167000_1), (x167002_1), ((rd_T28 x0_1 (rd l1 x7_1)).f0), ((rd_T28 x0_1 (rd l1 x7_1)).f1), ((rd_T28 x0_1 (rd l1 x7_1)).f2), ((rd_T28 x0_1 (rd l1 x7_1)).f3), (.slice A171_1 ((rd_T28 x0_1 (rd l1 x7_1)).f1).length c171_1), (.slice A171_3 ((rd_T28 x0_1 (rd l1 x7_1)).f3).length c171_3), (by first | rfl | (simp; done) | (simp [*]; done) | (simp [bne]; done)), H', ⟨by have := HK1.out; omega⟩, ⟨by (with_reducible repeat (first | apply Kd.V_alloc | apply Kd.V_drewN | apply Kd.V_drew)); exact Kd.V_mono (Kd.V_far (p := ⟨gb167, 3, none⟩) (Kd.V_far (p := ⟨gb167, 2, none⟩) (Kd.V_far (p := ⟨gb167, 1, none⟩) (Kd.V_far (p := ⟨gb167, 0, none⟩) (Kd.V_mono HL171_3.out (fun k_ hk => (⟨hk, (by first | exact hk.2.2 | grind)⟩ : _ ∧ k_ ≠ gb167))) (fun _ hk => hk.2) (.string ((rd_T28 x0_1 (rd l1 x7_1)).f0))) (fun _ hk => hk.2) (.slice A171_1 ((rd_T28 x0_1 (rd l1 x7_1)).f1).length c171_1)) (fun _ hk => hk.2) (.string ((rd_T28 x0_1 (rd l1 x7_1)).f2))) (fun _ hk => hk.2) (.slice A171_3 ((rd_T28 x0_1 (rd l1 x7_1)).f3).length c171_3)) (fun _ hk => (by first | exact ⟨hk.1.1, ⟨hk.1.2.1, hk.1.2.2⟩⟩ | grind))⟩, ⟨by (with_reducible repeat (first | apply Kd.V_alloc | apply Kd.V_drewN | apply Kd.V_drew)); exact Kd.V_mono (Kd.V_far (p := ⟨gb167, 3, none⟩) (Kd.V_far (p := ⟨gb167, 2, none⟩) (Kd.V_far (p := ⟨gb167, 1, none⟩) (Kd.V_far (p := ⟨gb167, 0, none⟩) (Kd.V_mono HL171_1.out (fun k_ hk => (⟨hk, (by first | exact hk.2.2 | grind)⟩ : _ ∧ k_ ≠ gb167))) (fun _ hk => hk.2) (.string ((rd_T28 x0_1 (rd l1 x7_1)).f0))) (fun _ hk => hk.2) (.slice A171_1 ((rd_T28 x0_1 (rd l1 x7_1)).f1).length c171_1)) (fun _ hk => hk.2) (.string ((rd_T28 x0_1 (rd l1 x7_1)).f2))) (fun _ hk => hk.2) (.slice A171_3 ((rd_T28 x0_1 (rd l1 x7_1)).f3).length c171_3)) (fun _ hk => (by first | exact ⟨hk.1.1, ⟨hk.1.2.1, hk.1.2.2⟩⟩ | grind))⟩, ⟨by (with_reducible repeat (first | apply Kd.V_alloc | apply Kd.V_drewN | apply Kd.V_drew)); exact Kd.V_mono (Kd.V_far (p := ⟨gb167, 3, none⟩) (Kd.V_far (p := ⟨gb167, 2, none⟩) (Kd.V_far (p := ⟨gb167, 1, none⟩) (Kd.V_far (p := ⟨gb167, 0, none⟩) (Kd.V_mono HL171_3.out (fun k_ hk => (⟨hk, (by first | exact hk.2.2 | grind)⟩ : _ ∧ k_ ≠ gb167))) (fun _ hk => hk.2) (.string ((rd_T28 x0_1 (rd l1 x7_1)).f0))) (fun _ hk => hk.2) (.slice A171_1 ((rd_T28 x0_1 (rd l1 x7_1)).f1).length c171_1)) (fun _ hk => hk.2) (.string ((rd_T28 x0_1 (rd l1 x7_1)).f2))) (fun _ hk => hk.2) (.slice A171_3 ((rd_T28 x0_1 (rd l1 x7_1)).f3).length c171_3)) (fun _ hk => (by first | exact ⟨hk.1.1, ⟨hk.1.2.1, hk.1.2.2⟩⟩ | grind))⟩, ⟨by (with_reducible repeat (first | refine blk_drewN ?_ _ | refine blk_drew ?_ | refine blk_alloc ?_ _)); refine blk_far ?_ NB166_167.out _; (with_reducible repeat (first | refine blk_drewN ?_ _ | refine blk_drew ?_ | refine blk_alloc ?_ _)); refine blk_far ?_ NB166_167.out _; (with_reducible repeat (first | refine blk_drewN ?_ _ | refine blk_drew ?_ | refine blk_alloc ?_ _)); refine blk_far ?_ NB166_167.out _; (with_reducible repeat (first | refine blk_drewN ?_ _ | refine blk_drew ?_ | refine blk_alloc ?_ _)); refine blk_far ?_ NB166_167.out _; (with_reducible repeat (first | refine blk_drewN ?_ _ | refine blk_drew ?_ | refine blk_alloc ?_ _)); exact BK166.out⟩, ⟨by (with_reducible repeat (first | refine blk_drewN ?_ _ | refine blk_drew ?_ | refine blk_alloc ?_ _)); refine blk_put (cs := #[.string ((rd_T28 x0_1 (rd l1 x7_1)).f0), .slice A171_1 ((rd_T28 x0_1 (rd l1 x7_1)).f1).length c171_1, .string ((rd_T28 x0_1 (rd l1 x7_1)).f2), u168003]) ?_ 3 _ rfl; (with_reducible repeat (first | refine blk_drewN ?_ _ | refine blk_drew ?_ | refine blk_alloc ?_ _)); refine blk_put (cs := #[.string ((rd_T28 x0_1 (rd l1 x7_1)).f0), .slice A171_1 ((rd_T28 x0_1 (rd l1 x7_1)).f1).length c171_1, .string x168002_1, u168003]) ?_ 2 _ rfl; (with_reducible repeat (first | refine blk_drewN ?_ _ | refine blk_drew ?_ | refine blk_alloc ?_ _)); refine blk_put (cs := #[.string ((rd_T28 x0_1 (rd l1 x7_1)).f0), u168001, .string x168002_1, u168003]) ?_ 1 _ rfl; (with_reducible repeat (first | refine blk_drewN ?_ _ | refine blk_drew ?_ | refine blk_alloc ?_ _)); refine blk_put (cs := #[.string x168000_1, u168001, .string x168002_1, u168003]) ?_ 0 _ rfl; (with_reducible repeat (first | refine blk_drewN ?_ _ | refine blk_drew ?_ | refine blk_alloc ?_ _)); exact BK167.out⟩, ⟨by repeat (first | (with_reducible first | exact HB.out | apply below_alloc | apply pw_below_drewN | apply below_drew1 | refine below_set ?_ GE166.out | refine below_set ?_ GE167.out) | exact HB.out)⟩⟩
                · rw [if_neg c15] at H
                  exact absurd H (by simp)
              · rw [if_neg c14] at H
                exact absurd H (by simp)
        · rw [if_neg c6] at H
          exact absurd H (by simp)
      · rw [if_neg c5] at H
        have c5b0 : decide (x7_1 < (l1.length : Int)) = false := decide_eq_false c5
        clear c5
        simp only [Option.some.injEq, Prod.mk.injEq] at H
        obtain ⟨rfl, rfl, rfl, rfl, rfl⟩ := H
        have hnb19 := NB167_166.out
        have hnc19 := NB166_167.out
        have hcz20_0 : wr.cell? ⟨gb167, 0, none⟩ = some (.string x168000_1) := (blk_cell BK167.out 0).trans rfl
        have hcz20_1 : wr.cell? ⟨gb167, 1, none⟩ = some (u168001) := (blk_cell BK167.out 1).trans rfl
        have hcz20_2 : wr.cell? ⟨gb167, 2, none⟩ = some (.string x168002_1) := (blk_cell BK167.out 2).trans rfl
        have hcz20_3 : wr.cell? ⟨gb167, 3, none⟩ = some (u168003) := (blk_cell BK167.out 3).trans rfl
        have hfz20_0 := blk_frozen BK167.out 0
        have hfz20_1 := blk_frozen BK167.out 1
        have hfz20_2 := blk_frozen BK167.out 2
        have hfz20_3 := blk_frozen BK167.out 3
        have hcz21_0 : wr.cell? ⟨gb166, 0, none⟩ = some (.string x167000_1) := (blk_cell BK166.out 0).trans rfl
        have hcz21_1 : wr.cell? ⟨gb166, 1, none⟩ = some (.slice none 0 0) := (blk_cell BK166.out 1).trans rfl
        have hcz21_2 : wr.cell? ⟨gb166, 2, none⟩ = some (.string x167002_1) := (blk_cell BK166.out 2).trans rfl
        have hcz21_3 : wr.cell? ⟨gb166, 3, none⟩ = some (.slice none 0 0) := (blk_cell BK166.out 3).trans rfl
        have hfz21_0 := blk_frozen BK166.out 0
        have hfz21_1 := blk_frozen BK166.out 1
        have hfz21_2 := blk_frozen BK166.out 2
        have hfz21_3 := blk_frozen BK166.out 3
        obtain ⟨Ao22, co22, eo22⟩ := Kd.V_slice HO_168001.out
        subst eo22
        obtain ⟨Ao23, co23, eo23⟩ := Kd.V_slice HO_168003.out
        subst eo23
        go_wp2
        refine bodyPost_ret (results_ct rfl _ _ gb166 28 #[.string x168000_1, .slice Ao22 x168001_1.length co22, .string x168002_1, .slice Ao23 x168003_1.length co23] (0, 0) _ rfl (by (with_reducible repeat (first | refine blk_drewN ?_ _ | refine blk_drew ?_ | refine blk_alloc ?_ _)); refine blk_put (cs := #[.string x168000_1, .slice Ao22 x168001_1.length co22, .string x168002_1, .slice none 0 0]) ?_ 3 _ rfl; (with_reducible repeat (first | refine blk_drewN ?_ _ | refine blk_drew ?_ | refine blk_alloc ?_ _)); refine blk_put (cs := #[.string x168000_1, .slice Ao22 x168001_1.length co22, .string x167002_1, .slice none 0 0]) ?_ 2 _ rfl; (with_reducible repeat (first | refine blk_drewN ?_ _ | refine blk_drew ?_ | refine blk_alloc ?_ _)); refine blk_put (cs := #[.string x168000_1, .slice none 0 0, .string x167002_1, .slice none 0 0]) ?_ 1 _ rfl; (with_reducible repeat (first | refine blk_drewN ?_ _ | refine blk_drew ?_ | refine blk_alloc ?_ _)); refine blk_put (cs := #[.string x167000_1, .slice none 0 0, .string x167002_1, .slice none 0 0]) ?_ 0 _ rfl; (with_reducible repeat (first | refine blk_drewN ?_ _ | refine blk_drew ?_ | refine blk_alloc ?_ _)); exact BK166.out) Try.underlying28 rfl (by kernel_rfl)) rfl ?_
        exact ⟨.slice Ao22 x168001_1.length co22, .slice Ao23 x168003_1.length co23, by first | rfl | (simp [errW_none, errW_some] <;> rfl) | (simp [*, errW_none, errW_some] <;> rfl), by (with_reducible repeat (first | apply Kd.V_alloc | apply Kd.V_drewN | apply Kd.V_drew)); exact Kd.V_mono (Kd.V_far (p := ⟨gb166, 3, none⟩) (Kd.V_far (p := ⟨gb166, 2, none⟩) (Kd.V_far (p := ⟨gb166, 1, none⟩) (Kd.V_far (p := ⟨gb166, 0, none⟩) (Kd.V_mono HO_168001.out (fun k_ hk => (⟨hk, (by first | exact hk.2.1 | grind)⟩ : _ ∧ k_ ≠ gb166))) (fun _ hk => hk.2) (.string x168000_1)) (fun _ hk => hk.2) (.slice Ao22 x168001_1.length co22)) (fun _ hk => hk.2) (.string x168002_1)) (fun _ hk => hk.2) (.slice Ao23 x168003_1.length co23)) (fun _ hk => (by first | exact hk.1.1 | grind)), by (with_reducible repeat (first | apply Kd.V_alloc | apply Kd.V_drewN | apply Kd.V_drew)); exact Kd.V_mono (Kd.V_far (p := ⟨gb166, 3, none⟩) (Kd.V_far (p := ⟨gb166, 2, none⟩) (Kd.V_far (p := ⟨gb166, 1, none⟩) (Kd.V_far (p := ⟨gb166, 0, none⟩) (Kd.V_mono HO_168003.out (fun k_ hk => (⟨hk, (by first | exact hk.2.1 | grind)⟩ : _ ∧ k_ ≠ gb166))) (fun _ hk => hk.2) (.string x168000_1)) (fun _ hk => hk.2) (.slice Ao22 x168001_1.length co22)) (fun _ hk => hk.2) (.string x168002_1)) (fun _ hk => hk.2) (.slice Ao23 x168003_1.length co23)) (fun _ hk => (by first | exact hk.1.1 | grind)), by repeat (first | (with_reducible first | exact HB.out | apply below_alloc | apply pw_below_drewN | apply below_drew1 | refine below_set ?_ GE166.out | refine below_set ?_ GE167.out) | exact HB.out)⟩
end Go.Proofs.Ytaibikajpacemaa.X
end
section
namespace Go.Proofs.Ytaibikajpacemaa.X
open Go.RowKit Go.Proofs.YtaibikajpacemaaW.PrintWords Go.Proofs.YtaibikajpacemaaW.PrintLast Go.Proofs.YtaibikajpacemaaW.PrintMore
attribute [local go_sem] max2_int min2_int max_two min_two max_three min_three max_four min_four   -- for this text's walks alone
set_option linter.unusedVariables false
set_option linter.unusedSimpArgs false
mutual
def bobbinetkeep_beforePath.l0 : Nat → List Int → List Int → Int → Option (Bool)
  | 0, _, _, _ => none
  | k + 1, x0, x1, x5 => if x5 < (x0.length : Int) then (bobbinetkeep_beforePath.j1 k x0 x1 x5 (decide (x5 < (x1.length : Int)))) else (bobbinetkeep_beforePath.j1 k x0 x1 x5 false)
def bobbinetkeep_beforePath.j1 : Nat → List Int → List Int → Int → Bool → Option (Bool)
  | 0, _, _, _, _ => none
  | k + 1, x0, x1, x5, x15 => if x15 = true then (if 0 ≤ x5 then (if x5 < (x0.length : Int) then (if x5 < (x1.length : Int) then (if (rd x0 x5) = (rd x1 x5) then (bobbinetkeep_beforePath.l0 k x0 x1 (wrap64 (x5 + 1))) else (some (decide ((rd x0 x5) < (rd x1 x5))))) else (none)) else (none)) else (none)) else (some (decide ((x0.length : Int) < (x1.length : Int))))
end
def bobbinetkeep_beforePath.f (k : Nat) (l0 : List Int) (l1 : List Int) : Option (Bool) := bobbinetkeep_beforePath.l0 k l0 l1 0
set_option maxHeartbeats 8000000 in
set_option maxRecDepth 100000 in
theorem bobbinetkeep_beforePath.calls (k : Nat) (A0 : Option Addr) (c0 : Nat) (l0 : List Int) (A1 : Option Addr) (c1 : Nat) (l1 : List Int) (r : Bool) (w : World) (hr0 : Kd.C (Kd.int .i64) w A0 l0.length l0) (hc0 : l0.length ≤ c0) (hr1 : Kd.C (Kd.int .i64) w A1 l1.length l1) (hc1 : l1.length ≤ c1) (h : bobbinetkeep_beforePath.f k l0 l1 = some r) :
    Calls Try.prog 19 #[.slice A0 l0.length c0, .slice A1 l1.length c1] w fun e w' => e = .returned (.bool r) ∧ Drawn0 w w' := by
  have HR0 := Aside0.mk hr0
  have HC0 := Aside0.mk hc0
  clear hr0 hc0
  have HR1 := Aside0.mk hr1
  have HC1 := Aside0.mk hc1
  clear hr1 hc1
  have H : (bobbinetkeep_beforePath.l0 k l0 l1 0) = some r := h
  clear h
  have H' := Aside0.mk H
  clear H
  go_enter Try.func19, Try.ntmps19
  go_wp2
  repeat (go_quiet (fail); try go_wp2)
  go_loopg [5] k (fun kq v5 w' => ∃ (x5_1 : Int), v5 = .int .i64 x5_1 ∧ Aside0 (bobbinetkeep_beforePath.l0 kq l0 l1 x5_1 = some r) ∧ Aside0 (kq ≤ k) ∧ Drawn0 w w')
  case atStart => exact ⟨(0), (by first | rfl | (simp; done) | (simp [*]; done) | (simp [bne]; done)), H', ⟨Nat.le_refl _⟩, by repeat (first | exact Drawn0.refl _ | apply Drawn0.step)⟩
  case round =>
    clear H'
    try clear c1
    try clear p2
    obtain ⟨x5_1, rfl, HA, HK1, ⟨m1, rfl⟩⟩ := hrel
    cases gk with
    | zero => exact absurd HA.out (by simp [bobbinetkeep_beforePath.l0])
    | succ k1 =>
      have H := HA.out
      clear HA
      simp only [bobbinetkeep_beforePath.l0] at H
      have HC3 := Aside0.mk H
      clear H
      go_upto_region 2 with (fail)
      repeat (go_quiet (fail); go_upto_region 2 with (fail))
      go_cut [15] (fun v15 wc => ∃ (kq : Nat) (x15_2 : Bool), v15 = .bool x15_2 ∧ Aside0 (bobbinetkeep_beforePath.j1 kq l0 l1 x5_1 x15_2 = some r) ∧ Aside0 (kq ≤ k1) ∧ Drawn0 w wc)
      case first =>
        have H := HC3.out
        clear HC3
        by_cases c4 : x5_1 < (l0.length : Int)
        · rw [if_pos c4] at H
          have c4b0 : decide (x5_1 < (l0.length : Int)) = true := decide_eq_true c4
          clear c4
          (first | rw [c4b0] | (simp only [i64_w, i32_w]; rw [c4b0]) | rw [c4b1] | skip)
          have H' := Aside0.mk H
          clear H
          go_wp2
          repeat (go_quiet (fail); try go_wp2)
          go_meet
          case rel => exact ⟨_, (decide (x5_1 < (l1.length : Int))), (by first | rfl | (simp; done) | (simp [*]; done) | (simp [bne]; done)), H', ⟨by have := HK1.out; first | omega | exact Nat.le_refl _⟩, by repeat (first | exact Drawn0.refl _ | apply Drawn0.step)⟩
        · rw [if_neg c4] at H
          have c4b0 : decide (x5_1 < (l0.length : Int)) = false := decide_eq_false c4
          clear c4
          (first | rw [c4b0] | (simp only [i64_w, i32_w]; rw [c4b0]) | rw [c4b1] | skip)
          have H' := Aside0.mk H
          clear H
          go_wp2
          repeat (go_quiet (fail); try go_wp2)
          go_meet
          case rel => exact ⟨_, (false), (by first | rfl | (simp; done) | (simp [*]; done) | (simp [bne]; done)), H', ⟨by have := HK1.out; first | omega | exact Nat.le_refl _⟩, by repeat (first | exact Drawn0.refl _ | apply Drawn0.step)⟩
      case rest =>
        clear HC3
        try clear c1
        try clear p2
        try clear c4
        try clear c4b0
        try clear p2
        obtain ⟨kq, x15_2, rfl, HA, HJ2, ⟨mc2, rfl⟩⟩ := hcut
        cases kq with
        | zero => exact absurd HA.out (by simp [bobbinetkeep_beforePath.j1])
        | succ kj2 =>
          have H := HA.out
          clear HA
          simp only [bobbinetkeep_beforePath.j1] at H
          by_cases c5 : x15_2 = true
          · subst c5
            have H1 : (if 0 ≤ x5_1 then (if x5_1 < (l0.length : Int) then (if x5_1 < (l1.length : Int) then (if (rd l0 x5_1) = (rd l1 x5_1) then (bobbinetkeep_beforePath.l0 kj2 l0 l1 (wrap64 (x5_1 + 1))) else (some (decide ((rd l0 x5_1) < (rd l1 x5_1))))) else (none)) else (none)) else (none)) = some r := by rw [if_pos rfl] at H; exact H
            clear H
            have H := H1
            clear H1
            by_cases c6 : 0 ≤ x5_1
            · rw [if_pos c6] at H
              have c6b0 : decide (0 ≤ x5_1) = true := decide_eq_true c6
              clear c6
              by_cases c7 : x5_1 < (l0.length : Int)
              · rw [if_pos c7] at H
                have c7b0 : decide (x5_1 < (l0.length : Int)) = true := decide_eq_true c7
                clear c7
                by_cases c8 : x5_1 < (l1.length : Int)
                · rw [if_pos c8] at H
                  have c8b0 : decide (x5_1 < (l1.length : Int)) = true := decide_eq_true c8
                  clear c8
                  by_cases c9 : (rd l0 x5_1) = (rd l1 x5_1)
                  · rw [if_pos c9] at H
                    have c9b0 : ((rd l0 x5_1) == (rd l1 x5_1)) = true := beq_iff_eq.mpr c9
                    have c9b1 : ((rd l0 x5_1) != (rd l1 x5_1)) = false := bne_eq_false_iff_eq.mpr c9
                    clear c9
                    have H' := Aside0.mk H
                    clear H
                    have p172 : 0 ≤ (x5_1 : Int) := of_decide_eq_true (by first | (with_reducible assumption) | assumption)
                    have q172 : x5_1 < (l0.length : Int) := of_decide_eq_true (by first | (with_reducible assumption) | assumption)
                    obtain ⟨ad172, e172, hx172_0⟩ := Kd.at_int HR0.out x5_1 p172 q172
                    cases e172
                    replace p172 := eq_true p172
                    replace q172 := eq_true q172
                    have p173 : 0 ≤ (x5_1 : Int) := of_decide_eq_true (by first | (with_reducible assumption) | assumption)
                    have q173 : x5_1 < (l1.length : Int) := of_decide_eq_true (by first | (with_reducible assumption) | assumption)
                    obtain ⟨ad173, e173, hx173_0⟩ := Kd.at_int HR1.out x5_1 p173 q173
                    cases e173
                    replace p173 := eq_true p173
                    replace q173 := eq_true q173
                    go_wp2
                    repeat (go_quiet (fail); try go_wp2)
                    go_roundg kj2
                    case measure => have := HK1.out; have := HJ2.out; omega
                    case rel => exact ⟨(wrap64 (x5_1 + 1)), (by first | rfl | (simp; done) | (simp [*]; done) | (simp [bne]; done)), H', ⟨by have := HK1.out; have := HJ2.out; omega⟩, by repeat (first | exact Drawn0.refl _ | apply Drawn0.step)⟩
                  · rw [if_neg c9] at H
                    have c9b0 : ((rd l0 x5_1) == (rd l1 x5_1)) = false := beq_eq_false_iff_ne.mpr c9
                    have c9b1 : ((rd l0 x5_1) != (rd l1 x5_1)) = true := bne_iff_ne.mpr c9
                    obtain rfl := Option.some.inj H
                    have p172 : 0 ≤ (x5_1 : Int) := of_decide_eq_true (by first | (with_reducible assumption) | assumption)
                    have q172 : x5_1 < (l0.length : Int) := of_decide_eq_true (by first | (with_reducible assumption) | assumption)
                    obtain ⟨ad172, e172, hx172_0⟩ := Kd.at_int HR0.out x5_1 p172 q172
                    cases e172
                    replace p172 := eq_true p172
                    replace q172 := eq_true q172
                    have p173 : 0 ≤ (x5_1 : Int) := of_decide_eq_true (by first | (with_reducible assumption) | assumption)
                    have q173 : x5_1 < (l1.length : Int) := of_decide_eq_true (by first | (with_reducible assumption) | assumption)
                    obtain ⟨ad173, e173, hx173_0⟩ := Kd.at_int HR1.out x5_1 p173 q173
                    cases e173
                    replace p173 := eq_true p173
                    replace q173 := eq_true q173
                    have p174 : 0 ≤ (x5_1 : Int) := of_decide_eq_true (by first | (with_reducible assumption) | assumption)
                    have q174 : x5_1 < (l0.length : Int) := of_decide_eq_true (by first | (with_reducible assumption) | assumption)
                    obtain ⟨ad174, e174, hx174_0⟩ := Kd.at_int HR0.out x5_1 p174 q174
                    obtain rfl : ad172 = ad174 := (by injection e174)
                    replace p174 := eq_true p174
                    replace q174 := eq_true q174
                    have p175 : 0 ≤ (x5_1 : Int) := of_decide_eq_true (by first | (with_reducible assumption) | assumption)
                    have q175 : x5_1 < (l1.length : Int) := of_decide_eq_true (by first | (with_reducible assumption) | assumption)
                    obtain ⟨ad175, e175, hx175_0⟩ := Kd.at_int HR1.out x5_1 p175 q175
                    obtain rfl : ad173 = ad175 := (by injection e175)
                    replace p175 := eq_true p175
                    replace q175 := eq_true q175
                    go_wp2
                    repeat (go_quiet (fail); try go_wp2)
                    go_ret
                    exact ⟨by first | rfl | (simp; done) | (simp [*]; done), by repeat (first | exact Drawn0.refl _ | apply Drawn0.step)⟩
                · rw [if_neg c8] at H
                  exact absurd H (by simp)
              · rw [if_neg c7] at H
                exact absurd H (by simp)
            · rw [if_neg c6] at H
              exact absurd H (by simp)
          · replace c5 := Bool.eq_false_iff.mpr c5
            subst c5
            have H1 : (some (decide ((l0.length : Int) < (l1.length : Int)))) = some r := by rw [if_neg (show ¬ (false = true) by decide)] at H; exact H
            clear H
            have H := H1
            clear H1
            obtain rfl := Option.some.inj H
            go_wp2
            repeat (go_quiet (fail); try go_wp2)
            go_ret
            exact ⟨by first | rfl | (simp; done) | (simp [*]; done), by repeat (first | exact Drawn0.refl _ | apply Drawn0.step)⟩
end Go.Proofs.Ytaibikajpacemaa.X
end
