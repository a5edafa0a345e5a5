/- Parts of the proof of ExprRenamed that are needed, put together by pack.py. -/
import Derived.Test.YtjmhihadgpdiaaaQExprRenamedaf
import Derived.Test.YtjmhihadgpdiaaaQExprRenamedag
import Derived.Test.YtjmhihadgpdiaaaQExprRenamedaj
import Derived.Test.YtjmhihadgpdiaaaQExprRenamedak
import Derived.Test.YtjmhihadgpdiaaaQExprRenamedai
section
namespace Go.Proofs.Ytjmhihadgpdiaaa.X
open Go.RowKit Go.Proofs.YtjmhihadgpdiaaaW.PrintWords Go.Proofs.YtjmhihadgpdiaaaW.PrintLast Go.Proofs.YtjmhihadgpdiaaaW.PrintMore
attribute [local go_sem] max2_int min2_int max_two min_two max_three min_three max_four min_four   -- for this text's walks alone
set_option linter.unusedVariables false
set_option linter.unusedSimpArgs false
mutual
def bobbinetkeep_ExprRenamed.l0 : Nat → List Int → ByteArray → Int → ByteArray → Int → Option (Bool)
 | 0, _, _, _, _, _ => none
 | k + 1, x1, x7, x9, x10, x11 => if x11 < (x7.size : Int) then (if 0 ≤ x11 then (if (bt x7 x11) ≥ 97 then (if (bt x7 x11) ≤ 99 then (if 0 ≤ (wrap64 ((((bt x7 x11) - 97) % 256) + x9)) then (if (wrap64 ((((bt x7 x11) - 97) % 256) + x9)) ≤ 8 then (if 0 ≤ 1 then (if 1 ≤ (((⟨#[97, 98, 99, 100, 101, 102, 103, 104]⟩ : ByteArray).extract ((wrap64 ((((bt x7 x11) - 97) % 256) + x9)) : Int).toNat (⟨#[97, 98, 99, 100, 101, 102, 103, 104]⟩ : ByteArray).size).size : Int) then (if x10.size + (((⟨#[97, 98, 99, 100, 101, 102, 103, 104]⟩ : ByteArray).extract ((wrap64 ((((bt x7 x11) - 97) % 256) + x9)) : Int).toNat (⟨#[97, 98, 99, 100, 101, 102, 103, 104]⟩ : ByteArray).size).extract 0 1).size ≤ 9223372036854775807 then (bobbinetkeep_ExprRenamed.l0 k x1 x7 x9 (x10 ++ (((⟨#[97, 98, 99, 100, 101, 102, 103, 104]⟩ : ByteArray).extract ((wrap64 ((((bt x7 x11) - 97) % 256) + x9)) : Int).toNat (⟨#[97, 98, 99, 100, 101, 102, 103, 104]⟩ : ByteArray).size).extract 0 1)) (wrap64 (x11 + 1))) else (none)) else (none)) else (none)) else (none)) else (none)) else (if x11 ≤ (wrap64 (x11 + 1)) then (if (wrap64 (x11 + 1)) ≤ (x7.size : Int) then (if x10.size + (x7.extract (x11 : Int).toNat ((wrap64 (x11 + 1)) : Int).toNat).size ≤ 9223372036854775807 then (bobbinetkeep_ExprRenamed.l0 k x1 x7 x9 (x10 ++ (x7.extract (x11 : Int).toNat ((wrap64 (x11 + 1)) : Int).toNat)) (wrap64 (x11 + 1))) else (none)) else (none)) else (none))) else (if x11 ≤ (wrap64 (x11 + 1)) then (if (wrap64 (x11 + 1)) ≤ (x7.size : Int) then (if x10.size + (x7.extract (x11 : Int).toNat ((wrap64 (x11 + 1)) : Int).toNat).size ≤ 9223372036854775807 then (bobbinetkeep_ExprRenamed.l0 k x1 x7 x9 (x10 ++ (x7.extract (x11 : Int).toNat ((wrap64 (x11 + 1)) : Int).toNat)) (wrap64 (x11 + 1))) else (none)) else (none)) else (none))) else (none)) else ((bobbinetkeep_WordOf.f k x1 12).bind fun t390 => (bobbinetkeep_ExprRenamed.l1 k x7 x9 x10 t390 ([] : List Int) 0))
def bobbinetkeep_ExprRenamed.l1 : Nat → ByteArray → Int → ByteArray → List Int → List Int → Int → Option (Bool)
 | 0, _, _, _, _, _, _ => none
 | k + 1, x7, x9, x10, x12, x13, x14 => if x14 < (x12.length : Int) then (if 0 ≤ x14 then (if x13.length < 17592186044416 then (bobbinetkeep_ExprRenamed.l1 k x7 x9 x10 x12 (x13 ++ [wrap64 ((rd x12 x14) + x9)]) (wrap64 (x14 + 1))) else (none)) else (none)) else ((bobbinetkeep_exprOf.f k x7).bind fun bt397 => ((bobbinetkeep_exprOf.f k x10).bind fun bt404 => ((bobbinetkeep_exprOf.f k (⟨#[97]⟩ : ByteArray)).bind fun bt411 => (if bt397.2.2.2 = true then (if bt404.2.2.2 = true then (if bt411.2.2.2 = true then ((bobbinetkeep_matches.f k bt411.1 bt411.2.1 bt411.2.2.1 (([0] : List Int))).bind fun t421 => (if t421 = true then ((bobbinetkeep_matches.f k bt397.1 bt397.2.1 bt397.2.2.1 x12).bind fun t422 => ((bobbinetkeep_matches.f k bt404.1 bt404.2.1 bt404.2.2.1 x13).bind fun t423 => (some (t422 == t423)))) else (none))) else (none)) else (none)) else (none)))))
end
def bobbinetkeep_ExprRenamed.f (k : Nat) (l0 : List Int) (l1 : List Int) (a2 : Int) : Option (Bool) := (bobbinetkeep_ExprText.f k l0 3).bind fun bt385 => (if (bt385.1.size : Int) > 40 then (some true) else ((bobbinetkeep_Picked.f a2 6).bind fun t389 => (bobbinetkeep_ExprRenamed.l0 k l1 bt385.1 t389 (⟨#[]⟩ : ByteArray) 0)))
def bobbinetkeep_ExprRenamed.T21 : Bool × List (List Nat × List Nat) := (true, [([], []), ([0], [0]), ([1], [1]), ([1, 2], [1, 2]), ([3, 1], [3]), ([4], [4]), ([4, 5], [4, 5]), ([6, 4], [6]), ([7], [7]), ([7], [7]), ([8, 9, 7, 7], [7, 8, 9]), ([7, 10], [7, 10]), ([11, 10], [11]), ([12], [12]), ([12], [12]), ([13, 14, 12, 12], [12, 13, 14]), ([12], [12]), ([12], [12]), ([16, 17, 15, 12], [12, 16, 17]), ([15, 18, 12], [12, 15, 18]), ([12, 19], [12, 19]), ([20, 18, 0, 1, 2, 3, 4, 5, 6, 7, 8, 9, 10, 11, 12, 13, 14, 15, 16, 17, 18, 19, 20], [20])])
def bobbinetkeep_ExprRenamed.B21 : List Nat := [0, 1, 3, 7, 15, 31, 63, 127, 255, 255, 1023, 2047, 4095, 8191, 8191, 32767, 8191, 8191, 262143, 524287, 1048575, 2097151]
theorem bobbinetkeep_ExprRenamed.tab21 : rtab .any (opsOf Try.f6 21) = bobbinetkeep_ExprRenamed.T21 := by kernel_rfl
theorem bobbinetkeep_ExprRenamed.bits21 : waitsOk bobbinetkeep_ExprRenamed.T21.2 bobbinetkeep_ExprRenamed.B21 = true := by kernel_rfl
set_option maxHeartbeats 8000000 in
set_option maxRecDepth 100000 in
theorem bobbinetkeep_ExprRenamed.calls (k : Nat) (A0 : Option Addr) (c0 : Nat) (l0 : List Int) (A1 : Option Addr) (c1 : Nat) (l1 : List Int) (a2 : Int) (r : Bool) (w : World) (hr0 : Kd.C (Kd.int .i64) w A0 l0.length l0) (hc0 : l0.length ≤ c0) (hr1 : Kd.C (Kd.int .i64) w A1 l1.length l1) (hc1 : l1.length ≤ c1) (h : bobbinetkeep_ExprRenamed.f k l0 l1 a2 = some r) :
  Calls Try.prog 6 #[.slice A0 l0.length c0, .slice A1 l1.length c1, .int .i64 a2] w fun e w' => e = .returned (.bool r) ∧ Below w.heap.size w w' := by
 have hu28 := Try.underlying28
 have HR0 := Aside0.mk hr0
 have HC0 := Aside0.mk hc0
 clear hr0 hc0
 have HR1 := Aside0.mk hr1
 have HC1 := Aside0.mk hc1
 clear hr1 hc1
 have HB := Aside0.mk (Below.refl w.heap.size w)
 have H : ((bobbinetkeep_ExprText.f k l0 3).bind fun bt385 => (if (bt385.1.size : Int) > 40 then (some true) else ((bobbinetkeep_Picked.f a2 6).bind fun t389 => (bobbinetkeep_ExprRenamed.l0 k l1 bt385.1 t389 (⟨#[]⟩ : ByteArray) 0)))) = some r := h
 clear h
 replace H := Option.bind_eq_some_iff.mp H
 obtain ⟨⟨t385, t386⟩, A40, H⟩ := H
 replace H : (if (t385.size : Int) > 40 then (some true) else ((bobbinetkeep_Picked.f a2 6).bind fun t389 => (bobbinetkeep_ExprRenamed.l0 k l1 t385 t389 (⟨#[]⟩ : ByteArray) 0))) = some r := H
 have A4 := Aside0.mk A40
 clear A40
 by_cases c5 : (t385.size : Int) > 40
 ·
  rw [if_pos c5] at H
  have c5b0 : decide (40 < (t385.size : Int)) = true := decide_eq_true c5
  have c5b1 : decide (40 < t385.size) = true := decide_eq_true (by omega)
  clear c5
  obtain rfl := Option.some.inj H
  go_enter Try.func6, Try.ntmps6
  go_wp2_with (first | ((with_reducible refine gate_callee (f := 9) rfl ?_); refine goesL_ (some 23) rfl rfl Try.func9 (by kernel_rfl) rfl #[.slice A0 l0.length c0, .int .i64 3] rfl (by (try simp only [List.map_toArray, List.map_cons, List.map_nil]); first | done | rfl | (simp only [List.length_drop, List.length_take]; rfl)) ?_; (with_reducible refine (bobbinetkeep_ExprText.calls k (fun k_ => k_ < w.heap.size) _ _ l0 3 t385 t386 _ ?side1 A4.out).mono ?_); (case side1 => exact Kd.V_mk HC0.out (Kd.F_below (Kd.C_F (Kd.heap_int .i64) HR0.out) (by repeat (first | (with_reducible first | exact HB.out | apply below_alloc | apply pw_below_drewN | apply below_drew1) | exact HB.out)))); rintro e w6 ⟨v387, rfl, ho0, hb⟩; refine ⟨_, rfl, ?_⟩; have n0_ := Aside0.mk (Kd.V_lower (Kd.V_mono (ok' := fun k_ => True) ho0 (fun k_ hk_ => trivial)) (below_size (by repeat (first | (with_reducible first | exact HB.out | apply below_alloc | apply pw_below_drewN | apply below_drew1) | exact HB.out)))); have n1_ := Aside0.mk (below_step (by repeat (first | (with_reducible first | exact HB.out | apply below_alloc | apply pw_below_drewN | apply below_drew1) | exact HB.out)) hb); clear HB; have HO388 := n0_; have HB := n1_; clear n0_ n1_; (try clear hb); (try clear hb2); (try clear hk); (try clear hi); (try clear ho0)))
  go_ret
  exact ⟨by first | rfl | (simp [errW_none, errW_some] <;> rfl) | (simp [*, errW_none, errW_some] <;> rfl), by repeat (first | (with_reducible first | exact HB.out | apply below_alloc | apply pw_below_drewN | apply below_drew1) | exact HB.out)⟩
 ·
  rw [if_neg c5] at H
  have c5b0 : decide (40 < (t385.size : Int)) = false := decide_eq_false c5
  have c5b1 : decide (40 < t385.size) = false := decide_eq_false (by omega)
  clear c5
  replace H := Option.bind_eq_some_iff.mp H
  obtain ⟨t389, A70, H⟩ := H
  replace H : (bobbinetkeep_ExprRenamed.l0 k l1 t385 t389 (⟨#[]⟩ : ByteArray) 0) = some r := H
  have A7 := Aside0.mk A70
  clear A70
  have H' := Aside0.mk H
  clear H
  go_enter Try.func6, Try.ntmps6
  go_wp2_with (first | ((with_reducible refine gate_callee (f := 9) rfl ?_); refine goesL_ (some 23) rfl rfl Try.func9 (by kernel_rfl) rfl #[.slice A0 l0.length c0, .int .i64 3] rfl (by (try simp only [List.map_toArray, List.map_cons, List.map_nil]); first | done | rfl | (simp only [List.length_drop, List.length_take]; rfl)) ?_; (with_reducible refine (bobbinetkeep_ExprText.calls k (fun k_ => k_ < w.heap.size) _ _ l0 3 t385 t386 _ ?side1 A4.out).mono ?_); (case side1 => exact Kd.V_mk HC0.out (Kd.F_below (Kd.C_F (Kd.heap_int .i64) HR0.out) (by repeat (first | (with_reducible first | exact HB.out | apply below_alloc | apply pw_below_drewN | apply below_drew1) | exact HB.out)))); rintro e w8 ⟨v387, rfl, ho0, hb⟩; refine ⟨_, rfl, ?_⟩; have n0_ := Aside0.mk (Kd.V_lower (Kd.V_mono (ok' := fun k_ => True) ho0 (fun k_ hk_ => trivial)) (below_size (by repeat (first | (with_reducible first | exact HB.out | apply below_alloc | apply pw_below_drewN | apply below_drew1) | exact HB.out)))); have n1_ := Aside0.mk (below_step (by repeat (first | (with_reducible first | exact HB.out | apply below_alloc | apply pw_below_drewN | apply below_drew1) | exact HB.out)) hb); clear HB; have HO388 := n0_; have HB := n1_; clear n0_ n1_; (try clear hb); (try clear hb2); (try clear hk); (try clear hi); (try clear ho0)) | ((with_reducible refine gate_callee (f := 10) rfl ?_); refine goesL_ (some 30) rfl rfl Try.func10 (by kernel_rfl) rfl #[.int .i64 a2, .int .i64 6] rfl (by (try simp only [List.map_toArray, List.map_cons, List.map_nil]); first | done | rfl | (simp only [List.length_drop, List.length_take]; rfl)) ?_; (with_reducible refine (bobbinetkeep_Picked.calls a2 6 t389 _ A7.out).mono ?_); rintro e w' ⟨rfl, ⟨nd, rfl⟩⟩; refine ⟨_, rfl, ?_⟩))
  go_loopg [10, 11] k (fun kq v10 v11 w' => ∃ (x10_1 : ByteArray) (x11_1 : Int), v10 = .string x10_1 ∧ v11 = .int .i64 x11_1 ∧ Aside0 (bobbinetkeep_ExprRenamed.l0 kq l1 t385 t389 x10_1 x11_1 = some r) ∧ Aside0 (kq ≤ k) ∧ Aside0 (Below w.heap.size w w'))
  case atStart => exact ⟨((⟨#[]⟩ : ByteArray)), (0), (by first | rfl | (simp; done) | (simp [*]; done) | (simp [bne]; done)), (by first | rfl | (simp; done) | (simp [*]; done) | (simp [bne]; done)), H', ⟨Nat.le_refl _⟩, ⟨by repeat (first | (with_reducible first | exact HB.out | apply below_alloc | apply pw_below_drewN | apply below_drew1) | exact HB.out)⟩⟩
  case round =>
   clear H'
   try clear c1
   try clear p2
   try clear c5
   try clear c5b0
   try clear c5b1
   try clear c6
   obtain ⟨x10_1, x11_1, rfl, rfl, HA, HK1, HB⟩ := hrel
   cases gk with
   | zero => exact absurd HA.out (by simp [bobbinetkeep_ExprRenamed.l0])
   | succ k1 =>
    have H := HA.out
    clear HA
    simp only [bobbinetkeep_ExprRenamed.l0] at H
    by_cases c9 : x11_1 < (t385.size : Int)
    ·
     rw [if_pos c9] at H
     have c9b0 : decide (x11_1 < (t385.size : Int)) = true := decide_eq_true c9
     clear c9
     by_cases c10 : 0 ≤ x11_1
     ·
      rw [if_pos c10] at H
      have c10b0 : decide (0 ≤ x11_1) = true := decide_eq_true c10
      clear c10
      by_cases c12 : (bt t385 x11_1) ≥ 97
      ·
       rw [if_pos c12] at H
       have c12b0 : decide (97 ≤ (bt t385 x11_1)) = true := decide_eq_true c12
       clear c12
       by_cases c14 : (bt t385 x11_1) ≤ 99
       ·
        rw [if_pos c14] at H
        have c14b0 : decide ((bt t385 x11_1) ≤ 99) = true := decide_eq_true c14
        clear c14
        obtain ⟨ji16, hji16⟩ : ∃ j_ : Int, (wrap64 ((((bt t385 x11_1) - 97) % 256) + t389)) = j_ := ⟨_, rfl⟩
        replace H : (if 0 ≤ (ji16) then (if (ji16) ≤ 8 then (if 0 ≤ 1 then (if 1 ≤ (((⟨#[97, 98, 99, 100, 101, 102, 103, 104]⟩ : ByteArray).extract ((ji16) : Int).toNat (⟨#[97, 98, 99, 100, 101, 102, 103, 104]⟩ : ByteArray).size).size : Int) then (if x10_1.size + (((⟨#[97, 98, 99, 100, 101, 102, 103, 104]⟩ : ByteArray).extract ((ji16) : Int).toNat (⟨#[97, 98, 99, 100, 101, 102, 103, 104]⟩ : ByteArray).size).extract 0 1).size ≤ 9223372036854775807 then (bobbinetkeep_ExprRenamed.l0 k1 l1 t385 t389 (x10_1 ++ (((⟨#[97, 98, 99, 100, 101, 102, 103, 104]⟩ : ByteArray).extract ((ji16) : Int).toNat (⟨#[97, 98, 99, 100, 101, 102, 103, 104]⟩ : ByteArray).size).extract 0 1)) (wrap64 (x11_1 + 1))) else (none)) else (none)) else (none)) else (none)) else (none)) = some r := by first | (rw [hji16] at H; exact H) | (simp only [hji16] at H ⊢; exact H)
        have hji16w : (IntKind.i64.wrap ((((bt t385 x11_1) - 97) % 256) + t389)) = ji16 := (i64_w _).trans hji16
        by_cases c17 : 0 ≤ (ji16)
        ·
         rw [if_pos c17] at H
         have c17b0 := eq_true c17
         have c17b1 : decide (0 ≤ (ji16)) = true := decide_eq_true c17
         clear c17
         by_cases c18 : (ji16) ≤ 8
         ·
          rw [if_pos c18] at H
          have c18b0 := eq_true c18
          have c18b1 : decide ((ji16) ≤ 8) = true := decide_eq_true c18
          clear c18
          by_cases c19 : 0 ≤ 1
          ·
           rw [if_pos c19] at H
           have c19b0 := eq_true c19
           have c19b1 : decide (0 ≤ 1) = true := decide_eq_true c19
           clear c19
           by_cases c20 : 1 ≤ (((⟨#[97, 98, 99, 100, 101, 102, 103, 104]⟩ : ByteArray).extract ((ji16) : Int).toNat (⟨#[97, 98, 99, 100, 101, 102, 103, 104]⟩ : ByteArray).size).size : Int)
           ·
            rw [if_pos c20] at H
            have c20b0 := eq_true c20
            have c20b1 : decide (1 ≤ (((⟨#[97, 98, 99, 100, 101, 102, 103, 104]⟩ : ByteArray).extract ((ji16) : Int).toNat (⟨#[97, 98, 99, 100, 101, 102, 103, 104]⟩ : ByteArray).size).size : Int)) = true := decide_eq_true c20
            have zc20 : (ji16).toNat < 8 := by have z_ := of_eq_true c20b0; rw [ByteArray.size_extract, show (⟨#[97, 98, 99, 100, 101, 102, 103, 104]⟩ : ByteArray).size = 8 from rfl] at z_; omega
            have yc200 : (((8 - (ji16).toNat : Nat) : Int) < 1) = False := eq_false (by omega)
            have yc201 : (1 ≤ ((8 - (ji16).toNat : Nat) : Int)) = True := eq_true (by omega)
            clear c20
            by_cases c21 : x10_1.size + (((⟨#[97, 98, 99, 100, 101, 102, 103, 104]⟩ : ByteArray).extract ((ji16) : Int).toNat (⟨#[97, 98, 99, 100, 101, 102, 103, 104]⟩ : ByteArray).size).extract 0 1).size ≤ 9223372036854775807
            ·
             rw [if_pos c21] at H
             have c21b0 := eq_true c21
             have c21b1 : decide (x10_1.size + (((⟨#[97, 98, 99, 100, 101, 102, 103, 104]⟩ : ByteArray).extract ((ji16) : Int).toNat (⟨#[97, 98, 99, 100, 101, 102, 103, 104]⟩ : ByteArray).size).extract 0 1).size ≤ 9223372036854775807) = true := decide_eq_true c21
             have yc21 := eq_true (show x10_1.size + min 1 (8 - (ji16).toNat) ≤ 9223372036854775807 by have z_ := of_eq_true c21b0; rw [ByteArray.size_extract, ByteArray.size_extract, show (⟨#[97, 98, 99, 100, 101, 102, 103, 104]⟩ : ByteArray).size = 8 from rfl] at z_; omega)
             have yn21 : (9223372036854775807 < x10_1.size + min 1 (8 - (ji16).toNat)) = False := eq_false (by have z2_ := of_eq_true yc21; omega)
             try have c21b2 : (9223372036854775807 < x10_1.size + (((⟨#[97, 98, 99, 100, 101, 102, 103, 104]⟩ : ByteArray).extract ((ji16) : Int).toNat (⟨#[97, 98, 99, 100, 101, 102, 103, 104]⟩ : ByteArray).size).extract 0 1).size) = False := eq_false (Nat.not_lt.2 c21)
             have H' := Aside0.mk H
             clear H
             have p11 : 0 ≤ (x11_1 : Int) := of_decide_eq_true (by first | (with_reducible assumption) | assumption)
             have q11 : x11_1 < (t385.size : Int) := of_decide_eq_true (by first | (with_reducible assumption) | assumption)
             have hx11 := bt_at t385 x11_1
             replace p11 := eq_true p11
             replace q11 := eq_true q11
             have p13 : 0 ≤ (x11_1 : Int) := of_decide_eq_true (by first | (with_reducible assumption) | assumption)
             have q13 : x11_1 < (t385.size : Int) := of_decide_eq_true (by first | (with_reducible assumption) | assumption)
             have hx13 := bt_at t385 x11_1
             replace p13 := eq_true p13
             replace q13 := eq_true q13
             have p15 : 0 ≤ (x11_1 : Int) := of_decide_eq_true (by first | (with_reducible assumption) | assumption)
             have q15 : x11_1 < (t385.size : Int) := of_decide_eq_true (by first | (with_reducible assumption) | assumption)
             have hx15 := bt_at t385 x11_1
             replace p15 := eq_true p15
             replace q15 := eq_true q15
             go_wp2
             go_roundg k1
             case measure => have := HK1.out; omega
             case rel => exact ⟨(x10_1 ++ (((⟨#[97, 98, 99, 100, 101, 102, 103, 104]⟩ : ByteArray).extract ((ji16) : Int).toNat (⟨#[97, 98, 99, 100, 101, 102, 103, 104]⟩ : ByteArray).size).extract 0 1)), (wrap64 (x11_1 + 1)), (by first | rfl | (simp; done) | (simp only [← hji16] <;> (first | rfl | simp)) | (simp [*]; done)), (by first | rfl | (simp; done) | (simp [*]; done) | (simp [bne]; done)), H', ⟨by have := HK1.out; omega⟩, ⟨by repeat (first | (with_reducible first | exact HB.out | apply below_alloc | apply pw_below_drewN | apply below_drew1) | exact HB.out)⟩⟩
            ·
             rw [if_neg c21] at H
             exact absurd H (by simp)
           ·
            rw [if_neg c20] at H
            exact absurd H (by simp)
          ·
           rw [if_neg c19] at H
           exact absurd H (by simp)
         ·
          rw [if_neg c18] at H
          exact absurd H (by simp)
        ·
         rw [if_neg c17] at H
         exact absurd H (by simp)
       ·
        rw [if_neg c14] at H
        have c14b0 : decide ((bt t385 x11_1) ≤ 99) = false := decide_eq_false c14
        clear c14
        have c22b0 := eq_true (of_decide_eq_true (by first | (with_reducible assumption) | assumption) : 0 ≤ x11_1)
        by_cases c23 : x11_1 ≤ (wrap64 (x11_1 + 1))
        ·
         rw [if_pos c23] at H
         have c23b0 := eq_true c23
         have c23b1 : decide (x11_1 ≤ (wrap64 (x11_1 + 1))) = true := decide_eq_true c23
         by_cases c24 : (wrap64 (x11_1 + 1)) ≤ (t385.size : Int)
         ·
          rw [if_pos c24] at H
          have c24b0 := eq_true c24
          have c24b1 : decide ((wrap64 (x11_1 + 1)) ≤ (t385.size : Int)) = true := decide_eq_true c24
          by_cases c25 : x10_1.size + (t385.extract (x11_1 : Int).toNat ((wrap64 (x11_1 + 1)) : Int).toNat).size ≤ 9223372036854775807
          ·
           rw [if_pos c25] at H
           have c25b0 := eq_true c25
           have c25b1 : decide (x10_1.size + (t385.extract (x11_1 : Int).toNat ((wrap64 (x11_1 + 1)) : Int).toNat).size ≤ 9223372036854775807) = true := decide_eq_true c25
           try have c25b2 : (9223372036854775807 < x10_1.size + (t385.extract (x11_1 : Int).toNat ((wrap64 (x11_1 + 1)) : Int).toNat).size) = False := eq_false (Nat.not_lt.2 c25)
           have H' := Aside0.mk H
           clear H
           have p11 : 0 ≤ (x11_1 : Int) := of_decide_eq_true (by first | (with_reducible assumption) | assumption)
           have q11 : x11_1 < (t385.size : Int) := of_decide_eq_true (by first | (with_reducible assumption) | assumption)
           have hx11 := bt_at t385 x11_1
           replace p11 := eq_true p11
           replace q11 := eq_true q11
           have p13 : 0 ≤ (x11_1 : Int) := of_decide_eq_true (by first | (with_reducible assumption) | assumption)
           have q13 : x11_1 < (t385.size : Int) := of_decide_eq_true (by first | (with_reducible assumption) | assumption)
           have hx13 := bt_at t385 x11_1
           replace p13 := eq_true p13
           replace q13 := eq_true q13
           go_wp2
           go_roundg k1
           case measure => have := HK1.out; omega
           case rel => exact ⟨(x10_1 ++ (t385.extract (x11_1 : Int).toNat ((wrap64 (x11_1 + 1)) : Int).toNat)), (wrap64 (x11_1 + 1)), (by first | rfl | (simp; done) | (simp [*]; done) | (simp [bne]; done)), (by first | rfl | (simp; done) | (simp [*]; done) | (simp [bne]; done)), H', ⟨by have := HK1.out; omega⟩, ⟨by repeat (first | (with_reducible first | exact HB.out | apply below_alloc | apply pw_below_drewN | apply below_drew1) | exact HB.out)⟩⟩
          ·
           rw [if_neg c25] at H
           exact absurd H (by simp)
         ·
          rw [if_neg c24] at H
          exact absurd H (by simp)
        ·
         rw [if_neg c23] at H
         exact absurd H (by simp)
      ·
       rw [if_neg c12] at H
       have c12b0 : decide (97 ≤ (bt t385 x11_1)) = false := decide_eq_false c12
       clear c12
       have c26b0 := eq_true (of_decide_eq_true (by first | (with_reducible assumption) | assumption) : 0 ≤ x11_1)
       by_cases c27 : x11_1 ≤ (wrap64 (x11_1 + 1))
       ·
        rw [if_pos c27] at H
        have c27b0 := eq_true c27
        have c27b1 : decide (x11_1 ≤ (wrap64 (x11_1 + 1))) = true := decide_eq_true c27
        by_cases c28 : (wrap64 (x11_1 + 1)) ≤ (t385.size : Int)
        ·
         rw [if_pos c28] at H
         have c28b0 := eq_true c28
         have c28b1 : decide ((wrap64 (x11_1 + 1)) ≤ (t385.size : Int)) = true := decide_eq_true c28
         by_cases c29 : x10_1.size + (t385.extract (x11_1 : Int).toNat ((wrap64 (x11_1 + 1)) : Int).toNat).size ≤ 9223372036854775807
         ·
          rw [if_pos c29] at H
          have c29b0 := eq_true c29
          have c29b1 : decide (x10_1.size + (t385.extract (x11_1 : Int).toNat ((wrap64 (x11_1 + 1)) : Int).toNat).size ≤ 9223372036854775807) = true := decide_eq_true c29
          try have c29b2 : (9223372036854775807 < x10_1.size + (t385.extract (x11_1 : Int).toNat ((wrap64 (x11_1 + 1)) : Int).toNat).size) = False := eq_false (Nat.not_lt.2 c29)
          have H' := Aside0.mk H
          clear H
          have p11 : 0 ≤ (x11_1 : Int) := of_decide_eq_true (by first | (with_reducible assumption) | assumption)
          have q11 : x11_1 < (t385.size : Int) := of_decide_eq_true (by first | (with_reducible assumption) | assumption)
          have hx11 := bt_at t385 x11_1
          replace p11 := eq_true p11
          replace q11 := eq_true q11
          go_wp2
          go_roundg k1
          case measure => have := HK1.out; omega
          case rel => exact ⟨(x10_1 ++ (t385.extract (x11_1 : Int).toNat ((wrap64 (x11_1 + 1)) : Int).toNat)), (wrap64 (x11_1 + 1)), (by first | rfl | (simp; done) | (simp [*]; done) | (simp [bne]; done)), (by first | rfl | (simp; done) | (simp [*]; done) | (simp [bne]; done)), H', ⟨by have := HK1.out; omega⟩, ⟨by repeat (first | (with_reducible first | exact HB.out | apply below_alloc | apply pw_below_drewN | apply below_drew1) | exact HB.out)⟩⟩
         ·
          rw [if_neg c29] at H
          exact absurd H (by simp)
        ·
         rw [if_neg c28] at H
         exact absurd H (by simp)
       ·
        rw [if_neg c27] at H
        exact absurd H (by simp)
     ·
      rw [if_neg c10] at H
      exact absurd H (by simp)
    ·
     rw [if_neg c9] at H
     have c9b0 : decide (x11_1 < (t385.size : Int)) = false := decide_eq_false c9
     clear c9
     replace H := Option.bind_eq_some_iff.mp H
     obtain ⟨t390, A300, H⟩ := H
     replace H : (bobbinetkeep_ExprRenamed.l1 k1 t385 t389 x10_1 t390 ([] : List Int) 0) = some r := H
     have A30 := Aside0.mk A300
     clear A300
     have H' := Aside0.mk H
     clear H
     go_wp2_with (first | ((with_reducible refine gate_callee (f := 14) rfl ?_); refine goesL_ (some 66) rfl rfl Try.func14 (by kernel_rfl) rfl #[.slice A1 l1.length c1, .int .i64 12] rfl (by (try simp only [List.map_toArray, List.map_cons, List.map_nil]); first | done | rfl | (simp only [List.length_drop, List.length_take]; rfl)) ?_; (with_reducible refine (bobbinetkeep_WordOf.calls k1 _ _ l1 12 t390 _ ?side1 ?side2 A30.out).mono ?_); (case side1 => repeat (first | exact (Kd.C_below HR1.out HB.out) | (with_reducible refine Kd.C_alloc ?_ _) | (with_reducible refine Kd.C_drewN ?_ _) | (with_reducible refine Kd.C_drew ?_))); (case side2 => exact HC1.out); rintro e w31 ⟨v391, rfl, ho0, hb⟩; refine ⟨_, rfl, ?_⟩; have n0_ := Aside0.mk (Kd.R_lower ho0 (below_size (by repeat (first | (with_reducible first | exact HB.out | apply below_alloc | apply pw_below_drewN | apply below_drew1) | exact HB.out)))); have n1_ := Aside0.mk (below_step (by repeat (first | (with_reducible first | exact HB.out | apply below_alloc | apply pw_below_drewN | apply below_drew1) | exact HB.out)) hb); clear HB; have HO392 := n0_; have HB := n1_; clear n0_ n1_; (try clear hb); (try clear hb2); (try clear hk); (try clear hi); (try clear ho0)))
     go_loopg [13, 14] k1 (fun kq v13 v14 w' => ∃ (x13_2 : List Int) (x14_2 : Int), v14 = .int .i64 x14_2 ∧ Aside0 (bobbinetkeep_ExprRenamed.l1 kq t385 t389 x10_1 t390 x13_2 x14_2 = some r) ∧ Aside0 (kq ≤ k1) ∧ Aside0 (Kd.R (Kd.int .i64) 3 w' w.heap.size (fun k_ => some k_ ≠ (v13 : Value).ownBlock) v391 t390) ∧ Aside0 (Kd.R (Kd.int .i64) 3 w' w.heap.size (fun k_ => some k_ ≠ (v391 : Value).ownBlock) v13 x13_2) ∧ Aside0 (Below w.heap.size w w'))
     case atStart => exact ⟨(([] : List Int)), (0), (by first | rfl | (simp; done) | (simp [*]; done) | (simp [bne]; done)), H', ⟨Nat.le_refl _⟩, ⟨by (with_reducible repeat (first | apply Kd.R_alloc | apply Kd.R_drewN | apply Kd.R_drew)); exact Kd.R_mono HO392.out (fun _ hk => (by simp [Value.ownBlock]))⟩, ⟨by first | exact Kd.R_nil _ _ _ _ _ | exact Kd.N_nil _ _ _ _ _ | exact Kd.V_nil _ _ _ _ _ | exact Kd.Q_nil _ _ _ _ _ | exact Kd.S_nil _ _ _ _ _⟩, ⟨by repeat (first | (with_reducible first | exact HB.out | apply below_alloc | apply pw_below_drewN | apply below_drew1) | exact HB.out)⟩⟩
     case round =>
      clear H'
      try clear c1
      try clear p1
      try clear q1
      try clear hx1
      try clear c2
      try clear p2
      try clear c5
      try clear c5b0
      try clear c5b1
      try clear c6
      try clear p6
      try clear c9
      try clear c9b0
      try clear c10
      try clear c10b0
      try clear p11
      try clear q11
      try clear hx11
      try clear c12
      try clear c12b0
      try clear p13
      try clear q13
      try clear hx13
      try clear c14
      try clear c14b0
      try clear p15
      try clear q15
      try clear hx15
      try clear c17
      try clear c17b0
      try clear c17b1
      try clear c18
      try clear c18b0
      try clear c18b1
      try clear c19
      try clear c19b0
      try clear c19b1
      try clear c20
      try clear c20b0
      try clear c20b1
      try clear c21
      try clear c21b0
      try clear c21b1
      try clear c21b2
      try clear c22
      try clear c22b0
      try clear c23
      try clear c23b0
      try clear c23b1
      try clear c24
      try clear c24b0
      try clear c24b1
      try clear c25
      try clear c25b0
      try clear c25b1
      try clear c25b2
      try clear c26
      try clear c26b0
      try clear c27
      try clear c27b0
      try clear c27b1
      try clear c28
      try clear c28b0
      try clear c28b1
      try clear c29
      try clear c29b0
      try clear c29b1
      try clear c29b2
      try clear p11
      try clear p13
      try clear p15
      try clear p2
      try clear q11
      try clear q13
      try clear q15
      obtain ⟨x13_2, x14_2, rfl, HA, HK2, HO_12, HO_13, HB⟩ := hrel
      cases gk with
      | zero => exact absurd HA.out (by simp [bobbinetkeep_ExprRenamed.l1])
      | succ k2 =>
       have H := HA.out
       clear HA
       simp only [bobbinetkeep_ExprRenamed.l1] at H
       by_cases c32 : x14_2 < (t390.length : Int)
       ·
        rw [if_pos c32] at H
        have c32b0 : decide (x14_2 < (t390.length : Int)) = true := decide_eq_true c32
        clear c32
        by_cases c33 : 0 ≤ x14_2
        ·
         rw [if_pos c33] at H
         have c33b0 : decide (0 ≤ x14_2) = true := decide_eq_true c33
         clear c33
         by_cases c34 : x13_2.length < 17592186044416
         ·
          rw [if_pos c34] at H
          have LMc34 := Aside0.mk c34
          clear c34
          obtain ⟨y394, hy394⟩ : ∃ y_ : List Int, y_ = (x13_2 ++ [wrap64 ((rd t390 x14_2) + t389)]) := ⟨_, rfl⟩
          replace H : (bobbinetkeep_ExprRenamed.l1 k2 t385 t389 x10_1 t390 y394 (wrap64 (x14_2 + 1))) = some r := by first | (rw [hy394]; with_reducible exact H) | (have H2_ := (Option.bind_some _ _).symm.trans H; rw [hy394]; with_reducible exact H2_) | (have H2_ := (Option.bind_some _ _).symm.trans H; with_reducible exact H2_) | with_reducible exact H | (rw [hy394]; exact H) | exact H
          have Ny394 := Aside0.mk hy394
          clear hy394
          have H' := Aside0.mk H
          clear H
          obtain ⟨Ao35, co35, eo35⟩ := Kd.R_slice HO_12.out
          subst eo35
          have p393 : 0 ≤ (x14_2 : Int) := of_decide_eq_true (by first | (with_reducible assumption) | assumption)
          have q393 : x14_2 < (t390.length : Int) := of_decide_eq_true (by first | (with_reducible assumption) | assumption)
          obtain ⟨ad393, e393, hx393_0⟩ := Kd.at_int (Kd.R_reads' HO_12.out).2.2 x14_2 p393 q393
          cases e393
          replace p393 := eq_true p393
          replace q393 := eq_true q393
          go_wp2_with (first | ((with_reducible refine gate_builtin (b := .append) (xs := #[.tmp 73, .tmp 80]) rfl ?_); (try (refine gate_guard (by rfl) ?_; dsimp only)); at_builtin; refine Kd.R_append (Kd.int .i64) (w0 := w) w.heap.size rfl (.tmp 73) (.tmp 80) 22 3 (.int .i64 0) 8 rfl Try.underlying22 info3 rfl (by decide) (by omega) u13 x13_2 (wrap64 ((rd t390 x14_2) + t389)) [.int .i64 (wrap64 ((rd t390 x14_2) + t389))] (fun k_ => some k_ ≠ (.slice (some ad393) t390.length co35 : Value).ownBlock) (fun _ => False) rfl rfl ?aP (fun _ hk => hk.elim) ?aF ?aO ?aB ?aS ?aL ?_; (case aP => exact rfl); (case aB => exact (by repeat (first | (with_reducible first | exact HB.out | apply below_alloc | apply pw_below_drewN | apply below_drew1) | exact HB.out))); (case aF => exact (fun k_ hk => Kd.fresh' (Kd.R_lt (by (with_reducible repeat (first | apply Kd.R_alloc | apply Kd.R_drewN | apply Kd.R_drew)); exact HO_12.out)) k_ hk)); (case aO => exact (by (with_reducible repeat (first | apply Kd.R_alloc | apply Kd.R_drewN | apply Kd.R_drew)); exact HO_13.out)); (case aS => exact (below_size (by repeat (first | (with_reducible first | exact HB.out | apply below_alloc | apply pw_below_drewN | apply below_drew1) | exact HB.out)))); (case aL => have := LMc34.out; omega); intro v395 w36 ho hb hg hat; rw [← Ny394.out] at ho; have n0_ := Aside0.mk (Kd.R_after (ok := (fun _ => True)) (by (with_reducible repeat (first | apply Kd.R_alloc | apply Kd.R_drewN | apply Kd.R_drew)); exact Kd.R_mono HO_12.out (fun _ hk => ⟨trivial, hk⟩)) hg hat); have n1_ := Aside0.mk (hb); have n2_ := Aside0.mk (ho); clear HO_12; clear HB; clear HO_13; have HO_12 := n0_; have HB := n1_; have HO396 := n2_; clear n0_ n1_ n2_; clear ho hb hg hat))
          go_roundg k2
          case measure => have := HK1.out; have := HK2.out; omega
          case rel => exact ⟨(y394), (wrap64 (x14_2 + 1)), (by first | rfl | (simp; done) | (simp [*]; done) | (simp [bne]; done)), H', ⟨by have := HK1.out; have := HK2.out; omega⟩, ⟨by (with_reducible repeat (first | apply Kd.R_alloc | apply Kd.R_drewN | apply Kd.R_drew)); exact Kd.R_mono HO_12.out (fun _ hk => hk.2)⟩, ⟨by (with_reducible repeat (first | apply Kd.R_alloc | apply Kd.R_drewN | apply Kd.R_drew)); exact HO396.out⟩, ⟨by repeat (first | (with_reducible first | exact HB.out | apply below_alloc | apply pw_below_drewN | apply below_drew1) | exact HB.out)⟩⟩
         ·
          rw [if_neg c34] at H
          exact absurd H (by simp)
        ·
         rw [if_neg c33] at H
         exact absurd H (by simp)
       ·
        rw [if_neg c32] at H
        have c32b0 : decide (x14_2 < (t390.length : Int)) = false := decide_eq_false c32
        clear c32
        replace H := Option.bind_eq_some_iff.mp H
        obtain ⟨⟨t397, t398, t399, t402⟩, A370, H⟩ := H
        replace H : ((bobbinetkeep_exprOf.f k2 x10_1).bind fun bt404 => ((bobbinetkeep_exprOf.f k2 (⟨#[97]⟩ : ByteArray)).bind fun bt411 => (if t402 = true then (if bt404.2.2.2 = true then (if bt411.2.2.2 = true then ((bobbinetkeep_matches.f k2 bt411.1 bt411.2.1 bt411.2.2.1 (([0] : List Int))).bind fun t421 => (if t421 = true then ((bobbinetkeep_matches.f k2 t397 t398 t399 t390).bind fun t422 => ((bobbinetkeep_matches.f k2 bt404.1 bt404.2.1 bt404.2.2.1 x13_2).bind fun t423 => (some (t422 == t423)))) else (none))) else (none)) else (none)) else (none)))) = some r := H
        have A37 := Aside0.mk A370
        clear A370
        replace H := Option.bind_eq_some_iff.mp H
        obtain ⟨⟨t404, t405, t406, t409⟩, A380, H⟩ := H
        replace H : ((bobbinetkeep_exprOf.f k2 (⟨#[97]⟩ : ByteArray)).bind fun bt411 => (if t402 = true then (if t409 = true then (if bt411.2.2.2 = true then ((bobbinetkeep_matches.f k2 bt411.1 bt411.2.1 bt411.2.2.1 (([0] : List Int))).bind fun t421 => (if t421 = true then ((bobbinetkeep_matches.f k2 t397 t398 t399 t390).bind fun t422 => ((bobbinetkeep_matches.f k2 t404 t405 t406 x13_2).bind fun t423 => (some (t422 == t423)))) else (none))) else (none)) else (none)) else (none))) = some r := H
        have A38 := Aside0.mk A380
        clear A380
        replace H := Option.bind_eq_some_iff.mp H
        obtain ⟨⟨t411, t412, t413, t416⟩, A390, H⟩ := H
        replace H : (if t402 = true then (if t409 = true then (if t416 = true then ((bobbinetkeep_matches.f k2 t411 t412 t413 (([0] : List Int))).bind fun t421 => (if t421 = true then ((bobbinetkeep_matches.f k2 t397 t398 t399 t390).bind fun t422 => ((bobbinetkeep_matches.f k2 t404 t405 t406 x13_2).bind fun t423 => (some (t422 == t423)))) else (none))) else (none)) else (none)) else (none)) = some r := H
        have A39 := Aside0.mk A390
        clear A390
        by_cases c40 : t402 = true
        ·
         subst c40
         have H1 : (if t409 = true then (if t416 = true then ((bobbinetkeep_matches.f k2 t411 t412 t413 (([0] : List Int))).bind fun t421 => (if t421 = true then ((bobbinetkeep_matches.f k2 t397 t398 t399 t390).bind fun t422 => ((bobbinetkeep_matches.f k2 t404 t405 t406 x13_2).bind fun t423 => (some (t422 == t423)))) else (none))) else (none)) else (none)) = some r := by rw [if_pos rfl] at H; exact H
         clear H
         have H := H1
         clear H1
         by_cases c41 : t409 = true
         ·
          subst c41
          have H1 : (if t416 = true then ((bobbinetkeep_matches.f k2 t411 t412 t413 (([0] : List Int))).bind fun t421 => (if t421 = true then ((bobbinetkeep_matches.f k2 t397 t398 t399 t390).bind fun t422 => ((bobbinetkeep_matches.f k2 t404 t405 t406 x13_2).bind fun t423 => (some (t422 == t423)))) else (none))) else (none)) = some r := by rw [if_pos rfl] at H; exact H
          clear H
          have H := H1
          clear H1
          by_cases c42 : t416 = true
          ·
           subst c42
           have H1 : ((bobbinetkeep_matches.f k2 t411 t412 t413 (([0] : List Int))).bind fun t421 => (if t421 = true then ((bobbinetkeep_matches.f k2 t397 t398 t399 t390).bind fun t422 => ((bobbinetkeep_matches.f k2 t404 t405 t406 x13_2).bind fun t423 => (some (t422 == t423)))) else (none))) = some r := by rw [if_pos rfl] at H; exact H
           clear H
           have H := H1
           clear H1
           obtain ⟨y418, hy418⟩ : ∃ y_ : List Int, y_ = (([0] : List Int)) := ⟨_, rfl⟩
           replace H : ((bobbinetkeep_matches.f k2 t411 t412 t413 y418).bind fun t421 => (if t421 = true then ((bobbinetkeep_matches.f k2 t397 t398 t399 t390).bind fun t422 => ((bobbinetkeep_matches.f k2 t404 t405 t406 x13_2).bind fun t423 => (some (t422 == t423)))) else (none))) = some r := by first | (rw [hy418]; with_reducible exact H) | (have H2_ := (Option.bind_some _ _).symm.trans H; rw [hy418]; with_reducible exact H2_) | (have H2_ := (Option.bind_some _ _).symm.trans H; with_reducible exact H2_) | with_reducible exact H | (rw [hy418]; exact H) | exact H
           have Ny418 := Aside0.mk hy418
           clear hy418
           replace H := Option.bind_eq_some_iff.mp H
           obtain ⟨t421, A430, H⟩ := H
           replace H : (if t421 = true then ((bobbinetkeep_matches.f k2 t397 t398 t399 t390).bind fun t422 => ((bobbinetkeep_matches.f k2 t404 t405 t406 x13_2).bind fun t423 => (some (t422 == t423)))) else (none)) = some r := H
           have A43 := Aside0.mk A430
           clear A430
           by_cases c44 : t421 = true
           ·
            subst c44
            have H1 : ((bobbinetkeep_matches.f k2 t397 t398 t399 t390).bind fun t422 => ((bobbinetkeep_matches.f k2 t404 t405 t406 x13_2).bind fun t423 => (some (t422 == t423)))) = some r := by rw [if_pos rfl] at H; exact H
            clear H
            have H := H1
            clear H1
            replace H := Option.bind_eq_some_iff.mp H
            obtain ⟨t422, A450, H⟩ := H
            replace H : ((bobbinetkeep_matches.f k2 t404 t405 t406 x13_2).bind fun t423 => (some (t422 == t423))) = some r := H
            have A45 := Aside0.mk A450
            clear A450
            replace H := Option.bind_eq_some_iff.mp H
            obtain ⟨t423, A460, H⟩ := H
            replace H : (some (t422 == t423)) = some r := H
            have A46 := Aside0.mk A460
            clear A460
            obtain rfl := Option.some.inj H
            obtain ⟨Ao47, co47, eo47⟩ := Kd.R_slice HO_12.out
            subst eo47
            try go_wp2_with (first | ((with_reducible refine gate_callee (f := 11) rfl ?_); refine goesL_ (some 84) rfl rfl Try.func11 (by kernel_rfl) rfl #[.string t385] rfl (by (try simp only [List.map_toArray, List.map_cons, List.map_nil]); first | done | rfl | (simp only [List.length_drop, List.length_take]; rfl)) ?_; (with_reducible refine (bobbinetkeep_exprOf.calls k2 t385 t397 t398 t399 true _ A37.out).mono ?_); rintro e w48 ⟨v400, rfl, ho0, hb⟩; refine ⟨_, rfl, ?_⟩; have n0_ := Aside0.mk (Kd.R_below (by (with_reducible repeat (first | apply Kd.R_alloc | apply Kd.R_drewN | apply Kd.R_drew)); exact HO_12.out) hb); have n1_ := Aside0.mk (Kd.R_below (by (with_reducible repeat (first | apply Kd.R_alloc | apply Kd.R_drewN | apply Kd.R_drew)); exact HO_13.out) hb); have n2_ := Aside0.mk (Kd.V_lower (Kd.V_mono (ok' := fun k_ => some k_ ≠ (.slice Ao47 t390.length co47 : Value).ownBlock ∧ some k_ ≠ (u13 : Value).ownBlock) ho0 (fun k_ hk_ => ⟨(Kd.fresh' (Kd.R_lt (by (with_reducible repeat (first | apply Kd.R_alloc | apply Kd.R_drewN | apply Kd.R_drew)); exact HO_12.out)) k_ hk_), (Kd.fresh' (Kd.R_lt (by (with_reducible repeat (first | apply Kd.R_alloc | apply Kd.R_drewN | apply Kd.R_drew)); exact HO_13.out)) k_ hk_)⟩)) (below_size (by repeat (first | (with_reducible first | exact HB.out | apply below_alloc | apply pw_below_drewN | apply below_drew1) | exact HB.out)))); have n3_ := Aside0.mk (below_step (by repeat (first | (with_reducible first | exact HB.out | apply below_alloc | apply pw_below_drewN | apply below_drew1) | exact HB.out)) hb); clear HO_12; clear HO_13; clear HB; have HO_12 := n0_; have HO_13 := n1_; have HO401 := n2_; have HB := n3_; clear n0_ n1_ n2_ n3_; (try clear hb); (try clear hb2); (try clear hk); (try clear hi); (try clear ho0)) | ((with_reducible refine gate_dst (N := 15) rfl ?_); (try (refine gate_guard (by rfl) ?_; dsimp only)); refine box_event ?hg (N := 15) ?hd (cs := #[.int .i64 0, .int .i64 0, .slice none 0 0]) (t := 28) ?hr ?_; (case hd => rfl); (case hg => rfl); (case hr => first | (go_simp; done) | (go_simp; rfl)); intro gb403 hg w49 hbox hb; have n0_ := Aside0.mk (Kd.R_below (by (with_reducible repeat (first | apply Kd.R_alloc | apply Kd.R_drewN | apply Kd.R_drew)); exact HO_12.out) hb); have n1_ := Aside0.mk (Kd.R_below (by (with_reducible repeat (first | apply Kd.R_alloc | apply Kd.R_drewN | apply Kd.R_drew)); exact HO_13.out) hb); have n2_ := Aside0.mk (Kd.V_below (Kd.V_elderB (by (with_reducible repeat (first | apply Kd.V_alloc | apply Kd.V_drewN | apply Kd.V_drew)); exact HO401.out) gb403 (Nat.le_of_eq hg.symm)) hb); have n3_ := Aside0.mk (below_step (by repeat (first | (with_reducible first | exact HB.out | apply below_alloc | apply pw_below_drewN | apply below_drew1) | exact HB.out)) hb); have n4_ := Aside0.mk (hbox); have n5_ := Aside0.mk ((by rw [hg]; exact (below_size (by repeat (first | (with_reducible first | exact HB.out | apply below_alloc | apply pw_below_drewN | apply below_drew1) | exact HB.out))) : w.heap.size ≤ gb403)); have n6_ := Aside0.mk ((by rw [hg]; exact (below_size (by repeat (first | (with_reducible first | exact HB.out | apply below_alloc | apply pw_below_drewN | apply below_drew1) | exact HB.out))) : w.heap.size ≤ gb403)); clear HO_12; clear HO_13; clear HO401; clear HB; have HO_12 := n0_; have HO_13 := n1_; have HO401 := n2_; have HB := n3_; have BK403 := n4_; have GW403 := n5_; have GE403 := n6_; clear n0_ n1_ n2_ n3_ n4_ n5_ n6_; clear hb hbox hg; have hcz50_0 : w49.cell? ⟨gb403, 0, none⟩ = some (.int .i64 0) := (blk_cell BK403.out 0).trans rfl; have hcz50_1 : w49.cell? ⟨gb403, 1, none⟩ = some (.int .i64 0) := (blk_cell BK403.out 1).trans rfl; have hcz50_2 : w49.cell? ⟨gb403, 2, none⟩ = some (.slice none 0 0) := (blk_cell BK403.out 2).trans rfl; have hfz50_0 := blk_frozen BK403.out 0; have hfz50_1 := blk_frozen BK403.out 1; have hfz50_2 := blk_frozen BK403.out 2; obtain ⟨Ao51, co51, eo51⟩ := Kd.V_slice HO401.out; subst eo51) | ((with_reducible refine gate_callee (f := 11) rfl ?_); refine goesL_ (some 89) rfl rfl Try.func11 (by kernel_rfl) rfl #[.string x10_1] rfl (by (try simp only [List.map_toArray, List.map_cons, List.map_nil]); first | done | rfl | (simp only [List.length_drop, List.length_take]; rfl)) ?_; (with_reducible refine (bobbinetkeep_exprOf.calls k2 x10_1 t404 t405 t406 true _ A38.out).mono ?_); rintro e w52 ⟨v407, rfl, ho0, hb⟩; refine ⟨_, rfl, ?_⟩; have n0_ := Aside0.mk (Kd.R_below (by (with_reducible repeat (first | apply Kd.R_alloc | apply Kd.R_drewN | apply Kd.R_drew)); exact (Kd.R_mono (Kd.R_far (p := ⟨gb403, 2, none⟩) (Kd.R_far (p := ⟨gb403, 1, none⟩) (Kd.R_far (p := ⟨gb403, 0, none⟩) (Kd.R_types HO_12.out BK403.out (by decide)) (fun _ hk => hk.2) (.int .i64 t397)) (fun _ hk => hk.2) (.int .i64 t398)) (fun _ hk => hk.2) (.slice Ao51 t399.length co51)) (fun _ h_ => h_.1))) hb); have n1_ := Aside0.mk (Kd.R_below (by (with_reducible repeat (first | apply Kd.R_alloc | apply Kd.R_drewN | apply Kd.R_drew)); exact (Kd.R_mono (Kd.R_far (p := ⟨gb403, 2, none⟩) (Kd.R_far (p := ⟨gb403, 1, none⟩) (Kd.R_far (p := ⟨gb403, 0, none⟩) (Kd.R_types HO_13.out BK403.out (by decide)) (fun _ hk => hk.2) (.int .i64 t397)) (fun _ hk => hk.2) (.int .i64 t398)) (fun _ hk => hk.2) (.slice Ao51 t399.length co51)) (fun _ h_ => h_.1))) hb); have n2_ := Aside0.mk (Kd.V_below (by (with_reducible repeat (first | apply Kd.V_alloc | apply Kd.V_drewN | apply Kd.V_drew)); exact (Kd.V_mono (Kd.V_far (p := ⟨gb403, 2, none⟩) (Kd.V_far (p := ⟨gb403, 1, none⟩) (Kd.V_far (p := ⟨gb403, 0, none⟩) (Kd.V_mono HO401.out (fun k_ hk => (⟨hk, hk.2⟩ : _ ∧ k_ ≠ gb403))) (fun _ hk => hk.2) (.int .i64 t397)) (fun _ hk => hk.2) (.int .i64 t398)) (fun _ hk => hk.2) (.slice Ao51 t399.length co51)) (fun _ h_ => h_.1))) hb); have n3_ := Aside0.mk (Kd.V_lower (Kd.V_mono (ok' := fun k_ => some k_ ≠ (.slice Ao47 t390.length co47 : Value).ownBlock ∧ some k_ ≠ (u13 : Value).ownBlock ∧ k_ ≠ gb403) ho0 (fun k_ hk_ => ⟨(Kd.fresh' (Kd.R_lt (by (with_reducible repeat (first | apply Kd.R_alloc | apply Kd.R_drewN | apply Kd.R_drew)); exact (Kd.R_mono (Kd.R_far (p := ⟨gb403, 2, none⟩) (Kd.R_far (p := ⟨gb403, 1, none⟩) (Kd.R_far (p := ⟨gb403, 0, none⟩) (Kd.R_types HO_12.out BK403.out (by decide)) (fun _ hk => hk.2) (.int .i64 t397)) (fun _ hk => hk.2) (.int .i64 t398)) (fun _ hk => hk.2) (.slice Ao51 t399.length co51)) (fun _ h_ => h_.1)))) k_ hk_), (Kd.fresh' (Kd.R_lt (by (with_reducible repeat (first | apply Kd.R_alloc | apply Kd.R_drewN | apply Kd.R_drew)); exact (Kd.R_mono (Kd.R_far (p := ⟨gb403, 2, none⟩) (Kd.R_far (p := ⟨gb403, 1, none⟩) (Kd.R_far (p := ⟨gb403, 0, none⟩) (Kd.R_types HO_13.out BK403.out (by decide)) (fun _ hk => hk.2) (.int .i64 t397)) (fun _ hk => hk.2) (.int .i64 t398)) (fun _ hk => hk.2) (.slice Ao51 t399.length co51)) (fun _ h_ => h_.1)))) k_ hk_), (Kd.freshB (g := gb403) (o := .cells #[.int .i64 t397, .int .i64 t398, .slice Ao51 t399.length co51] 28 (0, 0)) (by (with_reducible repeat (first | refine blk_drewN ?_ _ | refine blk_drew ?_ | refine blk_alloc ?_ _)); refine blk_put (cs := #[.int .i64 t397, .int .i64 t398, .slice none 0 0]) ?_ 2 _ rfl; (with_reducible repeat (first | refine blk_drewN ?_ _ | refine blk_drew ?_ | refine blk_alloc ?_ _)); refine blk_put (cs := #[.int .i64 t397, .int .i64 0, .slice none 0 0]) ?_ 1 _ rfl; (with_reducible repeat (first | refine blk_drewN ?_ _ | refine blk_drew ?_ | refine blk_alloc ?_ _)); refine blk_put (cs := #[.int .i64 0, .int .i64 0, .slice none 0 0]) ?_ 0 _ rfl; (with_reducible repeat (first | refine blk_drewN ?_ _ | refine blk_drew ?_ | refine blk_alloc ?_ _)); exact BK403.out) k_ hk_)⟩)) (below_size (by repeat (first | (with_reducible first | exact HB.out | apply below_alloc | apply pw_below_drewN | apply below_drew1 | refine below_set ?_ GE403.out) | exact HB.out)))); have n4_ := Aside0.mk (blk_below (g := gb403) (o := .cells #[.int .i64 t397, .int .i64 t398, .slice Ao51 t399.length co51] 28 (0, 0)) (by (with_reducible repeat (first | refine blk_drewN ?_ _ | refine blk_drew ?_ | refine blk_alloc ?_ _)); refine blk_put (cs := #[.int .i64 t397, .int .i64 t398, .slice none 0 0]) ?_ 2 _ rfl; (with_reducible repeat (first | refine blk_drewN ?_ _ | refine blk_drew ?_ | refine blk_alloc ?_ _)); refine blk_put (cs := #[.int .i64 t397, .int .i64 0, .slice none 0 0]) ?_ 1 _ rfl; (with_reducible repeat (first | refine blk_drewN ?_ _ | refine blk_drew ?_ | refine blk_alloc ?_ _)); refine blk_put (cs := #[.int .i64 0, .int .i64 0, .slice none 0 0]) ?_ 0 _ rfl; (with_reducible repeat (first | refine blk_drewN ?_ _ | refine blk_drew ?_ | refine blk_alloc ?_ _)); exact BK403.out) hb); have n5_ := Aside0.mk (below_step (by repeat (first | (with_reducible first | exact HB.out | apply below_alloc | apply pw_below_drewN | apply below_drew1 | refine below_set ?_ GE403.out) | exact HB.out)) hb); clear HO_12; clear HO_13; clear HO401; clear BK403; clear HB; have HO_12 := n0_; have HO_13 := n1_; have HO401 := n2_; have HO408 := n3_; have BK403 := n4_; have HB := n5_; clear n0_ n1_ n2_ n3_ n4_ n5_; (try clear hb); (try clear hb2); (try clear hk); (try clear hi); (try clear ho0)) | ((with_reducible refine gate_dst (N := 17) rfl ?_); (try (refine gate_guard (by rfl) ?_; dsimp only)); refine box_event ?hg (N := 17) ?hd (cs := #[.int .i64 0, .int .i64 0, .slice none 0 0]) (t := 28) ?hr ?_; (case hd => rfl); (case hg => rfl); (case hr => first | (go_simp; done) | (go_simp; rfl)); intro gb410 hg w53 hbox hb; have n0_ := Aside0.mk (Kd.R_below (by (with_reducible repeat (first | apply Kd.R_alloc | apply Kd.R_drewN | apply Kd.R_drew)); exact HO_12.out) hb); have n1_ := Aside0.mk (Kd.R_below (by (with_reducible repeat (first | apply Kd.R_alloc | apply Kd.R_drewN | apply Kd.R_drew)); exact HO_13.out) hb); have n2_ := Aside0.mk (Kd.V_below (Kd.V_elderB (by (with_reducible repeat (first | apply Kd.V_alloc | apply Kd.V_drewN | apply Kd.V_drew)); exact HO401.out) gb410 (Nat.le_of_eq hg.symm)) hb); have n3_ := Aside0.mk (Kd.V_below (Kd.V_elderB (by (with_reducible repeat (first | apply Kd.V_alloc | apply Kd.V_drewN | apply Kd.V_drew)); exact HO408.out) gb410 (Nat.le_of_eq hg.symm)) hb); have n4_ := Aside0.mk (blk_below (g := gb403) (o := .cells #[.int .i64 t397, .int .i64 t398, .slice Ao51 t399.length co51] 28 (0, 0)) (by (with_reducible repeat (first | refine blk_drewN ?_ _ | refine blk_drew ?_ | refine blk_alloc ?_ _)); exact BK403.out) hb); have n5_ := Aside0.mk (below_step (by repeat (first | (with_reducible first | exact HB.out | apply below_alloc | apply pw_below_drewN | apply below_drew1 | refine below_set ?_ GE403.out) | exact HB.out)) hb); have n6_ := Aside0.mk (hbox); have n7_ := Aside0.mk ((by rw [hg]; exact (below_size (by repeat (first | (with_reducible first | exact HB.out | apply below_alloc | apply pw_below_drewN | apply below_drew1 | refine below_set ?_ GE403.out) | exact HB.out))) : w.heap.size ≤ gb410)); have n8_ := Aside0.mk ((by rw [hg]; exact (below_size (by repeat (first | (with_reducible first | exact HB.out | apply below_alloc | apply pw_below_drewN | apply below_drew1 | refine below_set ?_ GE403.out) | exact HB.out))) : w.heap.size ≤ gb410)); have n9_ := Aside0.mk ((by rw [hg]; exact Nat.ne_of_lt (blk_lt (g := gb403) (o := .cells #[.int .i64 t397, .int .i64 t398, .slice Ao51 t399.length co51] 28 (0, 0)) (by (with_reducible repeat (first | refine blk_drewN ?_ _ | refine blk_drew ?_ | refine blk_alloc ?_ _)); exact BK403.out)) : gb403 ≠ gb410)); have n10_ := Aside0.mk ((by rw [hg]; exact Nat.ne_of_gt (blk_lt (g := gb403) (o := .cells #[.int .i64 t397, .int .i64 t398, .slice Ao51 t399.length co51] 28 (0, 0)) (by (with_reducible repeat (first | refine blk_drewN ?_ _ | refine blk_drew ?_ | refine blk_alloc ?_ _)); exact BK403.out)) : gb410 ≠ gb403)); clear HO_12; clear HO_13; clear HO401; clear HO408; clear BK403; clear HB; have HO_12 := n0_; have HO_13 := n1_; have HO401 := n2_; have HO408 := n3_; have BK403 := n4_; have HB := n5_; have BK410 := n6_; have GW410 := n7_; have GE410 := n8_; have NB403_410 := n9_; have NB410_403 := n10_; clear n0_ n1_ n2_ n3_ n4_ n5_ n6_ n7_ n8_ n9_ n10_; clear hb hbox hg; have hnb54 := NB410_403.out; have hnc54 := NB403_410.out; have hcz55_0 : w53.cell? ⟨gb410, 0, none⟩ = some (.int .i64 0) := (blk_cell BK410.out 0).trans rfl; have hcz55_1 : w53.cell? ⟨gb410, 1, none⟩ = some (.int .i64 0) := (blk_cell BK410.out 1).trans rfl; have hcz55_2 : w53.cell? ⟨gb410, 2, none⟩ = some (.slice none 0 0) := (blk_cell BK410.out 2).trans rfl; have hfz55_0 := blk_frozen BK410.out 0; have hfz55_1 := blk_frozen BK410.out 1; have hfz55_2 := blk_frozen BK410.out 2; obtain ⟨Ao56, co56, eo56⟩ := Kd.V_slice HO408.out; subst eo56) | ((with_reducible refine gate_callee (f := 11) rfl ?_); refine goesL_ (some 93) rfl rfl Try.func11 (by kernel_rfl) rfl #[.string (⟨#[97]⟩ : ByteArray)] rfl (by (try simp only [List.map_toArray, List.map_cons, List.map_nil]); first | done | rfl | (simp only [List.length_drop, List.length_take]; rfl)) ?_; (with_reducible refine (bobbinetkeep_exprOf.calls k2 (⟨#[97]⟩ : ByteArray) t411 t412 t413 true _ A39.out).mono ?_); rintro e w57 ⟨v414, rfl, ho0, hb⟩; refine ⟨_, rfl, ?_⟩; have n0_ := Aside0.mk (Kd.R_below (by (with_reducible repeat (first | apply Kd.R_alloc | apply Kd.R_drewN | apply Kd.R_drew)); exact (Kd.R_mono (Kd.R_far (p := ⟨gb410, 2, none⟩) (Kd.R_far (p := ⟨gb410, 1, none⟩) (Kd.R_far (p := ⟨gb410, 0, none⟩) (Kd.R_types HO_12.out BK410.out (by decide)) (fun _ hk => hk.2) (.int .i64 t404)) (fun _ hk => hk.2) (.int .i64 t405)) (fun _ hk => hk.2) (.slice Ao56 t406.length co56)) (fun _ h_ => h_.1))) hb); have n1_ := Aside0.mk (Kd.R_below (by (with_reducible repeat (first | apply Kd.R_alloc | apply Kd.R_drewN | apply Kd.R_drew)); exact (Kd.R_mono (Kd.R_far (p := ⟨gb410, 2, none⟩) (Kd.R_far (p := ⟨gb410, 1, none⟩) (Kd.R_far (p := ⟨gb410, 0, none⟩) (Kd.R_types HO_13.out BK410.out (by decide)) (fun _ hk => hk.2) (.int .i64 t404)) (fun _ hk => hk.2) (.int .i64 t405)) (fun _ hk => hk.2) (.slice Ao56 t406.length co56)) (fun _ h_ => h_.1))) hb); have n2_ := Aside0.mk (Kd.V_below (by (with_reducible repeat (first | apply Kd.V_alloc | apply Kd.V_drewN | apply Kd.V_drew)); exact (Kd.V_mono (Kd.V_far (p := ⟨gb410, 2, none⟩) (Kd.V_far (p := ⟨gb410, 1, none⟩) (Kd.V_far (p := ⟨gb410, 0, none⟩) (Kd.V_mono HO401.out (fun k_ hk => (⟨hk, hk.2⟩ : _ ∧ k_ ≠ gb410))) (fun _ hk => hk.2) (.int .i64 t404)) (fun _ hk => hk.2) (.int .i64 t405)) (fun _ hk => hk.2) (.slice Ao56 t406.length co56)) (fun _ h_ => h_.1))) hb); have n3_ := Aside0.mk (Kd.V_below (by (with_reducible repeat (first | apply Kd.V_alloc | apply Kd.V_drewN | apply Kd.V_drew)); exact (Kd.V_mono (Kd.V_far (p := ⟨gb410, 2, none⟩) (Kd.V_far (p := ⟨gb410, 1, none⟩) (Kd.V_far (p := ⟨gb410, 0, none⟩) (Kd.V_mono HO408.out (fun k_ hk => (⟨hk, hk.2⟩ : _ ∧ k_ ≠ gb410))) (fun _ hk => hk.2) (.int .i64 t404)) (fun _ hk => hk.2) (.int .i64 t405)) (fun _ hk => hk.2) (.slice Ao56 t406.length co56)) (fun _ h_ => h_.1))) hb); have n4_ := Aside0.mk (Kd.V_lower (Kd.V_mono (ok' := fun k_ => some k_ ≠ (.slice Ao47 t390.length co47 : Value).ownBlock ∧ some k_ ≠ (u13 : Value).ownBlock ∧ k_ ≠ gb403 ∧ k_ ≠ gb410) ho0 (fun k_ hk_ => ⟨(Kd.fresh' (Kd.R_lt (by (with_reducible repeat (first | apply Kd.R_alloc | apply Kd.R_drewN | apply Kd.R_drew)); exact (Kd.R_mono (Kd.R_far (p := ⟨gb410, 2, none⟩) (Kd.R_far (p := ⟨gb410, 1, none⟩) (Kd.R_far (p := ⟨gb410, 0, none⟩) (Kd.R_types HO_12.out BK410.out (by decide)) (fun _ hk => hk.2) (.int .i64 t404)) (fun _ hk => hk.2) (.int .i64 t405)) (fun _ hk => hk.2) (.slice Ao56 t406.length co56)) (fun _ h_ => h_.1)))) k_ hk_), (Kd.fresh' (Kd.R_lt (by (with_reducible repeat (first | apply Kd.R_alloc | apply Kd.R_drewN | apply Kd.R_drew)); exact (Kd.R_mono (Kd.R_far (p := ⟨gb410, 2, none⟩) (Kd.R_far (p := ⟨gb410, 1, none⟩) (Kd.R_far (p := ⟨gb410, 0, none⟩) (Kd.R_types HO_13.out BK410.out (by decide)) (fun _ hk => hk.2) (.int .i64 t404)) (fun _ hk => hk.2) (.int .i64 t405)) (fun _ hk => hk.2) (.slice Ao56 t406.length co56)) (fun _ h_ => h_.1)))) k_ hk_), (Kd.freshB (g := gb403) (o := .cells #[.int .i64 t397, .int .i64 t398, .slice Ao51 t399.length co51] 28 (0, 0)) (by (with_reducible repeat (first | refine blk_drewN ?_ _ | refine blk_drew ?_ | refine blk_alloc ?_ _)); refine blk_far ?_ NB403_410.out _; (with_reducible repeat (first | refine blk_drewN ?_ _ | refine blk_drew ?_ | refine blk_alloc ?_ _)); refine blk_far ?_ NB403_410.out _; (with_reducible repeat (first | refine blk_drewN ?_ _ | refine blk_drew ?_ | refine blk_alloc ?_ _)); refine blk_far ?_ NB403_410.out _; (with_reducible repeat (first | refine blk_drewN ?_ _ | refine blk_drew ?_ | refine blk_alloc ?_ _)); exact BK403.out) k_ hk_), (Kd.freshB (g := gb410) (o := .cells #[.int .i64 t404, .int .i64 t405, .slice Ao56 t406.length co56] 28 (0, 0)) (by (with_reducible repeat (first | refine blk_drewN ?_ _ | refine blk_drew ?_ | refine blk_alloc ?_ _)); refine blk_put (cs := #[.int .i64 t404, .int .i64 t405, .slice none 0 0]) ?_ 2 _ rfl; (with_reducible repeat (first | refine blk_drewN ?_ _ | refine blk_drew ?_ | refine blk_alloc ?_ _)); refine blk_put (cs := #[.int .i64 t404, .int .i64 0, .slice none 0 0]) ?_ 1 _ rfl; (with_reducible repeat (first | refine blk_drewN ?_ _ | refine blk_drew ?_ | refine blk_alloc ?_ _)); refine blk_put (cs := #[.int .i64 0, .int .i64 0, .slice none 0 0]) ?_ 0 _ rfl; (with_reducible repeat (first | refine blk_drewN ?_ _ | refine blk_drew ?_ | refine blk_alloc ?_ _)); exact BK410.out) k_ hk_)⟩)) (below_size (by repeat (first | (with_reducible first | exact HB.out | apply below_alloc | apply pw_below_drewN | apply below_drew1 | refine below_set ?_ GE403.out | refine below_set ?_ GE410.out) | exact HB.out)))); have n5_ := Aside0.mk (blk_below (g := gb403) (o := .cells #[.int .i64 t397, .int .i64 t398, .slice Ao51 t399.length co51] 28 (0, 0)) (by (with_reducible repeat (first | refine blk_drewN ?_ _ | refine blk_drew ?_ | refine blk_alloc ?_ _)); refine blk_far ?_ NB403_410.out _; (with_reducible repeat (first | refine blk_drewN ?_ _ | refine blk_drew ?_ | refine blk_alloc ?_ _)); refine blk_far ?_ NB403_410.out _; (with_reducible repeat (first | refine blk_drewN ?_ _ | refine blk_drew ?_ | refine blk_alloc ?_ _)); refine blk_far ?_ NB403_410.out _; (with_reducible repeat (first | refine blk_drewN ?_ _ | refine blk_drew ?_ | refine blk_alloc ?_ _)); exact BK403.out) hb); have n6_ := Aside0.mk (blk_below (g := gb410) (o := .cells #[.int .i64 t404, .int .i64 t405, .slice Ao56 t406.length co56] 28 (0, 0)) (by (with_reducible repeat (first | refine blk_drewN ?_ _ | refine blk_drew ?_ | refine blk_alloc ?_ _)); refine blk_put (cs := #[.int .i64 t404, .int .i64 t405, .slice none 0 0]) ?_ 2 _ rfl; (with_reducible repeat (first | refine blk_drewN ?_ _ | refine blk_drew ?_ | refine blk_alloc ?_ _)); refine blk_put (cs := #[.int .i64 t404, .int .i64 0, .slice none 0 0]) ?_ 1 _ rfl; (with_reducible repeat (first | refine blk_drewN ?_ _ | refine blk_drew ?_ | refine blk_alloc ?_ _)); refine blk_put (cs := #[.int .i64 0, .int .i64 0, .slice none 0 0]) ?_ 0 _ rfl; (with_reducible repeat (first | refine blk_drewN ?_ _ | refine blk_drew ?_ | refine blk_alloc ?_ _)); exact BK410.out) hb); have n7_ := Aside0.mk (below_step (by repeat (first | (with_reducible first | exact HB.out | apply below_alloc | apply pw_below_drewN | apply below_drew1 | refine below_set ?_ GE403.out | refine below_set ?_ GE410.out) | exact HB.out)) hb); clear HO_12; clear HO_13; clear HO401; clear HO408; clear BK403; clear BK410; clear HB; have HO_12 := n0_; have HO_13 := n1_; have HO401 := n2_; have HO408 := n3_; have HO415 := n4_; have BK403 := n5_; have BK410 := n6_; have HB := n7_; clear n0_ n1_ n2_ n3_ n4_ n5_ n6_ n7_; (try clear hb); (try clear hb2); (try clear hk); (try clear hi); (try clear ho0)) | ((with_reducible refine gate_dst (N := 19) rfl ?_); (try (refine gate_guard (by rfl) ?_; dsimp only)); refine box_event ?hg (N := 19) ?hd (cs := #[.int .i64 0, .int .i64 0, .slice none 0 0]) (t := 28) ?hr ?_; (case hd => rfl); (case hg => rfl); (case hr => first | (go_simp; done) | (go_simp; rfl)); intro gb417 hg w58 hbox hb; have n0_ := Aside0.mk (Kd.R_below (by (with_reducible repeat (first | apply Kd.R_alloc | apply Kd.R_drewN | apply Kd.R_drew)); exact HO_12.out) hb); have n1_ := Aside0.mk (Kd.R_below (by (with_reducible repeat (first | apply Kd.R_alloc | apply Kd.R_drewN | apply Kd.R_drew)); exact HO_13.out) hb); have n2_ := Aside0.mk (Kd.V_below (Kd.V_elderB (by (with_reducible repeat (first | apply Kd.V_alloc | apply Kd.V_drewN | apply Kd.V_drew)); exact HO401.out) gb417 (Nat.le_of_eq hg.symm)) hb); have n3_ := Aside0.mk (Kd.V_below (Kd.V_elderB (by (with_reducible repeat (first | apply Kd.V_alloc | apply Kd.V_drewN | apply Kd.V_drew)); exact HO408.out) gb417 (Nat.le_of_eq hg.symm)) hb); have n4_ := Aside0.mk (Kd.V_below (Kd.V_elderB (by (with_reducible repeat (first | apply Kd.V_alloc | apply Kd.V_drewN | apply Kd.V_drew)); exact HO415.out) gb417 (Nat.le_of_eq hg.symm)) hb); have n5_ := Aside0.mk (blk_below (g := gb403) (o := .cells #[.int .i64 t397, .int .i64 t398, .slice Ao51 t399.length co51] 28 (0, 0)) (by (with_reducible repeat (first | refine blk_drewN ?_ _ | refine blk_drew ?_ | refine blk_alloc ?_ _)); exact BK403.out) hb); have n6_ := Aside0.mk (blk_below (g := gb410) (o := .cells #[.int .i64 t404, .int .i64 t405, .slice Ao56 t406.length co56] 28 (0, 0)) (by (with_reducible repeat (first | refine blk_drewN ?_ _ | refine blk_drew ?_ | refine blk_alloc ?_ _)); exact BK410.out) hb); have n7_ := Aside0.mk (below_step (by repeat (first | (with_reducible first | exact HB.out | apply below_alloc | apply pw_below_drewN | apply below_drew1 | refine below_set ?_ GE403.out | refine below_set ?_ GE410.out) | exact HB.out)) hb); have n8_ := Aside0.mk (hbox); have n9_ := Aside0.mk ((by rw [hg]; exact (below_size (by repeat (first | (with_reducible first | exact HB.out | apply below_alloc | apply pw_below_drewN | apply below_drew1 | refine below_set ?_ GE403.out | refine below_set ?_ GE410.out) | exact HB.out))) : w.heap.size ≤ gb417)); have n10_ := Aside0.mk ((by rw [hg]; exact (below_size (by repeat (first | (with_reducible first | exact HB.out | apply below_alloc | apply pw_below_drewN | apply below_drew1 | refine below_set ?_ GE403.out | refine below_set ?_ GE410.out) | exact HB.out))) : w.heap.size ≤ gb417)); have n11_ := Aside0.mk ((by rw [hg]; exact Nat.ne_of_lt (blk_lt (g := gb403) (o := .cells #[.int .i64 t397, .int .i64 t398, .slice Ao51 t399.length co51] 28 (0, 0)) (by (with_reducible repeat (first | refine blk_drewN ?_ _ | refine blk_drew ?_ | refine blk_alloc ?_ _)); exact BK403.out)) : gb403 ≠ gb417)); have n12_ := Aside0.mk ((by rw [hg]; exact Nat.ne_of_gt (blk_lt (g := gb403) (o := .cells #[.int .i64 t397, .int .i64 t398, .slice Ao51 t399.length co51] 28 (0, 0)) (by (with_reducible repeat (first | refine blk_drewN ?_ _ | refine blk_drew ?_ | refine blk_alloc ?_ _)); exact BK403.out)) : gb417 ≠ gb403)); have n13_ := Aside0.mk ((by rw [hg]; exact Nat.ne_of_lt (blk_lt (g := gb410) (o := .cells #[.int .i64 t404, .int .i64 t405, .slice Ao56 t406.length co56] 28 (0, 0)) (by (with_reducible repeat (first | refine blk_drewN ?_ _ | refine blk_drew ?_ | refine blk_alloc ?_ _)); exact BK410.out)) : gb410 ≠ gb417)); have n14_ := Aside0.mk ((by rw [hg]; exact Nat.ne_of_gt (blk_lt (g := gb410) (o := .cells #[.int .i64 t404, .int .i64 t405, .slice Ao56 t406.length co56] 28 (0, 0)) (by (with_reducible repeat (first | refine blk_drewN ?_ _ | refine blk_drew ?_ | refine blk_alloc ?_ _)); exact BK410.out)) : gb417 ≠ gb410)); clear HO_12; clear HO_13; clear HO401; clear HO408; clear HO415; clear BK403; clear BK410; clear HB; have HO_12 := n0_; have HO_13 := n1_; have HO401 := n2_; have HO408 := n3_; have HO415 := n4_; have BK403 := n5_; have BK410 := n6_; have HB := n7_; have BK417 := n8_; have GW417 := n9_; have GE417 := n10_; have NB403_417 := n11_; have NB417_403 := n12_; have NB410_417 := n13_; have NB417_410 := n14_; clear n0_ n1_ n2_ n3_ n4_ n5_ n6_ n7_ n8_ n9_ n10_ n11_ n12_ n13_ n14_; clear hb hbox hg; have hnb59 := NB417_403.out; have hnc59 := NB403_417.out; have hnb60 := NB417_410.out; have hnc60 := NB410_417.out; have hcz61_0 : w58.cell? ⟨gb417, 0, none⟩ = some (.int .i64 0) := (blk_cell BK417.out 0).trans rfl; have hcz61_1 : w58.cell? ⟨gb417, 1, none⟩ = some (.int .i64 0) := (blk_cell BK417.out 1).trans rfl; have hcz61_2 : w58.cell? ⟨gb417, 2, none⟩ = some (.slice none 0 0) := (blk_cell BK417.out 2).trans rfl; have hfz61_0 := blk_frozen BK417.out 0; have hfz61_1 := blk_frozen BK417.out 1; have hfz61_2 := blk_frozen BK417.out 2; obtain ⟨Ao62, co62, eo62⟩ := Kd.V_slice HO415.out; subst eo62))
            have n0_ : Aside0 (Kd.R (Kd.int .i64) 3 (((w58.setCell ⟨gb417, 0, none⟩ (.int .i64 t411)).setCell ⟨gb417, 1, none⟩ (.int .i64 t412)).setCell ⟨gb417, 2, none⟩ (.slice Ao62 t413.length co62)) w.heap.size (fun k_ => some k_ ≠ (u13 : Value).ownBlock) (.slice Ao47 t390.length co47) t390) := ⟨by (with_reducible repeat (first | apply Kd.R_alloc | apply Kd.R_drewN | apply Kd.R_drew)); exact Kd.R_mono (Kd.R_far (p := ⟨gb417, 2, none⟩) (Kd.R_far (p := ⟨gb417, 1, none⟩) (Kd.R_far (p := ⟨gb417, 0, none⟩) (Kd.R_types HO_12.out BK417.out (by decide)) (fun _ hk => hk.2) (.int .i64 t411)) (fun _ hk => hk.2) (.int .i64 t412)) (fun _ hk => hk.2) (.slice Ao62 t413.length co62)) (fun _ hk => hk.1)⟩
            have n1_ : Aside0 (Kd.R (Kd.int .i64) 3 (((w58.setCell ⟨gb417, 0, none⟩ (.int .i64 t411)).setCell ⟨gb417, 1, none⟩ (.int .i64 t412)).setCell ⟨gb417, 2, none⟩ (.slice Ao62 t413.length co62)) w.heap.size (fun k_ => some k_ ≠ (.slice Ao47 t390.length co47 : Value).ownBlock) u13 x13_2) := ⟨by (with_reducible repeat (first | apply Kd.R_alloc | apply Kd.R_drewN | apply Kd.R_drew)); exact Kd.R_mono (Kd.R_far (p := ⟨gb417, 2, none⟩) (Kd.R_far (p := ⟨gb417, 1, none⟩) (Kd.R_far (p := ⟨gb417, 0, none⟩) (Kd.R_types HO_13.out BK417.out (by decide)) (fun _ hk => hk.2) (.int .i64 t411)) (fun _ hk => hk.2) (.int .i64 t412)) (fun _ hk => hk.2) (.slice Ao62 t413.length co62)) (fun _ hk => hk.1)⟩
            have n2_ : Aside0 (Kd.V k28 28 (((w58.setCell ⟨gb417, 0, none⟩ (.int .i64 t411)).setCell ⟨gb417, 1, none⟩ (.int .i64 t412)).setCell ⟨gb417, 2, none⟩ (.slice Ao62 t413.length co62)) w.heap.size (fun k_ => some k_ ≠ (.slice Ao47 t390.length co47 : Value).ownBlock ∧ some k_ ≠ (u13 : Value).ownBlock ∧ k_ ≠ gb403 ∧ k_ ≠ gb410 ∧ k_ ≠ gb417) (.slice Ao51 t399.length co51) t399) := ⟨by (with_reducible repeat (first | apply Kd.V_alloc | apply Kd.V_drewN | apply Kd.V_drew)); exact Kd.V_mono (Kd.V_far (p := ⟨gb417, 2, none⟩) (Kd.V_far (p := ⟨gb417, 1, none⟩) (Kd.V_far (p := ⟨gb417, 0, none⟩) (Kd.V_mono HO401.out (fun k_ hk => (⟨hk, hk.2⟩ : _ ∧ k_ ≠ gb417))) (fun _ hk => hk.2) (.int .i64 t411)) (fun _ hk => hk.2) (.int .i64 t412)) (fun _ hk => hk.2) (.slice Ao62 t413.length co62)) (fun _ hk => ⟨hk.1.1.1.1.1, ⟨hk.1.1.1.1.2, ⟨hk.1.1.1.2, ⟨hk.1.1.2, hk.1.2⟩⟩⟩⟩)⟩
            have n3_ : Aside0 (Kd.V k28 28 (((w58.setCell ⟨gb417, 0, none⟩ (.int .i64 t411)).setCell ⟨gb417, 1, none⟩ (.int .i64 t412)).setCell ⟨gb417, 2, none⟩ (.slice Ao62 t413.length co62)) w.heap.size (fun k_ => some k_ ≠ (.slice Ao47 t390.length co47 : Value).ownBlock ∧ some k_ ≠ (u13 : Value).ownBlock ∧ k_ ≠ gb403 ∧ k_ ≠ gb410 ∧ k_ ≠ gb417) (.slice Ao56 t406.length co56) t406) := ⟨by (with_reducible repeat (first | apply Kd.V_alloc | apply Kd.V_drewN | apply Kd.V_drew)); exact Kd.V_mono (Kd.V_far (p := ⟨gb417, 2, none⟩) (Kd.V_far (p := ⟨gb417, 1, none⟩) (Kd.V_far (p := ⟨gb417, 0, none⟩) (Kd.V_mono HO408.out (fun k_ hk => (⟨hk, hk.2⟩ : _ ∧ k_ ≠ gb417))) (fun _ hk => hk.2) (.int .i64 t411)) (fun _ hk => hk.2) (.int .i64 t412)) (fun _ hk => hk.2) (.slice Ao62 t413.length co62)) (fun _ hk => ⟨hk.1.1.1.1, ⟨hk.1.1.1.2.1, ⟨hk.1.1.1.2.2, ⟨hk.1.1.2, hk.1.2⟩⟩⟩⟩)⟩
            have n4_ : Aside0 (Kd.V k28 28 (((w58.setCell ⟨gb417, 0, none⟩ (.int .i64 t411)).setCell ⟨gb417, 1, none⟩ (.int .i64 t412)).setCell ⟨gb417, 2, none⟩ (.slice Ao62 t413.length co62)) w.heap.size (fun k_ => some k_ ≠ (.slice Ao47 t390.length co47 : Value).ownBlock ∧ some k_ ≠ (u13 : Value).ownBlock ∧ k_ ≠ gb403 ∧ k_ ≠ gb410 ∧ k_ ≠ gb417) (.slice Ao62 t413.length co62) t413) := ⟨by (with_reducible repeat (first | apply Kd.V_alloc | apply Kd.V_drewN | apply Kd.V_drew)); exact Kd.V_mono (Kd.V_far (p := ⟨gb417, 2, none⟩) (Kd.V_far (p := ⟨gb417, 1, none⟩) (Kd.V_far (p := ⟨gb417, 0, none⟩) (Kd.V_mono HO415.out (fun k_ hk => (⟨hk, hk.2⟩ : _ ∧ k_ ≠ gb417))) (fun _ hk => hk.2) (.int .i64 t411)) (fun _ hk => hk.2) (.int .i64 t412)) (fun _ hk => hk.2) (.slice Ao62 t413.length co62)) (fun _ hk => ⟨hk.1.1.1, ⟨hk.1.1.2.1, ⟨hk.1.1.2.2.1, ⟨hk.1.1.2.2.2, hk.1.2⟩⟩⟩⟩)⟩
            have n5_ : Aside0 ((((w58.setCell ⟨gb417, 0, none⟩ (.int .i64 t411)).setCell ⟨gb417, 1, none⟩ (.int .i64 t412)).setCell ⟨gb417, 2, none⟩ (.slice Ao62 t413.length co62)).heap[gb403]? = some (.cells #[.int .i64 t397, .int .i64 t398, .slice Ao51 t399.length co51] 28 (0, 0))) := ⟨by (with_reducible repeat (first | refine blk_drewN ?_ _ | refine blk_drew ?_ | refine blk_alloc ?_ _)); refine blk_far ?_ NB403_417.out _; (with_reducible repeat (first | refine blk_drewN ?_ _ | refine blk_drew ?_ | refine blk_alloc ?_ _)); refine blk_far ?_ NB403_417.out _; (with_reducible repeat (first | refine blk_drewN ?_ _ | refine blk_drew ?_ | refine blk_alloc ?_ _)); refine blk_far ?_ NB403_417.out _; (with_reducible repeat (first | refine blk_drewN ?_ _ | refine blk_drew ?_ | refine blk_alloc ?_ _)); exact BK403.out⟩
            have n6_ : Aside0 ((((w58.setCell ⟨gb417, 0, none⟩ (.int .i64 t411)).setCell ⟨gb417, 1, none⟩ (.int .i64 t412)).setCell ⟨gb417, 2, none⟩ (.slice Ao62 t413.length co62)).heap[gb410]? = some (.cells #[.int .i64 t404, .int .i64 t405, .slice Ao56 t406.length co56] 28 (0, 0))) := ⟨by (with_reducible repeat (first | refine blk_drewN ?_ _ | refine blk_drew ?_ | refine blk_alloc ?_ _)); refine blk_far ?_ NB410_417.out _; (with_reducible repeat (first | refine blk_drewN ?_ _ | refine blk_drew ?_ | refine blk_alloc ?_ _)); refine blk_far ?_ NB410_417.out _; (with_reducible repeat (first | refine blk_drewN ?_ _ | refine blk_drew ?_ | refine blk_alloc ?_ _)); refine blk_far ?_ NB410_417.out _; (with_reducible repeat (first | refine blk_drewN ?_ _ | refine blk_drew ?_ | refine blk_alloc ?_ _)); exact BK410.out⟩
            have n7_ : Aside0 ((((w58.setCell ⟨gb417, 0, none⟩ (.int .i64 t411)).setCell ⟨gb417, 1, none⟩ (.int .i64 t412)).setCell ⟨gb417, 2, none⟩ (.slice Ao62 t413.length co62)).heap[gb417]? = some (.cells #[.int .i64 t411, .int .i64 t412, .slice Ao62 t413.length co62] 28 (0, 0))) := ⟨by (with_reducible repeat (first | refine blk_drewN ?_ _ | refine blk_drew ?_ | refine blk_alloc ?_ _)); refine blk_put (cs := #[.int .i64 t411, .int .i64 t412, .slice none 0 0]) ?_ 2 _ rfl; (with_reducible repeat (first | refine blk_drewN ?_ _ | refine blk_drew ?_ | refine blk_alloc ?_ _)); refine blk_put (cs := #[.int .i64 t411, .int .i64 0, .slice none 0 0]) ?_ 1 _ rfl; (with_reducible repeat (first | refine blk_drewN ?_ _ | refine blk_drew ?_ | refine blk_alloc ?_ _)); refine blk_put (cs := #[.int .i64 0, .int .i64 0, .slice none 0 0]) ?_ 0 _ rfl; (with_reducible repeat (first | refine blk_drewN ?_ _ | refine blk_drew ?_ | refine blk_alloc ?_ _)); exact BK417.out⟩
            have n8_ : Aside0 (Below w.heap.size w (((w58.setCell ⟨gb417, 0, none⟩ (.int .i64 t411)).setCell ⟨gb417, 1, none⟩ (.int .i64 t412)).setCell ⟨gb417, 2, none⟩ (.slice Ao62 t413.length co62))) := ⟨by repeat (first | (with_reducible first | exact HB.out | apply below_alloc | apply pw_below_drewN | apply below_drew1 | refine below_set ?_ GE403.out | refine below_set ?_ GE410.out | refine below_set ?_ GE417.out) | exact HB.out)⟩
            (try clear HO_12)
            (try clear HO_13)
            (try clear HO401)
            (try clear HO408)
            (try clear HO415)
            (try clear BK403)
            (try clear BK410)
            (try clear BK417)
            (try clear HB)
            generalize (((w58.setCell ⟨gb417, 0, none⟩ (.int .i64 t411)).setCell ⟨gb417, 1, none⟩ (.int .i64 t412)).setCell ⟨gb417, 2, none⟩ (.slice Ao62 t413.length co62)) = w63 at n0_ n1_ n2_ n3_ n4_ n5_ n6_ n7_ n8_ ⊢
            have HO_12 := n0_
            have HO_13 := n1_
            have HO401 := n2_
            have HO408 := n3_
            have HO415 := n4_
            have BK403 := n5_
            have BK410 := n6_
            have BK417 := n7_
            have HB := n8_
            clear n0_ n1_ n2_ n3_ n4_ n5_ n6_ n7_ n8_
            have n0_ := Aside0.mk (Kd.R_drew HO_12.out)
            have n1_ := Aside0.mk (Kd.R_drew HO_13.out)
            have n2_ := Aside0.mk (Kd.V_drew HO401.out)
            have n3_ := Aside0.mk (Kd.V_drew HO408.out)
            have n4_ := Aside0.mk (Kd.V_drew HO415.out)
            have n5_ := Aside0.mk (blk_drew BK403.out)
            have n6_ := Aside0.mk (blk_drew BK410.out)
            have n7_ := Aside0.mk (blk_drew BK417.out)
            have n8_ := Aside0.mk (below_drew1 HB.out)
            clear HO_12
            clear HO_13
            clear HO401
            clear HO408
            clear HO415
            clear BK403
            clear BK410
            clear BK417
            clear HB
            have HO_12 := n0_
            have HO_13 := n1_
            have HO401 := n2_
            have HO408 := n3_
            have HO415 := n4_
            have BK403 := n5_
            have BK410 := n6_
            have BK417 := n7_
            have HB := n8_
            clear n0_ n1_ n2_ n3_ n4_ n5_ n6_ n7_ n8_
            refine start_ (n := 22) (S := fun w' => w'.cell? ⟨gb417, 0, none⟩ = some (.int .i64 t411) ∧ w'.cell? ⟨gb417, 1, none⟩ = some (.int .i64 t412) ∧ w'.cell? ⟨gb417, 2, none⟩ = some (.slice Ao62 t413.length co62) ∧ w'.cell? ⟨gb403, 0, none⟩ = some (.int .i64 t397) ∧ w'.cell? ⟨gb403, 1, none⟩ = some (.int .i64 t398) ∧ w'.cell? ⟨gb403, 2, none⟩ = some (.slice Ao51 t399.length co51) ∧ w'.cell? ⟨gb410, 0, none⟩ = some (.int .i64 t404) ∧ w'.cell? ⟨gb410, 1, none⟩ = some (.int .i64 t405) ∧ w'.cell? ⟨gb410, 2, none⟩ = some (.slice Ao56 t406.length co56)) (ds := []) #[false, false, false, false, false, false, false, false, false, false, false, false, false, false, false, false, false, false, false, false, false, false] (by kernel_rfl) rfl rfl ⟨(blk_cell BK417.out 0).trans rfl, (blk_cell BK417.out 1).trans rfl, (blk_cell BK417.out 2).trans rfl, (blk_cell BK403.out 0).trans rfl, (blk_cell BK403.out 1).trans rfl, (blk_cell BK403.out 2).trans rfl, (blk_cell BK410.out 0).trans rfl, (blk_cell BK410.out 1).trans rfl, (blk_cell BK410.out 2).trans rfl⟩ (fun hHeld => ?_); refine with_tabW bobbinetkeep_ExprRenamed.tab21 bobbinetkeep_ExprRenamed.bits21 (fun HT_ HW_ => ?_)
            generalize w63.drew = w64 at HO_12 HO_13 HO401 HO408 HO415 BK403 BK410 BK417 HB hHeld ⊢
            refine pure_ (i := 0) (N := some 96) (v := ?_) (a' := ?_) #[true, false, false, false, false, false, false, false, false, false, false, false, false, false, false, false, false, false, false, false, false, false] rfl rfl (any_of HT_.out (by kernel_rfl)) (fun _ _ _ h => h) (Or.inl ⟨by rfl, ?_⟩) ?_ ?_
            rotate_left
            ·
             intro w'
             go_simp
             with_reducible rfl
            rotate_left
            ·
             simp only [Act.put, List.setIfInBounds_toArray, List.set_cons_zero, List.set_cons_succ, i64_w, i32_w]
             rfl
            refine pure_ (i := 1) (N := some 97) (v := ?_) (a' := ?_) #[true, true, false, false, false, false, false, false, false, false, false, false, false, false, false, false, false, false, false, false, false, false] rfl rfl (any_of HT_.out (by kernel_rfl)) (fun _ _ _ h => h) (Or.inl ⟨by rfl, ?_⟩) ?_ ?_
            rotate_left
            ·
             intro w'
             go_simp
             with_reducible rfl
            rotate_left
            ·
             simp only [Act.put, List.setIfInBounds_toArray, List.set_cons_zero, List.set_cons_succ, i64_w, i32_w]
             rfl
            refine pure_ (i := 2) (N := some 98) (v := ?_) (a' := ?_) #[true, true, true, false, false, false, false, false, false, false, false, false, false, false, false, false, false, false, false, false, false, false] rfl rfl (any_of HT_.out (by kernel_rfl)) (fun _ _ _ h => h) (Or.inl ⟨by rfl, ?_⟩) ?_ ?_
            rotate_left
            ·
             intro w'
             go_simp
             with_reducible rfl
            rotate_left
            ·
             simp only [Act.put, List.setIfInBounds_toArray, List.set_cons_zero, List.set_cons_succ, i64_w, i32_w]
             rfl
            refine pure_ (i := 3) (N := some 99) (v := ?_) (a' := ?_) #[true, true, true, true, false, false, false, false, false, false, false, false, false, false, false, false, false, false, false, false, false, false] rfl rfl (any_of HT_.out (by kernel_rfl)) (fun _ _ _ h => h) (Or.inl ⟨by rfl, ?_⟩) ?_ ?_
            rotate_left
            ·
             intro w'
             go_simp
             with_reducible rfl
            rotate_left
            ·
             simp only [Act.put, List.setIfInBounds_toArray, List.set_cons_zero, List.set_cons_succ, i64_w, i32_w]
             rfl
            refine pure_ (i := 4) (N := some 100) (v := ?_) (a' := ?_) #[true, true, true, true, true, false, false, false, false, false, false, false, false, false, false, false, false, false, false, false, false, false] rfl rfl (any_of HT_.out (by kernel_rfl)) (fun _ _ _ h => h) (Or.inl ⟨by rfl, ?_⟩) ?_ ?_
            rotate_left
            ·
             intro w'
             go_simp
             with_reducible rfl
            rotate_left
            ·
             simp only [Act.put, List.setIfInBounds_toArray, List.set_cons_zero, List.set_cons_succ, i64_w, i32_w]
             rfl
            refine pure_ (i := 5) (N := some 101) (v := ?_) (a' := ?_) #[true, true, true, true, true, true, false, false, false, false, false, false, false, false, false, false, false, false, false, false, false, false] rfl rfl (any_of HT_.out (by kernel_rfl)) (fun _ _ _ h => h) (Or.inl ⟨by rfl, ?_⟩) ?_ ?_
            rotate_left
            ·
             intro w'
             go_simp
             with_reducible rfl
            rotate_left
            ·
             simp only [Act.put, List.setIfInBounds_toArray, List.set_cons_zero, List.set_cons_succ, i64_w, i32_w]
             rfl
            refine pure_ (i := 6) (N := some 102) (v := ?_) (a' := ?_) #[true, true, true, true, true, true, true, false, false, false, false, false, false, false, false, false, false, false, false, false, false, false] rfl rfl (any_of HT_.out (by kernel_rfl)) (fun _ _ _ h => h) (Or.inl ⟨by rfl, ?_⟩) ?_ ?_
            rotate_left
            ·
             intro w'
             go_simp
             with_reducible rfl
            rotate_left
            ·
             simp only [Act.put, List.setIfInBounds_toArray, List.set_cons_zero, List.set_cons_succ, i64_w, i32_w]
             rfl
            refine pure_ (i := 7) (N := some 103) (v := ?_) (a' := ?_) #[true, true, true, true, true, true, true, true, false, false, false, false, false, false, false, false, false, false, false, false, false, false] rfl rfl (any_of HT_.out (by kernel_rfl)) (fun _ _ _ h => h) (Or.inl ⟨by rfl, ?_⟩) ?_ ?_
            rotate_left
            ·
             intro w'
             go_simp
             with_reducible rfl
            rotate_left
            ·
             simp only [Act.put, List.setIfInBounds_toArray, List.set_cons_zero, List.set_cons_succ, i64_w, i32_w]
             rfl
            refine take_ (i := 8) (N := some 104) (v := ?_) (a' := ?_) #[true, true, true, true, true, true, true, true, true, false, false, false, false, false, false, false, false, false, false, false, false, false] rfl rfl (take_ofW HT_.out HW_.out (by kernel_rfl)) (fun _ _ _ h => h) (Or.inl ⟨by rfl, ?_⟩) hHeld ?_ ?_
            rotate_left
            ·
             rintro w' ⟨s0, s1, s2, s3, s4, s5, s6, s7, s8⟩
             go_simp
             with_reducible rfl
            rotate_left
            ·
             simp only [Act.put, List.setIfInBounds_toArray, List.set_cons_zero, List.set_cons_succ, i64_w, i32_w]
             rfl
            refine one_ (i := 9) (N := some 105) #[true, true, true, true, true, true, true, true, true, true, false, false, false, false, false, false, false, false, false, false, false, false] rfl rfl (one_of HT_.out (by kernel_rfl)) (by decide) (fun K hK => ?_)
            refine Kd.R_lit_step (Kd.int .i64) _ 3 ?hg (N := 105) ?hd (xs := ([0] : List Int)) (inner := [.int .i64 0]) (ok := fun _ => True) (okp := fun _ => True) ?hr ?hp (fun _ hk => hk) trivial (Below.refl _ _) (Nat.le_refl _) (by simp) ?_; (case hd => rfl); (case hg => rfl); (case hr => first | (go_simp; done) | (go_simp; rfl)); (case hp => exact (Reps.one (show Kd.M (Kd.int .i64) _ _ _ 0 [.int .i64 0] from rfl) (Reps.none _ _)))
            intro v419 w65 ho66 hb hg_ hnew_
            clear hg_ hnew_
            (first | rw [← Ny418.out] at ho66 | (simp only [Int.reduceToNat] at ho66; rw [← Ny418.out] at ho66))
            have n0_ := Aside0.mk (Kd.R_elder' (by (with_reducible repeat (first | apply Kd.R_alloc | apply Kd.R_drewN | apply Kd.R_drew)); exact HO_12.out) (Kd.R_base ho66) hb)
            have n1_ := Aside0.mk (Kd.R_elder' (by (with_reducible repeat (first | apply Kd.R_alloc | apply Kd.R_drewN | apply Kd.R_drew)); exact HO_13.out) (Kd.R_base ho66) hb)
            have n2_ := Aside0.mk (Kd.V_elder' (by (with_reducible repeat (first | apply Kd.V_alloc | apply Kd.V_drewN | apply Kd.V_drew)); exact HO401.out) (Kd.R_base ho66) hb)
            have n3_ := Aside0.mk (Kd.V_elder' (by (with_reducible repeat (first | apply Kd.V_alloc | apply Kd.V_drewN | apply Kd.V_drew)); exact HO408.out) (Kd.R_base ho66) hb)
            have n4_ := Aside0.mk (Kd.V_elder' (by (with_reducible repeat (first | apply Kd.V_alloc | apply Kd.V_drewN | apply Kd.V_drew)); exact HO415.out) (Kd.R_base ho66) hb)
            have n5_ := Aside0.mk (Kd.R_lower (Kd.R_new' (Kd.R_new' ho66 (Kd.R_lt (by (with_reducible repeat (first | apply Kd.R_alloc | apply Kd.R_drewN | apply Kd.R_drew)); exact HO_12.out))) (Kd.R_lt (by (with_reducible repeat (first | apply Kd.R_alloc | apply Kd.R_drewN | apply Kd.R_drew)); exact HO_13.out))) (below_size (by repeat (first | (with_reducible first | exact HB.out | apply below_alloc | apply pw_below_drewN | apply below_drew1 | refine below_set ?_ GE403.out | refine below_set ?_ GE410.out | refine below_set ?_ GE417.out) | exact HB.out))))
            have n6_ := Aside0.mk (blk_below (g := gb403) (o := .cells #[.int .i64 t397, .int .i64 t398, .slice Ao51 t399.length co51] 28 (0, 0)) (by (with_reducible repeat (first | refine blk_drewN ?_ _ | refine blk_drew ?_ | refine blk_alloc ?_ _)); exact BK403.out) hb)
            have n7_ := Aside0.mk (blk_below (g := gb410) (o := .cells #[.int .i64 t404, .int .i64 t405, .slice Ao56 t406.length co56] 28 (0, 0)) (by (with_reducible repeat (first | refine blk_drewN ?_ _ | refine blk_drew ?_ | refine blk_alloc ?_ _)); exact BK410.out) hb)
            have n8_ := Aside0.mk (blk_below (g := gb417) (o := .cells #[.int .i64 t411, .int .i64 t412, .slice Ao62 t413.length co62] 28 (0, 0)) (by (with_reducible repeat (first | refine blk_drewN ?_ _ | refine blk_drew ?_ | refine blk_alloc ?_ _)); exact BK417.out) hb)
            have n9_ := Aside0.mk (below_step (by repeat (first | (with_reducible first | exact HB.out | apply below_alloc | apply pw_below_drewN | apply below_drew1 | refine below_set ?_ GE403.out | refine below_set ?_ GE410.out | refine below_set ?_ GE417.out) | exact HB.out)) hb)
            clear HO_12
            clear HO_13
            clear HO401
            clear HO408
            clear HO415
            clear BK403
            clear BK410
            clear BK417
            clear HB
            have HO_12 := n0_
            have HO_13 := n1_
            have HO401 := n2_
            have HO408 := n3_
            have HO415 := n4_
            have HO420 := n5_
            have BK403 := n6_
            have BK410 := n7_
            have BK417 := n8_
            have HB := n9_
            clear n0_ n1_ n2_ n3_ n4_ n5_ n6_ n7_ n8_ n9_
            clear hb ho66
            obtain ⟨Ao67, co67, eo67⟩ := Kd.R_slice HO420.out
            (first | subst eo67 | (injection eo67 with f1_ f2_ f3_; have f4_ := f1_.symm; have f5_ := f3_.symm; clear f1_ f2_ f3_; subst f4_; subst f5_))
            refine hK.out _ _ ⟨(blk_cell BK417.out 0).trans rfl, (blk_cell BK417.out 1).trans rfl, (blk_cell BK417.out 2).trans rfl, (blk_cell BK403.out 0).trans rfl, (blk_cell BK403.out 1).trans rfl, (blk_cell BK403.out 2).trans rfl, (blk_cell BK410.out 0).trans rfl, (blk_cell BK410.out 1).trans rfl, (blk_cell BK410.out 2).trans rfl⟩ (fun hHeld => ?_)
            clear hK K
            refine norm_ (a' := ?_) ?_ ?_
            rotate_left
            ·
             show Act.put _ (some 105) _ = _
             simp only [Act.put, List.setIfInBounds_toArray, List.set_cons_zero, List.set_cons_succ, i64_w, i32_w]
             rfl
            refine one_ (i := 10) (N := some 106) #[true, true, true, true, true, true, true, true, true, true, true, false, false, false, false, false, false, false, false, false, false, false] rfl rfl (one_of HT_.out (by kernel_rfl)) (by decide) (fun K hK => ?_)
            refine goes_ Try.func16 (by kernel_rfl) rfl #[.agg #[.int .i64 t411, .int .i64 t412, .slice Ao62 t413.length co62], .slice Ao67 y418.length co67] (by rfl) rfl rfl (by (try simp only [List.map_toArray, List.map_cons, List.map_nil]); first | done | rfl | (simp only [List.length_drop, List.length_take]; rfl)) ?_
            with_reducible refine (bobbinetkeep_matches.calls k2 t411 t412 _ _ t413 _ _ y418 true _ ?side1 ?side2 ?side3 ?side4 A43.out).mono ?_
            (case side1 => repeat (first | exact (Kd.V_reads' HO415.out).2.2 | (with_reducible refine Kd.C_alloc ?_ _) | (with_reducible refine Kd.C_drewN ?_ _) | (with_reducible refine Kd.C_drew ?_)))
            (case side2 => exact (Kd.V_reads' HO415.out).2.1)
            (case side3 => repeat (first | exact (Kd.R_reads' HO420.out).2.2 | (with_reducible refine Kd.C_alloc ?_ _) | (with_reducible refine Kd.C_drewN ?_ _) | (with_reducible refine Kd.C_drew ?_)))
            (case side4 => exact (Kd.R_reads' HO420.out).2.1)
            rintro e w68 ⟨rfl, hb⟩
            refine ⟨_, rfl, ?_⟩
            have n0_ := Aside0.mk (Kd.R_below (by (with_reducible repeat (first | apply Kd.R_alloc | apply Kd.R_drewN | apply Kd.R_drew)); exact HO_12.out) hb)
            have n1_ := Aside0.mk (Kd.R_below (by (with_reducible repeat (first | apply Kd.R_alloc | apply Kd.R_drewN | apply Kd.R_drew)); exact HO_13.out) hb)
            have n2_ := Aside0.mk (Kd.V_below (by (with_reducible repeat (first | apply Kd.V_alloc | apply Kd.V_drewN | apply Kd.V_drew)); exact HO401.out) hb)
            have n3_ := Aside0.mk (Kd.V_below (by (with_reducible repeat (first | apply Kd.V_alloc | apply Kd.V_drewN | apply Kd.V_drew)); exact HO408.out) hb)
            have n4_ := Aside0.mk (Kd.V_below (by (with_reducible repeat (first | apply Kd.V_alloc | apply Kd.V_drewN | apply Kd.V_drew)); exact HO415.out) hb)
            have n5_ := Aside0.mk (Kd.R_below (by (with_reducible repeat (first | apply Kd.R_alloc | apply Kd.R_drewN | apply Kd.R_drew)); exact HO420.out) hb)
            have n6_ := Aside0.mk (blk_below (g := gb403) (o := .cells #[.int .i64 t397, .int .i64 t398, .slice Ao51 t399.length co51] 28 (0, 0)) (by (with_reducible repeat (first | refine blk_drewN ?_ _ | refine blk_drew ?_ | refine blk_alloc ?_ _)); exact BK403.out) hb)
            have n7_ := Aside0.mk (blk_below (g := gb410) (o := .cells #[.int .i64 t404, .int .i64 t405, .slice Ao56 t406.length co56] 28 (0, 0)) (by (with_reducible repeat (first | refine blk_drewN ?_ _ | refine blk_drew ?_ | refine blk_alloc ?_ _)); exact BK410.out) hb)
            have n8_ := Aside0.mk (blk_below (g := gb417) (o := .cells #[.int .i64 t411, .int .i64 t412, .slice Ao62 t413.length co62] 28 (0, 0)) (by (with_reducible repeat (first | refine blk_drewN ?_ _ | refine blk_drew ?_ | refine blk_alloc ?_ _)); exact BK417.out) hb)
            have n9_ := Aside0.mk (below_step (by repeat (first | (with_reducible first | exact HB.out | apply below_alloc | apply pw_below_drewN | apply below_drew1 | refine below_set ?_ GE403.out | refine below_set ?_ GE410.out | refine below_set ?_ GE417.out) | exact HB.out)) hb)
            clear HO_12
            clear HO_13
            clear HO401
            clear HO408
            clear HO415
            clear HO420
            clear BK403
            clear BK410
            clear BK417
            clear HB
            have HO_12 := n0_
            have HO_13 := n1_
            have HO401 := n2_
            have HO408 := n3_
            have HO415 := n4_
            have HO420 := n5_
            have BK403 := n6_
            have BK410 := n7_
            have BK417 := n8_
            have HB := n9_
            clear n0_ n1_ n2_ n3_ n4_ n5_ n6_ n7_ n8_ n9_
            (try clear hb)
            (try clear hb2)
            (try clear hk)
            (try clear hi)
            refine hK.out _ _ ⟨(blk_cell BK417.out 0).trans rfl, (blk_cell BK417.out 1).trans rfl, (blk_cell BK417.out 2).trans rfl, (blk_cell BK403.out 0).trans rfl, (blk_cell BK403.out 1).trans rfl, (blk_cell BK403.out 2).trans rfl, (blk_cell BK410.out 0).trans rfl, (blk_cell BK410.out 1).trans rfl, (blk_cell BK410.out 2).trans rfl⟩ (fun hHeld => ?_)
            clear hK K
            refine norm_ (a' := ?_) ?_ ?_
            rotate_left
            ·
             show Act.put _ (some 106) _ = _
             simp only [Act.put, List.setIfInBounds_toArray, List.set_cons_zero, List.set_cons_succ, i64_w, i32_w]
             rfl
            refine pure_ (i := 11) (N := some 107) (v := ?_) (a' := ?_) #[true, true, true, true, true, true, true, true, true, true, true, true, false, false, false, false, false, false, false, false, false, false] rfl rfl (any_of HT_.out (by kernel_rfl)) (fun _ _ _ h => h) (Or.inl ⟨by rfl, ?_⟩) ?_ ?_
            rotate_left
            ·
             intro w'
             go_simp
             with_reducible rfl
            rotate_left
            ·
             simp only [Act.put, List.setIfInBounds_toArray, List.set_cons_zero, List.set_cons_succ, i64_w, i32_w]
             rfl
            refine pure_ (i := 12) (N := some 108) (v := ?_) (a' := ?_) #[true, true, true, true, true, true, true, true, true, true, true, true, true, false, false, false, false, false, false, false, false, false] rfl rfl (any_of HT_.out (by kernel_rfl)) (fun _ _ _ h => h) (Or.inl ⟨by rfl, ?_⟩) ?_ ?_
            rotate_left
            ·
             intro w'
             go_simp
             with_reducible rfl
            rotate_left
            ·
             simp only [Act.put, List.setIfInBounds_toArray, List.set_cons_zero, List.set_cons_succ, i64_w, i32_w]
             rfl
            refine pure_ (i := 14) (N := some 110) (v := ?_) (a' := ?_) #[true, true, true, true, true, true, true, true, true, true, true, true, true, false, true, false, false, false, false, false, false, false] rfl rfl (any_of HT_.out (by kernel_rfl)) (fun _ _ _ h => h) (Or.inl ⟨by rfl, ?_⟩) ?_ ?_
            rotate_left
            ·
             intro w'
             go_simp
             with_reducible rfl
            rotate_left
            ·
             simp only [Act.put, List.setIfInBounds_toArray, List.set_cons_zero, List.set_cons_succ, i64_w, i32_w]
             rfl
            refine pure_ (i := 17) (N := some 113) (v := ?_) (a' := ?_) #[true, true, true, true, true, true, true, true, true, true, true, true, true, false, true, false, false, true, false, false, false, false] rfl rfl (any_of HT_.out (by kernel_rfl)) (fun _ _ _ h => h) (Or.inl ⟨by rfl, ?_⟩) ?_ ?_
            rotate_left
            ·
             intro w'
             go_simp
             with_reducible rfl
            rotate_left
            ·
             simp only [Act.put, List.setIfInBounds_toArray, List.set_cons_zero, List.set_cons_succ, i64_w, i32_w]
             rfl
            refine take_ (i := 13) (N := some 109) (v := ?_) (a' := ?_) #[true, true, true, true, true, true, true, true, true, true, true, true, true, true, true, false, false, true, false, false, false, false] rfl rfl (take_ofW HT_.out HW_.out (by kernel_rfl)) (fun _ _ _ h => h) (Or.inl ⟨by rfl, ?_⟩) hHeld ?_ ?_
            rotate_left
            ·
             rintro w' ⟨s0, s1, s2, s3, s4, s5, s6, s7, s8⟩
             go_simp
             with_reducible rfl
            rotate_left
            ·
             simp only [Act.put, List.setIfInBounds_toArray, List.set_cons_zero, List.set_cons_succ, i64_w, i32_w]
             rfl
            refine take_ (i := 16) (N := some 112) (v := ?_) (a' := ?_) #[true, true, true, true, true, true, true, true, true, true, true, true, true, true, true, false, true, true, false, false, false, false] rfl rfl (take_ofW HT_.out HW_.out (by kernel_rfl)) (fun _ _ _ h => h) (Or.inl ⟨by rfl, ?_⟩) hHeld ?_ ?_
            rotate_left
            ·
             rintro w' ⟨s0, s1, s2, s3, s4, s5, s6, s7, s8⟩
             go_simp
             with_reducible rfl
            rotate_left
            ·
             simp only [Act.put, List.setIfInBounds_toArray, List.set_cons_zero, List.set_cons_succ, i64_w, i32_w]
             rfl
            refine one_ (i := 15) (N := some 111) #[true, true, true, true, true, true, true, true, true, true, true, true, true, true, true, true, true, true, false, false, false, false] rfl rfl (one_of HT_.out (by kernel_rfl)) (by decide) (fun K hK => ?_)
            refine goes_ Try.func16 (by kernel_rfl) rfl #[.agg #[.int .i64 t397, .int .i64 t398, .slice Ao51 t399.length co51], .slice Ao47 t390.length co47] (by rfl) rfl rfl (by (try simp only [List.map_toArray, List.map_cons, List.map_nil]); first | done | rfl | (simp only [List.length_drop, List.length_take]; rfl)) ?_
            with_reducible refine (bobbinetkeep_matches.calls k2 t397 t398 _ _ t399 _ _ t390 t422 _ ?side1 ?side2 ?side3 ?side4 A45.out).mono ?_
            (case side1 => repeat (first | exact (Kd.V_reads' HO401.out).2.2 | (with_reducible refine Kd.C_alloc ?_ _) | (with_reducible refine Kd.C_drewN ?_ _) | (with_reducible refine Kd.C_drew ?_)))
            (case side2 => exact (Kd.V_reads' HO401.out).2.1)
            (case side3 => repeat (first | exact (Kd.R_reads' HO_12.out).2.2 | (with_reducible refine Kd.C_alloc ?_ _) | (with_reducible refine Kd.C_drewN ?_ _) | (with_reducible refine Kd.C_drew ?_)))
            (case side4 => exact (Kd.R_reads' HO_12.out).2.1)
            rintro e w69 ⟨rfl, hb⟩
            refine ⟨_, rfl, ?_⟩
            have n0_ := Aside0.mk (Kd.R_below (by (with_reducible repeat (first | apply Kd.R_alloc | apply Kd.R_drewN | apply Kd.R_drew)); exact HO_12.out) hb)
            have n1_ := Aside0.mk (Kd.R_below (by (with_reducible repeat (first | apply Kd.R_alloc | apply Kd.R_drewN | apply Kd.R_drew)); exact HO_13.out) hb)
            have n2_ := Aside0.mk (Kd.V_below (by (with_reducible repeat (first | apply Kd.V_alloc | apply Kd.V_drewN | apply Kd.V_drew)); exact HO401.out) hb)
            have n3_ := Aside0.mk (Kd.V_below (by (with_reducible repeat (first | apply Kd.V_alloc | apply Kd.V_drewN | apply Kd.V_drew)); exact HO408.out) hb)
            have n4_ := Aside0.mk (Kd.V_below (by (with_reducible repeat (first | apply Kd.V_alloc | apply Kd.V_drewN | apply Kd.V_drew)); exact HO415.out) hb)
            have n5_ := Aside0.mk (Kd.R_below (by (with_reducible repeat (first | apply Kd.R_alloc | apply Kd.R_drewN | apply Kd.R_drew)); exact HO420.out) hb)
            have n6_ := Aside0.mk (blk_below (g := gb403) (o := .cells #[.int .i64 t397, .int .i64 t398, .slice Ao51 t399.length co51] 28 (0, 0)) (by (with_reducible repeat (first | refine blk_drewN ?_ _ | refine blk_drew ?_ | refine blk_alloc ?_ _)); exact BK403.out) hb)
            have n7_ := Aside0.mk (blk_below (g := gb410) (o := .cells #[.int .i64 t404, .int .i64 t405, .slice Ao56 t406.length co56] 28 (0, 0)) (by (with_reducible repeat (first | refine blk_drewN ?_ _ | refine blk_drew ?_ | refine blk_alloc ?_ _)); exact BK410.out) hb)
            have n8_ := Aside0.mk (blk_below (g := gb417) (o := .cells #[.int .i64 t411, .int .i64 t412, .slice Ao62 t413.length co62] 28 (0, 0)) (by (with_reducible repeat (first | refine blk_drewN ?_ _ | refine blk_drew ?_ | refine blk_alloc ?_ _)); exact BK417.out) hb)
            have n9_ := Aside0.mk (below_step (by repeat (first | (with_reducible first | exact HB.out | apply below_alloc | apply pw_below_drewN | apply below_drew1 | refine below_set ?_ GE403.out | refine below_set ?_ GE410.out | refine below_set ?_ GE417.out) | exact HB.out)) hb)
            clear HO_12
            clear HO_13
            clear HO401
            clear HO408
            clear HO415
            clear HO420
            clear BK403
            clear BK410
            clear BK417
            clear HB
            have HO_12 := n0_
            have HO_13 := n1_
            have HO401 := n2_
            have HO408 := n3_
            have HO415 := n4_
            have HO420 := n5_
            have BK403 := n6_
            have BK410 := n7_
            have BK417 := n8_
            have HB := n9_
            clear n0_ n1_ n2_ n3_ n4_ n5_ n6_ n7_ n8_ n9_
            (try clear hb)
            (try clear hb2)
            (try clear hk)
            (try clear hi)
            obtain ⟨Ao70, co70, eo70⟩ := Kd.R_slice HO_13.out
            (first | subst eo70 | (injection eo70 with f1_ f2_ f3_; have f4_ := f1_.symm; have f5_ := f3_.symm; clear f1_ f2_ f3_; subst f4_; subst f5_))
            refine hK.out _ _ ⟨(blk_cell BK417.out 0).trans rfl, (blk_cell BK417.out 1).trans rfl, (blk_cell BK417.out 2).trans rfl, (blk_cell BK403.out 0).trans rfl, (blk_cell BK403.out 1).trans rfl, (blk_cell BK403.out 2).trans rfl, (blk_cell BK410.out 0).trans rfl, (blk_cell BK410.out 1).trans rfl, (blk_cell BK410.out 2).trans rfl⟩ (fun hHeld => ?_)
            clear hK K
            refine norm_ (a' := ?_) ?_ ?_
            rotate_left
            ·
             show Act.put _ (some 111) _ = _
             simp only [Act.put, List.setIfInBounds_toArray, List.set_cons_zero, List.set_cons_succ, i64_w, i32_w]
             rfl
            refine one_ (i := 18) (N := some 114) #[true, true, true, true, true, true, true, true, true, true, true, true, true, true, true, true, true, true, true, false, false, false] rfl rfl (one_of HT_.out (by kernel_rfl)) (by decide) (fun K hK => ?_)
            refine goes_ Try.func16 (by kernel_rfl) rfl #[.agg #[.int .i64 t404, .int .i64 t405, .slice Ao56 t406.length co56], .slice Ao70 x13_2.length co70] (by rfl) rfl rfl (by (try simp only [List.map_toArray, List.map_cons, List.map_nil]); first | done | rfl | (simp only [List.length_drop, List.length_take]; rfl)) ?_
            with_reducible refine (bobbinetkeep_matches.calls k2 t404 t405 _ _ t406 _ _ x13_2 t423 _ ?side1 ?side2 ?side3 ?side4 A46.out).mono ?_
            (case side1 => repeat (first | exact (Kd.V_reads' HO408.out).2.2 | (with_reducible refine Kd.C_alloc ?_ _) | (with_reducible refine Kd.C_drewN ?_ _) | (with_reducible refine Kd.C_drew ?_)))
            (case side2 => exact (Kd.V_reads' HO408.out).2.1)
            (case side3 => repeat (first | exact (Kd.R_reads' HO_13.out).2.2 | (with_reducible refine Kd.C_alloc ?_ _) | (with_reducible refine Kd.C_drewN ?_ _) | (with_reducible refine Kd.C_drew ?_)))
            (case side4 => exact (Kd.R_reads' HO_13.out).2.1)
            rintro e w71 ⟨rfl, hb⟩
            refine ⟨_, rfl, ?_⟩
            have n0_ := Aside0.mk (Kd.R_below (by (with_reducible repeat (first | apply Kd.R_alloc | apply Kd.R_drewN | apply Kd.R_drew)); exact HO_12.out) hb)
            have n1_ := Aside0.mk (Kd.R_below (by (with_reducible repeat (first | apply Kd.R_alloc | apply Kd.R_drewN | apply Kd.R_drew)); exact HO_13.out) hb)
            have n2_ := Aside0.mk (Kd.V_below (by (with_reducible repeat (first | apply Kd.V_alloc | apply Kd.V_drewN | apply Kd.V_drew)); exact HO401.out) hb)
            have n3_ := Aside0.mk (Kd.V_below (by (with_reducible repeat (first | apply Kd.V_alloc | apply Kd.V_drewN | apply Kd.V_drew)); exact HO408.out) hb)
            have n4_ := Aside0.mk (Kd.V_below (by (with_reducible repeat (first | apply Kd.V_alloc | apply Kd.V_drewN | apply Kd.V_drew)); exact HO415.out) hb)
            have n5_ := Aside0.mk (Kd.R_below (by (with_reducible repeat (first | apply Kd.R_alloc | apply Kd.R_drewN | apply Kd.R_drew)); exact HO420.out) hb)
            have n6_ := Aside0.mk (blk_below (g := gb403) (o := .cells #[.int .i64 t397, .int .i64 t398, .slice Ao51 t399.length co51] 28 (0, 0)) (by (with_reducible repeat (first | refine blk_drewN ?_ _ | refine blk_drew ?_ | refine blk_alloc ?_ _)); exact BK403.out) hb)
            have n7_ := Aside0.mk (blk_below (g := gb410) (o := .cells #[.int .i64 t404, .int .i64 t405, .slice Ao56 t406.length co56] 28 (0, 0)) (by (with_reducible repeat (first | refine blk_drewN ?_ _ | refine blk_drew ?_ | refine blk_alloc ?_ _)); exact BK410.out) hb)
            have n8_ := Aside0.mk (blk_below (g := gb417) (o := .cells #[.int .i64 t411, .int .i64 t412, .slice Ao62 t413.length co62] 28 (0, 0)) (by (with_reducible repeat (first | refine blk_drewN ?_ _ | refine blk_drew ?_ | refine blk_alloc ?_ _)); exact BK417.out) hb)
            have n9_ := Aside0.mk (below_step (by repeat (first | (with_reducible first | exact HB.out | apply below_alloc | apply pw_below_drewN | apply below_drew1 | refine below_set ?_ GE403.out | refine below_set ?_ GE410.out | refine below_set ?_ GE417.out) | exact HB.out)) hb)
            clear HO_12
            clear HO_13
            clear HO401
            clear HO408
            clear HO415
            clear HO420
            clear BK403
            clear BK410
            clear BK417
            clear HB
            have HO_12 := n0_
            have HO_13 := n1_
            have HO401 := n2_
            have HO408 := n3_
            have HO415 := n4_
            have HO420 := n5_
            have BK403 := n6_
            have BK410 := n7_
            have BK417 := n8_
            have HB := n9_
            clear n0_ n1_ n2_ n3_ n4_ n5_ n6_ n7_ n8_ n9_
            (try clear hb)
            (try clear hb2)
            (try clear hk)
            (try clear hi)
            refine hK.out _ _ ⟨(blk_cell BK417.out 0).trans rfl, (blk_cell BK417.out 1).trans rfl, (blk_cell BK417.out 2).trans rfl, (blk_cell BK403.out 0).trans rfl, (blk_cell BK403.out 1).trans rfl, (blk_cell BK403.out 2).trans rfl, (blk_cell BK410.out 0).trans rfl, (blk_cell BK410.out 1).trans rfl, (blk_cell BK410.out 2).trans rfl⟩ (fun hHeld => ?_)
            clear hK K
            refine norm_ (a' := ?_) ?_ ?_
            rotate_left
            ·
             show Act.put _ (some 114) _ = _
             simp only [Act.put, List.setIfInBounds_toArray, List.set_cons_zero, List.set_cons_succ, i64_w, i32_w]
             rfl
            refine pure_ (i := 19) (N := some 115) (v := ?_) (a' := ?_) #[true, true, true, true, true, true, true, true, true, true, true, true, true, true, true, true, true, true, true, true, false, false] rfl rfl (any_of HT_.out (by kernel_rfl)) (fun _ _ _ h => h) (Or.inl ⟨by rfl, ?_⟩) ?_ ?_
            rotate_left
            ·
             intro w'
             go_simp
             with_reducible rfl
            rotate_left
            ·
             simp only [Act.put, List.setIfInBounds_toArray, List.set_cons_zero, List.set_cons_succ, i64_w, i32_w]
             rfl
            refine pure_ (i := 20) (N := some 116) (v := ?_) (a' := ?_) #[true, true, true, true, true, true, true, true, true, true, true, true, true, true, true, true, true, true, true, true, true, false] rfl rfl (any_of HT_.out (by kernel_rfl)) (fun _ _ _ h => h) (Or.inl ⟨by rfl, ?_⟩) ?_ ?_
            rotate_left
            ·
             intro w'
             go_simp
             with_reducible rfl
            rotate_left
            ·
             simp only [Act.put, List.setIfInBounds_toArray, List.set_cons_zero, List.set_cons_succ, i64_w, i32_w]
             rfl
            refine pure_ (i := 21) (N := some 6) (v := ?_) (a' := ?_) #[true, true, true, true, true, true, true, true, true, true, true, true, true, true, true, true, true, true, true, true, true, true] rfl rfl (any_of HT_.out (by kernel_rfl)) (fun _ _ _ h => h) (Or.inl ⟨by rfl, ?_⟩) ?_ ?_
            rotate_left
            ·
             intro w'
             go_simp
             with_reducible rfl
            rotate_left
            ·
             simp only [Act.put, List.setIfInBounds_toArray, List.set_cons_zero, List.set_cons_succ, i64_w, i32_w]
             rfl
            refine done_ (done_of HT_.out (by kernel_rfl)) ?_
            try go_wp2
            go_ret
            exact ⟨by first | rfl | (simp [errW_none, errW_some] <;> rfl) | (simp [*, errW_none, errW_some] <;> rfl), by repeat (first | (with_reducible first | exact HB.out | apply below_alloc | apply pw_below_drewN | apply below_drew1 | refine below_set ?_ GE403.out | refine below_set ?_ GE410.out | refine below_set ?_ GE417.out) | exact HB.out)⟩
           ·
            replace c44 := Bool.eq_false_iff.mpr c44
            subst c44
            have H1 : (none) = some r := by rw [if_neg (show ¬ (false = true) by decide)] at H; exact H
            clear H
            have H := H1
            clear H1
            exact absurd H (by simp)
          ·
           replace c42 := Bool.eq_false_iff.mpr c42
           subst c42
           have H1 : (none) = some r := by rw [if_neg (show ¬ (false = true) by decide)] at H; exact H
           clear H
           have H := H1
           clear H1
           exact absurd H (by simp)
         ·
          replace c41 := Bool.eq_false_iff.mpr c41
          subst c41
          have H1 : (none) = some r := by rw [if_neg (show ¬ (false = true) by decide)] at H; exact H
          clear H
          have H := H1
          clear H1
          exact absurd H (by simp)
        ·
         replace c40 := Bool.eq_false_iff.mpr c40
         subst c40
         have H1 : (none) = some r := by rw [if_neg (show ¬ (false = true) by decide)] at H; exact H
         clear H
         have H := H1
         clear H1
         exact absurd H (by simp)
/-- THE ONE PURE STATEMENT of bobbinetkeep_ExprRenamed: yours. -/
def bobbinetkeep_ExprRenamed.Pure : Prop := ∀ (l0 : List Int) (l1 : List Int) (a2 : Int), l0.length ≤ maxLen → l0.length * 8 ≤ 140737488351232 → (∀ x ∈ l0, (Lit.int .i64 x).wf = true) → l1.length ≤ maxLen → l1.length * 8 ≤ 140737488351232 → (∀ x ∈ l1, (Lit.int .i64 x).wf = true) → (Lit.int .i64 a2).wf = true → ∃ k, bobbinetkeep_ExprRenamed.f k l0 l1 a2 = some true
theorem bobbinetkeep_ExprRenamed.walk (P : bobbinetkeep_ExprRenamed.Pure) (a0 : Option Addr) (len0 cap0 : Nat) (z0 : List Int) (a1 : Option Addr) (len1 cap1 : Nat) (z1 : List Int) (a2 : Int) (w : World) (w0 : (a0 = none ∧ len0 = 0 ∧ cap0 = 0 ∧ z0 = []) ∨ ∃ x, a0 = some x ∧ len0 ≤ cap0 ∧ cap0 ≤ maxLen ∧ z0.length = cap0 ∧ (∀ i, i < z0.length → w.cell? (x.add i) = some (.int .i64 (z0.getD i 0))) ∧ ∀ n ∈ z0, (Lit.int .i64 n).wf = true) (y0 : len0 * 8 ≤ 140737488351232) (w1 : (a1 = none ∧ len1 = 0 ∧ cap1 = 0 ∧ z1 = []) ∨ ∃ x, a1 = some x ∧ len1 ≤ cap1 ∧ cap1 ≤ maxLen ∧ z1.length = cap1 ∧ (∀ i, i < z1.length → w.cell? (x.add i) = some (.int .i64 (z1.getD i 0))) ∧ ∀ n ∈ z1, (Lit.int .i64 n).wf = true) (y1 : len1 * 8 ≤ 140737488351232) (w2 : (Lit.int .i64 a2).wf = true) :
  Calls Try.prog 6 #[.slice a0 len0 cap0, .slice a1 len1 cap1, .int .i64 a2] w fun e w' => e = .returned (.bool true) ∧ Below w.heap.size w w' := by
 obtain ⟨l0, rfl, hr0, hm0, hw0, hc0⟩ := ReadsInt.ofRowC w0
 obtain ⟨l1, rfl, hr1, hm1, hw1, hc1⟩ := ReadsInt.ofRowC w1
 obtain ⟨k, h⟩ := P l0 l1 a2 hm0 y0 hw0 hm1 y1 hw1 w2
 refine (bobbinetkeep_ExprRenamed.calls k _ _ l0 _ _ l1 a2 true w (Kd.C_of_reads (d := (0 : Int)) (h1 := fun _ => rfl) hr0) hc0 (Kd.C_of_reads (d := (0 : Int)) (h1 := fun _ => rfl) hr1) hc1 h).mono ?_
 rintro e w' ⟨rfl, hd⟩
 exact ⟨rfl, hd⟩
end Go.Proofs.Ytjmhihadgpdiaaa.X
end
section
namespace Go.Proofs.Ytjmhihadgpdiaaa.X
open Go.RowKit Go.Proofs.YtjmhihadgpdiaaaW.PrintWords Go.Proofs.YtjmhihadgpdiaaaW.PrintLast Go.Proofs.YtjmhihadgpdiaaaW.PrintMore
attribute [local go_sem] max2_int min2_int max_two min_two max_three min_three max_four min_four   -- for this text's walks alone
set_option linter.unusedVariables false
set_option linter.unusedSimpArgs false
end Go.Proofs.Ytjmhihadgpdiaaa.X
end
section
namespace Go.Proofs.Ytjmhihadgpdiaaa.Expr
open Go.RowKit Go.Proofs.Ytjmhihadgpdiaaa.X Go.Proofs.YtjmhihadgpdiaaaW.PrintWords Go.Proofs.YtjmhihadgpdiaaaW.PrintLast Go.Proofs.Ytjmhihadgpdiaaa.Base
set_option linter.unusedVariables false
set_option linter.unusedSimpArgs false
abbrev S := S28
abbrev T := List UInt8
theorem Ev.succ {α : Type} {g : Nat → Option α} {r : α} (h : Ev (fun k => g (k + 1)) r) : Ev g r := Ev.one (f := fun k => g (k + 1)) (fun _ => rfl) h
theorem Ev.eqv {α : Type} {g f : Nat → Option α} {r : α} (h : ∀ k, g k = f k) (k : Ev f r) : Ev g r := by
  have : g = f := funext h
  rw [this]; exact k
theorem eta (x : S) : (⟨x.f0, x.f1, x.f2⟩ : S) = x := by cases x; rfl
def flat (kd : Int) : List S → List S
  | [] => []
  | p :: l => (if p.f0 = kd then p.f2 else [p]) ++ flat kd l
def one (kd : Int) (l : List S) : S := if l.length = 1 then rd_T28 l 0 else ⟨kd, 0, l⟩
def tog (kd : Int) (l : List S) : S := if l.length = 1 then rd_T28 l 0 else one kd (flat kd l)
def tl : List S → Nat
  | [] => 0
  | p :: l => 1 + tl p.f2 + tl l
termination_by l => SizeOf.sizeOf l
decreasing_by all_goals (cases p; simp; omega)
theorem tl_nil : tl [] = 0 := by rw [tl]
theorem tl_cons (p : S) (l : List S) : tl (p :: l) = 1 + tl p.f2 + tl l := by rw [tl]
theorem tl_app (a b : List S) : tl (a ++ b) = tl a + tl b := by
  induction a with
  | nil => simp [tl_nil]
  | cons p a ih => rw [List.cons_append, tl_cons, tl_cons, ih]; omega
theorem tl_len : ∀ l : List S, l.length ≤ tl l
  | [] => Nat.zero_le _
  | p :: l => by have := tl_len l; rw [tl_cons, List.length_cons]; omega
theorem tl_flat (kd : Int) : ∀ l : List S, tl (flat kd l) ≤ tl l
  | [] => Nat.le_refl _
  | p :: l => by
    have := tl_flat kd l
    rw [flat, tl_cons, tl_app]
    split
    · omega
    · rw [tl_cons, tl_nil]; omega
theorem rdT_at (l : List S) (i : Nat) (h : i < l.length) : rd_T28 l (i : Int) = l[i] := by
  simp [rd_T28, List.getD, h]
theorem rdT_zero (x : S) (l : List S) : rd_T28 (x :: l) 0 = x := rfl
theorem tl_one (kd : Int) (l : List S) : tl (one kd l).f2 ≤ tl l := by
  unfold one
  split
  · rename_i h1
    match l, h1 with
    | [x], _ => rw [rdT_zero, tl_cons]; omega
  · exact Nat.le_refl _
theorem tl_tog (kd : Int) (l : List S) : tl (tog kd l).f2 ≤ tl l := by
  unfold tog
  split
  · rename_i h1
    match l, h1 with
    | [x], _ => rw [rdT_zero, tl_cons]; omega
  · exact Nat.le_trans (tl_one _ _) (tl_flat _ _)
/-- the length of what is put together -/
theorem together_l0 (kd : Int) (l : List S) (hl : l.length < 1000000000) : ∀ (d i : Nat) (acc : List S), l.length - i = d → i ≤ l.length → acc.length + (flat kd (l.drop i)).length < 3518437208883 →
    Ev (fun k => expr_together.l0 k kd l (l.length : Int) (i : Int) kd 0 acc) ((one kd (acc ++ flat kd (l.drop i))).f0, (one kd (acc ++ flat kd (l.drop i))).f1, (one kd (acc ++ flat kd (l.drop i))).f2) := by
  intro d
  induction d with
  | zero =>
    intro i acc hd hi hb
    have e : i = l.length := by omega
    subst e
    rw [List.drop_length, flat, List.append_nil]
    refine Ev.one (f := fun k => _) (fun k => by rw [expr_together.l0]) ?_
    refine Ev.ite_neg (by omega) ?_
    unfold one
    by_cases h1 : acc.length = 1
    · rw [if_pos h1]
      refine Ev.ite_pos (by omega) (Ev.ite_pos (by omega) (Ev.some _))
    · rw [if_neg h1]
      exact Ev.ite_neg (by omega) (Ev.some _)
  | succ d ih =>
    intro i acc hd hi hb
    have hlt : i < l.length := by omega
    have hw : wrap64 ((i : Int) + 1) = ((i + 1 : Nat) : Int) := wrap_succ hlt (by omega)
    have e : flat kd (l.drop i) = (if l[i].f0 = kd then l[i].f2 else [l[i]]) ++ flat kd (l.drop (i + 1)) := by
      rw [List.drop_eq_getElem_cons hlt, flat]
    rw [e] at hb ⊢
    refine Ev.one (f := fun k => _) (fun k => by rw [expr_together.l0, hw, rdT_at l i hlt, eta]) ?_
    refine Ev.ite_pos (by omega) (Ev.ite_pos (by omega) (Ev.ite_pos (by omega) ?_))
    rw [List.length_append] at hb
    by_cases h1 : l[i].f0 = kd
    · rw [if_pos h1] at hb ⊢
      refine Ev.ite_pos h1 (Ev.ite_pos (by omega) ?_)
      have := ih (i + 1) (acc ++ l[i].f2) (by omega) (by omega) (by rw [List.length_append]; omega)
      rw [List.append_assoc] at this
      exact this
    · rw [if_neg h1] at hb ⊢
      rw [List.length_singleton] at hb
      refine Ev.ite_neg h1 (Ev.ite_pos (by omega) ?_)
      have := ih (i + 1) (acc ++ [l[i]]) (by omega) (by omega) (by rw [List.length_append, List.length_singleton]; omega)
      rw [List.append_assoc] at this
      exact this
theorem together_ev (kd : Int) (l : List S) (hl : tl l < 1000000000) : Ev (fun k => expr_together.f k kd l) ((tog kd l).f0, (tog kd l).f1, (tog kd l).f2) := by
  have h1 := tl_len l
  have h2 := Nat.le_trans (tl_len _) (tl_flat kd l)
  unfold expr_together.f tog
  by_cases h : l.length = 1
  · rw [if_pos h]
    exact Ev.ite_pos (by omega) (Ev.ite_pos (by omega) (Ev.some _))
  · rw [if_neg h]
    refine Ev.ite_neg (by omega) ?_
    exact together_l0 kd l (by omega) l.length 0 [] (by omega) (by omega) (by rw [List.drop_zero]; simp; omega)
def Ns (l : T) : Prop := ∀ c r, l = c :: r → expr_Parse.sign c = none
def St (l : T) : Prop := ∀ c r, l = c :: r → c.toNat = 124 ∨ c.toNat = 41
def Cl (l : T) : Prop := ∀ c r, l = c :: r → c.toNat = 41
def Hd (l : T) : Prop := ∃ c r, l = c :: r ∧ ¬ (c.toNat = 124 ∨ c.toNat = 41) ∧ expr_Parse.sign c = none
theorem St.nil : St [] := fun c r h => by cases h
theorem Cl.nil : Cl [] := fun c r h => by cases h
theorem Cl.st {l : T} (h : Cl l) : St l := fun c r e => .inr (h c r e)
theorem Ns.nil : Ns [] := fun c r h => by cases h
theorem St.ns {l : T} (h : St l) : Ns l := by
  intro c r e
  unfold expr_Parse.sign
  have := h c r e
  rw [if_neg (by omega), if_neg (by omega), if_neg (by omega)]
theorem Hd.ns {l m : T} (h : Hd l) : Ns (l ++ m) := by
  obtain ⟨c, r, rfl, -, h3⟩ := h
  intro c' r' e
  cases e
  exact h3
theorem Hd.ns0 {l : T} (h : Hd l) : Ns l := by
  obtain ⟨c, r, rfl, -, h3⟩ := h
  intro c' r' e
  cases e
  exact h3
def BP (t : T) (x : S) : Prop := Hd t ∧ tl x.f2 + 2 ≤ 2 * t.length ∧ (t.length < 1000000 → ∀ rest, Ev (fun k => expr_Parse.item k (t ++ rest)) (expr_Parse.sfx rest x))
def SP (t : T) (xs : List S) : Prop := Ns t ∧ (tl xs ≤ 2 * t.length ∧ xs.length ≤ t.length) ∧ (t.length < 1000000 → ∀ acc rest R, Ns rest → acc.length + t.length < 1000000 → Ev (fun k => expr_Parse.seqs k (acc ++ xs) rest) R → Ev (fun k => expr_Parse.seqs k acc (t ++ rest)) R)
def QP (t : T) (y : S) : Prop := tl y.f2 ≤ 2 * t.length ∧ (t.length < 1000000 → ∀ rest, St rest → Ev (fun k => expr_Parse.seqs k [] (t ++ rest)) (y, rest))
def AP (t : T) (y : S) : Prop := tl y.f2 ≤ 2 * t.length + 1 ∧ (t.length < 1000000 → ∀ rest, Cl rest → Ev (fun k => expr_Parse.alt k (t ++ rest)) (y, rest))
theorem sfx_ns {rest : T} (h : Ns rest) (x : S) : expr_Parse.sfx rest x = (x, rest) := by
  cases rest with
  | nil => rfl
  | cons c r => rw [expr_Parse.sfx, h c r rfl]
theorem sfx_sg {c : UInt8} {j : Int} (h : expr_Parse.sign c = some j) (r : T) (x : S) : expr_Parse.sfx (c :: r) x = expr_Parse.sfx r ⟨4 + j, 0, [x]⟩ := by
  rw [expr_Parse.sfx, h]
theorem seqs_end (acc : List S) (rest : T) (h : St rest) (hl : tl acc < 1000000000) : Ev (fun k => expr_Parse.seqs k acc rest) (tog 2 acc, rest) := by
  have ht := together_ev 2 acc hl
  cases rest with
  | nil => exact Ev.one (f := fun k => _) (fun k => by rw [expr_Parse.seqs]) (Ev.bnd ht ⟨0, fun _ _ => by rw [eta]⟩)
  | cons c r =>
    refine Ev.one (f := fun k => _) (fun k => by rw [expr_Parse.seqs]) ?_
    exact Ev.ite_pos (h c r rfl) (Ev.bnd ht ⟨0, fun _ _ => by rw [eta]⟩)
theorem BP.sp {t : T} {x : S} (h : BP t x) : SP t [x] := by
  obtain ⟨h1, h2, h3⟩ := h
  have h0 : 1 ≤ t.length := by obtain ⟨c, r, rfl, -⟩ := h1; simp
  refine ⟨h1.ns0, ⟨by rw [tl_cons, tl_nil]; omega, h0⟩, fun hl acc rest R hr ha hR => ?_⟩
  have h4 := h3 hl rest
  rw [sfx_ns hr] at h4
  obtain ⟨c, r, rfl, hc, hs⟩ := h1
  rw [List.cons_append] at h4 ⊢
  refine Ev.one (f := fun k => _) (fun k => by rw [expr_Parse.seqs]) ?_
  exact Ev.ite_neg hc (Ev.bnd h4 (Ev.ite_pos (by omega) hR))
theorem SP.nil : SP [] [] := ⟨Ns.nil, ⟨by rw [tl_nil]; exact Nat.le_refl _, Nat.le_refl _⟩, fun _ acc rest R _ _ h => by rw [List.append_nil] at h; exact h⟩
theorem SP.app {a b : T} {xs ys : List S} (h : SP a xs) (g : SP b ys) : SP (a ++ b) (xs ++ ys) := by
  obtain ⟨h1, h2, h3⟩ := h
  obtain ⟨g1, g2, g3⟩ := g
  refine ⟨?_, ⟨by rw [tl_app, List.length_append]; omega, by rw [List.length_append, List.length_append]; omega⟩, fun hl acc rest R hr ha hR => ?_⟩
  · intro c r e
    cases a with
    | nil => exact g1 c r e
    | cons d a => cases e; exact h1 _ _ rfl
  · rw [List.length_append] at hl ha
    rw [List.append_assoc]
    refine h3 (by omega) acc (b ++ rest) R ?_ (by omega) ?_
    · intro c r e
      cases b with
      | nil => exact hr c r e
      | cons d b => cases e; exact g1 _ _ rfl
    · refine g3 (by omega) (acc ++ xs) rest R hr ?_ (by rw [List.append_assoc]; exact hR)
      have := tl_len xs
      rw [List.length_append]; omega
theorem SP.qp {t : T} {xs : List S} (h : SP t xs) : QP t (tog 2 xs) := by
  obtain ⟨h1, h2, h3⟩ := h
  refine ⟨Nat.le_trans (tl_tog 2 xs) h2.1, fun hl rest hr => ?_⟩
  exact h3 hl [] rest _ hr.ns (by simpa using hl) (seqs_end xs rest hr (by omega))
/-- what stands behind the first of some alternatives -/
def tail : List T → T
  | [] => []
  | t :: l => 124 :: t ++ tail l
inductive QS : List T → List S → Prop
  | nil : QS [] []
  | cons {t y ts ys} : QP t y → QS ts ys → QS (t :: ts) (y :: ys)
theorem tail_st (ts : List T) {rest : T} (h : Cl rest) : St (tail ts ++ rest) := by
  cases ts with
  | nil => exact h.st
  | cons t ts => intro c r e; cases e; exact .inl rfl
theorem QS.tl {ts : List T} {ys : List S} (h : QS ts ys) : tl ys ≤ 2 * (tail ts).length := by
  induction h with
  | nil => rw [tl_nil]; omega
  | cons h _ ih =>
    have := h.1
    rw [tl_cons, tail, List.length_append, List.length_cons]
    omega
theorem alts_list {ts : List T} {ys : List S} (h : QS ts ys) : ∀ acc rest, Cl rest → acc.length + (tail ts).length < 1000001 → Expr.tl (acc ++ ys) < 1000000000 → Ev (fun k => expr_Parse.alts k acc (tail ts ++ rest)) (tog 3 (acc ++ ys), rest) := by
  induction h with
  | nil =>
    intro acc rest hr ha hb
    rw [List.append_nil] at hb ⊢
    have ht := together_ev 3 acc hb
    cases rest with
    | nil => exact Ev.one (f := fun k => _) (fun k => by rw [tail, List.nil_append, expr_Parse.alts]) (Ev.bnd ht ⟨0, fun _ _ => by rw [eta]⟩)
    | cons c r =>
      have := hr c r rfl
      refine Ev.one (f := fun k => _) (fun k => by rw [tail, List.nil_append, expr_Parse.alts]) ?_
      exact Ev.ite_neg (by omega) (Ev.bnd ht ⟨0, fun _ _ => by rw [eta]⟩)
  | @cons t y ts ys hq _ ih =>
    intro acc rest hr ha hb
    rw [tail, List.length_append, List.length_cons] at ha
    have h1 := hq.2 (by omega) (tail ts ++ rest) (tail_st ts hr)
    have h2 := ih (acc ++ [y]) rest hr (by rw [List.length_append, List.length_singleton]; omega) (by rw [List.append_assoc]; exact hb)
    rw [List.append_assoc] at h2
    refine Ev.one (f := fun k => _) (fun k => by rw [tail, List.cons_append, List.cons_append, List.append_assoc, expr_Parse.alts]) ?_
    exact Ev.ite_pos rfl (Ev.bnd h1 (Ev.ite_pos (by omega) h2))
theorem AP.list {t : T} {y : S} {ts : List T} {ys : List S} (h : QP t y) (hs : QS ts ys) : AP (t ++ tail ts) (tog 3 (y :: ys)) := by
  have h1 := h.1
  have h2 := hs.tl
  have h3 := tl_tog 3 (y :: ys)
  rw [tl_cons] at h3
  refine ⟨by rw [List.length_append]; omega, fun hl rest hr => ?_⟩
  rw [List.length_append] at hl
  unfold expr_Parse.alt
  rw [List.append_assoc]
  have h4 := h.2 (by omega) (tail ts ++ rest) (tail_st ts hr)
  refine Ev.bnd h4 (alts_list hs [y] rest hr (by rw [List.length_singleton]; omega) ?_)
  rw [List.singleton_append, tl_cons]; omega
theorem AP.one {t : T} {y : S} (h : QP t y) : AP t y := by
  have := AP.list h QS.nil
  rw [tail, List.append_nil] at this
  exact this
theorem AP.two {t u : T} {y z : S} (h : QP t y) (g : QP u z) : AP (t ++ 124 :: u) (tog 3 [y, z]) := by
  have := AP.list h (QS.cons g QS.nil)
  rw [tail, tail, List.append_nil] at this
  exact this
theorem BP.letter (c : UInt8) (h : 97 ≤ c.toNat ∧ c.toNat ≤ 104) : BP [c] ⟨1, (c.toNat : Int) - 97, []⟩ := by
  refine ⟨⟨c, [], rfl, by omega, ?_⟩, by rw [tl_nil]; simp, fun _ rest => ?_⟩
  · unfold expr_Parse.sign
    rw [if_neg (by omega), if_neg (by omega), if_neg (by omega)]
  · exact Ev.one (f := fun k => _) (fun k => by rw [List.singleton_append, expr_Parse.item]) (Ev.ite_pos h (Ev.some _))
theorem BP.sign {t : T} {x : S} {c : UInt8} {j : Int} (h : BP t x) (hc : expr_Parse.sign c = some j) : BP (t ++ [c]) ⟨4 + j, 0, [x]⟩ := by
  obtain ⟨h1, h2, h3⟩ := h
  refine ⟨?_, ?_, fun hl rest => ?_⟩
  · obtain ⟨d, r, rfl, h4⟩ := h1
    exact ⟨d, r ++ [c], rfl, h4⟩
  · rw [tl_cons, tl_nil, List.length_append, List.length_singleton]; omega
  · rw [List.length_append, List.length_singleton] at hl
    have := h3 (by omega) (c :: rest)
    rw [sfx_sg hc] at this
    rw [List.append_assoc]
    exact this
theorem BP.paren {t : T} {x : S} (h : AP t x) : BP (40 :: t ++ [41]) x := by
  obtain ⟨h1, h2⟩ := h
  refine ⟨⟨40, t ++ [41], rfl, by decide, by decide⟩, ?_, fun hl rest => ?_⟩
  · rw [List.cons_append, List.length_cons, List.length_append, List.length_singleton]; omega
  · rw [List.cons_append, List.length_cons, List.length_append, List.length_singleton] at hl
    have h3 := h2 (by omega) (41 :: rest) (fun c r e => by cases e; rfl)
    refine Ev.one (f := fun k => _) (fun k => by rw [List.cons_append, List.cons_append, List.append_assoc, List.singleton_append, expr_Parse.item]) ?_
    refine Ev.ite_neg (by decide) (Ev.ite_pos rfl ?_)
    unfold expr_Parse.alt at h3
    obtain ⟨K, hK⟩ := h3
    refine ⟨K, fun k hk => ?_⟩
    have h4 := hK k hk
    obtain ⟨z, hz, h5⟩ := Option.bind_eq_some_iff.1 h4
    show (expr_Parse.seqs k [] (t ++ 41 :: rest)).bind _ = _
    rw [hz, Option.bind_some, h5, Option.bind_some]
    rfl
/-- a whole text -/
theorem AP.all {t : T} {x : S} (h : AP t x) (hl : t.length < 1000000) : Ev (fun k => expr_Parse.alt k t) (x, []) := by
  have := h.2 hl [] Cl.nil
  rw [List.append_nil] at this
  exact this
end Go.Proofs.Ytjmhihadgpdiaaa.Expr
end
section
namespace Go.Proofs.Ytjmhihadgpdiaaa.Expr
open Go.RowKit Go.Proofs.Ytjmhihadgpdiaaa.X Go.Proofs.YtjmhihadgpdiaaaW.PrintWords Go.Proofs.YtjmhihadgpdiaaaW.PrintLast Go.Proofs.Ytjmhihadgpdiaaa.Base
set_option linter.unusedVariables false
set_option linter.unusedSimpArgs false
abbrev W := List Int
abbrev Lg := W → Prop
inductive M : S → W → Prop
  | one (t : Int) (l : List S) : M ⟨1, t, l⟩ [t]
  | seqn (t : Int) : M ⟨2, t, []⟩ []
  | seqc {t : Int} {p : S} {ps : List S} {u v : W} : M p u → M ⟨2, t, ps⟩ v → M ⟨2, t, p :: ps⟩ (u ++ v)
  | alt {t : Int} {p : S} {ps : List S} {u : W} : p ∈ ps → M p u → M ⟨3, t, ps⟩ u
  | starn {t : Int} {p : S} : M ⟨4, t, [p]⟩ []
  | starc {t : Int} {p : S} {u v : W} : M p u → M ⟨4, t, [p]⟩ v → M ⟨4, t, [p]⟩ (u ++ v)
  | plus {t : Int} {p : S} {u v : W} : M p u → M ⟨4, t, [p]⟩ v → M ⟨5, t, [p]⟩ (u ++ v)
  | optn {t : Int} {p : S} : M ⟨6, t, [p]⟩ []
  | opts {t : Int} {p : S} {u : W} : M p u → M ⟨6, t, [p]⟩ u
def Nil : Lg := fun w => w = []
def Cat (A B : Lg) : Lg := fun w => ∃ u v, w = u ++ v ∧ A u ∧ B v
def Or (A B : Lg) : Lg := fun w => A w ∨ B w
inductive Star (L : Lg) : W → Prop
  | nil : Star L []
  | cons {u v : W} : L u → Star L v → Star L (u ++ v)
def MS : List S → Lg
  | [] => Nil
  | p :: l => Cat (M p) (MS l)
theorem M_one {t : Int} {l : List S} {w : W} : M ⟨1, t, l⟩ w ↔ w = [t] := by
  constructor
  · intro h
    generalize hx : (⟨1, t, l⟩ : S) = x at h
    cases h <;> simp at hx
    rw [hx.1]
  · rintro rfl; exact M.one t l
theorem M_seq {t : Int} {l : List S} {w : W} : M ⟨2, t, l⟩ w ↔ MS l w := by
  constructor
  · intro h
    generalize hx : (⟨2, t, l⟩ : S) = x at h
    induction h generalizing l <;> simp at hx
    · rw [hx.2]; exact rfl
    · rename_i t' p ps u v h1 h2 ih1 ih2
      rw [hx.2]
      exact ⟨u, v, rfl, h1, ih2 (by rw [hx.1])⟩
  · intro h
    induction l generalizing w with
    | nil => obtain rfl : w = [] := h; exact M.seqn t
    | cons p l ih =>
      obtain ⟨u, v, rfl, h1, h2⟩ := h
      exact M.seqc h1 (ih h2)
theorem M_alt {t : Int} {l : List S} {w : W} : M ⟨3, t, l⟩ w ↔ ∃ p ∈ l, M p w := by
  constructor
  · intro h
    generalize hx : (⟨3, t, l⟩ : S) = x at h
    cases h <;> simp at hx
    rename_i t' p ps h1 h2
    rw [hx.2]; exact ⟨p, h1, h2⟩
  · rintro ⟨p, h1, h2⟩; exact M.alt h1 h2
theorem M_star {t : Int} {p : S} {w : W} : M ⟨4, t, [p]⟩ w ↔ Star (M p) w := by
  constructor
  · intro h
    generalize hx : (⟨4, t, [p]⟩ : S) = x at h
    induction h <;> simp at hx
    · exact Star.nil
    · rename_i t' p' u v h1 h2 ih1 ih2
      obtain ⟨rfl, rfl⟩ := hx
      exact Star.cons h1 (ih2 rfl)
  · intro h
    induction h with
    | nil => exact M.starn
    | cons h1 _ ih => exact M.starc h1 ih
theorem M_plus {t : Int} {p : S} {w : W} : M ⟨5, t, [p]⟩ w ↔ Cat (M p) (Star (M p)) w := by
  constructor
  · intro h
    generalize hx : (⟨5, t, [p]⟩ : S) = x at h
    cases h <;> simp at hx
    rename_i t' p' u v h1 h2
    obtain ⟨rfl, rfl⟩ := hx
    exact ⟨u, v, rfl, h1, M_star.1 h2⟩
  · rintro ⟨u, v, rfl, h1, h2⟩; exact M.plus h1 (M_star.2 h2)
theorem M_opt {t : Int} {p : S} {w : W} : M ⟨6, t, [p]⟩ w ↔ Or Nil (M p) w := by
  constructor
  · intro h
    generalize hx : (⟨6, t, [p]⟩ : S) = x at h
    cases h <;> simp at hx
    · exact .inl rfl
    · rename_i t' p' h1
      obtain ⟨rfl, rfl⟩ := hx
      exact .inr h1
  · rintro (rfl | h)
    · exact M.optn
    · exact M.opts h
theorem len1 {α : Type} {l : List α} (h : l.length = 1) : ∃ x, l = [x] := by
  match l, h with
  | [x], _ => exact ⟨x, rfl⟩
def Loc (x : S) : Prop := (x.f0 = 1 ∧ x.f2 = [] ∧ 0 ≤ x.f1 ∧ x.f1 < 8) ∨ (x.f0 = 2 ∧ x.f1 = 0 ∧ x.f2.length ≠ 1 ∧ ∀ p ∈ x.f2, p.f0 ≠ 2) ∨ (x.f0 = 3 ∧ x.f1 = 0 ∧ 2 ≤ x.f2.length ∧ ∀ p ∈ x.f2, p.f0 ≠ 3) ∨ (4 ≤ x.f0 ∧ x.f0 ≤ 6 ∧ x.f1 = 0 ∧ ∃ p, x.f2 = [p])
inductive Ok : S → Prop
  | mk {x : S} : Loc x → (∀ p ∈ x.f2, Ok p) → Ok x
theorem Ok.loc {x : S} (h : Ok x) : Loc x := by cases h; assumption
theorem Ok.parts {x : S} (h : Ok x) : ∀ p ∈ x.f2, Ok p := by cases h; assumption
def seg (w : W) (i j : Nat) : W := (w.take j).drop i
theorem seg_cat {w : W} {i j k : Nat} (h1 : i ≤ j) (h2 : j ≤ k) : seg w i j ++ seg w j k = seg w i k := by
  unfold seg
  apply List.ext_getElem?
  intro n
  by_cases hn : n < (List.drop i (List.take j w)).length
  · rw [List.getElem?_append_left hn]
    simp only [List.length_drop, List.length_take] at hn
    simp only [List.getElem?_drop, List.getElem?_take]
    rw [if_pos (by omega), if_pos (by omega)]
  · rw [List.getElem?_append_right (by omega)]
    simp only [List.length_drop, List.length_take] at hn ⊢
    simp only [List.getElem?_drop, List.getElem?_take]
    by_cases hj : j ≤ w.length
    · rw [show j + (n - (min j w.length - i)) = i + n by omega]
    · have e1 : w[j + (n - (min j w.length - i))]? = none := List.getElem?_eq_none (by omega)
      have e2 : w[i + n]? = none := List.getElem?_eq_none (by omega)
      rw [e1, e2]
      split <;> split <;> rfl
theorem seg_split {w : W} {i k : Nat} {u v : W} (h1 : i ≤ k) (hk : k ≤ w.length) (h : seg w i k = u ++ v) : ∃ j, i ≤ j ∧ j ≤ k ∧ seg w i j = u ∧ seg w j k = v := by
  have hl : (seg w i k).length = k - i := by unfold seg; rw [List.length_drop, List.length_take]; omega
  have hl2 : u.length + v.length = k - i := by rw [← hl, h, List.length_append]
  have h2 := @seg_cat w i (i + u.length) k (by omega) (by omega)
  have hl3 : (seg w i (i + u.length)).length = u.length := by unfold seg; rw [List.length_drop, List.length_take]; omega
  have h3 := List.append_inj (h2.trans h) hl3
  exact ⟨i + u.length, by omega, by omega, h3.1, h3.2⟩
theorem seg_self (w : W) (i : Nat) : seg w i i = [] := by
  unfold seg
  apply List.drop_eq_nil_of_le
  rw [List.length_take]; omega
theorem seg_nil {w : W} {i k : Nat} (h1 : i ≤ k) (hk : k ≤ w.length) (h : seg w i k = []) : i = k := by
  have hl : (seg w i k).length = k - i := by unfold seg; rw [List.length_drop, List.length_take]; omega
  rw [h] at hl
  simp at hl
  omega
theorem seg_one {w : W} {i k : Nat} {t : Int} (h1 : i ≤ k) (hk : k ≤ w.length) : seg w i k = [t] ↔ k = i + 1 ∧ w.getD i 0 = t := by
  have hl : (seg w i k).length = k - i := by unfold seg; rw [List.length_drop, List.length_take]; omega
  constructor
  · intro h
    rw [h] at hl
    simp at hl
    have e : k = i + 1 := by omega
    subst e
    refine ⟨rfl, ?_⟩
    have h2 : (seg w i (i + 1)).getD 0 0 = t := by rw [h]; rfl
    unfold seg at h2
    rw [List.getD_eq_getElem?_getD] at h2 ⊢
    simp at h2
    simpa using h2
  · rintro ⟨rfl, rfl⟩
    have : i < w.length := by omega
    apply List.ext_getElem?
    intro n
    unfold seg
    rw [List.getElem?_drop, List.getElem?_take]
    cases n with
    | zero => simp [List.getD, this]
    | succ n => rw [if_neg (by omega)]; rfl
/-- what stands from each place on -/
abbrev at_ (l : List Bool) (i : Nat) : Prop := l.getD i false = true
def Rch (L : Lg) (w : W) (a b : List Bool) : Prop := b.length = w.length + 1 ∧ ∀ j, j ≤ w.length → (at_ b j ↔ ∃ i, i ≤ j ∧ at_ a i ∧ L (seg w i j))
theorem Rch.congr {A B : Lg} {w : W} {a b : List Bool} (h : Rch A w a b) (e : ∀ u, A u ↔ B u) : Rch B w a b :=
  ⟨h.1, fun j hj => (h.2 j hj).trans ⟨fun ⟨i, h1, h2, h3⟩ => ⟨i, h1, h2, (e _).1 h3⟩, fun ⟨i, h1, h2, h3⟩ => ⟨i, h1, h2, (e _).2 h3⟩⟩⟩
theorem Rch.nil {w : W} {a : List Bool} (h : a.length = w.length + 1) : Rch Nil w a a := by
  refine ⟨h, fun j hj => ⟨fun h => ⟨j, Nat.le_refl _, h, seg_self w j⟩, ?_⟩⟩
  rintro ⟨i, h1, h2, h3⟩
  rw [← seg_nil h1 hj h3]
  exact h2
theorem Rch.cat {A B : Lg} {w : W} {a b c : List Bool} (h : Rch A w a b) (g : Rch B w b c) : Rch (Cat A B) w a c := by
  refine ⟨g.1, fun k hk => ⟨fun h1 => ?_, ?_⟩⟩
  · obtain ⟨j, h2, h3, h4⟩ := (g.2 k hk).1 h1
    obtain ⟨i, h5, h6, h7⟩ := (h.2 j (by omega)).1 h3
    exact ⟨i, by omega, h6, _, _, (seg_cat h5 h2).symm, h7, h4⟩
  · rintro ⟨i, h1, h2, u, v, h3, h4, h5⟩
    obtain ⟨j, h6, h7, rfl, rfl⟩ := seg_split h1 hk h3
    exact (g.2 k hk).2 ⟨j, h7, (h.2 j (by omega)).2 ⟨i, h6, h2, h4⟩, h5⟩
/-- one or the other -/
def eith (a b : List Bool) : List Bool := List.zipWith (· || ·) a b
theorem eith_at {a b : List Bool} (h : a.length = b.length) (j : Nat) : at_ (eith a b) j ↔ at_ a j ∨ at_ b j := by
  unfold at_ eith
  rw [List.getD_eq_getElem?_getD, List.getD_eq_getElem?_getD, List.getD_eq_getElem?_getD, List.getElem?_zipWith]
  by_cases hj : j < a.length
  · rw [List.getElem?_eq_getElem hj, List.getElem?_eq_getElem (by omega)]; simp
  · rw [List.getElem?_eq_none (by omega), List.getElem?_eq_none (by omega)]; simp
theorem eith_len {a b : List Bool} (h : a.length = b.length) : (eith a b).length = a.length := by
  unfold eith; rw [List.length_zipWith]; omega
theorem Rch.or {A B : Lg} {w : W} {a b c : List Bool} (h : Rch A w a b) (g : Rch B w a c) : Rch (Or A B) w a (eith b c) := by
  have hl : b.length = c.length := h.1.trans g.1.symm
  refine ⟨(eith_len hl).trans h.1, fun j hj => (eith_at hl j).trans ?_⟩
  rw [h.2 j hj, g.2 j hj]
  constructor
  · rintro (⟨i, h1, h2, h3⟩ | ⟨i, h1, h2, h3⟩)
    · exact ⟨i, h1, h2, .inl h3⟩
    · exact ⟨i, h1, h2, .inr h3⟩
  · rintro ⟨i, h1, h2, h3 | h3⟩
    · exact .inl ⟨i, h1, h2, h3⟩
    · exact .inr ⟨i, h1, h2, h3⟩
theorem rdOf_at (l : List Bool) (i : Nat) : rdOf false l (i : Int) = l.getD i false := by simp [rdOf]
theorem either_l0 (a b : List Bool) (h : a.length = b.length) (hl : a.length < 1000000) : ∀ (d i : Nat) (c : List Bool), a.length - i = d → i ≤ a.length → c.length = a.length →
    Ev (fun k => expr_either.l0 k a b c (a.length : Int) (i : Int)) (c.take i ++ (eith a b).drop i) := by
  intro d
  induction d with
  | zero =>
    intro i c hd hi hc
    obtain rfl : i = a.length := by omega
    have e : (eith a b).drop a.length = [] := List.drop_eq_nil_of_le (by rw [eith_len h]; omega)
    rw [e, List.append_nil, List.take_of_length_le (by omega)]
    exact Ev.one (f := fun k => _) (fun k => by rw [expr_either.l0]) (Ev.ite_neg (by omega) (Ev.some _))
  | succ d ih =>
    intro i c hd hi hc
    have hlt : i < a.length := by omega
    have hw : wrap64 ((i : Int) + 1) = ((i + 1 : Nat) : Int) := wrap_succ hlt (by omega)
    have e : ∀ v, v = (a.getD i false || b.getD i false) → (c.set i v).take (i + 1) ++ (eith a b).drop (i + 1) = c.take i ++ (eith a b).drop i := by
      intro v hv
      have h3 : i < (eith a b).length := by rw [eith_len h]; omega
      have e5 : (List.take i c ++ [c[i]'(by omega)]).set i v = List.take i c ++ [v] := by
        rw [List.set_append_right _ _ (by rw [List.length_take]; omega), List.length_take, show i - min i c.length = 0 by omega]
        rfl
      rw [List.drop_eq_getElem_cons h3, List.take_set, List.take_succ_eq_append_getElem (by omega), e5, List.append_assoc, List.singleton_append, hv]
      have e6 : (eith a b).getD i false = (a.getD i false || b.getD i false) := by
        rw [Bool.eq_iff_iff, Bool.or_eq_true]; exact eith_at h i
      rw [← e6]
      simp [List.getD, h3]
    refine Ev.one (f := fun k => _) (fun k => by rw [expr_either.l0, hw, rdOf_at, rdOf_at]) ?_
    refine Ev.ite_pos (by omega) (Ev.ite_pos (by omega) (Ev.ite_pos (by omega) ?_))
    by_cases ha : a.getD i false = true
    · refine Ev.ite_pos ha (Ev.ite_pos (by omega) ?_)
      rw [← e true (by rw [ha]; rfl)]
      exact ih (i + 1) (c.set i true) (by omega) (by omega) (by rw [List.length_set]; exact hc)
    · refine Ev.ite_neg ha (Ev.ite_pos (by omega) (Ev.ite_pos (by omega) ?_))
      rw [← e (b.getD i false) (by rw [show a.getD i false = false by simpa using ha]; rfl)]
      exact ih (i + 1) (c.set i (b.getD i false)) (by omega) (by omega) (by rw [List.length_set]; exact hc)
theorem either_ev {a b : List Bool} (h : a.length = b.length) (hl : a.length < 1000000) : Ev (fun k => expr_either.f k a b) (eith a b) := by
  unfold expr_either.f
  refine Ev.ite_pos (by omega) (Ev.ite_pos (by omega) ?_)
  have := either_l0 a b h hl a.length 0 (List.replicate a.length false) (by omega) (by omega) (by simp)
  rw [List.take_zero, List.drop_zero, List.nil_append] at this
  exact this
theorem equal_l0 (a b : List Bool) (h : a.length = b.length) (hl : a.length < 1000000) : ∀ (d i : Nat), a.length - i = d → i ≤ a.length →
    Ev (fun k => slices_Equal_bool_bool.l0 k a b (a.length : Int) (i : Int)) (decide (a.drop i = b.drop i)) := by
  intro d
  induction d with
  | zero =>
    intro i hd hi
    have e : i = a.length := by omega
    have e1 : a.drop i = [] := List.drop_eq_nil_of_le (by omega)
    have e2 : b.drop i = [] := List.drop_eq_nil_of_le (by omega)
    rw [e1, e2]
    exact Ev.one (f := fun k => _) (fun k => by rw [slices_Equal_bool_bool.l0]) (Ev.ite_neg (by omega) ⟨0, fun _ _ => by simp⟩)
  | succ d ih =>
    intro i hd hi
    have hlt : i < a.length := by omega
    have hw : wrap64 ((i : Int) + 1) = ((i + 1 : Nat) : Int) := wrap_succ hlt (by omega)
    have ea : a.getD i false = a[i] := by simp [List.getD, hlt]
    have eb : b.getD i false = b[i]'(by omega) := by simp [List.getD, show i < b.length by omega]
    rw [List.drop_eq_getElem_cons hlt, List.drop_eq_getElem_cons (show i < b.length by omega)]
    refine Ev.one (f := fun k => _) (fun k => by rw [slices_Equal_bool_bool.l0, hw, rdOf_at, rdOf_at, ea, eb]) ?_
    refine Ev.ite_pos (by omega) (Ev.ite_pos (by omega) (Ev.ite_pos (by omega) (Ev.ite_pos (by omega) ?_)))
    by_cases he : a[i] = b[i]'(by omega)
    · refine Ev.ite_neg (by simp [he]) ?_
      have := ih (i + 1) (by omega) (by omega)
      rw [show decide (a[i] :: List.drop (i + 1) a = b[i]'(by omega) :: List.drop (i + 1) b) = decide (List.drop (i + 1) a = List.drop (i + 1) b) by rw [he]; simp only [List.cons.injEq, true_and]]
      exact this
    · exact Ev.ite_pos (by simp [he]) ⟨0, fun _ _ => by simp only [List.cons.injEq, he, false_and, decide_false]⟩
theorem equal_ev {a b : List Bool} (h : a.length = b.length) (hl : a.length < 1000000) : Ev (fun k => slices_Equal_bool_bool.f k a b) (decide (a = b)) := by
  unfold slices_Equal_bool_bool.f
  refine Ev.ite_pos (by omega) ?_
  exact equal_l0 a b h hl a.length 0 (by omega) (by omega)
end Go.Proofs.Ytjmhihadgpdiaaa.Expr
end
section
namespace Go.Proofs.Ytjmhihadgpdiaaa.Expr
open Go.RowKit Go.Proofs.Ytjmhihadgpdiaaa.X Go.Proofs.YtjmhihadgpdiaaaW.PrintWords Go.Proofs.YtjmhihadgpdiaaaW.PrintLast Go.Proofs.Ytjmhihadgpdiaaa.Base
set_option linter.unusedVariables false
set_option linter.unusedSimpArgs false
theorem mem_flat {kd : Int} {q : S} : ∀ {l : List S}, q ∈ flat kd l → ∃ p ∈ l, (p.f0 = kd ∧ q ∈ p.f2) ∨ (p.f0 ≠ kd ∧ q = p)
  | p :: l, h => by
    rw [flat] at h
    rcases List.mem_append.1 h with h | h
    · by_cases e : p.f0 = kd
      · rw [if_pos e] at h; exact ⟨p, List.mem_cons_self, .inl ⟨e, h⟩⟩
      · rw [if_neg e] at h; exact ⟨p, List.mem_cons_self, .inr ⟨e, by simpa using h⟩⟩
    · obtain ⟨r, hr, h2⟩ := mem_flat h
      exact ⟨r, List.mem_cons_of_mem _ hr, h2⟩
theorem tog_ok {kd : Int} {l : List S} (hl : ∀ p ∈ l, Ok p) (hk : kd = 2 ∨ kd = 3 ∧ l ≠ []) : Ok (tog kd l) := by
  have hf : ∀ q ∈ flat kd l, Ok q ∧ q.f0 ≠ kd := by
    intro q hq
    obtain ⟨p, hp, ⟨h1, h2⟩ | ⟨h1, rfl⟩⟩ := mem_flat hq
    · refine ⟨(hl p hp).parts q h2, ?_⟩
      rcases (hl p hp).loc with h3 | h3 | h3 | h3
      · rw [h3.2.1] at h2; cases h2
      · rw [← h1, h3.1]; exact h3.2.2.2 q h2
      · rw [← h1, h3.1]; exact h3.2.2.2 q h2
      · omega
    · exact ⟨hl q hp, h1⟩
  unfold tog
  split
  · rename_i h; obtain ⟨x, rfl⟩ := len1 h; exact hl x List.mem_cons_self
  · rename_i h0
    unfold one
    split
    · rename_i h; obtain ⟨x, e⟩ := len1 h; rw [e]; exact (hf x (by rw [e]; exact List.mem_cons_self)).1
    · rename_i h1
      refine Ok.mk ?_ (fun p hp => (hf p hp).1)
      rcases hk with rfl | ⟨rfl, hk⟩
      · exact .inr (.inl ⟨rfl, rfl, h1, fun p hp => (hf p hp).2⟩)
      · refine .inr (.inr (.inl ⟨rfl, rfl, ?_, fun p hp => (hf p hp).2⟩))
        show 2 ≤ (flat 3 l).length
        have : (flat 3 l).length ≠ 0 := by
          cases l with
          | nil => exact absurd rfl hk
          | cons p l =>
            rw [flat, List.length_append]
            split
            · rename_i e
              rcases (hl p List.mem_cons_self).loc with h3 | h3 | h3 | h3 <;> omega
            · simp
        omega
def sgn (kd : Int) : T := if kd = 4 then [42] else if kd = 5 then [43] else [63]
def jn : List T → T
  | [] => []
  | t :: ts => t ++ tail ts
def wrp (kd q : Int) (t : T) : T := if q = 3 ∧ kd ≠ 3 ∨ q = 2 ∧ 4 ≤ kd then 40 :: t ++ [41] else t
def body (kd ty : Int) (ls : List T) : T := if kd = 1 then [(97 + ty).toNat.toUInt8] else if kd = 2 then ls.flatten else if kd = 3 then jn ls else ls.headD [] ++ sgn kd
def txl (kd : Int) : List S → List T
  | [] => []
  | p :: l => wrp kd p.f0 (body p.f0 p.f1 (txl p.f0 p.f2)) :: txl kd l
termination_by l => SizeOf.sizeOf l
decreasing_by all_goals (cases p; simp; omega)
def txt (x : S) : T := body x.f0 x.f1 (txl x.f0 x.f2)
theorem txl_eq (kd : Int) : ∀ l : List S, txl kd l = l.map fun p => wrp kd p.f0 (txt p)
  | [] => by rw [txl]; rfl
  | p :: l => by rw [txl, txl_eq kd l]; rfl
theorem txt_eq (x : S) : txt x = body x.f0 x.f1 (x.f2.map fun p => wrp x.f0 p.f0 (txt p)) := by rw [txt, txl_eq]
/-- how long a text is where it stands as an item -/
def pl (x : S) : Nat := (txt x).length + if x.f0 = 2 ∨ x.f0 = 3 then 2 else 0
def pls (l : List S) : Nat := (l.map pl).sum
theorem wrp_len (kd q : Int) (t : T) : (wrp kd q t).length ≤ t.length + if q = 2 ∨ q = 3 then 2 else 0 := by
  unfold wrp
  by_cases h : q = 3 ∧ kd ≠ 3 ∨ q = 2 ∧ 4 ≤ kd
  · rw [if_pos h, if_pos (by omega)]; simp
  · rw [if_neg h]; omega
theorem len_le_wrp (kd q : Int) (t : T) : t.length ≤ (wrp kd q t).length := by
  unfold wrp
  split
  · simp; omega
  · exact Nat.le_refl _
theorem tail_len (ts : List T) : (tail ts).length = (ts.map List.length).sum + ts.length := by
  induction ts with
  | nil => rfl
  | cons t ts ih => rw [tail, List.length_append, List.length_cons, ih, List.map_cons, List.sum_cons, List.length_cons]; omega
theorem jn_len {ts : List T} (h : ts ≠ []) : (jn ts).length + 1 = (ts.map List.length).sum + ts.length := by
  cases ts with
  | nil => exact absurd rfl h
  | cons t ts => rw [jn, List.length_append, tail_len, List.map_cons, List.sum_cons, List.length_cons]; omega
theorem flatten_len (ls : List T) : ls.flatten.length = (ls.map List.length).sum := List.length_flatten
theorem txt2 (t : Int) (l : List S) : txt ⟨2, t, l⟩ = (l.map fun p => wrp 2 p.f0 (txt p)).flatten := by
  rw [txt_eq]; rfl
theorem txt3 (t : Int) (l : List S) : txt ⟨3, t, l⟩ = jn (l.map fun p => wrp 3 p.f0 (txt p)) := by
  rw [txt_eq]; rfl
theorem wrp3 (q : Int) (t : T) : wrp 3 q t = t := by
  unfold wrp; rw [if_neg (by omega)]
theorem txt2_len (t : Int) (l : List S) : (txt ⟨2, t, l⟩).length = (l.map fun p => (wrp 2 p.f0 (txt p)).length).sum := by
  rw [txt2, flatten_len, List.map_map]; rfl
theorem txt3_len (t : Int) (l : List S) (h : l ≠ []) : (txt ⟨3, t, l⟩).length + 1 = (l.map fun p => (txt p).length + 1).sum := by
  rw [txt3, jn_len (by simpa using h), List.map_map, List.length_map]
  have e : (List.length ∘ fun p : S => wrp 3 p.f0 (txt p)) = fun p => (txt p).length := by funext p; simp [wrp3]
  rw [e]
  clear h e
  induction l with
  | nil => rfl
  | cons p l ih => rw [List.map_cons, List.map_cons, List.sum_cons, List.sum_cons, List.length_cons, ← ih]; omega
theorem pls_app (a b : List S) : pls (a ++ b) = pls a + pls b := by
  unfold pls; rw [List.map_append, List.sum_append]
theorem pls_cons (p : S) (l : List S) : pls (p :: l) = pl p + pls l := rfl
/-- the text of a sequence that is put together -/
theorem flat2_len : ∀ {l : List S}, (∀ p ∈ l, Ok p) → ((flat 2 l).map fun p => (wrp 2 p.f0 (txt p)).length).sum ≤ pls l
  | [], _ => Nat.le_refl _
  | p :: l, h => by
    have ih := flat2_len (fun q hq => h q (List.mem_cons_of_mem _ hq))
    rw [flat, List.map_append, List.sum_append, pls_cons]
    by_cases e : p.f0 = 2
    · rw [if_pos e]
      obtain ⟨k, t, ps⟩ := p
      obtain rfl : k = 2 := e
      have h1 := txt2_len t ps
      have h2 : pl ⟨2, t, ps⟩ = (txt ⟨2, t, ps⟩).length + 2 := rfl
      show (List.map _ ps).sum + _ ≤ _
      omega
    · rw [if_neg e]
      have h1 := wrp_len 2 p.f0 (txt p)
      have h2 : pl p = (txt p).length + if p.f0 = 2 ∨ p.f0 = 3 then 2 else 0 := rfl
      rw [List.map_cons, List.map_nil, List.sum_cons, List.sum_nil]
      omega
theorem tog2_len {l : List S} (h : ∀ p ∈ l, Ok p) : (txt (tog 2 l)).length ≤ pls l := by
  have h0 := flat2_len h
  unfold tog
  split
  · rename_i e; obtain ⟨x, rfl⟩ := len1 e
    rw [rdT_zero, pls_cons]
    have h2 : pl x = (txt x).length + if x.f0 = 2 ∨ x.f0 = 3 then 2 else 0 := rfl
    omega
  · unfold one
    split
    · rename_i e; obtain ⟨x, e⟩ := len1 e
      rw [e] at h0 ⊢
      rw [rdT_zero]
      rw [List.map_cons, List.map_nil, List.sum_cons, List.sum_nil] at h0
      have := len_le_wrp 2 x.f0 (txt x)
      omega
    · rw [txt2_len]; exact h0
def alen (l : List S) : Nat := (l.map fun p => (txt p).length + 1).sum
theorem alen_cons (p : S) (l : List S) : alen (p :: l) = (txt p).length + 1 + alen l := rfl
theorem alen_app (a b : List S) : alen (a ++ b) = alen a + alen b := by unfold alen; rw [List.map_append, List.sum_append]
theorem flat3_len : ∀ {l : List S}, (∀ p ∈ l, Ok p) → alen (flat 3 l) ≤ alen l
  | [], _ => Nat.le_refl _
  | p :: l, h => by
    have ih := flat3_len (fun q hq => h q (List.mem_cons_of_mem _ hq))
    rw [flat, alen_app, alen_cons]
    by_cases e : p.f0 = 3
    · rw [if_pos e]
      have hl := (h p List.mem_cons_self).loc
      obtain ⟨k, t, ps⟩ := p
      obtain rfl : k = 3 := e
      have hne : ps ≠ [] := by
        rintro rfl
        rcases hl with h3 | h3 | h3 | h3
        · exact absurd h3.1 (by simp)
        · exact absurd h3.1 (by simp)
        · have := h3.2.2.1; simp at this
        · obtain ⟨q, hq⟩ := h3.2.2.2; cases hq
      have h1 := txt3_len t ps hne
      show alen ps + _ ≤ _
      unfold alen at ih ⊢
      omega
    · rw [if_neg e, alen_cons]
      show _ + 0 + _ ≤ _
      omega
theorem tog3_len {l : List S} (h : ∀ p ∈ l, Ok p) (hne : l ≠ []) : (txt (tog 3 l)).length + 1 ≤ alen l := by
  have h0 := flat3_len h
  have hok := tog_ok (kd := 3) h (.inr ⟨rfl, hne⟩)
  unfold tog at hok ⊢
  split
  · rename_i e; obtain ⟨x, rfl⟩ := len1 e
    rw [rdT_zero, alen_cons]; omega
  · rename_i e1
    rw [if_neg e1] at hok
    unfold one at hok ⊢
    split
    · rename_i e; obtain ⟨x, e⟩ := len1 e
      rw [e] at h0 ⊢
      rw [rdT_zero]
      rw [alen_cons] at h0
      omega
    · rename_i e2
      rw [if_neg e2] at hok
      have hne2 : flat 3 l ≠ [] := by
        intro h3
        rw [h3] at hok
        rcases hok.loc with h3 | h3 | h3 | h3
        · exact absurd h3.1 (by simp)
        · exact absurd h3.1 (by simp)
        · have := h3.2.2.1; simp at this
        · obtain ⟨q, hq⟩ := h3.2.2.2; cases hq
      rw [txt3_len _ _ hne2]; exact h0
theorem sgn_sign {c : UInt8} {j : Int} (h : expr_Parse.sign c = some j) : 0 ≤ j ∧ j ≤ 2 := by
  unfold expr_Parse.sign at h
  repeat' split at h
  all_goals cases h
  all_goals omega
theorem sgn_len (kd : Int) : (sgn kd).length = 1 := by unfold sgn; repeat' split
                                                       all_goals rfl
theorem star_ok {x : S} (h : Ok x) {j : Int} (hj : 0 ≤ j ∧ j ≤ 2) : Ok ⟨4 + j, 0, [x]⟩ ∧ pl ⟨4 + j, 0, [x]⟩ ≤ pl x + 1 := by
  refine ⟨Ok.mk (.inr (.inr (.inr ⟨?_, ?_, rfl, x, rfl⟩))) (fun p hp => ?_), ?_⟩
  · show 4 ≤ 4 + j; omega
  · show 4 + j ≤ 6; omega
  · obtain rfl : p = x := by simpa using hp
    exact h
  · have h1 : pl ⟨4 + j, 0, [x]⟩ = (txt ⟨4 + j, 0, [x]⟩).length + if 4 + j = 2 ∨ 4 + j = 3 then 2 else 0 := rfl
    have h2 : pl x = (txt x).length + if x.f0 = 2 ∨ x.f0 = 3 then 2 else 0 := rfl
    have h3 := wrp_len (4 + j) x.f0 (txt x)
    have h4 : txt ⟨4 + j, 0, [x]⟩ = wrp (4 + j) x.f0 (txt x) ++ sgn (4 + j) := by
      rw [txt_eq]
      unfold body
      rw [if_neg (by show ¬ 4 + j = 1; omega), if_neg (by show ¬ 4 + j = 2; omega), if_neg (by show ¬ 4 + j = 3; omega)]
      rfl
    have h5 := sgn_len (4 + j)
    rw [h1, h4, if_neg (by omega), List.length_append]
    omega
end Go.Proofs.Ytjmhihadgpdiaaa.Expr
end
section
namespace Go.Proofs.Ytjmhihadgpdiaaa.Expr
open Go.RowKit Go.Proofs.Ytjmhihadgpdiaaa.X Go.Proofs.YtjmhihadgpdiaaaW.PrintWords Go.Proofs.YtjmhihadgpdiaaaW.PrintLast Go.Proofs.Ytjmhihadgpdiaaa.Base
set_option linter.unusedVariables false
set_option linter.unusedSimpArgs false
def BQ (t : T) (x : S) : Prop := BP t x ∧ Ok x ∧ pl x ≤ t.length
def SQ (t : T) (xs : List S) : Prop := SP t xs ∧ (∀ p ∈ xs, Ok p) ∧ pls xs ≤ t.length
def QQ (t : T) (y : S) : Prop := QP t y ∧ Ok y ∧ (txt y).length ≤ t.length
def AQ (t : T) (y : S) : Prop := AP t y ∧ Ok y ∧ (txt y).length ≤ t.length
theorem BQ.letter (c : UInt8) (h : 97 ≤ c.toNat ∧ c.toNat ≤ 104) : BQ [c] ⟨1, (c.toNat : Int) - 97, []⟩ :=
  ⟨BP.letter c h, Ok.mk (.inl ⟨rfl, rfl, by show 0 ≤ (c.toNat : Int) - 97; omega, by show (c.toNat : Int) - 97 < 8; omega⟩) (fun p hp => by cases hp), by unfold pl; rw [txt_eq]; simp [body]⟩
theorem BQ.sign {t : T} {x : S} {c : UInt8} {j : Int} (h : BQ t x) (hc : expr_Parse.sign c = some j) : BQ (t ++ [c]) ⟨4 + j, 0, [x]⟩ := by
  obtain ⟨h1, h2⟩ := star_ok h.2.1 (sgn_sign hc)
  have := h.2.2
  exact ⟨h.1.sign hc, h1, by rw [List.length_append, List.length_singleton]; omega⟩
theorem BQ.paren {t : T} {x : S} (h : AQ t x) : BQ (40 :: t ++ [41]) x := by
  have := h.2.2
  refine ⟨BP.paren h.1, h.2.1, ?_⟩
  rw [List.cons_append, List.length_cons, List.length_append, List.length_singleton]
  unfold pl
  split <;> omega
theorem BQ.sq {t : T} {x : S} (h : BQ t x) : SQ t [x] := by
  refine ⟨h.1.sp, fun p hp => ?_, h.2.2⟩
  obtain rfl : p = x := List.mem_singleton.1 hp
  exact h.2.1
theorem SQ.nil : SQ [] [] := ⟨SP.nil, fun p hp => (by cases hp), Nat.le_refl _⟩
theorem SQ.app {a b : T} {xs ys : List S} (h : SQ a xs) (g : SQ b ys) : SQ (a ++ b) (xs ++ ys) := by
  refine ⟨h.1.app g.1, fun p hp => (List.mem_append.1 hp).elim (h.2.1 p) (g.2.1 p), ?_⟩
  have := h.2.2
  have := g.2.2
  rw [pls_app, List.length_append]; omega
theorem SQ.qq {t : T} {xs : List S} (h : SQ t xs) : QQ t (tog 2 xs) := ⟨h.1.qp, tog_ok h.2.1 (.inl rfl), Nat.le_trans (tog2_len h.2.1) h.2.2⟩
inductive QQs : List T → List S → Prop
  | nil : QQs [] []
  | cons {t y ts ys} : QQ t y → QQs ts ys → QQs (t :: ts) (y :: ys)
theorem QQs.qs {ts : List T} {ys : List S} (h : QQs ts ys) : QS ts ys ∧ (∀ p ∈ ys, Ok p) ∧ alen ys ≤ (tail ts).length := by
  induction h with
  | nil => exact ⟨QS.nil, fun p hp => (by cases hp), Nat.le_refl _⟩
  | cons h _ ih =>
    refine ⟨QS.cons h.1 ih.1, fun p hp => ?_, ?_⟩
    · rcases List.mem_cons.1 hp with rfl | hp
      · exact h.2.1
      · exact ih.2.1 p hp
    · have := ih.2.2
      have := h.2.2
      rw [alen_cons, tail, List.length_append, List.length_cons]; omega
theorem AQ.list {t : T} {y : S} {ts : List T} {ys : List S} (h : QQ t y) (hs : QQs ts ys) : AQ (t ++ tail ts) (tog 3 (y :: ys)) := by
  obtain ⟨h1, h2, h3⟩ := hs.qs
  have h4 : ∀ p ∈ y :: ys, Ok p := fun p hp => by
    rcases List.mem_cons.1 hp with rfl | hp
    · exact h.2.1
    · exact h2 p hp
  refine ⟨AP.list h.1 h1, tog_ok h4 (.inr ⟨rfl, by simp⟩), ?_⟩
  have h5 := tog3_len h4 (by simp)
  have h6 := h.2.2
  rw [alen_cons] at h5
  rw [List.length_append]; omega
theorem QQ.aq {t : T} {y : S} (h : QQ t y) : AQ t y := by
  have := AQ.list h QQs.nil
  rw [tail, List.append_nil] at this
  exact this
theorem AQ.two {t u : T} {y z : S} (h : QQ t y) (g : QQ u z) : AQ (t ++ 124 :: u) (tog 3 [y, z]) := by
  have := AQ.list h (QQs.cons g QQs.nil)
  rw [tail, tail, List.append_nil] at this
  exact this
theorem SP.list (f : S → T) : ∀ {l : List S}, (∀ p ∈ l, BP (f p) p) → SP (l.map f).flatten l
  | [], _ => SP.nil
  | p :: l, h => by
    rw [List.map_cons, List.flatten_cons]
    exact (h p List.mem_cons_self).sp.app (SP.list f (fun q hq => h q (List.mem_cons_of_mem _ hq)))
theorem QS.list (f : S → T) : ∀ {l : List S}, (∀ p ∈ l, QP (f p) p) → QS (l.map f) l
  | [], _ => QS.nil
  | p :: l, h => QS.cons (h p List.mem_cons_self) (QS.list f (fun q hq => h q (List.mem_cons_of_mem _ hq)))
theorem Ev.shift {α : Type} {g : Nat → Option α} {r : α} (n : Nat) (h : Ev (fun k => g (k + n)) r) : Ev g r := by
  obtain ⟨K, hK⟩ := h
  refine ⟨K + n, fun k hk => ?_⟩
  have := hK (k - n) (by omega)
  rw [show k = k - n + n by omega]; exact this
theorem fault_loc {x : S} (h : Loc x) (k : Nat) : expr_fault.f (k + 8) x.f0 x.f1 x.f2 = expr_fault.l0 k x.f2 (x.f2.length : Int) 0 := by
  obtain ⟨kd, t, ps⟩ := x
  rcases h with ⟨h1, h2, h3, h4⟩ | ⟨h1, h2, h3, h4⟩ | ⟨h1, h2, h3, h4⟩ | ⟨h1, h2, h3, p, h4⟩
  · replace h1 : kd = 1 := h1
    replace h2 : ps = [] := h2
    replace h3 : 0 ≤ t := h3
    replace h4 : t < 8 := h4
    subst h1 h2
    have a1 : ¬ t < 0 := by omega
    have a2 : ¬ 8 ≤ t := by omega
    simp [expr_fault.f, expr_fault.j0, expr_fault.j1, expr_fault.j2, expr_fault.j3, expr_fault.j4, expr_fault.j5, expr_fault.j6, a1, a2]
  · replace h1 : kd = 2 := h1
    replace h2 : t = 0 := h2
    replace h3 : ps.length ≠ 1 := h3
    replace h4 : ∀ p ∈ ps, p.f0 ≠ 2 := h4
    subst h1 h2
    have a1 : ((ps.length : Int) == 1) = false := by simpa using fun h => h3 (by omega)
    have a2 : (ps.any fun x => x.f0 == 2) = false := by simpa using h4
    simp [expr_fault.f, expr_fault.j0, expr_fault.j1, expr_fault.j2, expr_fault.j3, expr_fault.j4, expr_fault.j5, expr_fault.j6, cf_exprFault.f, a1, a2]
  · replace h1 : kd = 3 := h1
    replace h2 : t = 0 := h2
    replace h3 : 2 ≤ ps.length := h3
    replace h4 : ∀ p ∈ ps, p.f0 ≠ 3 := h4
    subst h1 h2
    have a1 : ((ps.length : Int) == 1) = false := by simpa using fun h => (by omega : False)
    have a0 : ¬ (ps.length : Int) = 0 := by omega
    have a3 : ps ≠ [] := by rintro rfl; simp at h3
    have a2 : (ps.any fun x => x.f0 == 3) = false := by simpa using h4
    simp [expr_fault.f, expr_fault.j0, expr_fault.j1, expr_fault.j2, expr_fault.j3, expr_fault.j4, expr_fault.j5, expr_fault.j6, cf_exprFault.f, a1, a2, a3]
  · replace h1 : 4 ≤ kd := h1
    replace h2 : kd ≤ 6 := h2
    replace h3 : t = 0 := h3
    replace h4 : ps = [p] := h4
    subst h3 h4
    obtain rfl | rfl | rfl : kd = 4 ∨ kd = 5 ∨ kd = 6 := by omega
    all_goals simp [expr_fault.f, expr_fault.j0, expr_fault.j1, expr_fault.j2, expr_fault.j3, expr_fault.j4, expr_fault.j5, expr_fault.j6, cf_exprFault.f]
theorem fault_l0 (ps : List S) (hl : ps.length < 1000000) (hp : ∀ p ∈ ps, Ev (fun k => expr_fault.f k p.f0 p.f1 p.f2) 0) : ∀ (d i : Nat), ps.length - i = d → i ≤ ps.length → Ev (fun k => expr_fault.l0 k ps (ps.length : Int) (i : Int)) 0 := by
  intro d
  induction d with
  | zero =>
    intro i hd hi
    exact Ev.one (f := fun k => _) (fun k => by rw [expr_fault.l0]) (Ev.ite_neg (by omega) (Ev.some _))
  | succ d ih =>
    intro i hd hi
    have hlt : i < ps.length := by omega
    have hw : wrap64 ((i : Int) + 1) = ((i + 1 : Nat) : Int) := wrap_succ hlt (by omega)
    refine Ev.one (f := fun k => _) (fun k => by rw [expr_fault.l0, hw, rdT_at ps i hlt]) ?_
    exact Ev.ite_pos (by omega) (Ev.ite_pos (by omega) (Ev.ite_pos (by omega) (Ev.bnd (hp ps[i] (List.getElem_mem hlt)) (Ev.ite_pos rfl (ih (i + 1) (by omega) (by omega))))))
theorem fault_ev {x : S} (h : Ok x) : tl x.f2 < 1000000 → Ev (fun k => expr_fault.f k x.f0 x.f1 x.f2) 0 := by
  induction h with
  | @mk x hl hp ih =>
  intro ht
  have h1 := tl_len' x.f2
  refine Ev.shift 8 (Ev.eqv (fun k => fault_loc hl k) ?_)
  exact fault_l0 x.f2 (by omega) (fun p hpm => ih p hpm (by have := tl_mem' hpm; omega)) x.f2.length 0 (by omega) (by omega)
where
  tl_len' : ∀ l : List S, l.length ≤ tl l := tl_len
  tl_mem' {p : S} : ∀ {l : List S}, p ∈ l → 1 + tl p.f2 ≤ tl l
  | q :: l, h => by
    rw [tl_cons]
    rcases List.mem_cons.1 h with rfl | h
    · omega
    · have := tl_mem' h; omega
end Go.Proofs.Ytjmhihadgpdiaaa.Expr
end
section
namespace Go.Proofs.Ytjmhihadgpdiaaa.Expr
open Go.RowKit Go.Proofs.Ytjmhihadgpdiaaa.X Go.Proofs.YtjmhihadgpdiaaaW.PrintWords Go.Proofs.YtjmhihadgpdiaaaW.PrintLast Go.Proofs.Ytjmhihadgpdiaaa.Base
set_option linter.unusedVariables false
set_option linter.unusedSimpArgs false
abbrev B (l : T) : ByteArray := expr_Parse.B l
theorem B_len (l : T) : (B l).size = l.length := rfl
theorem B_data (l : T) : (B l).data.toList = l := rfl
theorem B_app (a b : T) : B a ++ B b = B (a ++ b) := by
  apply ByteArray.ext
  rw [ByteArray.data_append]
  simp [B, expr_Parse.B]
theorem part_len {x : S} (h : Ok x) {p : S} (hp : p ∈ x.f2) : (wrp x.f0 p.f0 (txt p)).length ≤ (txt x).length := by
  have mem : ∀ (f : S → T) (l : List S), p ∈ l → (f p).length ≤ (l.map f).flatten.length := by
    intro f l
    induction l with
    | nil => intro h; cases h
    | cons q l ih =>
      intro h
      rw [List.map_cons, List.flatten_cons, List.length_append]
      rcases List.mem_cons.1 h with rfl | h
      · omega
      · have := ih h; omega
  have memt : ∀ (f : S → T) (l : List S), p ∈ l → (f p).length ≤ (tail (l.map f)).length := by
    intro f l
    induction l with
    | nil => intro h; cases h
    | cons q l ih =>
      intro h
      rw [List.map_cons, tail, List.length_append, List.length_cons]
      rcases List.mem_cons.1 h with rfl | h
      · omega
      · have := ih h; omega
  obtain ⟨kd, t, ps⟩ := x
  rcases h.loc with ⟨h1, h2, h3, h4⟩ | ⟨h1, h2, h3, h4⟩ | ⟨h1, h2, h3, h4⟩ | ⟨h1, h2, h3, q, h4⟩
  · replace h2 : ps = [] := h2
    subst h2; cases hp
  · replace h1 : kd = 2 := h1
    subst h1
    rw [txt2]
    exact mem (fun p => wrp 2 p.f0 (txt p)) ps hp
  · replace h1 : kd = 3 := h1
    subst h1
    rw [txt3]
    show (wrp 3 p.f0 (txt p)).length ≤ _
    match ps, hp with
    | q :: l, hp =>
      rw [List.map_cons, jn, List.length_append]
      rcases List.mem_cons.1 hp with rfl | hp
      · omega
      · have : (wrp 3 p.f0 (txt p)).length ≤ _ := memt (fun p => wrp 3 p.f0 (txt p)) l hp
        omega
  · replace h1 : 4 ≤ kd := h1
    replace h4 : ps = [q] := h4
    subst h4
    obtain rfl : p = q := List.mem_singleton.1 hp
    rw [txt_eq ⟨kd, t, [p]⟩]
    unfold body
    rw [if_neg (by show ¬ kd = 1; omega), if_neg (by show ¬ kd = 2; omega), if_neg (by show ¬ kd = 3; omega)]
    show _ ≤ (wrp kd p.f0 (txt p) ++ sgn kd).length
    rw [List.length_append]; show (wrp kd p.f0 (txt p)).length ≤ _; omega
theorem join0 (ls : List T) : Lib.join ls [] = ls.flatten := by
  unfold Lib.join
  induction ls with
  | nil => rfl
  | cons t ls ih =>
    cases ls with
    | nil => simp [List.intercalate]
    | cons u ls => simp [List.intercalate] at ih ⊢; exact ih
theorem join1 (ls : List T) : Lib.join ls [124] = jn ls := by
  unfold Lib.join
  cases ls with
  | nil => rfl
  | cons t ls =>
    rw [jn]
    induction ls generalizing t with
    | nil => simp [List.intercalate, tail]
    | cons u ls ih =>
      have := ih u
      rw [tail]
      simp [List.intercalate] at this ⊢
      rw [this]
theorem join_f (ls : List T) (sep : T) (h1 : ls.length ≤ 1000000000) (h2 : (Lib.join ls sep).length ≤ 1000000000) : strings_Join.f (ls.map B) (B sep) = some (B (Lib.join ls sep)) := by
  have e : (ls.map B).map (·.data.toList) = ls := by
    rw [List.map_map]
    have : ((fun (x : ByteArray) => x.data.toList) ∘ B) = id := by funext l; rfl
    rw [this, List.map_id]
  unfold strings_Join.f
  rw [e, B_data, List.length_map, if_pos ⟨h1, h2⟩]
  rfl
/-- what stands when all parts' texts are there -/
theorem text_end {x : S} (h : Ok x) (hl : (txt x).length < 1000000) (ht : x.f2.length < 1000000) : Ev (fun k => expr_text.l0 k ((x.f2.map fun p => wrp x.f0 p.f0 (txt p)).map B) x.f2 (x.f2.length : Int) (x.f2.length : Int) x.f0 x.f1 x.f2) (B (txt x)) := by
  obtain ⟨kd, t, ps⟩ := x
  refine Ev.one (f := fun k => _) (fun k => by rw [expr_text.l0]) ?_
  refine Ev.ite_neg (by omega) ?_
  rcases h.loc with ⟨h1, h2, h3, h4⟩ | ⟨h1, h2, h3, h4⟩ | ⟨h1, h2, h3, h4⟩ | ⟨h1, h2, h3, p, h4⟩
  · replace h1 : kd = 1 := h1
    replace h2 : ps = [] := h2
    replace h3 : 0 ≤ t := h3
    replace h4 : t < 8 := h4
    subst h1 h2
    have hw : wrap64 (t + 1) = t + 1 := wrap_id (by omega) (by omega)
    refine Ev.ite_pos rfl (Ev.ite_pos h3 ?_)
    show Ev (fun k => if t ≤ wrap64 (t + 1) then (if wrap64 (t + 1) ≤ 8 then some (ByteArray.extract _ t.toNat (wrap64 (t + 1)).toNat) else none) else none) _
    rw [hw]
    refine Ev.ite_pos (by omega) (Ev.ite_pos (by omega) ?_)
    have e : (⟨#[97, 98, 99, 100, 101, 102, 103, 104]⟩ : ByteArray).extract t.toNat (t + 1).toNat = B (txt ⟨1, t, []⟩) := by
      rw [txt_eq]
      obtain rfl | rfl | rfl | rfl | rfl | rfl | rfl | rfl : t = 0 ∨ t = 1 ∨ t = 2 ∨ t = 3 ∨ t = 4 ∨ t = 5 ∨ t = 6 ∨ t = 7 := by omega
      all_goals decide +kernel
    rw [e]; exact Ev.some _
  · replace h1 : kd = 2 := h1
    subst h1
    have h5 := join_f (ps.map fun p => wrp 2 p.f0 (txt p)) [] (by rw [List.length_map]; exact Nat.le_trans (Nat.le_of_lt ht) (by omega)) (by rw [join0, ← txt2 t]; omega)
    rw [join0, ← txt2 t] at h5
    exact Ev.ite_neg (by simp) (Ev.ite_pos rfl (Ev.bnd0 h5 (Ev.some _)))
  · replace h1 : kd = 3 := h1
    subst h1
    have h5 := join_f (ps.map fun p => wrp 3 p.f0 (txt p)) [124] (by rw [List.length_map]; exact Nat.le_trans (Nat.le_of_lt ht) (by omega)) (by rw [join1, ← txt3 t]; omega)
    rw [join1, ← txt3 t] at h5
    exact Ev.ite_neg (by simp) (Ev.ite_neg (by simp) (Ev.ite_pos rfl (Ev.bnd0 h5 (Ev.some _))))
  · replace h1 : 4 ≤ kd := h1
    replace h2 : kd ≤ 6 := h2
    replace h4 : ps = [p] := h4
    subst h4
    refine Ev.ite_neg (by show ¬ kd = 1; omega) (Ev.ite_neg (by show ¬ kd = 2; omega) (Ev.ite_neg (by show ¬ kd = 3; omega) (Ev.ite_pos (by simp) ?_)))
    have e : txt ⟨kd, t, [p]⟩ = wrp kd p.f0 (txt p) ++ sgn kd := by
      rw [txt_eq]
      unfold body
      rw [if_neg (by show ¬ kd = 1; omega), if_neg (by show ¬ kd = 2; omega), if_neg (by show ¬ kd = 3; omega)]
      rfl
    have e2 : (wrp kd p.f0 (txt p)).length + 1 < 1000000 := by rw [e, List.length_append, sgn_len] at hl; exact hl
    rw [e, ← B_app]
    have hr : rdOf ByteArray.empty ((([p] : List S).map fun q => wrp kd q.f0 (txt q)).map B) 0 = B (wrp kd p.f0 (txt p)) := rfl
    show Ev (fun k => if 0 ≤ wrap64 (kd - 4) then (if wrap64 (kd - 4) ≤ wrap64 (wrap64 (kd - 4) + 1) then (if wrap64 (wrap64 (kd - 4) + 1) ≤ 3 then (if (rdOf ByteArray.empty ((([p] : List S).map fun q => wrp kd q.f0 (txt q)).map B) 0).size + (ByteArray.extract _ (wrap64 (kd - 4)).toNat (wrap64 (wrap64 (kd - 4) + 1)).toNat).size ≤ 9223372036854775807 then some (rdOf ByteArray.empty ((([p] : List S).map fun q => wrp kd q.f0 (txt q)).map B) 0 ++ ByteArray.extract _ (wrap64 (kd - 4)).toNat (wrap64 (wrap64 (kd - 4) + 1)).toNat) else none) else none) else none) else none) _
    rw [hr, wrap_id (i := kd - 4) (by omega) (by omega), wrap_id (i := kd - 4 + 1) (by omega) (by omega)]
    have e3 : (⟨#[42, 43, 63]⟩ : ByteArray).extract (kd - 4).toNat (kd - 4 + 1).toNat = B (sgn kd) := by
      obtain rfl | rfl | rfl : kd = 4 ∨ kd = 5 ∨ kd = 6 := by omega
      all_goals decide +kernel
    rw [e3]
    refine Ev.ite_pos (by omega) (Ev.ite_pos (by omega) (Ev.ite_pos (by omega) (Ev.ite_pos ?_ (Ev.some _))))
    rw [B_len, B_len, sgn_len]; omega
theorem text_ev {x : S} (h : Ok x) : tl x.f2 < 1000000 → (txt x).length < 1000000 → Ev (fun k => expr_text.f k x.f0 x.f1 x.f2) (B (txt x)) := by
  have h0 := h
  induction h with
  | @mk x hl hp ih =>
  intro ht hlen
  have h1 := tl_len x.f2
  have hend := text_end h0 hlen (by omega)
  have hparts : ∀ p ∈ x.f2, Ev (fun k => expr_text.f k p.f0 p.f1 p.f2) (B (txt p)) ∧ (wrp x.f0 p.f0 (txt p)).length < 1000000 ∧ (txt p).length ≤ (wrp x.f0 p.f0 (txt p)).length := by
    intro p hpm
    have h2 := part_len h0 hpm
    have h3 := len_le_wrp x.f0 p.f0 (txt p)
    have h4 := mem_tl hpm
    exact ⟨ih p hpm (hp p hpm) (by omega) (by omega), by omega, h3⟩
  clear ih
  have loop : ∀ (d i : Nat), x.f2.length - i = d → i ≤ x.f2.length → Ev (fun k => expr_text.l0 k (((x.f2.map fun p => wrp x.f0 p.f0 (txt p)).map B).take i) x.f2 (x.f2.length : Int) (i : Int) x.f0 x.f1 x.f2) (B (txt x)) := by
    intro d
    induction d with
    | zero =>
      intro i hd hi
      obtain rfl : i = x.f2.length := by omega
      rw [List.take_of_length_le (by simp)]
      exact hend
    | succ d ihd =>
      intro i hd hi
      have hlt : i < x.f2.length := by omega
      have hw : wrap64 ((i : Int) + 1) = ((i + 1 : Nat) : Int) := wrap_succ hlt (by omega)
      obtain ⟨hev, hb1, hb2⟩ := hparts x.f2[i] (List.getElem_mem hlt)
      have hnext := ihd (i + 1) (by omega) (by omega)
      rw [List.take_succ_eq_append_getElem (by simpa using hlt)] at hnext
      have e : ((x.f2.map fun p => wrp x.f0 p.f0 (txt p)).map B)[i]'(by simpa using hlt) = B (wrp x.f0 x.f2[i].f0 (txt x.f2[i])) := by simp
      rw [e] at hnext
      generalize hacc : ((x.f2.map fun p => wrp x.f0 p.f0 (txt p)).map B).take i = acc at hnext ⊢
      have hal : acc.length < 1000000 := by rw [← hacc]; simp; omega
      refine Ev.one (f := fun k => _) (fun k => by rw [expr_text.l0, hw, rdT_at x.f2 i hlt]) ?_
      refine Ev.ite_pos (by omega) (Ev.ite_pos (by omega) (Ev.ite_pos (by omega) (Ev.bnd hev ?_)))
      generalize hp' : x.f2[i] = p at hnext hb1 hb2 ⊢
      have plain : ¬ (p.f0 = 3 ∧ x.f0 ≠ 3 ∨ p.f0 = 2 ∧ 4 ≤ x.f0) → Ev (fun k => if acc.length < 8796093022208 then expr_text.l0 k (acc ++ [B (txt p)]) x.f2 (x.f2.length : Int) ((i + 1 : Nat) : Int) x.f0 x.f1 x.f2 else none) (B (txt x)) := by
        intro hn
        refine Ev.ite_pos (by omega) ?_
        unfold wrp at hnext
        rw [if_neg hn] at hnext
        exact hnext
      have paren : (p.f0 = 3 ∧ x.f0 ≠ 3 ∨ p.f0 = 2 ∧ 4 ≤ x.f0) → Ev (fun k => if 1 + (B (txt p)).size ≤ 9223372036854775807 then (if ((⟨#[40]⟩ : ByteArray) ++ B (txt p)).size + 1 ≤ 9223372036854775807 then (if acc.length < 8796093022208 then expr_text.l0 k (acc ++ [((⟨#[40]⟩ : ByteArray) ++ B (txt p)) ++ (⟨#[41]⟩ : ByteArray)]) x.f2 (x.f2.length : Int) ((i + 1 : Nat) : Int) x.f0 x.f1 x.f2 else none) else none) else none) (B (txt x)) := by
        intro hn
        have e1 : (⟨#[40]⟩ : ByteArray) ++ B (txt p) = B (40 :: txt p) := B_app [40] (txt p)
        have e2 : B (40 :: txt p) ++ (⟨#[41]⟩ : ByteArray) = B (40 :: txt p ++ [41]) := B_app (40 :: txt p) [41]
        rw [e1, e2]
        refine Ev.ite_pos (by rw [B_len]; omega) (Ev.ite_pos (by rw [B_len, List.length_cons]; omega) (Ev.ite_pos (by omega) ?_))
        unfold wrp at hnext
        rw [if_pos hn] at hnext
        exact hnext
      by_cases c1 : p.f0 = 3
      · refine Ev.ite_pos c1 ?_
        by_cases c2 : x.f0 = 3
        · refine Ev.ite_pos c2 (Ev.ite_neg (by omega) ?_)
          exact plain (by omega)
        · exact Ev.ite_neg c2 (paren (.inl ⟨c1, c2⟩))
      · refine Ev.ite_neg c1 ?_
        by_cases c3 : p.f0 = 2
        · refine Ev.ite_pos c3 ?_
          by_cases c4 : x.f0 ≥ 4
          · exact Ev.ite_pos c4 (paren (.inr ⟨c3, c4⟩))
          · exact Ev.ite_neg c4 (plain (by omega))
        · exact Ev.ite_neg c3 (plain (by omega))
  refine Ev.one (f := fun k => _) (fun k => by rw [expr_text.f]) ?_
  exact loop x.f2.length 0 (by omega) (by omega)
where
  mem_tl {p : S} : ∀ {l : List S}, p ∈ l → 1 + tl p.f2 ≤ tl l
  | q :: l, h => by
    rw [tl_cons]
    rcases List.mem_cons.1 h with rfl | h
    · omega
    · have := mem_tl h; omega
theorem check_ev {x : S} (h : Ok x) (ht : tl x.f2 < 1000000) (hl : (txt x).length ≤ 40) : Ev (fun k => expr_Check.f k x.f0 x.f1 x.f2) 0 := by
  unfold expr_Check.f
  refine Ev.bnd (fault_ev h ht) (Ev.ite_pos rfl (Ev.bnd (text_ev h ht (by omega)) (Ev.ite_neg ?_ (Ev.some _))))
  rw [B_len]; omega
/-- a text is parsed -/
theorem parse_ev {t : T} {x : S} (h : AP t x) (ho : Ok x) (hx : (txt x).length ≤ 40) (hl : t.length ≤ 40) : Ev (fun k => expr_Parse.f k (B t)) (x.f0, x.f1, x.f2, 0) := by
  unfold expr_Parse.f
  have h1 := h.1
  have h2 := h.all (by omega)
  refine Ev.ite_pos (by rw [B_len]; exact hl) ?_
  rw [B_data]
  exact Ev.bnd h2 (Ev.bnd (check_ev ho (show tl x.f2 < 1000000 by omega) hx) (Ev.ite_pos rfl (Ev.some _)))
end Go.Proofs.Ytjmhihadgpdiaaa.Expr
end
section
namespace Go.Proofs.Ytjmhihadgpdiaaa.Expr
open Go.RowKit Go.Proofs.Ytjmhihadgpdiaaa.X Go.Proofs.YtjmhihadgpdiaaaW.PrintWords Go.Proofs.YtjmhihadgpdiaaaW.PrintLast Go.Proofs.Ytjmhihadgpdiaaa.Base
set_option linter.unusedVariables false
set_option linter.unusedSimpArgs false
theorem pick_ev (xa : Int) (n : Int) (h0 : 0 < n) (hn : n ≤ 4294967296) : bobbinetkeep_Picked.f xa n = some (xa % n) := by
  unfold bobbinetkeep_Picked.f
  rw [if_neg (by omega), ← picked_eq xa n h0 hn]
  split <;> rfl
def renl (k : Int) : List S → List S
  | [] => []
  | p :: l => ⟨p.f0, if p.f0 = 1 then p.f1 + k else p.f1, renl k p.f2⟩ :: renl k l
termination_by l => SizeOf.sizeOf l
decreasing_by all_goals (cases p; simp; omega)
def ren (k : Int) (p : S) : S := ⟨p.f0, if p.f0 = 1 then p.f1 + k else p.f1, renl k p.f2⟩
theorem renl_eq (k : Int) : ∀ l : List S, renl k l = l.map (ren k)
  | [] => by rw [renl]; rfl
  | p :: l => by rw [renl, renl_eq k l]; rfl
theorem ren_eq (k : Int) (p : S) : ren k p = ⟨p.f0, if p.f0 = 1 then p.f1 + k else p.f1, p.f2.map (ren k)⟩ := by rw [ren, renl_eq]
theorem ren_f0 (k : Int) (p : S) : (ren k p).f0 = p.f0 := rfl
theorem renl_inv (k : Int) : ∀ l : List S, renl (-k) (renl k l) = l
  | [] => by rw [renl, renl]
  | p :: l => by
    have h1 := renl_inv k p.f2
    have h2 := renl_inv k l
    rw [renl, renl, h2]
    show (⟨p.f0, if p.f0 = 1 then (if p.f0 = 1 then p.f1 + k else p.f1) + -k else (if p.f0 = 1 then p.f1 + k else p.f1), renl (-k) (renl k p.f2)⟩ : S) :: l = p :: l
    rw [h1]
    have e : (if p.f0 = 1 then (if p.f0 = 1 then p.f1 + k else p.f1) + -k else (if p.f0 = 1 then p.f1 + k else p.f1)) = p.f1 := by
      split <;> omega
    rw [e, eta]
termination_by l => SizeOf.sizeOf l
decreasing_by all_goals (cases p; simp; omega)
theorem ren_inv (k : Int) (p : S) : ren (-k) (ren k p) = p := by
  have h := renl_inv k [p]
  rw [renl_eq, renl_eq] at h
  simpa using h
theorem M_ren (k : Int) {x : S} {w : W} (h : M x w) : M (ren k x) (w.map (· + k)) := by
  induction h with
  | one t l => rw [ren_eq]; exact M.one (t + k) _
  | seqn t => rw [ren_eq]; exact M.seqn _
  | seqc h1 h2 ih1 ih2 =>
    rw [ren_eq] at ih2 ⊢
    rw [List.map_append]
    exact M.seqc ih1 ih2
  | alt hp h ih => rw [ren_eq]; exact M.alt (List.mem_map_of_mem hp) ih
  | starn => rw [ren_eq]; exact M.starn
  | starc h1 h2 ih1 ih2 =>
    rw [ren_eq] at ih2 ⊢
    rw [List.map_append]
    exact M.starc ih1 ih2
  | plus h1 h2 ih1 ih2 =>
    rw [ren_eq] at ih2 ⊢
    rw [List.map_append]
    exact M.plus ih1 ih2
  | optn => rw [ren_eq]; exact M.optn
  | opts h ih => rw [ren_eq]; exact M.opts ih
theorem M_ren_iff (k : Int) {x : S} {w : W} : M (ren k x) (w.map (· + k)) ↔ M x w := by
  refine ⟨fun h => ?_, M_ren k⟩
  have h2 := M_ren (-k) h
  rw [ren_inv, List.map_map] at h2
  have e : ((fun x : Int => x + -k) ∘ fun x => x + k) = id := by funext x; show x + k + -k = x; omega
  rw [e, List.map_id] at h2
  exact h2
theorem rdT_map (f : S → S) (l : List S) (h : l.length = 1) : rd_T28 (l.map f) 0 = f (rd_T28 l 0) := by
  obtain ⟨x, rfl⟩ := len1 h; rfl
theorem flat_ren (k kd : Int) (l : List S) : flat kd (l.map (ren k)) = (flat kd l).map (ren k) := by
  induction l with
  | nil => rfl
  | cons p l ih =>
    rw [List.map_cons, flat, flat, List.map_append, ih, ren_f0]
    split
    · rw [ren_eq]
    · rfl
theorem tog_ren (k kd : Int) (h1 : kd ≠ 1) (l : List S) : tog kd (l.map (ren k)) = ren k (tog kd l) := by
  unfold tog
  rw [List.length_map]
  split
  · rename_i h; exact rdT_map _ _ h
  · unfold one
    rw [flat_ren, List.length_map]
    split
    · rename_i h; exact rdT_map _ _ h
    · rw [ren_eq, if_neg h1]
/-- a letter's other name -/
def rn (k : Nat) (c : UInt8) : UInt8 := if 97 ≤ c.toNat ∧ c.toNat ≤ 99 then c + k.toUInt8 else c
theorem rn_small (k : Nat) {c : UInt8} (h : c.toNat < 97 ∨ 99 < c.toNat) : rn k c = c := by unfold rn; rw [if_neg (by omega)]
theorem rn_nat {k : Nat} (hk : k ≤ 5) {c : UInt8} (h : 97 ≤ c.toNat ∧ c.toNat ≤ 99) : (rn k c).toNat = c.toNat + k := by
  unfold rn
  rw [if_pos h, UInt8.toNat_add, Nat.toUInt8, UInt8.toNat_ofNat']
  omega
/-- a text and its items, and those with other letters -/
def RQ (k : Nat) (s : T) (xs : List S) : Prop := SQ s xs ∧ SQ (s.map (rn k)) (xs.map (ren k))
def RB (k : Nat) (s : T) (x : S) : Prop := BQ s x ∧ BQ (s.map (rn k)) (ren k x)
theorem RQ.app {k : Nat} {a b : T} {xs ys : List S} (h : RQ k a xs) (g : RQ k b ys) : RQ k (a ++ b) (xs ++ ys) := by
  refine ⟨h.1.app g.1, ?_⟩
  rw [List.map_append, List.map_append]
  exact h.2.app g.2
theorem RB.rq {k : Nat} {s : T} {x : S} (h : RB k s x) : RQ k s [x] := ⟨h.1.sq, h.2.sq⟩
theorem RB.letter {k : Nat} (hk : k ≤ 5) (c : UInt8) (h : 97 ≤ c.toNat ∧ c.toNat ≤ 99) : RB k [c] ⟨1, (c.toNat : Int) - 97, []⟩ := by
  refine ⟨BQ.letter c (by omega), ?_⟩
  have h1 := rn_nat hk h
  have h2 := BQ.letter (rn k c) (by omega)
  rw [h1, show ((c.toNat + k : Nat) : Int) - 97 = (c.toNat : Int) - 97 + k by omega] at h2
  rw [ren_eq]
  exact h2
theorem sign_small {c : UInt8} {j : Int} (h : expr_Parse.sign c = some j) : c.toNat < 97 := by
  unfold expr_Parse.sign at h
  repeat' split at h
  all_goals cases h
  all_goals omega
theorem RB.sign {k : Nat} {s : T} {x : S} {c : UInt8} {j : Int} (h : RB k s x) (hc : expr_Parse.sign c = some j) : RB k (s ++ [c]) ⟨4 + j, 0, [x]⟩ := by
  refine ⟨h.1.sign hc, ?_⟩
  have h2 := h.2.sign hc
  rw [List.map_append, List.map_cons, List.map_nil, rn_small k (.inl (sign_small hc)), ren_eq, if_neg (by have := sgn_sign hc; show ¬ 4 + j = 1; omega)]
  exact h2
theorem RB.seq {k : Nat} {s : T} {xs : List S} (h : RQ k s xs) : RB k (40 :: s ++ [41]) (tog 2 xs) := by
  refine ⟨BQ.paren h.1.qq.aq, ?_⟩
  have h2 := BQ.paren h.2.qq.aq
  rw [tog_ren k 2 (by decide)] at h2
  rw [List.map_append, List.map_cons, List.map_cons, List.map_nil]
  exact h2
theorem RB.alt {k : Nat} {s u : T} {xs ys : List S} (h : RQ k s xs) (g : RQ k u ys) : RB k (40 :: (s ++ 124 :: u) ++ [41]) (tog 3 [tog 2 xs, tog 2 ys]) := by
  refine ⟨BQ.paren (AQ.two h.1.qq g.1.qq), ?_⟩
  have h2 := BQ.paren (AQ.two h.2.qq g.2.qq)
  have e : [tog 2 (xs.map (ren k)), tog 2 (ys.map (ren k))] = [tog 2 xs, tog 2 ys].map (ren k) := by
    rw [tog_ren k 2 (by decide), tog_ren k 2 (by decide)]; rfl
  rw [e, tog_ren k 3 (by decide)] at h2
  rw [List.map_append, List.map_cons, List.map_append, List.map_cons, List.map_cons, List.map_nil]
  exact h2
def bnd : Nat → Nat
  | 0 => 2
  | d + 1 => if d = 0 then 2 else 2 * bnd d + 4
def Gd (d : Nat) (s : T) : Prop := s.length ≤ bnd d ∧ s ≠ [] ∧ (∀ c ∈ s, c.toNat ≤ 99 ∨ c.toNat = 124) ∧ ∃ xs, ∀ k, k ≤ 5 → RQ k s xs
theorem letter_b {t : Int} (h : 0 ≤ t ∧ t < 3) : ((⟨#[97, 98, 99]⟩ : ByteArray).extract t.toNat (⟨#[97, 98, 99]⟩ : ByteArray).size).extract 0 1 = B [(97 + t).toNat.toUInt8] := by
  obtain rfl | rfl | rfl : t = 0 ∨ t = 1 ∨ t = 2 := by omega
  all_goals decide +kernel
theorem letter_n {t : Int} (h : 0 ≤ t ∧ t < 3) : ((97 + t).toNat.toUInt8).toNat = 97 + t.toNat := by
  rw [Nat.toUInt8, UInt8.toNat_ofNat']; omega
theorem Gd.of {d : Nat} {s : T} (h1 : s.length ≤ bnd d) (h2 : s ≠ []) (h3 : ∀ c ∈ s, c.toNat ≤ 99 ∨ c.toNat = 124) {xs : List S} (h4 : ∀ k, k ≤ 5 → RQ k s xs) : Gd d s := ⟨h1, h2, h3, xs, h4⟩
theorem atom_ev (d : Nat) (x0 : List Int) (a1 n t7 : Int) : ∃ s, Gd d s ∧ Ev (fun k => bobbinetkeep_ExprText.j1 k x0 a1 n t7 true) (B s, x0) := by
  have h1 := pick_ev (wrap64 (Int.tdiv n 9)) 3 (by decide) (by decide)
  have h2 := pick_ev (wrap64 (Int.tdiv n 27)) 4 (by decide) (by decide)
  have b1 : 0 ≤ wrap64 (Int.tdiv n 9) % 3 ∧ wrap64 (Int.tdiv n 9) % 3 < 3 := by omega
  have b2 : 0 ≤ wrap64 (Int.tdiv n 27) % 4 ∧ wrap64 (Int.tdiv n 27) % 4 < 4 := by omega
  generalize wrap64 (Int.tdiv n 9) % 3 = t at h1 b1
  generalize wrap64 (Int.tdiv n 27) % 4 = u at h2 b2
  have hlet := letter_b b1
  have hn := letter_n b1
  generalize hc : (97 + t).toNat.toUInt8 = c at hlet hn
  have base : ∀ k, k ≤ 5 → RB k [c] ⟨1, (c.toNat : Int) - 97, []⟩ := fun k hk => RB.letter hk c (by omega)
  have hsz : (1 : Int) ≤ (((⟨#[97, 98, 99]⟩ : ByteArray).extract t.toNat (⟨#[97, 98, 99]⟩ : ByteArray).size).size : Int) := by
    rw [ByteArray.size_extract, show (⟨#[97, 98, 99]⟩ : ByteArray).size = 3 from rfl]; omega
  have hd : 2 ≤ bnd d := by
    cases d with
    | zero => exact Nat.le_refl _
    | succ d => unfold bnd; split <;> omega
  have fin : ∀ v : T, v.length ≤ 1 → rdOf ByteArray.empty ([(⟨#[]⟩ : ByteArray), (⟨#[]⟩ : ByteArray), (⟨#[42]⟩ : ByteArray), (⟨#[63]⟩ : ByteArray)] : List ByteArray) u = B v → Ev (fun k => bobbinetkeep_ExprText.j1 k x0 a1 n t7 true) (B ([c] ++ v), x0) := by
    intro v hv e
    refine Ev.one (f := fun k => _) (fun k => by rw [bobbinetkeep_ExprText.j1]) ?_
    refine Ev.ite_pos rfl (Ev.bnd0 h1 (Ev.ite_pos b1.1 (Ev.ite_pos (by omega) (Ev.ite_pos (by decide) (Ev.ite_pos hsz (Ev.bnd0 rfl (Ev.bnd0 h2 (Ev.ite_pos b2.1 (Ev.ite_pos (by simp; omega) ?_)))))))))
    rw [hlet, e, B_app]
    refine Ev.ite_pos ?_ (Ev.some _)
    rw [B_len, B_len]; simp; omega
  have hu : u = 0 ∨ u = 1 ∨ u = 2 ∨ u = 3 := by omega
  have hmem : ∀ e ∈ [c], e.toNat ≤ 99 ∨ e.toNat = 124 := fun e he => by rw [List.mem_singleton.1 he]; omega
  rcases hu with rfl | rfl | rfl | rfl
  · exact ⟨[c] ++ [], Gd.of (by simp; omega) (by simp) hmem (fun k hk => (base k hk).rq), fin [] (by simp) rfl⟩
  · exact ⟨[c] ++ [], Gd.of (by simp; omega) (by simp) hmem (fun k hk => (base k hk).rq), fin [] (by simp) rfl⟩
  · refine ⟨[c] ++ [42], Gd.of (by simp; omega) (by simp) (fun e he => ?_) (fun k hk => ((base k hk).sign (c := 42) (j := 0) rfl).rq), fin [42] (by simp) rfl⟩
    rcases List.mem_append.1 he with he | he
    · exact hmem e he
    · rw [List.mem_singleton.1 he]; decide
  · refine ⟨[c] ++ [63], Gd.of (by simp; omega) (by simp) (fun e he => ?_) (fun k hk => ((base k hk).sign (c := 63) (j := 2) rfl).rq), fin [63] (by simp) rfl⟩
    rcases List.mem_append.1 he with he | he
    · exact hmem e he
    · rw [List.mem_singleton.1 he]; decide
theorem bnd_le : ∀ d, d ≤ 3 → bnd d ≤ 20 := by
  intro d hd
  obtain rfl | rfl | rfl | rfl : d = 0 ∨ d = 1 ∨ d = 2 ∨ d = 3 := by omega
  all_goals decide
/-- what two texts become -/
theorem two_ev (d : Nat) (hd : d ≤ 2) (hd1 : 1 ≤ d) (x0 : List Int) (n t7 : Int) (h7 : 3 ≤ t7 ∧ t7 < 9) {a b : T} {r1 r2 : List Int} (ga : Gd d a) (gb : Gd d b)
    (ha : Ev (fun k => bobbinetkeep_ExprText.f k x0 (d : Int)) (B a, r1)) (hb : Ev (fun k => bobbinetkeep_ExprText.f k r1 (d : Int)) (B b, r2)) :
    ∃ s, Gd (d + 1) s ∧ Ev (fun k => bobbinetkeep_ExprText.j1 k x0 ((d + 1 : Nat) : Int) n t7 false) (B s, r2) := by
  obtain ⟨a1, a2, a3, xs, a4⟩ := ga
  obtain ⟨b1, b2, b3, ys, b4⟩ := gb
  have hbd := bnd_le d (by omega)
  have e : bnd (d + 1) = 2 * bnd d + 4 := by
    rw [bnd, if_neg (by omega)]
  have hw : wrap64 (((d + 1 : Nat) : Int) - 1) = (d : Int) := by rw [wrap_id (by omega) (by omega)]; omega
  have key : ∀ s, Ev (fun k => (bobbinetkeep_ExprText.f k x0 (d : Int)).bind fun bt114 => ((bobbinetkeep_ExprText.f k bt114.2 (d : Int)).bind fun bt118 => (if t7 < 6 then (if bt114.1.size + bt118.1.size ≤ 9223372036854775807 then (some (bt114.1 ++ bt118.1, bt118.2)) else (none)) else (if t7 = 6 then (if 1 + bt114.1.size ≤ 9223372036854775807 then (if ((⟨#[40]⟩ : ByteArray) ++ bt114.1).size + 1 ≤ 9223372036854775807 then (if (((⟨#[40]⟩ : ByteArray) ++ bt114.1) ++ (⟨#[124]⟩ : ByteArray)).size + bt118.1.size ≤ 9223372036854775807 then (if ((((⟨#[40]⟩ : ByteArray) ++ bt114.1) ++ (⟨#[124]⟩ : ByteArray)) ++ bt118.1).size + 1 ≤ 9223372036854775807 then (some (((((⟨#[40]⟩ : ByteArray) ++ bt114.1) ++ (⟨#[124]⟩ : ByteArray)) ++ bt118.1) ++ (⟨#[41]⟩ : ByteArray), bt118.2)) else (none)) else (none)) else (none)) else (none)) else (if t7 = 7 then (if 1 + bt114.1.size ≤ 9223372036854775807 then (if ((⟨#[40]⟩ : ByteArray) ++ bt114.1).size + 1 ≤ 9223372036854775807 then (if (((⟨#[40]⟩ : ByteArray) ++ bt114.1) ++ (⟨#[124]⟩ : ByteArray)).size + bt118.1.size ≤ 9223372036854775807 then (if ((((⟨#[40]⟩ : ByteArray) ++ bt114.1) ++ (⟨#[124]⟩ : ByteArray)) ++ bt118.1).size + 2 ≤ 9223372036854775807 then (some (((((⟨#[40]⟩ : ByteArray) ++ bt114.1) ++ (⟨#[124]⟩ : ByteArray)) ++ bt118.1) ++ (⟨#[41, 42]⟩ : ByteArray), bt118.2)) else (none)) else (none)) else (none)) else (none)) else (if 1 + bt114.1.size ≤ 9223372036854775807 then (if ((⟨#[40]⟩ : ByteArray) ++ bt114.1).size + bt118.1.size ≤ 9223372036854775807 then (if (((⟨#[40]⟩ : ByteArray) ++ bt114.1) ++ bt118.1).size + 1 ≤ 9223372036854775807 then ((some (([(⟨#[43]⟩ : ByteArray), (⟨#[63]⟩ : ByteArray)] : List ByteArray) : List ByteArray)).bind fun y122 => ((bobbinetkeep_Picked.f (wrap64 (Int.tdiv n 9)) 2).bind fun t125 => (if 0 ≤ t125 then (if t125 < (y122.length : Int) then (if ((((⟨#[40]⟩ : ByteArray) ++ bt114.1) ++ bt118.1) ++ (⟨#[41]⟩ : ByteArray)).size + (rdOf ByteArray.empty y122 t125).size ≤ 9223372036854775807 then (some (((((⟨#[40]⟩ : ByteArray) ++ bt114.1) ++ bt118.1) ++ (⟨#[41]⟩ : ByteArray)) ++ (rdOf ByteArray.empty y122 t125), bt118.2)) else (none)) else (none)) else (none)))) else (none)) else (none)) else (none))))))) s → Ev (fun k => bobbinetkeep_ExprText.j1 k x0 ((d + 1 : Nat) : Int) n t7 false) s := by
    intro s hs
    exact Ev.one (f := fun k => _) (fun k => by rw [bobbinetkeep_ExprText.j1, hw, if_neg (by decide)]) hs
  have p1 : ∀ s : T, (⟨#[40]⟩ : ByteArray) ++ B s = B (40 :: s) := fun s => B_app [40] s
  have p2 : ∀ s : T, B s ++ (⟨#[124]⟩ : ByteArray) = B (s ++ [124]) := fun s => B_app s [124]
  have p3 : ∀ s : T, B s ++ (⟨#[41]⟩ : ByteArray) = B (s ++ [41]) := fun s => B_app s [41]
  have p4 : ∀ s : T, B s ++ (⟨#[41, 42]⟩ : ByteArray) = B (s ++ [41, 42]) := fun s => B_app s [41, 42]
  have hA : ∀ v : T, (∀ c ∈ v, c.toNat ≤ 99 ∨ c.toNat = 124) → ∀ c ∈ 40 :: (a ++ b) ++ [41] ++ v, c.toNat ≤ 99 ∨ c.toNat = 124 := by
    intro v hv c hc
    simp only [List.mem_append, List.mem_cons, List.mem_singleton, List.cons_append] at hc
    rcases hc with rfl | ((hc | hc) | rfl | hc) | hc
    · decide
    · exact a3 c hc
    · exact b3 c hc
    · decide
    · cases hc
    · exact hv c hc
  have hB : ∀ v : T, (∀ c ∈ v, c.toNat ≤ 99 ∨ c.toNat = 124) → ∀ c ∈ 40 :: (a ++ 124 :: b) ++ [41] ++ v, c.toNat ≤ 99 ∨ c.toNat = 124 := by
    intro v hv c hc
    simp only [List.mem_append, List.mem_cons, List.mem_singleton, List.cons_append] at hc
    rcases hc with rfl | ((hc | rfl | hc) | rfl | hc) | hc
    · decide
    · exact a3 c hc
    · decide
    · exact b3 c hc
    · decide
    · cases hc
    · exact hv c hc
  by_cases c1 : t7 < 6
  · refine ⟨a ++ b, Gd.of (by rw [List.length_append]; omega) (by simp [a2]) (fun c hc => (List.mem_append.1 hc).elim (a3 c) (b3 c)) (fun k hk => (a4 k hk).app (b4 k hk)), key _ (Ev.bnd ha (Ev.bnd hb (Ev.ite_pos c1 (Ev.ite_pos ?_ ?_))))⟩
    · dsimp only; rw [B_len, B_len]; omega
    · dsimp only; rw [B_app]; exact Ev.some _
  by_cases c2 : t7 = 6
  · refine ⟨40 :: (a ++ 124 :: b) ++ [41], Gd.of (by simp; omega) (by simp) (by have := hB [] (fun c hc => by cases hc); rwa [List.append_nil] at this) (fun k hk => (RB.alt (a4 k hk) (b4 k hk)).rq), key _ (Ev.bnd ha (Ev.bnd hb (Ev.ite_neg c1 (Ev.ite_pos c2 ?_))))⟩
    dsimp only
    rw [p1, p2, B_app, p3]
    simp only [B_len]
    refine Ev.ite_pos (by omega) (Ev.ite_pos (by simp; omega) (Ev.ite_pos (by simp; omega) (Ev.ite_pos (by simp; omega) ⟨0, fun _ _ => by simp⟩)))
  by_cases c3 : t7 = 7
  · refine ⟨40 :: (a ++ 124 :: b) ++ [41] ++ [42], Gd.of (by simp; omega) (by simp) (hB [42] (fun c hc => by rw [List.mem_singleton.1 hc]; decide)) (fun k hk => ((RB.alt (a4 k hk) (b4 k hk)).sign (c := 42) (j := 0) rfl).rq), key _ (Ev.bnd ha (Ev.bnd hb (Ev.ite_neg c1 (Ev.ite_neg c2 (Ev.ite_pos c3 ?_)))))⟩
    dsimp only
    rw [p1, p2, B_app, p4]
    simp only [B_len]
    refine Ev.ite_pos (by omega) (Ev.ite_pos (by simp; omega) (Ev.ite_pos (by simp; omega) (Ev.ite_pos (by simp; omega) ⟨0, fun _ _ => by simp⟩)))
  have h2 := pick_ev (wrap64 (Int.tdiv n 9)) 2 (by decide) (by decide)
  have b2' : 0 ≤ wrap64 (Int.tdiv n 9) % 2 ∧ wrap64 (Int.tdiv n 9) % 2 < 2 := by omega
  generalize wrap64 (Int.tdiv n 9) % 2 = u at h2 b2'
  have fin : ∀ (c : UInt8) (j : Int), expr_Parse.sign c = some j → rdOf ByteArray.empty ([(⟨#[43]⟩ : ByteArray), (⟨#[63]⟩ : ByteArray)] : List ByteArray) u = B [c] → ∃ s, Gd (d + 1) s ∧ Ev (fun k => bobbinetkeep_ExprText.j1 k x0 ((d + 1 : Nat) : Int) n t7 false) (B s, r2) := by
    intro c j hc e2
    refine ⟨40 :: (a ++ b) ++ [41] ++ [c], Gd.of (by simp; omega) (by simp) (hA [c] (fun q hq => by rw [List.mem_singleton.1 hq]; have := sign_small hc; omega)) (fun k hk => ((RB.seq ((a4 k hk).app (b4 k hk))).sign hc).rq), key _ (Ev.bnd ha (Ev.bnd hb (Ev.ite_neg c1 (Ev.ite_neg c2 (Ev.ite_neg c3 ?_)))))⟩
    dsimp only
    rw [p1, B_app, p3]
    simp only [B_len]
    refine Ev.ite_pos (by omega) (Ev.ite_pos (by simp; omega) (Ev.ite_pos (by simp; omega) (Ev.bnd0 rfl (Ev.bnd0 h2 (Ev.ite_pos b2'.1 (Ev.ite_pos (by simp; omega) ?_))))))
    rw [e2, B_app, B_len]
    refine Ev.ite_pos (by simp; omega) ⟨0, fun _ _ => by simp⟩
  obtain rfl | rfl : u = 0 ∨ u = 1 := by omega
  · exact fin 43 1 rfl rfl
  · exact fin 63 2 rfl rfl
/-- a text of the laws -/
theorem gen_ev : ∀ (d : Nat), d ≤ 3 → ∀ l : List Int, ∃ s rest, Gd d s ∧ Ev (fun k => bobbinetkeep_ExprText.f k l (d : Int)) (B s, rest) := by
  intro d
  induction d with
  | zero => 
    intro _ l
    obtain ⟨n, l', h⟩ := gen_f 0 l
    have h1 := pick_ev n 9 (by decide) (by decide)
    obtain ⟨s, h2, h3⟩ := atom_ev 0 l' ((0 : Nat) : Int) n (n % 9)
    refine ⟨s, l', h2, h _ ?_⟩
    exact Ev.one (f := fun k => _) (fun k => by rw [bobbinetkeep_ExprText.j0]) (Ev.bnd0 h1 (Ev.ite_pos (show ((0 : Nat) : Int) ≤ 1 by omega) h3))
  | succ d ih =>
    intro hd l
    obtain ⟨n, l', h⟩ := gen_f (d + 1) l
    have h1 := pick_ev n 9 (by decide) (by decide)
    have hb : 0 ≤ n % 9 ∧ n % 9 < 9 := by omega
    generalize n % 9 = t7 at h1 hb
    obtain ⟨s, h2, h3⟩ := atom_ev (d + 1) l' ((d + 1 : Nat) : Int) n t7
    by_cases hd1 : d = 0
    · subst hd1
      refine ⟨s, l', h2, h _ ?_⟩
      exact Ev.one (f := fun k => _) (fun k => by rw [bobbinetkeep_ExprText.j0]) (Ev.bnd0 h1 (Ev.ite_pos (show ((0 + 1 : Nat) : Int) ≤ 1 by omega) h3))
    · by_cases ht : t7 < 3
      · refine ⟨s, l', h2, h _ ?_⟩
        refine Ev.one (f := fun k => _) (fun k => by rw [bobbinetkeep_ExprText.j0]) (Ev.bnd0 h1 (Ev.ite_neg (show ¬ ((d + 1 : Nat) : Int) ≤ 1 by omega) ?_))
        rw [decide_eq_true ht]
        exact h3
      · obtain ⟨a, r1, ga, ha⟩ := ih (by omega) l'
        obtain ⟨b, r2, gb, hb2⟩ := ih (by omega) r1
        obtain ⟨s, h2, h3⟩ := two_ev d (by omega) (by omega) l' n t7 (by omega) ga gb ha hb2
        refine ⟨s, r2, h2, h _ ?_⟩
        refine Ev.one (f := fun k => _) (fun k => by rw [bobbinetkeep_ExprText.j0]) (Ev.bnd0 h1 (Ev.ite_neg (show ¬ ((d + 1 : Nat) : Int) ≤ 1 by omega) ?_))
        rw [decide_eq_false ht]
        exact h3
where
  gen_f (d : Nat) (l : List Int) : ∃ n l', ∀ R, Ev (fun k => bobbinetkeep_ExprText.j0 k l' (d : Int) n) R → Ev (fun k => bobbinetkeep_ExprText.f k l (d : Int)) R := by
    cases l with
    | nil => exact ⟨0, [], fun R h => Ev.one (f := fun k => _) (fun k => by rw [bobbinetkeep_ExprText.f]) (Ev.ite_neg (by simp) h)⟩
    | cons n l =>
      refine ⟨n, l, fun R h => Ev.one (f := fun k => _) (fun k => by rw [bobbinetkeep_ExprText.f]) (Ev.ite_pos (by simp) (Ev.ite_pos (by simp) (Ev.ite_pos (by simp; omega) ?_)))⟩
      exact h
theorem exprOf_ev {t : T} {x : S} (h : AQ t x) (hl : t.length ≤ 40) : Ev (fun k => bobbinetkeep_exprOf.f k (B t)) (x.f0, x.f1, x.f2, true) := by
  unfold bobbinetkeep_exprOf.f
  have h1 := parse_ev h.1 h.2.1 (Nat.le_trans h.2.2 hl) hl
  have h2 : AQ [97] ⟨1, 0, []⟩ := (BQ.letter 97 (by decide)).sq.qq.aq
  have h3 := parse_ev h2.1 h2.2.1 (Nat.le_trans h2.2.2 (by decide)) (by decide)
  exact Ev.bnd h1 (Ev.bnd h3 (Ev.ite_pos rfl (Ev.ite_pos rfl (Ev.some _))))
end Go.Proofs.Ytjmhihadgpdiaaa.Expr
end
section
namespace Go.Proofs.Ytjmhihadgpdiaaa.Expr
open Go.RowKit Go.Proofs.Ytjmhihadgpdiaaa.X Go.Proofs.YtjmhihadgpdiaaaW.PrintWords Go.Proofs.YtjmhihadgpdiaaaW.PrintLast Go.Proofs.Ytjmhihadgpdiaaa.Base
set_option linter.unusedVariables false
set_option linter.unusedSimpArgs false
theorem at_set {c : List Bool} {n : Nat} (v : Bool) (h : n < c.length) (j : Nat) : at_ (c.set n v) j ↔ if j = n then v = true else at_ c j := by
  unfold at_
  rw [List.getD_eq_getElem?_getD, List.getD_eq_getElem?_getD, List.getElem?_set]
  by_cases e : n = j
  · subst e; simp [h]
  · rw [if_neg e, if_neg (fun e2 => e e2.symm)]
theorem one_l0 (a : List Bool) (w : W) (f0 t : Int) (ps : List S) (ha : a.length = w.length + 1) (hl : w.length < 1000) : ∀ (d i : Nat) (c : List Bool), w.length - i = d → i ≤ w.length → c.length = w.length + 1 →
    ∃ b, Ev (fun k => expr_reach.l0 k a c w (w.length : Int) (i : Int) f0 t ps) b ∧ b.length = w.length + 1 ∧ ∀ j, at_ b j ↔ if i < j ∧ j ≤ w.length then at_ a (j - 1) ∧ w.getD (j - 1) 0 = t else at_ c j := by
  intro d
  induction d with
  | zero =>
    intro i c hd hi hc
    refine ⟨c, Ev.one (f := fun k => _) (fun k => by rw [expr_reach.l0]) (Ev.ite_neg (by omega) (Ev.some _)), hc, fun j => ?_⟩
    rw [if_neg (by omega)]
  | succ d ih =>
    intro i c hd hi hc
    have hlt : i < w.length := by omega
    have hw : wrap64 ((i : Int) + 1) = ((i + 1 : Nat) : Int) := wrap_succ hlt (by omega)
    have hr : rd w (i : Int) = w.getD i 0 := by simp [rd]
    have key : ∀ v : Bool, (v = true ↔ at_ a i ∧ w.getD i 0 = t) → ∃ b, Ev (fun k => expr_reach.l0 k a (c.set (i + 1) v) w (w.length : Int) ((i + 1 : Nat) : Int) f0 t ps) b ∧ b.length = w.length + 1 ∧ ∀ j, at_ b j ↔ if i < j ∧ j ≤ w.length then at_ a (j - 1) ∧ w.getD (j - 1) 0 = t else at_ c j := by
      intro v hv
      obtain ⟨b, h1, h2, h3⟩ := ih (i + 1) (c.set (i + 1) v) (by omega) (by omega) (by rw [List.length_set]; exact hc)
      refine ⟨b, h1, h2, fun j => (h3 j).trans ?_⟩
      by_cases hj : i + 1 < j ∧ j ≤ w.length
      · rw [if_pos hj, if_pos ⟨by omega, hj.2⟩]
      · rw [if_neg hj, at_set v (by omega)]
        by_cases hj2 : j = i + 1
        · subst hj2
          rw [if_pos rfl, if_pos ⟨by omega, by omega⟩]
          exact hv
        · rw [if_neg hj2, if_neg (by omega)]
    by_cases hat : at_ a i
    · obtain ⟨b, h1, h2⟩ := key (w.getD i 0 == t) ⟨fun h => ⟨hat, eq_of_beq h⟩, fun h => beq_iff_eq.2 h.2⟩
      refine ⟨b, ?_, h2⟩
      refine Ev.one (f := fun k => _) (fun k => by rw [expr_reach.l0, hw, rdOf_at, hr]) ?_
      exact Ev.ite_pos (by omega) (Ev.ite_pos (by omega) (Ev.ite_pos (by omega) (Ev.ite_pos (by omega) (Ev.ite_pos hat (Ev.ite_pos (by omega) (Ev.ite_pos (by omega) h1))))))
    · obtain ⟨b, h1, h2⟩ := key false (by simp [hat])
      refine ⟨b, ?_, h2⟩
      refine Ev.one (f := fun k => _) (fun k => by rw [expr_reach.l0, hw, rdOf_at, hr]) ?_
      exact Ev.ite_pos (by omega) (Ev.ite_pos (by omega) (Ev.ite_pos (by omega) (Ev.ite_pos (by omega) (Ev.ite_neg hat (Ev.ite_pos (by omega) (Ev.ite_pos (by omega) h1))))))
theorem tl_mem {p : S} : ∀ {l : List S}, p ∈ l → 1 + tl p.f2 ≤ tl l
  | q :: l, h => by
    rw [tl_cons]
    rcases List.mem_cons.1 h with rfl | h
    · omega
    · have := tl_mem h; omega
/-- what is meant is reached -/
def Go_ (w : W) (p : S) : Prop := ∀ a : List Bool, a.length = w.length + 1 → ∃ b, Ev (fun k => expr_reach.f k p.f0 p.f1 p.f2 w a) b ∧ Rch (M p) w a b
theorem seq_l1 (w : W) (ps : List S) (hp : ∀ p ∈ ps, Go_ w p) (hl : ps.length < 1000000) : ∀ (d i : Nat) (a : List Bool), ps.length - i = d → i ≤ ps.length → a.length = w.length + 1 →
    ∃ b, Ev (fun k => expr_reach.l1 k w a ps (ps.length : Int) (i : Int)) b ∧ Rch (MS (ps.drop i)) w a b := by
  intro d
  induction d with
  | zero =>
    intro i a hd hi ha
    rw [List.drop_eq_nil_of_le (by omega)]
    exact ⟨a, Ev.one (f := fun k => _) (fun k => by rw [expr_reach.l1]) (Ev.ite_neg (by omega) (Ev.some _)), Rch.nil ha⟩
  | succ d ih =>
    intro i a hd hi ha
    have hlt : i < ps.length := by omega
    have hw : wrap64 ((i : Int) + 1) = ((i + 1 : Nat) : Int) := wrap_succ hlt (by omega)
    obtain ⟨b, h1, h2⟩ := hp ps[i] (List.getElem_mem hlt) a ha
    obtain ⟨c, h3, h4⟩ := ih (i + 1) b (by omega) (by omega) h2.1
    rw [List.drop_eq_getElem_cons hlt]
    refine ⟨c, ?_, h2.cat h4⟩
    refine Ev.one (f := fun k => _) (fun k => by rw [expr_reach.l1, hw, rdT_at ps i hlt]) ?_
    exact Ev.ite_pos (by omega) (Ev.ite_pos (by omega) (Ev.ite_pos (by omega) (Ev.bnd h1 h3)))
theorem alt_l2 (w : W) (a : List Bool) (ha : a.length = w.length + 1) (hw0 : w.length < 1000) (ps : List S) (hp : ∀ p ∈ ps, Go_ w p) (hl : ps.length < 1000000) : ∀ (d i : Nat) (c : List Bool) (L : Lg), ps.length - i = d → i ≤ ps.length → Rch L w a c →
    ∃ b, Ev (fun k => expr_reach.l2 k w a c ps (ps.length : Int) (i : Int)) b ∧ Rch (Or L (fun u => ∃ p ∈ ps.drop i, M p u)) w a b := by
  intro d
  induction d with
  | zero =>
    intro i c L hd hi hc
    rw [List.drop_eq_nil_of_le (by omega)]
    exact ⟨c, Ev.one (f := fun k => _) (fun k => by rw [expr_reach.l2]) (Ev.ite_neg (by omega) (Ev.some _)), hc.congr (fun u => by simp [Or])⟩
  | succ d ih =>
    intro i c L hd hi hc
    have hlt : i < ps.length := by omega
    have hw : wrap64 ((i : Int) + 1) = ((i + 1 : Nat) : Int) := wrap_succ hlt (by omega)
    obtain ⟨b, h1, h2⟩ := hp ps[i] (List.getElem_mem hlt) a ha
    have h5 := either_ev (hc.1.trans h2.1.symm) (by have := hc.1; omega)
    obtain ⟨e, h3, h4⟩ := ih (i + 1) (eith c b) _ (by omega) (by omega) (hc.or h2)
    rw [List.drop_eq_getElem_cons hlt]
    refine ⟨e, ?_, h4.congr (fun u => ?_)⟩
    · refine Ev.one (f := fun k => _) (fun k => by rw [expr_reach.l2, hw, rdT_at ps i hlt]) ?_
      exact Ev.ite_pos (by omega) (Ev.ite_pos (by omega) (Ev.ite_pos (by omega) (Ev.bnd h1 (Ev.bnd h5 h3))))
    · constructor
      · rintro ((h | h) | ⟨p, hp, h⟩)
        · exact .inl h
        · exact .inr ⟨_, List.mem_cons_self, h⟩
        · exact .inr ⟨p, List.mem_cons_of_mem _ hp, h⟩
      · rintro (h | ⟨p, hp, h⟩)
        · exact .inl (.inl h)
        · rcases List.mem_cons.1 hp with rfl | hp
          · exact .inl (.inr h)
          · exact .inr ⟨p, hp, h⟩
theorem eith_le : ∀ (a b : List Bool), a.length = b.length → (eith a b).count false ≤ a.count false
  | [], b, _ => by simp [eith]
  | x :: a, [], h => by simp at h
  | x :: a, y :: b, h => by
    have ih := eith_le a b (by simpa using h)
    show ((x || y) :: eith a b).count false ≤ _
    rw [List.count_cons, List.count_cons]
    cases x <;> cases y <;> simp <;> omega
theorem eith_count : ∀ (a b : List Bool), a.length = b.length → eith a b ≠ a → (eith a b).count false < a.count false
  | [], b, _, hn => by simp [eith] at hn
  | x :: a, [], h, _ => by simp at h
  | x :: a, y :: b, h, hn => by
    have h0 : a.length = b.length := by simpa using h
    have hle := eith_le a b h0
    have e : eith (x :: a) (y :: b) = (x || y) :: eith a b := rfl
    rw [e] at hn ⊢
    rw [List.count_cons, List.count_cons]
    by_cases h1 : eith a b = a
    · rw [h1] at hn
      cases x <;> cases y <;> simp at hn
      rw [h1]
      simp
    · have := eith_count a b h0 h1
      cases x <;> cases y <;> simp <;> omega
theorem star_closed {L : Lg} {w : W} {c : List Bool} (h : ∀ i j, i ≤ j → j ≤ w.length → at_ c i → L (seg w i j) → at_ c j) {s : W} (hs : Star L s) : ∀ i j, i ≤ j → j ≤ w.length → at_ c i → seg w i j = s → at_ c j := by
  induction hs with
  | nil =>
    intro i j h1 h2 h3 h4
    rw [← seg_nil h1 h2 h4]; exact h3
  | cons hu _ ih =>
    intro i j h1 h2 h3 h4
    obtain ⟨m, h5, h6, h7, h8⟩ := seg_split h1 h2 h4
    exact ih m j h6 h2 (h i m h5 (by omega) h3 (by rw [h7]; exact hu)) h8
theorem star_l3 (w : W) (hw0 : w.length < 1000) (p : S) (hp : Go_ w p) (f0 f1 : Int) : ∀ (d : Nat) (c : List Bool), c.count false ≤ d → c.length = w.length + 1 →
    ∃ b, Ev (fun k => expr_reach.l3 k w c f0 f1 [p]) b ∧ Rch (Star (M p)) w c b := by
  intro d
  induction d using Nat.strongRecOn with
  | _ d ih =>
  intro c hd hc
  obtain ⟨t, h1, h2⟩ := hp c hc
  have hl : c.length = t.length := hc.trans h2.1.symm
  have h3 := either_ev hl (by omega)
  have hl2 := eith_len hl
  have h4 := equal_ev hl2 (by omega)
  have hat := fun j => eith_at hl j
  by_cases he : eith c t = c
  · refine ⟨c, ?_, hc, fun j hj => ⟨fun h => ⟨j, Nat.le_refl _, h, by rw [seg_self]; exact Star.nil⟩, ?_⟩⟩
    · refine Ev.one (f := fun k => _) (fun k => by rw [expr_reach.l3]) ?_
      exact Ev.ite_pos (by simp) (Ev.bnd h1 (Ev.bnd h3 (Ev.bnd h4 (Ev.ite_pos (by simp [he]) (Ev.some _)))))
    · rintro ⟨i, h5, h6, h7⟩
      refine star_closed (fun i j h1 h3 h4 h5 => ?_) h7 i j h5 hj h6 rfl
      rw [← he]
      exact (hat j).2 (.inr ((h2.2 j h3).2 ⟨i, h1, h4, h5⟩))
  · have h5 := eith_count c t hl he
    obtain ⟨b, h6, h7⟩ := ih _ (Nat.lt_of_lt_of_le h5 hd) (eith c t) (Nat.le_refl _) (hl2.trans hc)
    refine ⟨b, ?_, h7.1, fun j hj => (h7.2 j hj).trans ⟨?_, ?_⟩⟩
    · refine Ev.one (f := fun k => _) (fun k => by rw [expr_reach.l3]) ?_
      exact Ev.ite_pos (by simp) (Ev.bnd h1 (Ev.bnd h3 (Ev.bnd h4 (Ev.ite_neg (by simp [he]) h6))))
    · rintro ⟨i, h8, h9, h10⟩
      rcases (hat i).1 h9 with h9 | h9
      · exact ⟨i, h8, h9, h10⟩
      · obtain ⟨m, h11, h12, h13⟩ := (h2.2 i (by omega)).1 h9
        refine ⟨m, by omega, h12, ?_⟩
        rw [← seg_cat h11 h8]
        exact Star.cons h13 h10
    · rintro ⟨i, h8, h9, h10⟩
      exact ⟨i, h8, (hat i).2 (.inl h9), h10⟩
theorem clone_ev {a : List Bool} (h : a.length < 1000000) : slices_Clone_bool_bool.f a = some a := by
  unfold slices_Clone_bool_bool.f
  rw [if_pos (by omega)]
theorem falses_at (n j : Nat) : ¬ at_ (List.replicate n false) j := by
  unfold at_
  rw [List.getD_eq_getElem?_getD, List.getElem?_replicate]
  split <;> simp
theorem reach_ev {x : S} (h : Ok x) (w : W) (hw : w.length < 1000) : tl x.f2 < 1000000 → Go_ w x := by
  induction h with
  | @mk x hloc hparts ih =>
  intro htl a ha
  have hlen := tl_len x.f2
  have ih2 : ∀ p ∈ x.f2, Go_ w p := fun p hp => ih p hp (by have := tl_mem hp; omega)
  clear ih hparts
  obtain ⟨kd, t, ps⟩ := x
  replace hlen : ps.length ≤ tl ps := hlen
  replace htl : tl ps < 1000000 := htl
  have start : ∀ (b : List Bool) (g : Nat → List Bool → Option (List Bool)), Ev (fun k => g k (List.replicate a.length false)) b → Ev (fun k => if 0 ≤ (a.length : Int) then (if ((a.length : Int) : Int).toNat ≤ 281474976710656 then ((some (List.replicate ((a.length : Int) : Int).toNat false : List Bool)).bind fun y => g k y) else none) else none) b := by
    intro b g hg
    refine Ev.ite_pos (by omega) (Ev.ite_pos (by omega) ?_)
    exact hg
  have clone := clone_ev (a := a) (by omega)
  rcases hloc with ⟨rfl, rfl, -, -⟩ | ⟨rfl, rfl, -, -⟩ | ⟨rfl, rfl, -, -⟩ | ⟨h1, h2, rfl, p, rfl⟩
  · obtain ⟨b, h1, h2, h3⟩ := one_l0 a w 1 t [] ha hw w.length 0 (List.replicate a.length false) (by omega) (by omega) (by rw [List.length_replicate]; exact ha)
    refine ⟨b, ?_, h2, fun j hj => (h3 j).trans ?_⟩
    · refine Ev.one (f := fun k => _) (fun k => by rw [expr_reach.f]) (start b _ ?_)
      exact Ev.ite_pos rfl h1
    · by_cases h0 : 0 < j
      · rw [if_pos ⟨h0, hj⟩]
        constructor
        · rintro ⟨h4, h5⟩
          exact ⟨j - 1, by omega, h4, M_one.2 ((seg_one (by omega) hj).2 ⟨by omega, h5⟩)⟩
        · rintro ⟨i, h4, h5, h6⟩
          obtain ⟨rfl, h7⟩ := (seg_one h4 hj).1 (M_one.1 h6)
          exact ⟨h5, h7⟩
      · rw [if_neg (by omega)]
        constructor
        · intro h4; exact absurd h4 (falses_at _ _)
        · rintro ⟨i, h4, h5, h6⟩
          obtain ⟨rfl, h7⟩ := (seg_one h4 hj).1 (M_one.1 h6)
          omega
  · obtain ⟨b, h1, h2⟩ := seq_l1 w ps ih2 (by omega) ps.length 0 a (by omega) (by omega) ha
    refine ⟨b, ?_, h2.congr (fun u => M_seq.symm)⟩
    refine Ev.one (f := fun k => _) (fun k => by rw [expr_reach.f]) (start b _ ?_)
    exact Ev.ite_neg (by simp) (Ev.ite_pos rfl (Ev.bnd0 clone h1))
  · have h0 : Rch (fun _ => False) w a (List.replicate a.length false) := by
      refine ⟨by rw [List.length_replicate]; exact ha, fun j hj => ⟨fun h => absurd h (falses_at _ _), ?_⟩⟩
      rintro ⟨_, _, _, h⟩; exact h.elim
    obtain ⟨b, h1, h2⟩ := alt_l2 w a ha hw ps ih2 (by omega) ps.length 0 (List.replicate a.length false) _ (by omega) (by omega) h0
    refine ⟨b, ?_, h2.congr (fun u => ?_)⟩
    · refine Ev.one (f := fun k => _) (fun k => by rw [expr_reach.f]) (start b _ ?_)
      exact Ev.ite_neg (by simp) (Ev.ite_neg (by simp) (Ev.ite_pos rfl h1))
    · rw [M_alt, List.drop_zero]
      exact ⟨fun h => h.elim False.elim id, .inr⟩
  · have hp := ih2 p List.mem_cons_self
    have e4 : kd = 4 ∨ kd = 5 ∨ kd = 6 := by simp at h1 h2; omega
    clear h1 h2
    rcases e4 with rfl | rfl | rfl
    · obtain ⟨b, h1, h2⟩ := star_l3 w hw p hp 4 0 _ a (Nat.le_refl _) ha
      refine ⟨b, ?_, h2.congr (fun u => M_star.symm)⟩
      refine Ev.one (f := fun k => _) (fun k => by rw [expr_reach.f]) (start b _ ?_)
      refine Ev.ite_neg (by simp) (Ev.ite_neg (by simp) (Ev.ite_neg (by simp) (Ev.ite_neg (by simp) (Ev.bnd0 clone (Ev.ite_neg (by simp) ?_)))))
      exact Ev.one (f := fun k => _) (fun k => by rw [expr_reach.j3]) h1
    · obtain ⟨c, h3, h4⟩ := hp a ha
      obtain ⟨b, h1, h2⟩ := star_l3 w hw p hp 5 0 _ c (Nat.le_refl _) h4.1
      refine ⟨b, ?_, (h4.cat h2).congr (fun u => M_plus.symm)⟩
      refine Ev.one (f := fun k => _) (fun k => by rw [expr_reach.f]) (start b _ ?_)
      refine Ev.ite_neg (by simp) (Ev.ite_neg (by simp) (Ev.ite_neg (by simp) (Ev.ite_neg (by simp) (Ev.bnd0 clone (Ev.ite_pos rfl (Ev.ite_pos (by simp) (Ev.bnd h3 ?_)))))))
      exact Ev.one (f := fun k => _) (fun k => by rw [expr_reach.j3]) h1
    · obtain ⟨c, h3, h4⟩ := hp a ha
      have h5 := either_ev (ha.trans h4.1.symm) (by omega)
      refine ⟨eith a c, ?_, ((Rch.nil ha).or h4).congr (fun u => M_opt.symm)⟩
      refine Ev.one (f := fun k => _) (fun k => by rw [expr_reach.f]) (start (eith a c) _ ?_)
      exact Ev.ite_neg (by simp) (Ev.ite_neg (by simp) (Ev.ite_neg (by simp) (Ev.ite_pos rfl (Ev.ite_pos (by simp) (Ev.bnd h3 (Ev.bnd h5 (Ev.some _)))))))
end Go.Proofs.Ytjmhihadgpdiaaa.Expr
end
section
namespace Go.Proofs.Ytjmhihadgpdiaaa.Expr
open Go.RowKit Go.Proofs.Ytjmhihadgpdiaaa.X Go.Proofs.YtjmhihadgpdiaaaW.PrintWords Go.Proofs.YtjmhihadgpdiaaaW.PrintLast Go.Proofs.Ytjmhihadgpdiaaa.Base
set_option linter.unusedVariables false
set_option linter.unusedSimpArgs false
theorem matches_ev {x : S} (ho : Ok x) (ht : tl x.f2 < 1000000) (hx : (txt x).length ≤ 40) (w : W) (hw : w.length ≤ 40) (hl : ∀ n ∈ w, 0 ≤ n ∧ n < 8) : ∃ b, Ev (fun k => bobbinetkeep_matches.f k x.f0 x.f1 x.f2 w) b ∧ (b = true ↔ M x w) := by
  obtain ⟨out, h1, h2⟩ := reach_ev ho w (by omega) ht ((List.replicate (w.length + 1) false).set 0 true) (by simp)
  have hany : w.any cf_exprMatch.P = false := by
    rw [List.any_eq_false]
    intro n hn
    have := hl n hn
    unfold cf_exprMatch.P
    simp; omega
  have hwr : wrap64 ((w.length : Int) + 1) = ((w.length + 1 : Nat) : Int) := by rw [wrap_id (by omega) (by omega)]; omega
  have hat : ∀ i, at_ ((List.replicate (w.length + 1) false).set 0 true) i ↔ i = 0 := by
    intro i
    rw [at_set true (by simp)]
    by_cases e : i = 0
    · simp [e]
    · rw [if_neg e]; exact ⟨fun h => absurd h (falses_at _ _), fun h => absurd h e⟩
  have hm : at_ out w.length ↔ M x w := by
    rw [h2.2 w.length (Nat.le_refl _)]
    have e : seg w 0 w.length = w := by unfold seg; rw [List.take_length, List.drop_zero]
    constructor
    · rintro ⟨i, _, h4, h5⟩
      rw [(hat i).1 h4, e] at h5
      exact h5
    · intro h; exact ⟨0, Nat.zero_le _, (hat 0).2 rfl, by rw [e]; exact h⟩
  have hmatch : Ev (fun k => expr_Match.f k x.f0 x.f1 x.f2 w) (rdOf false out (w.length : Int), 0) := by
    unfold expr_Match.f
    refine Ev.bnd (check_ev ho ht hx) (Ev.ite_pos rfl (Ev.ite_neg (by omega) (Ev.bnd0 (show cf_exprMatch.f w = some false by unfold cf_exprMatch.f; rw [hany]) (Ev.ite_neg (by decide) ?_))))
    rw [hwr]
    refine Ev.ite_pos (by omega) (Ev.ite_pos (by omega) (Ev.bnd0 rfl (Ev.ite_pos (by simp) (Ev.bnd h1 (Ev.ite_pos (by omega) (Ev.ite_pos (by rw [h2.1]; omega) (Ev.some _)))))))
  refine ⟨rdOf false out (w.length : Int), ?_, by rw [rdOf_at]; exact hm⟩
  unfold bobbinetkeep_matches.f
  refine Ev.ite_pos (by simp; omega) ?_
  rw [List.nil_append]
  refine Ev.bnd hmatch ?_
  dsimp only
  by_cases hb : rdOf false out (w.length : Int) = true
  · refine Ev.ite_pos hb ⟨0, fun _ _ => by rw [hb]; rfl⟩
  · refine Ev.ite_neg hb ⟨0, fun _ _ => by rw [Bool.not_eq_true] at hb; rw [hb]⟩
theorem word_ev (l : List Int) (n : Nat) (hn : n ≤ 40) : ∃ w, Ev (fun k => bobbinetkeep_WordOf.f k l (n : Int)) w ∧ w.length ≤ n ∧ ∀ x ∈ w, 0 ≤ x ∧ x < 3 := by
  have loop : ∀ (d i : Nat) (acc : W), n - i = d → i ≤ n → acc.length = i → (∀ x ∈ acc, 0 ≤ x ∧ x < 3) → ∃ w, Ev (fun k => bobbinetkeep_WordOf.l0 k l (n : Int) acc (i : Int)) w ∧ w.length ≤ n ∧ ∀ x ∈ w, 0 ≤ x ∧ x < 3 := by
    intro d
    induction d with
    | zero =>
      intro i acc hd hi ha hx
      refine ⟨acc, Ev.one (f := fun k => _) (fun k => by rw [bobbinetkeep_WordOf.l0]) ?_, by omega, hx⟩
      by_cases h : (i : Int) < (l.length : Int)
      · exact Ev.ite_pos h (Ev.ite_neg (by omega) (Ev.some _))
      · exact Ev.ite_neg h (Ev.some _)
    | succ d ih =>
      intro i acc hd hi ha hx
      by_cases h : (i : Int) < (l.length : Int)
      · have hw : wrap64 ((i : Int) + 1) = ((i + 1 : Nat) : Int) := wrap_succ (n := n) (by omega) (by omega)
        obtain ⟨w, h1, h2⟩ := ih (i + 1) (acc ++ [rd l (i : Int) % 3]) (by omega) (by omega) (by simp; omega) (by
          intro x hx2
          rcases List.mem_append.1 hx2 with h2 | h2
          · exact hx x h2
          · rw [List.mem_singleton.1 h2]; omega)
        refine ⟨w, Ev.one (f := fun k => _) (fun k => by rw [bobbinetkeep_WordOf.l0, hw]) ?_, h2⟩
        exact Ev.ite_pos h (Ev.ite_pos (by omega) (Ev.ite_pos (by omega) (Ev.bnd0 (pick_ev _ 3 (by decide) (by decide)) (Ev.ite_pos (by omega) h1))))
      · refine ⟨acc, Ev.one (f := fun k => _) (fun k => by rw [bobbinetkeep_WordOf.l0]) ?_, by omega, hx⟩
        exact Ev.ite_neg h (Ev.some _)
  unfold bobbinetkeep_WordOf.f
  exact loop n 0 [] (by omega) (by omega) rfl (fun x hx => by cases hx)
/-- what is parsed matches as is meant -/
theorem AQ.matches {t : T} {x : S} (h : AQ t x) (hl : t.length ≤ 40) (w : W) (hw : w.length ≤ 40) (hn : ∀ n ∈ w, 0 ≤ n ∧ n < 8) : ∃ b, Ev (fun k => bobbinetkeep_matches.f k x.f0 x.f1 x.f2 w) b ∧ (b = true ↔ M x w) := by
  have h1 : tl x.f2 ≤ 2 * t.length + 1 := h.1.1
  have h2 := h.2.2
  exact matches_ev h.2.1 (by omega) (by omega) w hw hn
theorem a_zero : Ev (fun k => bobbinetkeep_matches.f k 1 0 [] [0]) true := by
  have h2 : AQ [97] ⟨1, 0, []⟩ := (BQ.letter 97 (by decide)).sq.qq.aq
  obtain ⟨b, h3, h4⟩ := h2.matches (by decide) [0] (by decide) (fun n hn => by rw [List.mem_singleton.1 hn]; omega)
  rw [h4.2 (M.one 0 [])] at h3
  exact h3
theorem a_of : Ev (fun k => bobbinetkeep_exprOf.f k (⟨#[97]⟩ : ByteArray)) (1, 0, [], true) := by
  have h2 : AQ [97] ⟨1, 0, []⟩ := (BQ.letter 97 (by decide)).sq.qq.aq
  exact exprOf_ev h2 (by decide)
end Go.Proofs.Ytjmhihadgpdiaaa.Expr
end
section
namespace Go.Proofs.Ytjmhihadgpdiaaa.Pure
open Go.RowKit Go.Proofs.Ytjmhihadgpdiaaa.X Go.Proofs.YtjmhihadgpdiaaaW.PrintWords Go.Proofs.YtjmhihadgpdiaaaW.PrintLast Go.Proofs.Ytjmhihadgpdiaaa.Base Go.Proofs.Ytjmhihadgpdiaaa.Expr
set_option linter.unusedVariables false
set_option linter.unusedSimpArgs false
theorem bt_B (s : T) (i : Nat) (h : i < s.length) : bt (B s) (i : Int) = (s[i].toNat : Int) := by
  have h2 : ((i : Int)).toNat < (B s).size := by rw [B_len]; omega
  unfold bt
  rw [dif_pos h2]
  rfl
theorem letter8 {t : Int} (h : 0 ≤ t ∧ t < 8) : ((⟨#[97, 98, 99, 100, 101, 102, 103, 104]⟩ : ByteArray).extract t.toNat (⟨#[97, 98, 99, 100, 101, 102, 103, 104]⟩ : ByteArray).size).extract 0 1 = B [(97 + t).toNat.toUInt8] := by
  obtain rfl | rfl | rfl | rfl | rfl | rfl | rfl | rfl : t = 0 ∨ t = 1 ∨ t = 2 ∨ t = 3 ∨ t = 4 ∨ t = 5 ∨ t = 6 ∨ t = 7 := by omega
  all_goals decide +kernel
theorem one_byte (s : T) (i : Nat) (h : i < s.length) : (B s).extract i (i + 1) = B [s[i]] := by
  apply ByteArray.ext
  rw [ByteArray.data_extract]
  show (s.toArray).extract i (i + 1) = #[s[i]]
  rw [List.extract_toArray, List.extract_eq_take_drop]
  congr 1
  rw [show i + 1 - i = 1 by omega, List.drop_eq_getElem_cons h]
  rfl
theorem word_loop {ts tu : T} {x y : S} (k : Nat) (hk : k ≤ 5) (ax : AQ ts x) (ay : AQ tu y) (e : y = ren (k : Int) x) (lx : ts.length ≤ 40) (ly : tu.length ≤ 40) (w : W) (hw : w.length ≤ 40) (hn : ∀ n ∈ w, 0 ≤ n ∧ n < 3) :
    ∀ (d i : Nat), w.length - i = d → i ≤ w.length → Ev (fun q => bobbinetkeep_ExprRenamed.l1 q (B ts) (k : Int) (B tu) w ((w.take i).map (· + (k : Int))) (i : Int)) true := by
  intro d
  induction d with
  | zero =>
    intro i hd hi
    obtain rfl : i = w.length := by omega
    rw [List.take_length]
    have hn2 : ∀ n ∈ w.map (· + (k : Int)), 0 ≤ n ∧ n < 8 := by
      intro n h
      obtain ⟨m, hm, rfl⟩ := List.mem_map.1 h
      have := hn m hm
      omega
    obtain ⟨b1, e1, m1⟩ := ax.matches lx w hw (fun n h => by have := hn n h; omega)
    obtain ⟨b2, e2, m2⟩ := ay.matches ly (w.map (· + (k : Int))) (by rw [List.length_map]; exact hw) hn2
    have hb : b1 = b2 := by rw [Bool.eq_iff_iff, m1, m2, e, M_ren_iff]
    refine Ev.one (f := fun k => _) (fun k => by rw [bobbinetkeep_ExprRenamed.l1]) ?_
    exact Ev.ite_neg (by omega) (Ev.bnd (exprOf_ev ax lx) (Ev.bnd (exprOf_ev ay ly) (Ev.bnd a_of (Ev.ite_pos rfl (Ev.ite_pos rfl (Ev.ite_pos rfl (Ev.bnd a_zero (Ev.ite_pos rfl (Ev.bnd e1 (Ev.bnd e2 ⟨0, fun _ _ => by rw [hb]; simp⟩)))))))))) 
  | succ d ih =>
    intro i hd hi
    have hlt : i < w.length := by omega
    have hwr : wrap64 ((i : Int) + 1) = ((i + 1 : Nat) : Int) := wrap_succ hlt (by omega)
    have hr : rd w (i : Int) = w[i] := by simp [rd, hlt]
    have hb := hn w[i] (List.getElem_mem hlt)
    have hw2 : wrap64 (w[i] + (k : Int)) = w[i] + (k : Int) := wrap_id (by omega) (by omega)
    have h1 := ih (i + 1) (by omega) (by omega)
    rw [List.take_succ_eq_append_getElem hlt, List.map_append, List.map_cons, List.map_nil] at h1
    refine Ev.one (f := fun k => _) (fun k => by rw [bobbinetkeep_ExprRenamed.l1, hwr, hr, hw2]) ?_
    exact Ev.ite_pos (by omega) (Ev.ite_pos (by omega) (Ev.ite_pos (by rw [List.length_map, List.length_take]; omega) h1))
theorem byte_loop {s : T} {x y : S} (k : Nat) (hk : k ≤ 5) (ax : AQ s x) (ay : AQ (s.map (rn k)) y) (e : y = ren (k : Int) x) (lx : s.length ≤ 40) (hc : ∀ c ∈ s, c.toNat ≤ 99 ∨ c.toNat = 124) (l1 : List Int) :
    ∀ (d i : Nat), s.length - i = d → i ≤ s.length → Ev (fun q => bobbinetkeep_ExprRenamed.l0 q l1 (B s) (k : Int) (B ((s.take i).map (rn k))) (i : Int)) true := by
  intro d
  induction d with
  | zero =>
    intro i hd hi
    obtain rfl : i = s.length := by omega
    rw [List.take_length]
    obtain ⟨w, ew, hw, hn⟩ := word_ev l1 12 (by omega)
    have key := word_loop k hk ax ay e lx (by rw [List.length_map]; exact lx) w (by omega) hn w.length 0 (by omega) (by omega)
    refine Ev.one (f := fun k => _) (fun k => by rw [bobbinetkeep_ExprRenamed.l0]) ?_
    exact Ev.ite_neg (by rw [B_len]; omega) (Ev.bnd ew key)
  | succ d ih =>
    intro i hd hi
    have hlt : i < s.length := by omega
    have hwr : wrap64 ((i : Int) + 1) = ((i + 1 : Nat) : Int) := wrap_succ hlt (by omega)
    have hb := bt_B s i hlt
    have hs := hc s[i] (List.getElem_mem hlt)
    have h1 := ih (i + 1) (by omega) (by omega)
    rw [List.take_succ_eq_append_getElem hlt, List.map_append, List.map_cons, List.map_nil, ← B_app] at h1
    have hsz : (B ((s.take i).map (rn k))).size ≤ 40 := by rw [B_len, List.length_map, List.length_take]; omega
    have hbs : ((B s).size : Int) = (s.length : Int) := by rw [B_len]
    generalize (B ((s.take i).map (rn k))) = acc at h1 hsz ⊢
    have plain : ¬ (97 ≤ s[i].toNat ∧ s[i].toNat ≤ 99) → Ev (fun q => if (i : Int) ≤ ((i + 1 : Nat) : Int) then (if ((i + 1 : Nat) : Int) ≤ ((B s).size : Int) then (if acc.size + ((B s).extract (i : Int).toNat (((i + 1 : Nat) : Int)).toNat).size ≤ 9223372036854775807 then (bobbinetkeep_ExprRenamed.l0 q l1 (B s) (k : Int) (acc ++ ((B s).extract (i : Int).toNat (((i + 1 : Nat) : Int)).toNat)) ((i + 1 : Nat) : Int)) else none) else none) else none) true := by
      intro hn
      have e1 : (B s).extract (i : Int).toNat (((i + 1 : Nat) : Int)).toNat = B [s[i]] := one_byte s i hlt
      rw [e1]
      have e2 : rn k s[i] = s[i] := by unfold rn; rw [if_neg hn]
      rw [e2] at h1
      refine Ev.ite_pos (by omega) (Ev.ite_pos (by omega) (Ev.ite_pos ?_ h1))
      rw [B_len]; simp; omega
    refine Ev.one (f := fun k => _) (fun k => by rw [bobbinetkeep_ExprRenamed.l0, hwr, hb]) ?_
    refine Ev.ite_pos (by omega) (Ev.ite_pos (by omega) ?_)
    by_cases c1 : (s[i].toNat : Int) ≥ 97
    · refine Ev.ite_pos c1 ?_
      by_cases c2 : (s[i].toNat : Int) ≤ 99
      · refine Ev.ite_pos c2 ?_
        have hcb : 97 ≤ s[i].toNat ∧ s[i].toNat ≤ 99 := by omega
        have e3 : wrap64 (((s[i].toNat : Int) - 97) % 256 + (k : Int)) = (s[i].toNat : Int) - 97 + (k : Int) := by rw [wrap_id (by omega) (by omega)]; omega
        rw [e3]
        have e4 := letter8 (t := (s[i].toNat : Int) - 97 + (k : Int)) (by omega)
        have e5 : (97 + ((s[i].toNat : Int) - 97 + (k : Int))).toNat.toUInt8 = rn k s[i] := by
          apply UInt8.toNat_inj.1
          rw [rn_nat hk hcb, Nat.toUInt8, UInt8.toNat_ofNat']
          omega
        rw [e5] at e4
        rw [e4]
        refine Ev.ite_pos (by omega) (Ev.ite_pos (by omega) (Ev.ite_pos (by decide) (Ev.ite_pos ?_ (Ev.ite_pos ?_ h1))))
        · rw [ByteArray.size_extract, show (⟨#[97, 98, 99, 100, 101, 102, 103, 104]⟩ : ByteArray).size = 8 from rfl]; omega
        · rw [B_len]; simp; omega
      · exact Ev.ite_neg c2 (plain (by omega))
    · exact Ev.ite_neg c1 (plain (by omega))
theorem ExprRenamed : bobbinetkeep_ExprRenamed.Pure := by
  intro l0 l1 a2 _ _ _ _ _ _ _
  obtain ⟨s, r1, ⟨g1, _, g3, xs, g4⟩, hs⟩ := gen_ev 3 (by omega) l0
  have b2 := bnd_le 3 (by omega)
  have h1 := pick_ev a2 6 (by decide) (by decide)
  have hb : 0 ≤ a2 % 6 ∧ a2 % 6 < 6 := by omega
  obtain ⟨k, hk⟩ : ∃ k : Nat, a2 % 6 = (k : Int) := ⟨_, (Int.toNat_of_nonneg hb.1).symm⟩
  rw [hk] at h1 hb
  obtain ⟨q1, q2⟩ := g4 k (by omega)
  have e := tog_ren (k : Int) 2 (by decide) xs
  have key := byte_loop k (by omega) q1.qq.aq q2.qq.aq e (by omega) g3 l1 s.length 0 (by omega) (by omega)
  have main : Ev (fun q => bobbinetkeep_ExprRenamed.f q l0 l1 a2) true := by
    unfold bobbinetkeep_ExprRenamed.f
    exact Ev.bnd hs (Ev.ite_neg (by dsimp only; rw [B_len]; omega) (Ev.bnd0 h1 key))
  obtain ⟨K, hK⟩ := main
  exact ⟨K, hK K (Nat.le_refl _)⟩
end Go.Proofs.Ytjmhihadgpdiaaa.Pure
end
