/- Parts of the proof of ExprParts that are needed, put together by pack.py. -/
import Derived.Test.YtjmhihadgpdiaaaQExprPartsaf
import Derived.Test.YtjmhihadgpdiaaaQExprPartsag
import Derived.Test.YtjmhihadgpdiaaaQExprPartsaj
import Derived.Test.YtjmhihadgpdiaaaQExprPartsak
section
namespace Go.Proofs.Ytjmhihadgpdiaaa.X
open Go.RowKit Go.Proofs.YtjmhihadgpdiaaaW.PrintWords Go.Proofs.YtjmhihadgpdiaaaW.PrintLast Go.Proofs.YtjmhihadgpdiaaaW.PrintMore
attribute [local go_sem] max2_int min2_int max_two min_two max_three min_three max_four min_four   -- for this text's walks alone
set_option linter.unusedVariables false
set_option linter.unusedSimpArgs false
mutual
def bobbinetkeep_ExprParts.j0 : Nat → List Int → Bool → Int → Int → List (S28) → Int → Int → List (S28) → Int → Int → List (S28) → Int → Int → List (S28) → Option (Bool)
 | 0, _, _, _, _, _, _, _, _, _, _, _, _, _, _ => none
 | k + 1, x11, x77, x301000, x301001, x301002, x308000, x308001, x308002, x315000, x315001, x315002, x322000, x322001, x322002 => if x77 = true then (none) else (bobbinetkeep_ExprParts.l0 k x11 false 0 x301000 x301001 x301002 x308000 x308001 x308002 x315000 x315001 x315002 x322000 x322001 x322002)
def bobbinetkeep_ExprParts.l0 : Nat → List Int → Bool → Int → Int → Int → List (S28) → Int → Int → List (S28) → Int → Int → List (S28) → Int → Int → List (S28) → Option (Bool)
 | 0, _, _, _, _, _, _, _, _, _, _, _, _, _, _, _ => none
 | k + 1, x11, x20, x21, x301000, x301001, x301002, x308000, x308001, x308002, x315000, x315001, x315002, x322000, x322001, x322002 => if x21 ≤ (x11.length : Int) then (if x20 = true then (bobbinetkeep_ExprParts.l0 k x11 true (wrap64 (x21 + 1)) x301000 x301001 x301002 x308000 x308001 x308002 x315000 x315001 x315002 x322000 x322001 x322002) else (if 0 ≤ x21 then ((bobbinetkeep_matches.f k x301000 x301001 x301002 (x11.take (x21 : Int).toNat)).bind fun t326 => (if t326 = true then ((bobbinetkeep_matches.f k x308000 x308001 x308002 (x11.drop (x21 : Int).toNat)).bind fun t331 => (bobbinetkeep_ExprParts.l0 k x11 t331 (wrap64 (x21 + 1)) x301000 x301001 x301002 x308000 x308001 x308002 x315000 x315001 x315002 x322000 x322001 x322002)) else (bobbinetkeep_ExprParts.l0 k x11 false (wrap64 (x21 + 1)) x301000 x301001 x301002 x308000 x308001 x308002 x315000 x315001 x315002 x322000 x322001 x322002))) else (none))) else ((bobbinetkeep_exprOf.f k (⟨#[97]⟩ : ByteArray)).bind fun bt332 => (if bt332.2.2.2 = true then ((bobbinetkeep_matches.f k bt332.1 bt332.2.1 bt332.2.2.1 (([0] : List Int))).bind fun t342 => (if t342 = true then ((bobbinetkeep_matches.f k x315000 x315001 x315002 x11).bind fun t343 => (if (t343 == x20) = true then ((bobbinetkeep_matches.f k x322000 x322001 x322002 x11).bind fun t344 => ((bobbinetkeep_matches.f k x301000 x301001 x301002 x11).bind fun t345 => (if t345 = true then (some (t344 == true)) else ((bobbinetkeep_matches.f k x308000 x308001 x308002 x11).bind fun t346 => (some (t344 == t346)))))) else (none))) else (none))) else (none)))
end
def bobbinetkeep_ExprParts.f (k : Nat) (l0 : List Int) (l1 : List Int) (l2 : List Int) : Option (Bool) := (bobbinetkeep_ExprText.f k l0 2).bind fun bt283 => ((bobbinetkeep_ExprText.f k l1 2).bind fun bt287 => ((bobbinetkeep_WordOf.f k l2 12).bind fun t291 => ((bobbinetkeep_exprOf.f k bt283.1).bind fun bt294 => ((bobbinetkeep_exprOf.f k bt287.1).bind fun bt301 => (if 1 + bt283.1.size ≤ 9223372036854775807 then (if ((⟨#[40]⟩ : ByteArray) ++ bt283.1).size + 2 ≤ 9223372036854775807 then (if (((⟨#[40]⟩ : ByteArray) ++ bt283.1) ++ (⟨#[41, 40]⟩ : ByteArray)).size + bt287.1.size ≤ 9223372036854775807 then (if ((((⟨#[40]⟩ : ByteArray) ++ bt283.1) ++ (⟨#[41, 40]⟩ : ByteArray)) ++ bt287.1).size + 1 ≤ 9223372036854775807 then ((bobbinetkeep_exprOf.f k (((((⟨#[40]⟩ : ByteArray) ++ bt283.1) ++ (⟨#[41, 40]⟩ : ByteArray)) ++ bt287.1) ++ (⟨#[41]⟩ : ByteArray))).bind fun bt308 => (if bt283.1.size + 1 ≤ 9223372036854775807 then (if (bt283.1 ++ (⟨#[124]⟩ : ByteArray)).size + bt287.1.size ≤ 9223372036854775807 then ((bobbinetkeep_exprOf.f k ((bt283.1 ++ (⟨#[124]⟩ : ByteArray)) ++ bt287.1)).bind fun bt315 => (if bt294.2.2.2 = true then (if bt301.2.2.2 = true then (if bt308.2.2.2 = true then (bobbinetkeep_ExprParts.j0 k t291 (!bt315.2.2.2) bt294.1 bt294.2.1 bt294.2.2.1 bt301.1 bt301.2.1 bt301.2.2.1 bt308.1 bt308.2.1 bt308.2.2.1 bt315.1 bt315.2.1 bt315.2.2.1) else (bobbinetkeep_ExprParts.j0 k t291 true bt294.1 bt294.2.1 bt294.2.2.1 bt301.1 bt301.2.1 bt301.2.2.1 bt308.1 bt308.2.1 bt308.2.2.1 bt315.1 bt315.2.1 bt315.2.2.1)) else (bobbinetkeep_ExprParts.j0 k t291 true bt294.1 bt294.2.1 bt294.2.2.1 bt301.1 bt301.2.1 bt301.2.2.1 bt308.1 bt308.2.1 bt308.2.2.1 bt315.1 bt315.2.1 bt315.2.2.1)) else (bobbinetkeep_ExprParts.j0 k t291 true bt294.1 bt294.2.1 bt294.2.2.1 bt301.1 bt301.2.1 bt301.2.2.1 bt308.1 bt308.2.1 bt308.2.2.1 bt315.1 bt315.2.1 bt315.2.2.1))) else (none)) else (none))) else (none)) else (none)) else (none)) else (none))))))
def bobbinetkeep_ExprParts.T14 : Bool × List (List Nat × List Nat) := (true, [([], []), ([0], [0]), ([1], [1]), ([1], [1]), ([1], [1]), ([3, 4, 1], [1, 3, 4]), ([2, 5, 1, 1], [1, 2, 5]), ([6, 6, 1], [1, 6]), ([7], [7]), ([7], [7]), ([7], [7]), ([9, 10, 7], [7, 9, 10]), ([8, 11, 7, 7], [7, 8, 11]), ([7, 12, 1], [1, 7, 12]), ([1, 13], [1, 13]), ([14, 12, 0, 1, 2, 3, 4, 5, 6, 7, 8, 9, 10, 11, 12, 13, 14], [0, 14])])
def bobbinetkeep_ExprParts.B14 : List Nat := [0, 1, 3, 3, 3, 27, 63, 127, 255, 255, 255, 1791, 4095, 8191, 16383, 32767]
theorem bobbinetkeep_ExprParts.tab14 : rtab .any (opsOf Try.f5 14) = bobbinetkeep_ExprParts.T14 := by kernel_rfl
theorem bobbinetkeep_ExprParts.bits14 : waitsOk bobbinetkeep_ExprParts.T14.2 bobbinetkeep_ExprParts.B14 = true := by kernel_rfl
def bobbinetkeep_ExprParts.T16 : Bool × List (List Nat × List Nat) := (true, [([], []), ([0], [0]), ([1], [1]), ([1], [1]), ([2, 3, 1, 1], [1, 2, 3]), ([1, 4], [1, 4]), ([5, 4], [5]), ([6], [6]), ([6], [6]), ([7, 8, 6, 6], [6, 7, 8]), ([6], [6]), ([9, 10, 6], [6, 9, 10]), ([6, 11], [6, 11]), ([12, 9], [12]), ([13], [13]), ([13], [13]), ([14, 15, 13, 13], [13, 14, 15]), ([13], [13]), ([13], [13]), ([17, 18, 16, 13], [13, 17, 18]), ([19, 19, 13], [13, 19]), ([20], [20]), ([20], [20]), ([21, 22, 20, 20], [20, 21, 22]), ([20, 23, 13], [13, 20, 23]), ([16, 24, 13], [13, 16, 24]), ([13, 25], [13, 25]), ([26, 23, 0, 1, 2, 3, 4, 5, 6, 7, 8, 9, 10, 11, 12, 13, 14, 15, 16, 17, 18, 19, 20, 21, 22, 23, 24, 25, 26], [26])])
def bobbinetkeep_ExprParts.B16 : List Nat := [0, 1, 3, 3, 15, 31, 63, 127, 127, 511, 127, 2047, 4095, 8191, 16383, 16383, 65535, 16383, 16383, 524287, 1048575, 2097151, 2097151, 8388607, 16777215, 33554431, 67108863, 134217727]
theorem bobbinetkeep_ExprParts.tab16 : rtab .any (opsOf Try.f5 16) = bobbinetkeep_ExprParts.T16 := by kernel_rfl
theorem bobbinetkeep_ExprParts.bits16 : waitsOk bobbinetkeep_ExprParts.T16.2 bobbinetkeep_ExprParts.B16 = true := by kernel_rfl
class Stp (w w1 : World) : Prop where out : Below w.heap.size w w1
instance stp0 (w : World) : Stp w w := ⟨Below.refl _ _⟩
instance stp1 (w w1 : World) (o : Obj) [h : Stp w w1] : Stp w (w1.alloc o) := ⟨below_alloc h.out o⟩
instance stp2 (w w1 : World) [h : Stp w w1] : Stp w w1.drew := ⟨below_drew1 h.out⟩
instance stp3 (w w1 : World) (n : Nat) [h : Stp w w1] : Stp w (w1.drewN n) := ⟨pw_below_drewN h.out n⟩
theorem B_st {w0 w w1 : World} [h : Stp w w1] (hb : Below w0.heap.size w0 w) : Below w0.heap.size w0 w1 := hb.trans (h.out.mono hb.size)
theorem R_st {α : Type} {d : Kd α} {e base : Nat} {ok : Nat → Prop} {v : Value} {xs : List α} {w w1 : World} [h : Stp w w1] (hr : Kd.R d e w base ok v xs) : Kd.R d e w1 base ok v xs := Kd.R_below hr h.out
theorem V_st {α : Type} {d : Kd α} {e base : Nat} {ok : Nat → Prop} {v : Value} {xs : List α} {w w1 : World} [h : Stp w w1] (hr : Kd.V d e w base ok v xs) : Kd.V d e w1 base ok v xs := Kd.V_below hr h.out
abbrev b_0 : Array Bool := #[false, false, false, false, false, false, false, false, false, false, false, false, false, false, false, false]
abbrev b_1 : Array Bool := #[true, false, false, false, false, false, false, false, false, false, false, false, false, false, false, false]
abbrev b_2 : Array Bool := #[true, true, false, false, false, false, false, false, false, false, false, false, false, false, false, false]
abbrev b_3 : Array Bool := #[true, true, true, false, false, false, false, false, false, false, false, false, false, false, false, false]
abbrev b_4 : Array Bool := #[true, true, true, true, false, false, false, false, false, false, false, false, false, false, false, false]
abbrev b_5 : Array Bool := #[true, true, true, true, true, false, false, false, false, false, false, false, false, false, false, false]
abbrev b_6 : Array Bool := #[true, true, true, true, true, true, false, false, false, false, false, false, false, false, false, false]
abbrev b_7 : Array Bool := #[true, true, true, true, true, true, true, false, false, false, false, false, false, false, false, false]
abbrev b_8 : Array Bool := #[true, true, true, true, true, true, true, true, false, false, false, false, false, false, false, false]
abbrev b_9 : Array Bool := #[true, true, true, true, true, true, true, true, true, false, false, false, false, false, false, false]
abbrev b_10 : Array Bool := #[true, true, true, true, true, true, true, true, true, true, false, false, false, false, false, false]
abbrev b_11 : Array Bool := #[true, true, true, true, true, true, true, true, true, true, true, false, false, false, false, false]
abbrev b_12 : Array Bool := #[true, true, true, true, true, true, true, true, true, true, true, true, false, false, false, false]
abbrev b_13 : Array Bool := #[true, true, true, true, true, true, true, true, true, true, true, true, true, false, false, false]
abbrev b_14 : Array Bool := #[true, true, true, true, true, true, true, true, true, true, true, true, true, true, false, false]
abbrev b_15 : Array Bool := #[true, true, true, true, true, true, true, true, true, true, true, true, true, true, true, false]
abbrev b_16 : Array Bool := #[true, true, true, true, true, true, true, true, true, true, true, true, true, true, true, true]
abbrev b_17 : Array Bool := #[true, true, false, true, false, false, false, false, false, false, false, false, false, false, false, false]
abbrev b_18 : Array Bool := #[true, true, false, true, true, false, false, false, false, false, false, false, false, false, false, false]
abbrev b_19 : Array Bool := #[true, true, false, true, true, true, false, false, false, false, false, false, false, false, false, false]
abbrev b_20 : Array Bool := #[true, true, true, true, true, true, true, true, false, true, false, false, false, false, false, false]
abbrev b_21 : Array Bool := #[true, true, true, true, true, true, true, true, false, true, true, false, false, false, false, false]
abbrev b_22 : Array Bool := #[true, true, true, true, true, true, true, true, false, true, true, true, false, false, false, false]
abbrev b_23 : Array Bool := #[false, false, false, false, false, false, false, false, false, false, false, false, false, false, false, false, false, false, false, false, false, false, false, false, false, false, false, false]
abbrev b_24 : Array Bool := #[true, false, false, false, false, false, false, false, false, false, false, false, false, false, false, false, false, false, false, false, false, false, false, false, false, false, false, false]
abbrev b_25 : Array Bool := #[true, true, false, false, false, false, false, false, false, false, false, false, false, false, false, false, false, false, false, false, false, false, false, false, false, false, false, false]
abbrev b_26 : Array Bool := #[true, true, true, false, false, false, false, false, false, false, false, false, false, false, false, false, false, false, false, false, false, false, false, false, false, false, false, false]
abbrev b_27 : Array Bool := #[true, true, true, true, false, false, false, false, false, false, false, false, false, false, false, false, false, false, false, false, false, false, false, false, false, false, false, false]
abbrev b_28 : Array Bool := #[true, true, true, true, true, false, false, false, false, false, false, false, false, false, false, false, false, false, false, false, false, false, false, false, false, false, false, false]
abbrev b_29 : Array Bool := #[true, true, true, true, true, true, false, false, false, false, false, false, false, false, false, false, false, false, false, false, false, false, false, false, false, false, false, false]
abbrev b_30 : Array Bool := #[true, true, true, true, true, true, true, false, false, false, false, false, false, false, false, false, false, false, false, false, false, false, false, false, false, false, false, false]
abbrev b_31 : Array Bool := #[true, true, true, true, true, true, true, false, true, false, false, false, false, false, false, false, false, false, false, false, false, false, false, false, false, false, false, false]
abbrev b_32 : Array Bool := #[true, true, true, true, true, true, true, false, true, false, true, false, false, false, false, false, false, false, false, false, false, false, false, false, false, false, false, false]
abbrev b_33 : Array Bool := #[true, true, true, true, true, true, true, true, true, false, true, false, false, false, false, false, false, false, false, false, false, false, false, false, false, false, false, false]
abbrev b_34 : Array Bool := #[true, true, true, true, true, true, true, true, true, true, true, false, false, false, false, false, false, false, false, false, false, false, false, false, false, false, false, false]
abbrev b_35 : Array Bool := #[true, true, true, true, true, true, true, true, true, true, true, true, false, false, false, false, false, false, false, false, false, false, false, false, false, false, false, false]
abbrev b_36 : Array Bool := #[true, true, true, true, true, true, true, true, true, true, true, true, true, false, false, false, false, false, false, false, false, false, false, false, false, false, false, false]
abbrev b_37 : Array Bool := #[true, true, true, true, true, true, true, true, true, true, true, true, true, true, false, false, false, false, false, false, false, false, false, false, false, false, false, false]
abbrev b_38 : Array Bool := #[true, true, true, true, true, true, true, true, true, true, true, true, true, true, false, true, false, false, false, false, false, false, false, false, false, false, false, false]
abbrev b_39 : Array Bool := #[true, true, true, true, true, true, true, true, true, true, true, true, true, true, false, true, false, false, true, false, false, false, false, false, false, false, false, false]
abbrev b_40 : Array Bool := #[true, true, true, true, true, true, true, true, true, true, true, true, true, true, true, true, false, false, true, false, false, false, false, false, false, false, false, false]
abbrev b_41 : Array Bool := #[true, true, true, true, true, true, true, true, true, true, true, true, true, true, true, true, false, true, true, false, false, false, false, false, false, false, false, false]
abbrev b_42 : Array Bool := #[true, true, true, true, true, true, true, true, true, true, true, true, true, true, true, true, true, true, true, false, false, false, false, false, false, false, false, false]
abbrev b_43 : Array Bool := #[true, true, true, true, true, true, true, true, true, true, true, true, true, true, true, true, true, true, true, true, false, false, false, false, false, false, false, false]
abbrev b_44 : Array Bool := #[true, true, true, true, true, true, true, true, true, true, true, true, true, true, true, true, true, true, true, true, true, false, false, false, false, false, false, false]
abbrev b_45 : Array Bool := #[true, true, true, true, true, true, true, true, true, true, true, true, true, true, true, true, true, true, true, true, true, true, false, false, false, false, false, false]
abbrev b_46 : Array Bool := #[true, true, true, true, true, true, true, true, true, true, true, true, true, true, true, true, true, true, true, true, true, true, true, false, false, false, false, false]
abbrev b_47 : Array Bool := #[true, true, true, true, true, true, true, true, true, true, true, true, true, true, true, true, true, true, true, true, true, true, true, true, false, false, false, false]
abbrev b_48 : Array Bool := #[true, true, true, true, true, true, true, true, true, true, true, true, true, true, true, true, true, true, true, true, true, true, true, true, true, false, false, false]
abbrev b_49 : Array Bool := #[true, true, true, true, true, true, true, true, true, true, true, true, true, true, true, true, true, true, true, true, true, true, true, true, true, true, false, false]
abbrev b_50 : Array Bool := #[true, true, true, true, true, true, true, true, true, true, true, true, true, true, true, true, true, true, true, true, true, true, true, true, true, true, true, false]
abbrev b_51 : Array Bool := #[true, true, true, true, true, true, true, true, true, true, true, true, true, true, true, true, true, true, true, true, true, true, true, true, true, true, true, true]
abbrev b_52 : Array Bool := #[true, true, true, true, true, true, true, true, true, true, true, true, true, true, true, true, true, true, true, true, true, false, true, false, false, false, false, false]
set_option maxHeartbeats 8000000 in
set_option maxRecDepth 100000 in
theorem bobbinetkeep_ExprParts.calls (k : Nat) (A0 : Option Addr) (c0 : Nat) (l0 : List Int) (A1 : Option Addr) (c1 : Nat) (l1 : List Int) (A2 : Option Addr) (c2 : Nat) (l2 : List Int) (r : Bool) (w : World) (hr0 : Kd.C (Kd.int .i64) w A0 l0.length l0) (hc0 : l0.length ≤ c0) (hr1 : Kd.C (Kd.int .i64) w A1 l1.length l1) (hc1 : l1.length ≤ c1) (hr2 : Kd.C (Kd.int .i64) w A2 l2.length l2) (hc2 : l2.length ≤ c2) (h : bobbinetkeep_ExprParts.f k l0 l1 l2 = some r) :
  Calls Try.prog 5 #[.slice A0 l0.length c0, .slice A1 l1.length c1, .slice A2 l2.length c2] w fun e w' => e = .returned (.bool r) ∧ Below w.heap.size w w' := by
 have hu28 := Try.underlying28
 have HR0 := Aside0.mk hr0
 have HC0 := Aside0.mk hc0
 clear hr0 hc0
 have HR1 := Aside0.mk hr1
 have HC1 := Aside0.mk hc1
 clear hr1 hc1
 have HR2 := Aside0.mk hr2
 have HC2 := Aside0.mk hc2
 clear hr2 hc2
 have HB := Aside0.mk (Below.refl w.heap.size w)
 have H : ((bobbinetkeep_ExprText.f k l0 2).bind fun bt283 => ((bobbinetkeep_ExprText.f k l1 2).bind fun bt287 => ((bobbinetkeep_WordOf.f k l2 12).bind fun t291 => ((bobbinetkeep_exprOf.f k bt283.1).bind fun bt294 => ((bobbinetkeep_exprOf.f k bt287.1).bind fun bt301 => (if 1 + bt283.1.size ≤ 9223372036854775807 then (if ((⟨#[40]⟩ : ByteArray) ++ bt283.1).size + 2 ≤ 9223372036854775807 then (if (((⟨#[40]⟩ : ByteArray) ++ bt283.1) ++ (⟨#[41, 40]⟩ : ByteArray)).size + bt287.1.size ≤ 9223372036854775807 then (if ((((⟨#[40]⟩ : ByteArray) ++ bt283.1) ++ (⟨#[41, 40]⟩ : ByteArray)) ++ bt287.1).size + 1 ≤ 9223372036854775807 then ((bobbinetkeep_exprOf.f k (((((⟨#[40]⟩ : ByteArray) ++ bt283.1) ++ (⟨#[41, 40]⟩ : ByteArray)) ++ bt287.1) ++ (⟨#[41]⟩ : ByteArray))).bind fun bt308 => (if bt283.1.size + 1 ≤ 9223372036854775807 then (if (bt283.1 ++ (⟨#[124]⟩ : ByteArray)).size + bt287.1.size ≤ 9223372036854775807 then ((bobbinetkeep_exprOf.f k ((bt283.1 ++ (⟨#[124]⟩ : ByteArray)) ++ bt287.1)).bind fun bt315 => (if bt294.2.2.2 = true then (if bt301.2.2.2 = true then (if bt308.2.2.2 = true then (bobbinetkeep_ExprParts.j0 k t291 (!bt315.2.2.2) bt294.1 bt294.2.1 bt294.2.2.1 bt301.1 bt301.2.1 bt301.2.2.1 bt308.1 bt308.2.1 bt308.2.2.1 bt315.1 bt315.2.1 bt315.2.2.1) else (bobbinetkeep_ExprParts.j0 k t291 true bt294.1 bt294.2.1 bt294.2.2.1 bt301.1 bt301.2.1 bt301.2.2.1 bt308.1 bt308.2.1 bt308.2.2.1 bt315.1 bt315.2.1 bt315.2.2.1)) else (bobbinetkeep_ExprParts.j0 k t291 true bt294.1 bt294.2.1 bt294.2.2.1 bt301.1 bt301.2.1 bt301.2.2.1 bt308.1 bt308.2.1 bt308.2.2.1 bt315.1 bt315.2.1 bt315.2.2.1)) else (bobbinetkeep_ExprParts.j0 k t291 true bt294.1 bt294.2.1 bt294.2.2.1 bt301.1 bt301.2.1 bt301.2.2.1 bt308.1 bt308.2.1 bt308.2.2.1 bt315.1 bt315.2.1 bt315.2.2.1))) else (none)) else (none))) else (none)) else (none)) else (none)) else (none))))))) = some r := h
 clear h
 replace H := Option.bind_eq_some_iff.mp H
 obtain ⟨⟨t283, t284⟩, A40, H⟩ := H
 (try dsimp only at H)
 have A4 := Aside0.mk A40
 clear A40
 replace H := Option.bind_eq_some_iff.mp H
 obtain ⟨⟨t287, t288⟩, A50, H⟩ := H
 (try dsimp only at H)
 have A5 := Aside0.mk A50
 clear A50
 replace H := Option.bind_eq_some_iff.mp H
 obtain ⟨t291, A60, H⟩ := H
 (try dsimp only at H)
 have A6 := Aside0.mk A60
 clear A60
 replace H := Option.bind_eq_some_iff.mp H
 obtain ⟨⟨t294, t295, t296, t299⟩, A70, H⟩ := H
 (try dsimp only at H)
 have A7 := Aside0.mk A70
 clear A70
 replace H := Option.bind_eq_some_iff.mp H
 obtain ⟨⟨t301, t302, t303, t306⟩, A80, H⟩ := H
 (try dsimp only at H)
 have A8 := Aside0.mk A80
 clear A80
 by_cases c9 : 1 + t283.size ≤ 9223372036854775807
 rotate_left
 ·
  rw [if_neg c9] at H
  exact absurd H (by simp)
 rw [if_pos c9] at H
 have c9b0 := eq_true c9
 have c9b1 : decide (1 + t283.size ≤ 9223372036854775807) = true := decide_eq_true c9
 try have c9b2 : (9223372036854775807 < 1 + t283.size) = False := eq_false (Nat.not_lt.2 c9)
 by_cases c10 : ((⟨#[40]⟩ : ByteArray) ++ t283).size + 2 ≤ 9223372036854775807
 rotate_left
 ·
  rw [if_neg c10] at H
  exact absurd H (by simp)
 rw [if_pos c10] at H
 have c10b0 := eq_true c10
 have c10b1 : decide (((⟨#[40]⟩ : ByteArray) ++ t283).size + 2 ≤ 9223372036854775807) = true := decide_eq_true c10
 try have c10b2 : (9223372036854775807 < ((⟨#[40]⟩ : ByteArray) ++ t283).size + 2) = False := eq_false (Nat.not_lt.2 c10)
 try (have c10b3 := c10b2; simp only [ByteArray.size_append] at c10b3)
 try (have c10b4 := c10b2; simp only [ByteArray.size_append, show (⟨#[40]⟩ : ByteArray).size = 1 from rfl] at c10b4)
 by_cases c11 : (((⟨#[40]⟩ : ByteArray) ++ t283) ++ (⟨#[41, 40]⟩ : ByteArray)).size + t287.size ≤ 9223372036854775807
 rotate_left
 ·
  rw [if_neg c11] at H
  exact absurd H (by simp)
 rw [if_pos c11] at H
 have c11b0 := eq_true c11
 have c11b1 : decide ((((⟨#[40]⟩ : ByteArray) ++ t283) ++ (⟨#[41, 40]⟩ : ByteArray)).size + t287.size ≤ 9223372036854775807) = true := decide_eq_true c11
 try have c11b2 : (9223372036854775807 < (((⟨#[40]⟩ : ByteArray) ++ t283) ++ (⟨#[41, 40]⟩ : ByteArray)).size + t287.size) = False := eq_false (Nat.not_lt.2 c11)
 try (have c11b3 := c11b2; simp only [ByteArray.size_append] at c11b3)
 try (have c11b4 := c11b2; simp only [ByteArray.size_append, show (⟨#[40]⟩ : ByteArray).size = 1 from rfl, show (⟨#[41, 40]⟩ : ByteArray).size = 2 from rfl] at c11b4)
 by_cases c12 : ((((⟨#[40]⟩ : ByteArray) ++ t283) ++ (⟨#[41, 40]⟩ : ByteArray)) ++ t287).size + 1 ≤ 9223372036854775807
 rotate_left
 ·
  rw [if_neg c12] at H
  exact absurd H (by simp)
 rw [if_pos c12] at H
 have c12b0 := eq_true c12
 have c12b1 : decide (((((⟨#[40]⟩ : ByteArray) ++ t283) ++ (⟨#[41, 40]⟩ : ByteArray)) ++ t287).size + 1 ≤ 9223372036854775807) = true := decide_eq_true c12
 try have c12b2 : (9223372036854775807 < ((((⟨#[40]⟩ : ByteArray) ++ t283) ++ (⟨#[41, 40]⟩ : ByteArray)) ++ t287).size + 1) = False := eq_false (Nat.not_lt.2 c12)
 try (have c12b3 := c12b2; simp only [ByteArray.size_append] at c12b3)
 try (have c12b4 := c12b2; simp only [ByteArray.size_append, show (⟨#[40]⟩ : ByteArray).size = 1 from rfl, show (⟨#[41, 40]⟩ : ByteArray).size = 2 from rfl] at c12b4)
 replace H := Option.bind_eq_some_iff.mp H
 obtain ⟨⟨t308, t309, t310, t313⟩, A130, H⟩ := H
 (try dsimp only at H)
 have A13 := Aside0.mk A130
 clear A130
 by_cases c14 : t283.size + 1 ≤ 9223372036854775807
 rotate_left
 ·
  rw [if_neg c14] at H
  exact absurd H (by simp)
 rw [if_pos c14] at H
 have c14b0 := eq_true c14
 have c14b1 : decide (t283.size + 1 ≤ 9223372036854775807) = true := decide_eq_true c14
 try have c14b2 : (9223372036854775807 < t283.size + 1) = False := eq_false (Nat.not_lt.2 c14)
 by_cases c15 : (t283 ++ (⟨#[124]⟩ : ByteArray)).size + t287.size ≤ 9223372036854775807
 rotate_left
 ·
  rw [if_neg c15] at H
  exact absurd H (by simp)
 rw [if_pos c15] at H
 have c15b0 := eq_true c15
 have c15b1 : decide ((t283 ++ (⟨#[124]⟩ : ByteArray)).size + t287.size ≤ 9223372036854775807) = true := decide_eq_true c15
 try have c15b2 : (9223372036854775807 < (t283 ++ (⟨#[124]⟩ : ByteArray)).size + t287.size) = False := eq_false (Nat.not_lt.2 c15)
 try (have c15b3 := c15b2; simp only [ByteArray.size_append] at c15b3)
 try (have c15b4 := c15b2; simp only [ByteArray.size_append, show (⟨#[124]⟩ : ByteArray).size = 1 from rfl] at c15b4)
 replace H := Option.bind_eq_some_iff.mp H
 obtain ⟨⟨t315, t316, t317, t320⟩, A160, H⟩ := H
 (try dsimp only at H)
 have A16 := Aside0.mk A160
 clear A160
 have HC17 := Aside0.mk H
 clear H
 go_enter Try.func5, Try.ntmps5
 go_upto_region 8 with (first | ((with_reducible refine gate_callee (f := 9) rfl ?_); refine goesL_ (some 26) rfl rfl Try.func9 (by kernel_rfl) rfl #[.slice A0 l0.length c0, .int .i64 2] rfl (by (try simp only [List.map_toArray, List.map_cons, List.map_nil]); first | done | rfl | (simp only [List.length_drop, List.length_take]; rfl)) ?_; (with_reducible refine (bobbinetkeep_ExprText.calls k (fun k_ => k_ < w.heap.size) _ _ l0 2 t283 t284 _ ?side1 A4.out).mono ?_); (case side1 => exact Kd.V_mk HC0.out (Kd.F_below (Kd.C_F (Kd.heap_int .i64) HR0.out) (B_st HB.out))); rintro e w18 ⟨v285, rfl, ho0, hb⟩; refine ⟨_, rfl, ?_⟩; have n0_ := Aside0.mk (Kd.V_lower (Kd.V_mono (ok' := fun k_ => True) ho0 (fun k_ hk_ => trivial)) (below_size (B_st HB.out))); have n1_ := Aside0.mk (below_step (B_st HB.out) hb); clear HB; have HO286 := n0_; have HB := n1_; clear n0_ n1_; (try clear hb); (try clear hb2); (try clear hk); (try clear hi); (try clear ho0)) | ((with_reducible refine gate_callee (f := 9) rfl ?_); refine goesL_ (some 31) rfl rfl Try.func9 (by kernel_rfl) rfl #[.slice A1 l1.length c1, .int .i64 2] rfl (by (try simp only [List.map_toArray, List.map_cons, List.map_nil]); first | done | rfl | (simp only [List.length_drop, List.length_take]; rfl)) ?_; (with_reducible refine (bobbinetkeep_ExprText.calls k (fun k_ => k_ < w.heap.size) _ _ l1 2 t287 t288 _ ?side1 A5.out).mono ?_); (case side1 => exact Kd.V_mk HC1.out (Kd.F_below (Kd.C_F (Kd.heap_int .i64) HR1.out) (B_st HB.out))); rintro e w19 ⟨v289, rfl, ho0, hb⟩; refine ⟨_, rfl, ?_⟩; have n0_ := Aside0.mk (Kd.V_below (V_st <| HO286.out) hb); have n1_ := Aside0.mk (Kd.V_lower (Kd.V_mono (ok' := fun k_ => True) ho0 (fun k_ hk_ => trivial)) (below_size (B_st HB.out))); have n2_ := Aside0.mk (below_step (B_st HB.out) hb); clear HO286; clear HB; have HO286 := n0_; have HO290 := n1_; have HB := n2_; clear n0_ n1_ n2_; (try clear hb); (try clear hb2); (try clear hk); (try clear hi); (try clear ho0)) | ((with_reducible refine gate_callee (f := 14) rfl ?_); refine goesL_ (some 35) rfl rfl Try.func14 (by kernel_rfl) rfl #[.slice A2 l2.length c2, .int .i64 12] rfl (by (try simp only [List.map_toArray, List.map_cons, List.map_nil]); first | done | rfl | (simp only [List.length_drop, List.length_take]; rfl)) ?_; (with_reducible refine (bobbinetkeep_WordOf.calls k _ _ l2 12 t291 _ ?side1 ?side2 A6.out).mono ?_); (case side1 => repeat (first | exact (Kd.C_below HR2.out HB.out) | (with_reducible refine Kd.C_alloc ?_ _) | (with_reducible refine Kd.C_drewN ?_ _) | (with_reducible refine Kd.C_drew ?_))); (case side2 => exact HC2.out); rintro e w20 ⟨v292, rfl, ho0, hb⟩; refine ⟨_, rfl, ?_⟩; have n0_ := Aside0.mk (Kd.V_elder' (V_st <| HO286.out) (Kd.R_base ho0) hb); have n1_ := Aside0.mk (Kd.V_elder' (V_st <| HO290.out) (Kd.R_base ho0) hb); have n2_ := Aside0.mk (Kd.R_lower ho0 (below_size (B_st HB.out))); have n3_ := Aside0.mk (below_step (B_st HB.out) hb); clear HO286; clear HO290; clear HB; have HO286 := n0_; have HO290 := n1_; have HO293 := n2_; have HB := n3_; clear n0_ n1_ n2_ n3_; (try clear hb); (try clear hb2); (try clear hk); (try clear hi); (try clear ho0)) | ((with_reducible refine gate_callee (f := 11) rfl ?_); refine goesL_ (some 38) rfl rfl Try.func11 (by kernel_rfl) rfl #[.string t283] rfl (by (try simp only [List.map_toArray, List.map_cons, List.map_nil]); first | done | rfl | (simp only [List.length_drop, List.length_take]; rfl)) ?_; (with_reducible refine (bobbinetkeep_exprOf.calls k t283 t294 t295 t296 t299 _ A7.out).mono ?_); rintro e w21 ⟨v297, rfl, ho0, hb⟩; refine ⟨_, rfl, ?_⟩; have n0_ := Aside0.mk (Kd.V_below (V_st <| HO286.out) hb); have n1_ := Aside0.mk (Kd.V_below (V_st <| HO290.out) hb); have n2_ := Aside0.mk (Kd.R_below (R_st <| HO293.out) hb); have n3_ := Aside0.mk (Kd.V_lower (Kd.V_mono (ok' := fun k_ => some k_ ≠ (v292 : Value).ownBlock) ho0 (fun k_ hk_ => (Kd.fresh' (Kd.R_lt (R_st <| HO293.out)) k_ hk_))) (below_size (B_st HB.out))); have n4_ := Aside0.mk (below_step (B_st HB.out) hb); clear HO286; clear HO290; clear HO293; clear HB; have HO286 := n0_; have HO290 := n1_; have HO293 := n2_; have HO298 := n3_; have HB := n4_; clear n0_ n1_ n2_ n3_ n4_; (try clear hb); (try clear hb2); (try clear hk); (try clear hi); (try clear ho0)) | ((with_reducible refine gate_dst (N := 12) rfl ?_); (try (refine gate_guard (by rfl) ?_; dsimp only)); refine box_event ?hg (N := 12) ?hd (cs := #[.int .i64 0, .int .i64 0, .slice none 0 0]) (t := 28) ?hr ?_; (case hd => rfl); (case hg => rfl); (case hr => first | (go_simp; done) | (go_simp; rfl)); intro gb300 hg w22 hbox hb; have n0_ := Aside0.mk (Kd.V_below (Kd.V_elderB (V_st <| HO286.out) gb300 (Nat.le_of_eq hg.symm)) hb); have n1_ := Aside0.mk (Kd.V_below (Kd.V_elderB (V_st <| HO290.out) gb300 (Nat.le_of_eq hg.symm)) hb); have n2_ := Aside0.mk (Kd.R_below (R_st <| HO293.out) hb); have n3_ := Aside0.mk (Kd.V_below (Kd.V_elderB (V_st <| HO298.out) gb300 (Nat.le_of_eq hg.symm)) hb); have n4_ := Aside0.mk (below_step (B_st HB.out) hb); have n5_ := Aside0.mk (hbox); have n6_ := Aside0.mk ((by rw [hg]; exact (below_size (B_st HB.out)) : w.heap.size ≤ gb300)); have n7_ := Aside0.mk ((by rw [hg]; exact (below_size (B_st HB.out)) : w.heap.size ≤ gb300)); clear HO286; clear HO290; clear HO293; clear HO298; clear HB; have HO286 := n0_; have HO290 := n1_; have HO293 := n2_; have HO298 := n3_; have HB := n4_; have BK300 := n5_; have GW300 := n6_; have GE300 := n7_; clear n0_ n1_ n2_ n3_ n4_ n5_ n6_ n7_; clear hb hbox hg; have hcz23_0 : w22.cell? ⟨gb300, 0, none⟩ = some (.int .i64 0) := (blk_cell BK300.out 0).trans rfl; have hcz23_1 : w22.cell? ⟨gb300, 1, none⟩ = some (.int .i64 0) := (blk_cell BK300.out 1).trans rfl; have hcz23_2 : w22.cell? ⟨gb300, 2, none⟩ = some (.slice none 0 0) := (blk_cell BK300.out 2).trans rfl; have hfz23_0 := blk_frozen BK300.out 0; have hfz23_1 := blk_frozen BK300.out 1; have hfz23_2 := blk_frozen BK300.out 2; obtain ⟨Ao24, co24, eo24⟩ := Kd.V_slice HO298.out; subst eo24) | ((with_reducible refine gate_callee (f := 11) rfl ?_); refine goesL_ (some 43) rfl rfl Try.func11 (by kernel_rfl) rfl #[.string t287] rfl (by (try simp only [List.map_toArray, List.map_cons, List.map_nil]); first | done | rfl | (simp only [List.length_drop, List.length_take]; rfl)) ?_; (with_reducible refine (bobbinetkeep_exprOf.calls k t287 t301 t302 t303 t306 _ A8.out).mono ?_); rintro e w25 ⟨v304, rfl, ho0, hb⟩; refine ⟨_, rfl, ?_⟩; have n0_ := Aside0.mk (Kd.V_below (V_st <| (Kd.V_mono (Kd.V_far (p := ⟨gb300, 2, none⟩) (Kd.V_far (p := ⟨gb300, 1, none⟩) (Kd.V_far (p := ⟨gb300, 0, none⟩) (Kd.V_mono HO286.out (fun k_ hk => (⟨hk, hk.2⟩ : _ ∧ k_ ≠ gb300))) (fun _ hk => hk.2) (.int .i64 t294)) (fun _ hk => hk.2) (.int .i64 t295)) (fun _ hk => hk.2) (.slice Ao24 t296.length co24)) (fun _ h_ => h_.1))) hb); have n1_ := Aside0.mk (Kd.V_below (V_st <| (Kd.V_mono (Kd.V_far (p := ⟨gb300, 2, none⟩) (Kd.V_far (p := ⟨gb300, 1, none⟩) (Kd.V_far (p := ⟨gb300, 0, none⟩) (Kd.V_mono HO290.out (fun k_ hk => (⟨hk, hk.2⟩ : _ ∧ k_ ≠ gb300))) (fun _ hk => hk.2) (.int .i64 t294)) (fun _ hk => hk.2) (.int .i64 t295)) (fun _ hk => hk.2) (.slice Ao24 t296.length co24)) (fun _ h_ => h_.1))) hb); have n2_ := Aside0.mk (Kd.R_below (R_st <| (Kd.R_mono (Kd.R_far (p := ⟨gb300, 2, none⟩) (Kd.R_far (p := ⟨gb300, 1, none⟩) (Kd.R_far (p := ⟨gb300, 0, none⟩) (Kd.R_types HO293.out BK300.out (by decide)) (fun _ hk => hk.2) (.int .i64 t294)) (fun _ hk => hk.2) (.int .i64 t295)) (fun _ hk => hk.2) (.slice Ao24 t296.length co24)) (fun _ h_ => h_.1))) hb); have n3_ := Aside0.mk (Kd.V_below (V_st <| (Kd.V_mono (Kd.V_far (p := ⟨gb300, 2, none⟩) (Kd.V_far (p := ⟨gb300, 1, none⟩) (Kd.V_far (p := ⟨gb300, 0, none⟩) (Kd.V_mono HO298.out (fun k_ hk => (⟨hk, hk.2⟩ : _ ∧ k_ ≠ gb300))) (fun _ hk => hk.2) (.int .i64 t294)) (fun _ hk => hk.2) (.int .i64 t295)) (fun _ hk => hk.2) (.slice Ao24 t296.length co24)) (fun _ h_ => h_.1))) hb); have n4_ := Aside0.mk (Kd.V_lower (Kd.V_mono (ok' := fun k_ => some k_ ≠ (v292 : Value).ownBlock ∧ k_ ≠ gb300) ho0 (fun k_ hk_ => ⟨(Kd.fresh' (Kd.R_lt (R_st <| (Kd.R_mono (Kd.R_far (p := ⟨gb300, 2, none⟩) (Kd.R_far (p := ⟨gb300, 1, none⟩) (Kd.R_far (p := ⟨gb300, 0, none⟩) (Kd.R_types HO293.out BK300.out (by decide)) (fun _ hk => hk.2) (.int .i64 t294)) (fun _ hk => hk.2) (.int .i64 t295)) (fun _ hk => hk.2) (.slice Ao24 t296.length co24)) (fun _ h_ => h_.1)))) k_ hk_), (Kd.freshB (g := gb300) (o := .cells #[.int .i64 t294, .int .i64 t295, .slice Ao24 t296.length co24] 28 (0, 0)) (by (with_reducible repeat (first | refine blk_drewN ?_ _ | refine blk_drew ?_ | refine blk_alloc ?_ _)); refine blk_put (cs := #[.int .i64 t294, .int .i64 t295, .slice none 0 0]) ?_ 2 _ rfl; (with_reducible repeat (first | refine blk_drewN ?_ _ | refine blk_drew ?_ | refine blk_alloc ?_ _)); refine blk_put (cs := #[.int .i64 t294, .int .i64 0, .slice none 0 0]) ?_ 1 _ rfl; (with_reducible repeat (first | refine blk_drewN ?_ _ | refine blk_drew ?_ | refine blk_alloc ?_ _)); refine blk_put (cs := #[.int .i64 0, .int .i64 0, .slice none 0 0]) ?_ 0 _ rfl; (with_reducible repeat (first | refine blk_drewN ?_ _ | refine blk_drew ?_ | refine blk_alloc ?_ _)); exact BK300.out) k_ hk_)⟩)) (below_size (by repeat (first | (with_reducible first | exact HB.out | apply below_alloc | apply pw_below_drewN | apply below_drew1 | refine below_set ?_ GE300.out) | exact HB.out)))); have n5_ := Aside0.mk (blk_below (g := gb300) (o := .cells #[.int .i64 t294, .int .i64 t295, .slice Ao24 t296.length co24] 28 (0, 0)) (by (with_reducible repeat (first | refine blk_drewN ?_ _ | refine blk_drew ?_ | refine blk_alloc ?_ _)); refine blk_put (cs := #[.int .i64 t294, .int .i64 t295, .slice none 0 0]) ?_ 2 _ rfl; (with_reducible repeat (first | refine blk_drewN ?_ _ | refine blk_drew ?_ | refine blk_alloc ?_ _)); refine blk_put (cs := #[.int .i64 t294, .int .i64 0, .slice none 0 0]) ?_ 1 _ rfl; (with_reducible repeat (first | refine blk_drewN ?_ _ | refine blk_drew ?_ | refine blk_alloc ?_ _)); refine blk_put (cs := #[.int .i64 0, .int .i64 0, .slice none 0 0]) ?_ 0 _ rfl; (with_reducible repeat (first | refine blk_drewN ?_ _ | refine blk_drew ?_ | refine blk_alloc ?_ _)); exact BK300.out) hb); have n6_ := Aside0.mk (below_step (by repeat (first | (with_reducible first | exact HB.out | apply below_alloc | apply pw_below_drewN | apply below_drew1 | refine below_set ?_ GE300.out) | exact HB.out)) hb); clear HO286; clear HO290; clear HO293; clear HO298; clear BK300; clear HB; have HO286 := n0_; have HO290 := n1_; have HO293 := n2_; have HO298 := n3_; have HO305 := n4_; have BK300 := n5_; have HB := n6_; clear n0_ n1_ n2_ n3_ n4_ n5_ n6_; (try clear hb); (try clear hb2); (try clear hk); (try clear hi); (try clear ho0)) | ((with_reducible refine gate_dst (N := 14) rfl ?_); (try (refine gate_guard (by rfl) ?_; dsimp only)); refine box_event ?hg (N := 14) ?hd (cs := #[.int .i64 0, .int .i64 0, .slice none 0 0]) (t := 28) ?hr ?_; (case hd => rfl); (case hg => rfl); (case hr => first | (go_simp; done) | (go_simp; rfl)); intro gb307 hg w26 hbox hb; have n0_ := Aside0.mk (Kd.V_below (Kd.V_elderB (V_st <| HO286.out) gb307 (Nat.le_of_eq hg.symm)) hb); have n1_ := Aside0.mk (Kd.V_below (Kd.V_elderB (V_st <| HO290.out) gb307 (Nat.le_of_eq hg.symm)) hb); have n2_ := Aside0.mk (Kd.R_below (R_st <| HO293.out) hb); have n3_ := Aside0.mk (Kd.V_below (Kd.V_elderB (V_st <| HO298.out) gb307 (Nat.le_of_eq hg.symm)) hb); have n4_ := Aside0.mk (Kd.V_below (Kd.V_elderB (V_st <| HO305.out) gb307 (Nat.le_of_eq hg.symm)) hb); have n5_ := Aside0.mk (blk_below (g := gb300) (o := .cells #[.int .i64 t294, .int .i64 t295, .slice Ao24 t296.length co24] 28 (0, 0)) (by (with_reducible repeat (first | refine blk_drewN ?_ _ | refine blk_drew ?_ | refine blk_alloc ?_ _)); exact BK300.out) hb); have n6_ := Aside0.mk (below_step (by repeat (first | (with_reducible first | exact HB.out | apply below_alloc | apply pw_below_drewN | apply below_drew1 | refine below_set ?_ GE300.out) | exact HB.out)) hb); have n7_ := Aside0.mk (hbox); have n8_ := Aside0.mk ((by rw [hg]; exact (below_size (by repeat (first | (with_reducible first | exact HB.out | apply below_alloc | apply pw_below_drewN | apply below_drew1 | refine below_set ?_ GE300.out) | exact HB.out))) : w.heap.size ≤ gb307)); have n9_ := Aside0.mk ((by rw [hg]; exact (below_size (by repeat (first | (with_reducible first | exact HB.out | apply below_alloc | apply pw_below_drewN | apply below_drew1 | refine below_set ?_ GE300.out) | exact HB.out))) : w.heap.size ≤ gb307)); have n10_ := Aside0.mk ((by rw [hg]; exact Nat.ne_of_lt (blk_lt (g := gb300) (o := .cells #[.int .i64 t294, .int .i64 t295, .slice Ao24 t296.length co24] 28 (0, 0)) (by (with_reducible repeat (first | refine blk_drewN ?_ _ | refine blk_drew ?_ | refine blk_alloc ?_ _)); exact BK300.out)) : gb300 ≠ gb307)); have n11_ := Aside0.mk ((by rw [hg]; exact Nat.ne_of_gt (blk_lt (g := gb300) (o := .cells #[.int .i64 t294, .int .i64 t295, .slice Ao24 t296.length co24] 28 (0, 0)) (by (with_reducible repeat (first | refine blk_drewN ?_ _ | refine blk_drew ?_ | refine blk_alloc ?_ _)); exact BK300.out)) : gb307 ≠ gb300)); clear HO286; clear HO290; clear HO293; clear HO298; clear HO305; clear BK300; clear HB; have HO286 := n0_; have HO290 := n1_; have HO293 := n2_; have HO298 := n3_; have HO305 := n4_; have BK300 := n5_; have HB := n6_; have BK307 := n7_; have GW307 := n8_; have GE307 := n9_; have NB300_307 := n10_; have NB307_300 := n11_; clear n0_ n1_ n2_ n3_ n4_ n5_ n6_ n7_ n8_ n9_ n10_ n11_; clear hb hbox hg; have hnb27 := NB307_300.out; have hnc27 := NB300_307.out; have hcz28_0 : w26.cell? ⟨gb307, 0, none⟩ = some (.int .i64 0) := (blk_cell BK307.out 0).trans rfl; have hcz28_1 : w26.cell? ⟨gb307, 1, none⟩ = some (.int .i64 0) := (blk_cell BK307.out 1).trans rfl; have hcz28_2 : w26.cell? ⟨gb307, 2, none⟩ = some (.slice none 0 0) := (blk_cell BK307.out 2).trans rfl; have hfz28_0 := blk_frozen BK307.out 0; have hfz28_1 := blk_frozen BK307.out 1; have hfz28_2 := blk_frozen BK307.out 2; obtain ⟨Ao29, co29, eo29⟩ := Kd.V_slice HO305.out; subst eo29) | ((with_reducible refine gate_callee (f := 11) rfl ?_); refine goesL_ (some 53) rfl rfl Try.func11 (by kernel_rfl) rfl #[.string (((((⟨#[40]⟩ : ByteArray) ++ t283) ++ (⟨#[41, 40]⟩ : ByteArray)) ++ t287) ++ (⟨#[41]⟩ : ByteArray))] rfl (by (try simp only [List.map_toArray, List.map_cons, List.map_nil]); first | done | rfl | (simp only [List.length_drop, List.length_take]; rfl)) ?_; (with_reducible refine (bobbinetkeep_exprOf.calls k (((((⟨#[40]⟩ : ByteArray) ++ t283) ++ (⟨#[41, 40]⟩ : ByteArray)) ++ t287) ++ (⟨#[41]⟩ : ByteArray)) t308 t309 t310 t313 _ A13.out).mono ?_); rintro e w30 ⟨v311, rfl, ho0, hb⟩; refine ⟨_, rfl, ?_⟩; have n0_ := Aside0.mk (Kd.V_below (V_st <| (Kd.V_mono (Kd.V_far (p := ⟨gb307, 2, none⟩) (Kd.V_far (p := ⟨gb307, 1, none⟩) (Kd.V_far (p := ⟨gb307, 0, none⟩) (Kd.V_mono HO286.out (fun k_ hk => (⟨hk, hk.2⟩ : _ ∧ k_ ≠ gb307))) (fun _ hk => hk.2) (.int .i64 t301)) (fun _ hk => hk.2) (.int .i64 t302)) (fun _ hk => hk.2) (.slice Ao29 t303.length co29)) (fun _ h_ => h_.1))) hb); have n1_ := Aside0.mk (Kd.V_below (V_st <| (Kd.V_mono (Kd.V_far (p := ⟨gb307, 2, none⟩) (Kd.V_far (p := ⟨gb307, 1, none⟩) (Kd.V_far (p := ⟨gb307, 0, none⟩) (Kd.V_mono HO290.out (fun k_ hk => (⟨hk, hk.2⟩ : _ ∧ k_ ≠ gb307))) (fun _ hk => hk.2) (.int .i64 t301)) (fun _ hk => hk.2) (.int .i64 t302)) (fun _ hk => hk.2) (.slice Ao29 t303.length co29)) (fun _ h_ => h_.1))) hb); have n2_ := Aside0.mk (Kd.R_below (R_st <| (Kd.R_mono (Kd.R_far (p := ⟨gb307, 2, none⟩) (Kd.R_far (p := ⟨gb307, 1, none⟩) (Kd.R_far (p := ⟨gb307, 0, none⟩) (Kd.R_types HO293.out BK307.out (by decide)) (fun _ hk => hk.2) (.int .i64 t301)) (fun _ hk => hk.2) (.int .i64 t302)) (fun _ hk => hk.2) (.slice Ao29 t303.length co29)) (fun _ h_ => h_.1))) hb); have n3_ := Aside0.mk (Kd.V_below (V_st <| (Kd.V_mono (Kd.V_far (p := ⟨gb307, 2, none⟩) (Kd.V_far (p := ⟨gb307, 1, none⟩) (Kd.V_far (p := ⟨gb307, 0, none⟩) (Kd.V_mono HO298.out (fun k_ hk => (⟨hk, hk.2⟩ : _ ∧ k_ ≠ gb307))) (fun _ hk => hk.2) (.int .i64 t301)) (fun _ hk => hk.2) (.int .i64 t302)) (fun _ hk => hk.2) (.slice Ao29 t303.length co29)) (fun _ h_ => h_.1))) hb); have n4_ := Aside0.mk (Kd.V_below (V_st <| (Kd.V_mono (Kd.V_far (p := ⟨gb307, 2, none⟩) (Kd.V_far (p := ⟨gb307, 1, none⟩) (Kd.V_far (p := ⟨gb307, 0, none⟩) (Kd.V_mono HO305.out (fun k_ hk => (⟨hk, hk.2⟩ : _ ∧ k_ ≠ gb307))) (fun _ hk => hk.2) (.int .i64 t301)) (fun _ hk => hk.2) (.int .i64 t302)) (fun _ hk => hk.2) (.slice Ao29 t303.length co29)) (fun _ h_ => h_.1))) hb); have n5_ := Aside0.mk (Kd.V_lower (Kd.V_mono (ok' := fun k_ => some k_ ≠ (v292 : Value).ownBlock ∧ k_ ≠ gb300 ∧ k_ ≠ gb307) ho0 (fun k_ hk_ => ⟨(Kd.fresh' (Kd.R_lt (R_st <| (Kd.R_mono (Kd.R_far (p := ⟨gb307, 2, none⟩) (Kd.R_far (p := ⟨gb307, 1, none⟩) (Kd.R_far (p := ⟨gb307, 0, none⟩) (Kd.R_types HO293.out BK307.out (by decide)) (fun _ hk => hk.2) (.int .i64 t301)) (fun _ hk => hk.2) (.int .i64 t302)) (fun _ hk => hk.2) (.slice Ao29 t303.length co29)) (fun _ h_ => h_.1)))) k_ hk_), (Kd.freshB (g := gb300) (o := .cells #[.int .i64 t294, .int .i64 t295, .slice Ao24 t296.length co24] 28 (0, 0)) (by (with_reducible repeat (first | refine blk_drewN ?_ _ | refine blk_drew ?_ | refine blk_alloc ?_ _)); refine blk_far ?_ NB300_307.out _; (with_reducible repeat (first | refine blk_drewN ?_ _ | refine blk_drew ?_ | refine blk_alloc ?_ _)); refine blk_far ?_ NB300_307.out _; (with_reducible repeat (first | refine blk_drewN ?_ _ | refine blk_drew ?_ | refine blk_alloc ?_ _)); refine blk_far ?_ NB300_307.out _; (with_reducible repeat (first | refine blk_drewN ?_ _ | refine blk_drew ?_ | refine blk_alloc ?_ _)); exact BK300.out) k_ hk_), (Kd.freshB (g := gb307) (o := .cells #[.int .i64 t301, .int .i64 t302, .slice Ao29 t303.length co29] 28 (0, 0)) (by (with_reducible repeat (first | refine blk_drewN ?_ _ | refine blk_drew ?_ | refine blk_alloc ?_ _)); refine blk_put (cs := #[.int .i64 t301, .int .i64 t302, .slice none 0 0]) ?_ 2 _ rfl; (with_reducible repeat (first | refine blk_drewN ?_ _ | refine blk_drew ?_ | refine blk_alloc ?_ _)); refine blk_put (cs := #[.int .i64 t301, .int .i64 0, .slice none 0 0]) ?_ 1 _ rfl; (with_reducible repeat (first | refine blk_drewN ?_ _ | refine blk_drew ?_ | refine blk_alloc ?_ _)); refine blk_put (cs := #[.int .i64 0, .int .i64 0, .slice none 0 0]) ?_ 0 _ rfl; (with_reducible repeat (first | refine blk_drewN ?_ _ | refine blk_drew ?_ | refine blk_alloc ?_ _)); exact BK307.out) k_ hk_)⟩)) (below_size (by repeat (first | (with_reducible first | exact HB.out | apply below_alloc | apply pw_below_drewN | apply below_drew1 | refine below_set ?_ GE300.out | refine below_set ?_ GE307.out) | exact HB.out)))); have n6_ := Aside0.mk (blk_below (g := gb300) (o := .cells #[.int .i64 t294, .int .i64 t295, .slice Ao24 t296.length co24] 28 (0, 0)) (by (with_reducible repeat (first | refine blk_drewN ?_ _ | refine blk_drew ?_ | refine blk_alloc ?_ _)); refine blk_far ?_ NB300_307.out _; (with_reducible repeat (first | refine blk_drewN ?_ _ | refine blk_drew ?_ | refine blk_alloc ?_ _)); refine blk_far ?_ NB300_307.out _; (with_reducible repeat (first | refine blk_drewN ?_ _ | refine blk_drew ?_ | refine blk_alloc ?_ _)); refine blk_far ?_ NB300_307.out _; (with_reducible repeat (first | refine blk_drewN ?_ _ | refine blk_drew ?_ | refine blk_alloc ?_ _)); exact BK300.out) hb); have n7_ := Aside0.mk (blk_below (g := gb307) (o := .cells #[.int .i64 t301, .int .i64 t302, .slice Ao29 t303.length co29] 28 (0, 0)) (by (with_reducible repeat (first | refine blk_drewN ?_ _ | refine blk_drew ?_ | refine blk_alloc ?_ _)); refine blk_put (cs := #[.int .i64 t301, .int .i64 t302, .slice none 0 0]) ?_ 2 _ rfl; (with_reducible repeat (first | refine blk_drewN ?_ _ | refine blk_drew ?_ | refine blk_alloc ?_ _)); refine blk_put (cs := #[.int .i64 t301, .int .i64 0, .slice none 0 0]) ?_ 1 _ rfl; (with_reducible repeat (first | refine blk_drewN ?_ _ | refine blk_drew ?_ | refine blk_alloc ?_ _)); refine blk_put (cs := #[.int .i64 0, .int .i64 0, .slice none 0 0]) ?_ 0 _ rfl; (with_reducible repeat (first | refine blk_drewN ?_ _ | refine blk_drew ?_ | refine blk_alloc ?_ _)); exact BK307.out) hb); have n8_ := Aside0.mk (below_step (by repeat (first | (with_reducible first | exact HB.out | apply below_alloc | apply pw_below_drewN | apply below_drew1 | refine below_set ?_ GE300.out | refine below_set ?_ GE307.out) | exact HB.out)) hb); clear HO286; clear HO290; clear HO293; clear HO298; clear HO305; clear BK300; clear BK307; clear HB; have HO286 := n0_; have HO290 := n1_; have HO293 := n2_; have HO298 := n3_; have HO305 := n4_; have HO312 := n5_; have BK300 := n6_; have BK307 := n7_; have HB := n8_; clear n0_ n1_ n2_ n3_ n4_ n5_ n6_ n7_ n8_; (try clear hb); (try clear hb2); (try clear hk); (try clear hi); (try clear ho0)) | ((with_reducible refine gate_dst (N := 16) rfl ?_); (try (refine gate_guard (by rfl) ?_; dsimp only)); refine box_event ?hg (N := 16) ?hd (cs := #[.int .i64 0, .int .i64 0, .slice none 0 0]) (t := 28) ?hr ?_; (case hd => rfl); (case hg => rfl); (case hr => first | (go_simp; done) | (go_simp; rfl)); intro gb314 hg w31 hbox hb; have n0_ := Aside0.mk (Kd.V_below (Kd.V_elderB (V_st <| HO286.out) gb314 (Nat.le_of_eq hg.symm)) hb); have n1_ := Aside0.mk (Kd.V_below (Kd.V_elderB (V_st <| HO290.out) gb314 (Nat.le_of_eq hg.symm)) hb); have n2_ := Aside0.mk (Kd.R_below (R_st <| HO293.out) hb); have n3_ := Aside0.mk (Kd.V_below (Kd.V_elderB (V_st <| HO298.out) gb314 (Nat.le_of_eq hg.symm)) hb); have n4_ := Aside0.mk (Kd.V_below (Kd.V_elderB (V_st <| HO305.out) gb314 (Nat.le_of_eq hg.symm)) hb); have n5_ := Aside0.mk (Kd.V_below (Kd.V_elderB (V_st <| HO312.out) gb314 (Nat.le_of_eq hg.symm)) hb); have n6_ := Aside0.mk (blk_below (g := gb300) (o := .cells #[.int .i64 t294, .int .i64 t295, .slice Ao24 t296.length co24] 28 (0, 0)) (by (with_reducible repeat (first | refine blk_drewN ?_ _ | refine blk_drew ?_ | refine blk_alloc ?_ _)); exact BK300.out) hb); have n7_ := Aside0.mk (blk_below (g := gb307) (o := .cells #[.int .i64 t301, .int .i64 t302, .slice Ao29 t303.length co29] 28 (0, 0)) (by (with_reducible repeat (first | refine blk_drewN ?_ _ | refine blk_drew ?_ | refine blk_alloc ?_ _)); exact BK307.out) hb); have n8_ := Aside0.mk (below_step (by repeat (first | (with_reducible first | exact HB.out | apply below_alloc | apply pw_below_drewN | apply below_drew1 | refine below_set ?_ GE300.out | refine below_set ?_ GE307.out) | exact HB.out)) hb); have n9_ := Aside0.mk (hbox); have n10_ := Aside0.mk ((by rw [hg]; exact (below_size (by repeat (first | (with_reducible first | exact HB.out | apply below_alloc | apply pw_below_drewN | apply below_drew1 | refine below_set ?_ GE300.out | refine below_set ?_ GE307.out) | exact HB.out))) : w.heap.size ≤ gb314)); have n11_ := Aside0.mk ((by rw [hg]; exact (below_size (by repeat (first | (with_reducible first | exact HB.out | apply below_alloc | apply pw_below_drewN | apply below_drew1 | refine below_set ?_ GE300.out | refine below_set ?_ GE307.out) | exact HB.out))) : w.heap.size ≤ gb314)); have n12_ := Aside0.mk ((by rw [hg]; exact Nat.ne_of_lt (blk_lt (g := gb300) (o := .cells #[.int .i64 t294, .int .i64 t295, .slice Ao24 t296.length co24] 28 (0, 0)) (by (with_reducible repeat (first | refine blk_drewN ?_ _ | refine blk_drew ?_ | refine blk_alloc ?_ _)); exact BK300.out)) : gb300 ≠ gb314)); have n13_ := Aside0.mk ((by rw [hg]; exact Nat.ne_of_gt (blk_lt (g := gb300) (o := .cells #[.int .i64 t294, .int .i64 t295, .slice Ao24 t296.length co24] 28 (0, 0)) (by (with_reducible repeat (first | refine blk_drewN ?_ _ | refine blk_drew ?_ | refine blk_alloc ?_ _)); exact BK300.out)) : gb314 ≠ gb300)); have n14_ := Aside0.mk ((by rw [hg]; exact Nat.ne_of_lt (blk_lt (g := gb307) (o := .cells #[.int .i64 t301, .int .i64 t302, .slice Ao29 t303.length co29] 28 (0, 0)) (by (with_reducible repeat (first | refine blk_drewN ?_ _ | refine blk_drew ?_ | refine blk_alloc ?_ _)); exact BK307.out)) : gb307 ≠ gb314)); have n15_ := Aside0.mk ((by rw [hg]; exact Nat.ne_of_gt (blk_lt (g := gb307) (o := .cells #[.int .i64 t301, .int .i64 t302, .slice Ao29 t303.length co29] 28 (0, 0)) (by (with_reducible repeat (first | refine blk_drewN ?_ _ | refine blk_drew ?_ | refine blk_alloc ?_ _)); exact BK307.out)) : gb314 ≠ gb307)); clear HO286; clear HO290; clear HO293; clear HO298; clear HO305; clear HO312; clear BK300; clear BK307; clear HB; have HO286 := n0_; have HO290 := n1_; have HO293 := n2_; have HO298 := n3_; have HO305 := n4_; have HO312 := n5_; have BK300 := n6_; have BK307 := n7_; have HB := n8_; have BK314 := n9_; have GW314 := n10_; have GE314 := n11_; have NB300_314 := n12_; have NB314_300 := n13_; have NB307_314 := n14_; have NB314_307 := n15_; clear n0_ n1_ n2_ n3_ n4_ n5_ n6_ n7_ n8_ n9_ n10_ n11_ n12_ n13_ n14_ n15_; clear hb hbox hg; have hnb32 := NB314_300.out; have hnc32 := NB300_314.out; have hnb33 := NB314_307.out; have hnc33 := NB307_314.out; have hcz34_0 : w31.cell? ⟨gb314, 0, none⟩ = some (.int .i64 0) := (blk_cell BK314.out 0).trans rfl; have hcz34_1 : w31.cell? ⟨gb314, 1, none⟩ = some (.int .i64 0) := (blk_cell BK314.out 1).trans rfl; have hcz34_2 : w31.cell? ⟨gb314, 2, none⟩ = some (.slice none 0 0) := (blk_cell BK314.out 2).trans rfl; have hfz34_0 := blk_frozen BK314.out 0; have hfz34_1 := blk_frozen BK314.out 1; have hfz34_2 := blk_frozen BK314.out 2; obtain ⟨Ao35, co35, eo35⟩ := Kd.V_slice HO312.out; subst eo35) | ((with_reducible refine gate_callee (f := 11) rfl ?_); refine goesL_ (some 61) rfl rfl Try.func11 (by kernel_rfl) rfl #[.string ((t283 ++ (⟨#[124]⟩ : ByteArray)) ++ t287)] rfl (by (try simp only [List.map_toArray, List.map_cons, List.map_nil]); first | done | rfl | (simp only [List.length_drop, List.length_take]; rfl)) ?_; (with_reducible refine (bobbinetkeep_exprOf.calls k ((t283 ++ (⟨#[124]⟩ : ByteArray)) ++ t287) t315 t316 t317 t320 _ A16.out).mono ?_); rintro e w36 ⟨v318, rfl, ho0, hb⟩; refine ⟨_, rfl, ?_⟩; have n0_ := Aside0.mk (Kd.V_below (V_st <| (Kd.V_mono (Kd.V_far (p := ⟨gb314, 2, none⟩) (Kd.V_far (p := ⟨gb314, 1, none⟩) (Kd.V_far (p := ⟨gb314, 0, none⟩) (Kd.V_mono HO286.out (fun k_ hk => (⟨hk, hk.2⟩ : _ ∧ k_ ≠ gb314))) (fun _ hk => hk.2) (.int .i64 t308)) (fun _ hk => hk.2) (.int .i64 t309)) (fun _ hk => hk.2) (.slice Ao35 t310.length co35)) (fun _ h_ => h_.1))) hb); have n1_ := Aside0.mk (Kd.V_below (V_st <| (Kd.V_mono (Kd.V_far (p := ⟨gb314, 2, none⟩) (Kd.V_far (p := ⟨gb314, 1, none⟩) (Kd.V_far (p := ⟨gb314, 0, none⟩) (Kd.V_mono HO290.out (fun k_ hk => (⟨hk, hk.2⟩ : _ ∧ k_ ≠ gb314))) (fun _ hk => hk.2) (.int .i64 t308)) (fun _ hk => hk.2) (.int .i64 t309)) (fun _ hk => hk.2) (.slice Ao35 t310.length co35)) (fun _ h_ => h_.1))) hb); have n2_ := Aside0.mk (Kd.R_below (R_st <| (Kd.R_mono (Kd.R_far (p := ⟨gb314, 2, none⟩) (Kd.R_far (p := ⟨gb314, 1, none⟩) (Kd.R_far (p := ⟨gb314, 0, none⟩) (Kd.R_types HO293.out BK314.out (by decide)) (fun _ hk => hk.2) (.int .i64 t308)) (fun _ hk => hk.2) (.int .i64 t309)) (fun _ hk => hk.2) (.slice Ao35 t310.length co35)) (fun _ h_ => h_.1))) hb); have n3_ := Aside0.mk (Kd.V_below (V_st <| (Kd.V_mono (Kd.V_far (p := ⟨gb314, 2, none⟩) (Kd.V_far (p := ⟨gb314, 1, none⟩) (Kd.V_far (p := ⟨gb314, 0, none⟩) (Kd.V_mono HO298.out (fun k_ hk => (⟨hk, hk.2⟩ : _ ∧ k_ ≠ gb314))) (fun _ hk => hk.2) (.int .i64 t308)) (fun _ hk => hk.2) (.int .i64 t309)) (fun _ hk => hk.2) (.slice Ao35 t310.length co35)) (fun _ h_ => h_.1))) hb); have n4_ := Aside0.mk (Kd.V_below (V_st <| (Kd.V_mono (Kd.V_far (p := ⟨gb314, 2, none⟩) (Kd.V_far (p := ⟨gb314, 1, none⟩) (Kd.V_far (p := ⟨gb314, 0, none⟩) (Kd.V_mono HO305.out (fun k_ hk => (⟨hk, hk.2⟩ : _ ∧ k_ ≠ gb314))) (fun _ hk => hk.2) (.int .i64 t308)) (fun _ hk => hk.2) (.int .i64 t309)) (fun _ hk => hk.2) (.slice Ao35 t310.length co35)) (fun _ h_ => h_.1))) hb); have n5_ := Aside0.mk (Kd.V_below (V_st <| (Kd.V_mono (Kd.V_far (p := ⟨gb314, 2, none⟩) (Kd.V_far (p := ⟨gb314, 1, none⟩) (Kd.V_far (p := ⟨gb314, 0, none⟩) (Kd.V_mono HO312.out (fun k_ hk => (⟨hk, hk.2⟩ : _ ∧ k_ ≠ gb314))) (fun _ hk => hk.2) (.int .i64 t308)) (fun _ hk => hk.2) (.int .i64 t309)) (fun _ hk => hk.2) (.slice Ao35 t310.length co35)) (fun _ h_ => h_.1))) hb); have n6_ := Aside0.mk (Kd.V_lower (Kd.V_mono (ok' := fun k_ => some k_ ≠ (v292 : Value).ownBlock ∧ k_ ≠ gb300 ∧ k_ ≠ gb307 ∧ k_ ≠ gb314) ho0 (fun k_ hk_ => ⟨(Kd.fresh' (Kd.R_lt (R_st <| (Kd.R_mono (Kd.R_far (p := ⟨gb314, 2, none⟩) (Kd.R_far (p := ⟨gb314, 1, none⟩) (Kd.R_far (p := ⟨gb314, 0, none⟩) (Kd.R_types HO293.out BK314.out (by decide)) (fun _ hk => hk.2) (.int .i64 t308)) (fun _ hk => hk.2) (.int .i64 t309)) (fun _ hk => hk.2) (.slice Ao35 t310.length co35)) (fun _ h_ => h_.1)))) k_ hk_), (Kd.freshB (g := gb300) (o := .cells #[.int .i64 t294, .int .i64 t295, .slice Ao24 t296.length co24] 28 (0, 0)) (by (with_reducible repeat (first | refine blk_drewN ?_ _ | refine blk_drew ?_ | refine blk_alloc ?_ _)); refine blk_far ?_ NB300_314.out _; (with_reducible repeat (first | refine blk_drewN ?_ _ | refine blk_drew ?_ | refine blk_alloc ?_ _)); refine blk_far ?_ NB300_314.out _; (with_reducible repeat (first | refine blk_drewN ?_ _ | refine blk_drew ?_ | refine blk_alloc ?_ _)); refine blk_far ?_ NB300_314.out _; (with_reducible repeat (first | refine blk_drewN ?_ _ | refine blk_drew ?_ | refine blk_alloc ?_ _)); exact BK300.out) k_ hk_), (Kd.freshB (g := gb307) (o := .cells #[.int .i64 t301, .int .i64 t302, .slice Ao29 t303.length co29] 28 (0, 0)) (by (with_reducible repeat (first | refine blk_drewN ?_ _ | refine blk_drew ?_ | refine blk_alloc ?_ _)); refine blk_far ?_ NB307_314.out _; (with_reducible repeat (first | refine blk_drewN ?_ _ | refine blk_drew ?_ | refine blk_alloc ?_ _)); refine blk_far ?_ NB307_314.out _; (with_reducible repeat (first | refine blk_drewN ?_ _ | refine blk_drew ?_ | refine blk_alloc ?_ _)); refine blk_far ?_ NB307_314.out _; (with_reducible repeat (first | refine blk_drewN ?_ _ | refine blk_drew ?_ | refine blk_alloc ?_ _)); exact BK307.out) k_ hk_), (Kd.freshB (g := gb314) (o := .cells #[.int .i64 t308, .int .i64 t309, .slice Ao35 t310.length co35] 28 (0, 0)) (by (with_reducible repeat (first | refine blk_drewN ?_ _ | refine blk_drew ?_ | refine blk_alloc ?_ _)); refine blk_put (cs := #[.int .i64 t308, .int .i64 t309, .slice none 0 0]) ?_ 2 _ rfl; (with_reducible repeat (first | refine blk_drewN ?_ _ | refine blk_drew ?_ | refine blk_alloc ?_ _)); refine blk_put (cs := #[.int .i64 t308, .int .i64 0, .slice none 0 0]) ?_ 1 _ rfl; (with_reducible repeat (first | refine blk_drewN ?_ _ | refine blk_drew ?_ | refine blk_alloc ?_ _)); refine blk_put (cs := #[.int .i64 0, .int .i64 0, .slice none 0 0]) ?_ 0 _ rfl; (with_reducible repeat (first | refine blk_drewN ?_ _ | refine blk_drew ?_ | refine blk_alloc ?_ _)); exact BK314.out) k_ hk_)⟩)) (below_size (by repeat (first | (with_reducible first | exact HB.out | apply below_alloc | apply pw_below_drewN | apply below_drew1 | refine below_set ?_ GE300.out | refine below_set ?_ GE307.out | refine below_set ?_ GE314.out) | exact HB.out)))); have n7_ := Aside0.mk (blk_below (g := gb300) (o := .cells #[.int .i64 t294, .int .i64 t295, .slice Ao24 t296.length co24] 28 (0, 0)) (by (with_reducible repeat (first | refine blk_drewN ?_ _ | refine blk_drew ?_ | refine blk_alloc ?_ _)); refine blk_far ?_ NB300_314.out _; (with_reducible repeat (first | refine blk_drewN ?_ _ | refine blk_drew ?_ | refine blk_alloc ?_ _)); refine blk_far ?_ NB300_314.out _; (with_reducible repeat (first | refine blk_drewN ?_ _ | refine blk_drew ?_ | refine blk_alloc ?_ _)); refine blk_far ?_ NB300_314.out _; (with_reducible repeat (first | refine blk_drewN ?_ _ | refine blk_drew ?_ | refine blk_alloc ?_ _)); exact BK300.out) hb); have n8_ := Aside0.mk (blk_below (g := gb307) (o := .cells #[.int .i64 t301, .int .i64 t302, .slice Ao29 t303.length co29] 28 (0, 0)) (by (with_reducible repeat (first | refine blk_drewN ?_ _ | refine blk_drew ?_ | refine blk_alloc ?_ _)); refine blk_far ?_ NB307_314.out _; (with_reducible repeat (first | refine blk_drewN ?_ _ | refine blk_drew ?_ | refine blk_alloc ?_ _)); refine blk_far ?_ NB307_314.out _; (with_reducible repeat (first | refine blk_drewN ?_ _ | refine blk_drew ?_ | refine blk_alloc ?_ _)); refine blk_far ?_ NB307_314.out _; (with_reducible repeat (first | refine blk_drewN ?_ _ | refine blk_drew ?_ | refine blk_alloc ?_ _)); exact BK307.out) hb); have n9_ := Aside0.mk (blk_below (g := gb314) (o := .cells #[.int .i64 t308, .int .i64 t309, .slice Ao35 t310.length co35] 28 (0, 0)) (by (with_reducible repeat (first | refine blk_drewN ?_ _ | refine blk_drew ?_ | refine blk_alloc ?_ _)); refine blk_put (cs := #[.int .i64 t308, .int .i64 t309, .slice none 0 0]) ?_ 2 _ rfl; (with_reducible repeat (first | refine blk_drewN ?_ _ | refine blk_drew ?_ | refine blk_alloc ?_ _)); refine blk_put (cs := #[.int .i64 t308, .int .i64 0, .slice none 0 0]) ?_ 1 _ rfl; (with_reducible repeat (first | refine blk_drewN ?_ _ | refine blk_drew ?_ | refine blk_alloc ?_ _)); refine blk_put (cs := #[.int .i64 0, .int .i64 0, .slice none 0 0]) ?_ 0 _ rfl; (with_reducible repeat (first | refine blk_drewN ?_ _ | refine blk_drew ?_ | refine blk_alloc ?_ _)); exact BK314.out) hb); have n10_ := Aside0.mk (below_step (by repeat (first | (with_reducible first | exact HB.out | apply below_alloc | apply pw_below_drewN | apply below_drew1 | refine below_set ?_ GE300.out | refine below_set ?_ GE307.out | refine below_set ?_ GE314.out) | exact HB.out)) hb); clear HO286; clear HO290; clear HO293; clear HO298; clear HO305; clear HO312; clear BK300; clear BK307; clear BK314; clear HB; have HO286 := n0_; have HO290 := n1_; have HO293 := n2_; have HO298 := n3_; have HO305 := n4_; have HO312 := n5_; have HO319 := n6_; have BK300 := n7_; have BK307 := n8_; have BK314 := n9_; have HB := n10_; clear n0_ n1_ n2_ n3_ n4_ n5_ n6_ n7_ n8_ n9_ n10_; (try clear hb); (try clear hb2); (try clear hk); (try clear hi); (try clear ho0)) | ((with_reducible refine gate_dst (N := 18) rfl ?_); (try (refine gate_guard (by rfl) ?_; dsimp only)); refine box_event ?hg (N := 18) ?hd (cs := #[.int .i64 0, .int .i64 0, .slice none 0 0]) (t := 28) ?hr ?_; (case hd => rfl); (case hg => rfl); (case hr => first | (go_simp; done) | (go_simp; rfl)); intro gb321 hg w37 hbox hb; have n0_ := Aside0.mk (Kd.V_below (Kd.V_elderB (V_st <| HO286.out) gb321 (Nat.le_of_eq hg.symm)) hb); have n1_ := Aside0.mk (Kd.V_below (Kd.V_elderB (V_st <| HO290.out) gb321 (Nat.le_of_eq hg.symm)) hb); have n2_ := Aside0.mk (Kd.R_below (R_st <| HO293.out) hb); have n3_ := Aside0.mk (Kd.V_below (Kd.V_elderB (V_st <| HO298.out) gb321 (Nat.le_of_eq hg.symm)) hb); have n4_ := Aside0.mk (Kd.V_below (Kd.V_elderB (V_st <| HO305.out) gb321 (Nat.le_of_eq hg.symm)) hb); have n5_ := Aside0.mk (Kd.V_below (Kd.V_elderB (V_st <| HO312.out) gb321 (Nat.le_of_eq hg.symm)) hb); have n6_ := Aside0.mk (Kd.V_below (Kd.V_elderB (V_st <| HO319.out) gb321 (Nat.le_of_eq hg.symm)) hb); have n7_ := Aside0.mk (blk_below (g := gb300) (o := .cells #[.int .i64 t294, .int .i64 t295, .slice Ao24 t296.length co24] 28 (0, 0)) (by (with_reducible repeat (first | refine blk_drewN ?_ _ | refine blk_drew ?_ | refine blk_alloc ?_ _)); exact BK300.out) hb); have n8_ := Aside0.mk (blk_below (g := gb307) (o := .cells #[.int .i64 t301, .int .i64 t302, .slice Ao29 t303.length co29] 28 (0, 0)) (by (with_reducible repeat (first | refine blk_drewN ?_ _ | refine blk_drew ?_ | refine blk_alloc ?_ _)); exact BK307.out) hb); have n9_ := Aside0.mk (blk_below (g := gb314) (o := .cells #[.int .i64 t308, .int .i64 t309, .slice Ao35 t310.length co35] 28 (0, 0)) (by (with_reducible repeat (first | refine blk_drewN ?_ _ | refine blk_drew ?_ | refine blk_alloc ?_ _)); exact BK314.out) hb); have n10_ := Aside0.mk (below_step (by repeat (first | (with_reducible first | exact HB.out | apply below_alloc | apply pw_below_drewN | apply below_drew1 | refine below_set ?_ GE300.out | refine below_set ?_ GE307.out | refine below_set ?_ GE314.out) | exact HB.out)) hb); have n11_ := Aside0.mk (hbox); have n12_ := Aside0.mk ((by rw [hg]; exact (below_size (by repeat (first | (with_reducible first | exact HB.out | apply below_alloc | apply pw_below_drewN | apply below_drew1 | refine below_set ?_ GE300.out | refine below_set ?_ GE307.out | refine below_set ?_ GE314.out) | exact HB.out))) : w.heap.size ≤ gb321)); have n13_ := Aside0.mk ((by rw [hg]; exact (below_size (by repeat (first | (with_reducible first | exact HB.out | apply below_alloc | apply pw_below_drewN | apply below_drew1 | refine below_set ?_ GE300.out | refine below_set ?_ GE307.out | refine below_set ?_ GE314.out) | exact HB.out))) : w.heap.size ≤ gb321)); have n14_ := Aside0.mk ((by rw [hg]; exact Nat.ne_of_lt (blk_lt (g := gb300) (o := .cells #[.int .i64 t294, .int .i64 t295, .slice Ao24 t296.length co24] 28 (0, 0)) (by (with_reducible repeat (first | refine blk_drewN ?_ _ | refine blk_drew ?_ | refine blk_alloc ?_ _)); exact BK300.out)) : gb300 ≠ gb321)); have n15_ := Aside0.mk ((by rw [hg]; exact Nat.ne_of_gt (blk_lt (g := gb300) (o := .cells #[.int .i64 t294, .int .i64 t295, .slice Ao24 t296.length co24] 28 (0, 0)) (by (with_reducible repeat (first | refine blk_drewN ?_ _ | refine blk_drew ?_ | refine blk_alloc ?_ _)); exact BK300.out)) : gb321 ≠ gb300)); have n16_ := Aside0.mk ((by rw [hg]; exact Nat.ne_of_lt (blk_lt (g := gb307) (o := .cells #[.int .i64 t301, .int .i64 t302, .slice Ao29 t303.length co29] 28 (0, 0)) (by (with_reducible repeat (first | refine blk_drewN ?_ _ | refine blk_drew ?_ | refine blk_alloc ?_ _)); exact BK307.out)) : gb307 ≠ gb321)); have n17_ := Aside0.mk ((by rw [hg]; exact Nat.ne_of_gt (blk_lt (g := gb307) (o := .cells #[.int .i64 t301, .int .i64 t302, .slice Ao29 t303.length co29] 28 (0, 0)) (by (with_reducible repeat (first | refine blk_drewN ?_ _ | refine blk_drew ?_ | refine blk_alloc ?_ _)); exact BK307.out)) : gb321 ≠ gb307)); have n18_ := Aside0.mk ((by rw [hg]; exact Nat.ne_of_lt (blk_lt (g := gb314) (o := .cells #[.int .i64 t308, .int .i64 t309, .slice Ao35 t310.length co35] 28 (0, 0)) (by (with_reducible repeat (first | refine blk_drewN ?_ _ | refine blk_drew ?_ | refine blk_alloc ?_ _)); exact BK314.out)) : gb314 ≠ gb321)); have n19_ := Aside0.mk ((by rw [hg]; exact Nat.ne_of_gt (blk_lt (g := gb314) (o := .cells #[.int .i64 t308, .int .i64 t309, .slice Ao35 t310.length co35] 28 (0, 0)) (by (with_reducible repeat (first | refine blk_drewN ?_ _ | refine blk_drew ?_ | refine blk_alloc ?_ _)); exact BK314.out)) : gb321 ≠ gb314)); clear HO286; clear HO290; clear HO293; clear HO298; clear HO305; clear HO312; clear HO319; clear BK300; clear BK307; clear BK314; clear HB; have HO286 := n0_; have HO290 := n1_; have HO293 := n2_; have HO298 := n3_; have HO305 := n4_; have HO312 := n5_; have HO319 := n6_; have BK300 := n7_; have BK307 := n8_; have BK314 := n9_; have HB := n10_; have BK321 := n11_; have GW321 := n12_; have GE321 := n13_; have NB300_321 := n14_; have NB321_300 := n15_; have NB307_321 := n16_; have NB321_307 := n17_; have NB314_321 := n18_; have NB321_314 := n19_; clear n0_ n1_ n2_ n3_ n4_ n5_ n6_ n7_ n8_ n9_ n10_ n11_ n12_ n13_ n14_ n15_ n16_ n17_ n18_ n19_; clear hb hbox hg; have hnb38 := NB321_300.out; have hnc38 := NB300_321.out; have hnb39 := NB321_307.out; have hnc39 := NB307_321.out; have hnb40 := NB321_314.out; have hnc40 := NB314_321.out; have hcz41_0 : w37.cell? ⟨gb321, 0, none⟩ = some (.int .i64 0) := (blk_cell BK321.out 0).trans rfl; have hcz41_1 : w37.cell? ⟨gb321, 1, none⟩ = some (.int .i64 0) := (blk_cell BK321.out 1).trans rfl; have hcz41_2 : w37.cell? ⟨gb321, 2, none⟩ = some (.slice none 0 0) := (blk_cell BK321.out 2).trans rfl; have hfz41_0 := blk_frozen BK321.out 0; have hfz41_1 := blk_frozen BK321.out 1; have hfz41_2 := blk_frozen BK321.out 2; obtain ⟨Ao42, co42, eo42⟩ := Kd.V_slice HO319.out; subst eo42))
 (try simp only [Act.put, List.setIfInBounds_toArray, List.set_cons_zero, List.set_cons_succ])
 go_cut [77] (fun v77 wc => ∃ (kq : Nat) (x77_16 : Bool), v77 = .bool x77_16 ∧ Aside0 (bobbinetkeep_ExprParts.j0 kq t291 x77_16 t294 t295 t296 t301 t302 t303 t308 t309 t310 t315 t316 t317 = some r) ∧ Aside0 (kq ≤ k) ∧ Aside0 (Kd.R (Kd.int .i64) 3 wc w.heap.size (fun _ => True) v292 t291) ∧ Aside0 (Kd.V k28 28 wc w.heap.size (fun k_ => some k_ ≠ (v292 : Value).ownBlock ∧ k_ ≠ gb300 ∧ k_ ≠ gb307 ∧ k_ ≠ gb314 ∧ k_ ≠ gb321) (.slice Ao24 t296.length co24) t296) ∧ Aside0 (Kd.V k28 28 wc w.heap.size (fun k_ => some k_ ≠ (v292 : Value).ownBlock ∧ k_ ≠ gb300 ∧ k_ ≠ gb307 ∧ k_ ≠ gb314 ∧ k_ ≠ gb321) (.slice Ao29 t303.length co29) t303) ∧ Aside0 (Kd.V k28 28 wc w.heap.size (fun k_ => some k_ ≠ (v292 : Value).ownBlock ∧ k_ ≠ gb300 ∧ k_ ≠ gb307 ∧ k_ ≠ gb314 ∧ k_ ≠ gb321) (.slice Ao35 t310.length co35) t310) ∧ Aside0 (Kd.V k28 28 wc w.heap.size (fun k_ => some k_ ≠ (v292 : Value).ownBlock ∧ k_ ≠ gb300 ∧ k_ ≠ gb307 ∧ k_ ≠ gb314 ∧ k_ ≠ gb321) (.slice Ao42 t317.length co42) t317) ∧ Aside0 (wc.heap[gb300]? = some (.cells #[.int .i64 t294, .int .i64 t295, (.slice Ao24 t296.length co24)] 28 (0, 0))) ∧ Aside0 (wc.heap[gb307]? = some (.cells #[.int .i64 t301, .int .i64 t302, (.slice Ao29 t303.length co29)] 28 (0, 0))) ∧ Aside0 (wc.heap[gb314]? = some (.cells #[.int .i64 t308, .int .i64 t309, (.slice Ao35 t310.length co35)] 28 (0, 0))) ∧ Aside0 (wc.heap[gb321]? = some (.cells #[.int .i64 t315, .int .i64 t316, (.slice Ao42 t317.length co42)] 28 (0, 0))) ∧ Aside0 (Below w.heap.size w wc))
 case first =>
  have H := HC17.out
  clear HC17
  by_cases c43 : t299 = true
  rotate_left
  ·
   replace c43 := Bool.eq_false_iff.mpr c43
   subst c43
   rw [if_neg (show ¬ (false = true) by decide)] at H
   have H' := Aside0.mk H
   clear H
   go_wp2
   go_meet
   case rel => exact ⟨_, (true), (by first | rfl | (simp; done) | (simp [*]; done) | (simp [bne]; done)), H', ⟨by first | omega | exact Nat.le_refl _⟩, ⟨by (with_reducible repeat (first | apply Kd.R_alloc | apply Kd.R_drewN | apply Kd.R_drew)); exact Kd.R_mono (Kd.R_far (p := ⟨gb321, 2, none⟩) (Kd.R_far (p := ⟨gb321, 1, none⟩) (Kd.R_far (p := ⟨gb321, 0, none⟩) (Kd.R_types HO293.out BK321.out (by decide)) (fun _ hk => hk.2) (.int .i64 t315)) (fun _ hk => hk.2) (.int .i64 t316)) (fun _ hk => hk.2) (.slice Ao42 t317.length co42)) (fun _ hk => trivial)⟩, ⟨by (with_reducible repeat (first | apply Kd.V_alloc | apply Kd.V_drewN | apply Kd.V_drew)); exact Kd.V_mono (Kd.V_far (p := ⟨gb321, 2, none⟩) (Kd.V_far (p := ⟨gb321, 1, none⟩) (Kd.V_far (p := ⟨gb321, 0, none⟩) (Kd.V_mono HO298.out (fun k_ hk => (⟨hk, hk.2⟩ : _ ∧ k_ ≠ gb321))) (fun _ hk => hk.2) (.int .i64 t315)) (fun _ hk => hk.2) (.int .i64 t316)) (fun _ hk => hk.2) (.slice Ao42 t317.length co42)) (fun _ hk => ⟨hk.1.1.1.1.1, ⟨hk.1.1.1.1.2, ⟨hk.1.1.1.2, ⟨hk.1.1.2, hk.1.2⟩⟩⟩⟩)⟩, ⟨by (with_reducible repeat (first | apply Kd.V_alloc | apply Kd.V_drewN | apply Kd.V_drew)); exact Kd.V_mono (Kd.V_far (p := ⟨gb321, 2, none⟩) (Kd.V_far (p := ⟨gb321, 1, none⟩) (Kd.V_far (p := ⟨gb321, 0, none⟩) (Kd.V_mono HO305.out (fun k_ hk => (⟨hk, hk.2⟩ : _ ∧ k_ ≠ gb321))) (fun _ hk => hk.2) (.int .i64 t315)) (fun _ hk => hk.2) (.int .i64 t316)) (fun _ hk => hk.2) (.slice Ao42 t317.length co42)) (fun _ hk => ⟨hk.1.1.1.1.1, ⟨hk.1.1.1.1.2, ⟨hk.1.1.1.2, ⟨hk.1.1.2, hk.1.2⟩⟩⟩⟩)⟩, ⟨by (with_reducible repeat (first | apply Kd.V_alloc | apply Kd.V_drewN | apply Kd.V_drew)); exact Kd.V_mono (Kd.V_far (p := ⟨gb321, 2, none⟩) (Kd.V_far (p := ⟨gb321, 1, none⟩) (Kd.V_far (p := ⟨gb321, 0, none⟩) (Kd.V_mono HO312.out (fun k_ hk => (⟨hk, hk.2⟩ : _ ∧ k_ ≠ gb321))) (fun _ hk => hk.2) (.int .i64 t315)) (fun _ hk => hk.2) (.int .i64 t316)) (fun _ hk => hk.2) (.slice Ao42 t317.length co42)) (fun _ hk => ⟨hk.1.1.1.1, ⟨hk.1.1.1.2.1, ⟨hk.1.1.1.2.2, ⟨hk.1.1.2, hk.1.2⟩⟩⟩⟩)⟩, ⟨by (with_reducible repeat (first | apply Kd.V_alloc | apply Kd.V_drewN | apply Kd.V_drew)); exact Kd.V_mono (Kd.V_far (p := ⟨gb321, 2, none⟩) (Kd.V_far (p := ⟨gb321, 1, none⟩) (Kd.V_far (p := ⟨gb321, 0, none⟩) (Kd.V_mono HO319.out (fun k_ hk => (⟨hk, hk.2⟩ : _ ∧ k_ ≠ gb321))) (fun _ hk => hk.2) (.int .i64 t315)) (fun _ hk => hk.2) (.int .i64 t316)) (fun _ hk => hk.2) (.slice Ao42 t317.length co42)) (fun _ hk => ⟨hk.1.1.1, ⟨hk.1.1.2.1, ⟨hk.1.1.2.2.1, ⟨hk.1.1.2.2.2, hk.1.2⟩⟩⟩⟩)⟩, ⟨by (with_reducible repeat (first | refine blk_drewN ?_ _ | refine blk_drew ?_ | refine blk_alloc ?_ _)); refine blk_far ?_ NB300_321.out _; (with_reducible repeat (first | refine blk_drewN ?_ _ | refine blk_drew ?_ | refine blk_alloc ?_ _)); refine blk_far ?_ NB300_321.out _; (with_reducible repeat (first | refine blk_drewN ?_ _ | refine blk_drew ?_ | refine blk_alloc ?_ _)); refine blk_far ?_ NB300_321.out _; (with_reducible repeat (first | refine blk_drewN ?_ _ | refine blk_drew ?_ | refine blk_alloc ?_ _)); exact BK300.out⟩, ⟨by (with_reducible repeat (first | refine blk_drewN ?_ _ | refine blk_drew ?_ | refine blk_alloc ?_ _)); refine blk_far ?_ NB307_321.out _; (with_reducible repeat (first | refine blk_drewN ?_ _ | refine blk_drew ?_ | refine blk_alloc ?_ _)); refine blk_far ?_ NB307_321.out _; (with_reducible repeat (first | refine blk_drewN ?_ _ | refine blk_drew ?_ | refine blk_alloc ?_ _)); refine blk_far ?_ NB307_321.out _; (with_reducible repeat (first | refine blk_drewN ?_ _ | refine blk_drew ?_ | refine blk_alloc ?_ _)); exact BK307.out⟩, ⟨by (with_reducible repeat (first | refine blk_drewN ?_ _ | refine blk_drew ?_ | refine blk_alloc ?_ _)); refine blk_far ?_ NB314_321.out _; (with_reducible repeat (first | refine blk_drewN ?_ _ | refine blk_drew ?_ | refine blk_alloc ?_ _)); refine blk_far ?_ NB314_321.out _; (with_reducible repeat (first | refine blk_drewN ?_ _ | refine blk_drew ?_ | refine blk_alloc ?_ _)); refine blk_far ?_ NB314_321.out _; (with_reducible repeat (first | refine blk_drewN ?_ _ | refine blk_drew ?_ | refine blk_alloc ?_ _)); exact BK314.out⟩, ⟨by (with_reducible repeat (first | refine blk_drewN ?_ _ | refine blk_drew ?_ | refine blk_alloc ?_ _)); refine blk_put (cs := #[.int .i64 t315, .int .i64 t316, .slice none 0 0]) ?_ 2 _ rfl; (with_reducible repeat (first | refine blk_drewN ?_ _ | refine blk_drew ?_ | refine blk_alloc ?_ _)); refine blk_put (cs := #[.int .i64 t315, .int .i64 0, .slice none 0 0]) ?_ 1 _ rfl; (with_reducible repeat (first | refine blk_drewN ?_ _ | refine blk_drew ?_ | refine blk_alloc ?_ _)); refine blk_put (cs := #[.int .i64 0, .int .i64 0, .slice none 0 0]) ?_ 0 _ rfl; (with_reducible repeat (first | refine blk_drewN ?_ _ | refine blk_drew ?_ | refine blk_alloc ?_ _)); exact BK321.out⟩, ⟨by repeat (first | (with_reducible first | exact HB.out | apply below_alloc | apply pw_below_drewN | apply below_drew1 | refine below_set ?_ GE300.out | refine below_set ?_ GE307.out | refine below_set ?_ GE314.out | refine below_set ?_ GE321.out) | exact HB.out)⟩⟩
  subst c43
  rw [if_pos rfl] at H
  by_cases c44 : t306 = true
  rotate_left
  ·
   replace c44 := Bool.eq_false_iff.mpr c44
   subst c44
   rw [if_neg (show ¬ (false = true) by decide)] at H
   have H' := Aside0.mk H
   clear H
   go_wp2
   go_meet
   case rel => exact ⟨_, (true), (by first | rfl | (simp; done) | (simp [*]; done) | (simp [bne]; done)), H', ⟨by first | omega | exact Nat.le_refl _⟩, ⟨by (with_reducible repeat (first | apply Kd.R_alloc | apply Kd.R_drewN | apply Kd.R_drew)); exact Kd.R_mono (Kd.R_far (p := ⟨gb321, 2, none⟩) (Kd.R_far (p := ⟨gb321, 1, none⟩) (Kd.R_far (p := ⟨gb321, 0, none⟩) (Kd.R_types HO293.out BK321.out (by decide)) (fun _ hk => hk.2) (.int .i64 t315)) (fun _ hk => hk.2) (.int .i64 t316)) (fun _ hk => hk.2) (.slice Ao42 t317.length co42)) (fun _ hk => trivial)⟩, ⟨by (with_reducible repeat (first | apply Kd.V_alloc | apply Kd.V_drewN | apply Kd.V_drew)); exact Kd.V_mono (Kd.V_far (p := ⟨gb321, 2, none⟩) (Kd.V_far (p := ⟨gb321, 1, none⟩) (Kd.V_far (p := ⟨gb321, 0, none⟩) (Kd.V_mono HO298.out (fun k_ hk => (⟨hk, hk.2⟩ : _ ∧ k_ ≠ gb321))) (fun _ hk => hk.2) (.int .i64 t315)) (fun _ hk => hk.2) (.int .i64 t316)) (fun _ hk => hk.2) (.slice Ao42 t317.length co42)) (fun _ hk => ⟨hk.1.1.1.1.1, ⟨hk.1.1.1.1.2, ⟨hk.1.1.1.2, ⟨hk.1.1.2, hk.1.2⟩⟩⟩⟩)⟩, ⟨by (with_reducible repeat (first | apply Kd.V_alloc | apply Kd.V_drewN | apply Kd.V_drew)); exact Kd.V_mono (Kd.V_far (p := ⟨gb321, 2, none⟩) (Kd.V_far (p := ⟨gb321, 1, none⟩) (Kd.V_far (p := ⟨gb321, 0, none⟩) (Kd.V_mono HO305.out (fun k_ hk => (⟨hk, hk.2⟩ : _ ∧ k_ ≠ gb321))) (fun _ hk => hk.2) (.int .i64 t315)) (fun _ hk => hk.2) (.int .i64 t316)) (fun _ hk => hk.2) (.slice Ao42 t317.length co42)) (fun _ hk => ⟨hk.1.1.1.1.1, ⟨hk.1.1.1.1.2, ⟨hk.1.1.1.2, ⟨hk.1.1.2, hk.1.2⟩⟩⟩⟩)⟩, ⟨by (with_reducible repeat (first | apply Kd.V_alloc | apply Kd.V_drewN | apply Kd.V_drew)); exact Kd.V_mono (Kd.V_far (p := ⟨gb321, 2, none⟩) (Kd.V_far (p := ⟨gb321, 1, none⟩) (Kd.V_far (p := ⟨gb321, 0, none⟩) (Kd.V_mono HO312.out (fun k_ hk => (⟨hk, hk.2⟩ : _ ∧ k_ ≠ gb321))) (fun _ hk => hk.2) (.int .i64 t315)) (fun _ hk => hk.2) (.int .i64 t316)) (fun _ hk => hk.2) (.slice Ao42 t317.length co42)) (fun _ hk => ⟨hk.1.1.1.1, ⟨hk.1.1.1.2.1, ⟨hk.1.1.1.2.2, ⟨hk.1.1.2, hk.1.2⟩⟩⟩⟩)⟩, ⟨by (with_reducible repeat (first | apply Kd.V_alloc | apply Kd.V_drewN | apply Kd.V_drew)); exact Kd.V_mono (Kd.V_far (p := ⟨gb321, 2, none⟩) (Kd.V_far (p := ⟨gb321, 1, none⟩) (Kd.V_far (p := ⟨gb321, 0, none⟩) (Kd.V_mono HO319.out (fun k_ hk => (⟨hk, hk.2⟩ : _ ∧ k_ ≠ gb321))) (fun _ hk => hk.2) (.int .i64 t315)) (fun _ hk => hk.2) (.int .i64 t316)) (fun _ hk => hk.2) (.slice Ao42 t317.length co42)) (fun _ hk => ⟨hk.1.1.1, ⟨hk.1.1.2.1, ⟨hk.1.1.2.2.1, ⟨hk.1.1.2.2.2, hk.1.2⟩⟩⟩⟩)⟩, ⟨by (with_reducible repeat (first | refine blk_drewN ?_ _ | refine blk_drew ?_ | refine blk_alloc ?_ _)); refine blk_far ?_ NB300_321.out _; (with_reducible repeat (first | refine blk_drewN ?_ _ | refine blk_drew ?_ | refine blk_alloc ?_ _)); refine blk_far ?_ NB300_321.out _; (with_reducible repeat (first | refine blk_drewN ?_ _ | refine blk_drew ?_ | refine blk_alloc ?_ _)); refine blk_far ?_ NB300_321.out _; (with_reducible repeat (first | refine blk_drewN ?_ _ | refine blk_drew ?_ | refine blk_alloc ?_ _)); exact BK300.out⟩, ⟨by (with_reducible repeat (first | refine blk_drewN ?_ _ | refine blk_drew ?_ | refine blk_alloc ?_ _)); refine blk_far ?_ NB307_321.out _; (with_reducible repeat (first | refine blk_drewN ?_ _ | refine blk_drew ?_ | refine blk_alloc ?_ _)); refine blk_far ?_ NB307_321.out _; (with_reducible repeat (first | refine blk_drewN ?_ _ | refine blk_drew ?_ | refine blk_alloc ?_ _)); refine blk_far ?_ NB307_321.out _; (with_reducible repeat (first | refine blk_drewN ?_ _ | refine blk_drew ?_ | refine blk_alloc ?_ _)); exact BK307.out⟩, ⟨by (with_reducible repeat (first | refine blk_drewN ?_ _ | refine blk_drew ?_ | refine blk_alloc ?_ _)); refine blk_far ?_ NB314_321.out _; (with_reducible repeat (first | refine blk_drewN ?_ _ | refine blk_drew ?_ | refine blk_alloc ?_ _)); refine blk_far ?_ NB314_321.out _; (with_reducible repeat (first | refine blk_drewN ?_ _ | refine blk_drew ?_ | refine blk_alloc ?_ _)); refine blk_far ?_ NB314_321.out _; (with_reducible repeat (first | refine blk_drewN ?_ _ | refine blk_drew ?_ | refine blk_alloc ?_ _)); exact BK314.out⟩, ⟨by (with_reducible repeat (first | refine blk_drewN ?_ _ | refine blk_drew ?_ | refine blk_alloc ?_ _)); refine blk_put (cs := #[.int .i64 t315, .int .i64 t316, .slice none 0 0]) ?_ 2 _ rfl; (with_reducible repeat (first | refine blk_drewN ?_ _ | refine blk_drew ?_ | refine blk_alloc ?_ _)); refine blk_put (cs := #[.int .i64 t315, .int .i64 0, .slice none 0 0]) ?_ 1 _ rfl; (with_reducible repeat (first | refine blk_drewN ?_ _ | refine blk_drew ?_ | refine blk_alloc ?_ _)); refine blk_put (cs := #[.int .i64 0, .int .i64 0, .slice none 0 0]) ?_ 0 _ rfl; (with_reducible repeat (first | refine blk_drewN ?_ _ | refine blk_drew ?_ | refine blk_alloc ?_ _)); exact BK321.out⟩, ⟨by repeat (first | (with_reducible first | exact HB.out | apply below_alloc | apply pw_below_drewN | apply below_drew1 | refine below_set ?_ GE300.out | refine below_set ?_ GE307.out | refine below_set ?_ GE314.out | refine below_set ?_ GE321.out) | exact HB.out)⟩⟩
  subst c44
  rw [if_pos rfl] at H
  by_cases c45 : t313 = true
  ·
   subst c45
   rw [if_pos rfl] at H
   have H' := Aside0.mk H
   clear H
   go_wp2
   go_meet
   case rel => exact ⟨_, (!t320), (by first | rfl | (simp; done) | (simp [*]; done) | (simp [bne]; done)), H', ⟨by first | omega | exact Nat.le_refl _⟩, ⟨by (with_reducible repeat (first | apply Kd.R_alloc | apply Kd.R_drewN | apply Kd.R_drew)); exact Kd.R_mono (Kd.R_far (p := ⟨gb321, 2, none⟩) (Kd.R_far (p := ⟨gb321, 1, none⟩) (Kd.R_far (p := ⟨gb321, 0, none⟩) (Kd.R_types HO293.out BK321.out (by decide)) (fun _ hk => hk.2) (.int .i64 t315)) (fun _ hk => hk.2) (.int .i64 t316)) (fun _ hk => hk.2) (.slice Ao42 t317.length co42)) (fun _ hk => trivial)⟩, ⟨by (with_reducible repeat (first | apply Kd.V_alloc | apply Kd.V_drewN | apply Kd.V_drew)); exact Kd.V_mono (Kd.V_far (p := ⟨gb321, 2, none⟩) (Kd.V_far (p := ⟨gb321, 1, none⟩) (Kd.V_far (p := ⟨gb321, 0, none⟩) (Kd.V_mono HO298.out (fun k_ hk => (⟨hk, hk.2⟩ : _ ∧ k_ ≠ gb321))) (fun _ hk => hk.2) (.int .i64 t315)) (fun _ hk => hk.2) (.int .i64 t316)) (fun _ hk => hk.2) (.slice Ao42 t317.length co42)) (fun _ hk => ⟨hk.1.1.1.1.1, ⟨hk.1.1.1.1.2, ⟨hk.1.1.1.2, ⟨hk.1.1.2, hk.1.2⟩⟩⟩⟩)⟩, ⟨by (with_reducible repeat (first | apply Kd.V_alloc | apply Kd.V_drewN | apply Kd.V_drew)); exact Kd.V_mono (Kd.V_far (p := ⟨gb321, 2, none⟩) (Kd.V_far (p := ⟨gb321, 1, none⟩) (Kd.V_far (p := ⟨gb321, 0, none⟩) (Kd.V_mono HO305.out (fun k_ hk => (⟨hk, hk.2⟩ : _ ∧ k_ ≠ gb321))) (fun _ hk => hk.2) (.int .i64 t315)) (fun _ hk => hk.2) (.int .i64 t316)) (fun _ hk => hk.2) (.slice Ao42 t317.length co42)) (fun _ hk => ⟨hk.1.1.1.1.1, ⟨hk.1.1.1.1.2, ⟨hk.1.1.1.2, ⟨hk.1.1.2, hk.1.2⟩⟩⟩⟩)⟩, ⟨by (with_reducible repeat (first | apply Kd.V_alloc | apply Kd.V_drewN | apply Kd.V_drew)); exact Kd.V_mono (Kd.V_far (p := ⟨gb321, 2, none⟩) (Kd.V_far (p := ⟨gb321, 1, none⟩) (Kd.V_far (p := ⟨gb321, 0, none⟩) (Kd.V_mono HO312.out (fun k_ hk => (⟨hk, hk.2⟩ : _ ∧ k_ ≠ gb321))) (fun _ hk => hk.2) (.int .i64 t315)) (fun _ hk => hk.2) (.int .i64 t316)) (fun _ hk => hk.2) (.slice Ao42 t317.length co42)) (fun _ hk => ⟨hk.1.1.1.1, ⟨hk.1.1.1.2.1, ⟨hk.1.1.1.2.2, ⟨hk.1.1.2, hk.1.2⟩⟩⟩⟩)⟩, ⟨by (with_reducible repeat (first | apply Kd.V_alloc | apply Kd.V_drewN | apply Kd.V_drew)); exact Kd.V_mono (Kd.V_far (p := ⟨gb321, 2, none⟩) (Kd.V_far (p := ⟨gb321, 1, none⟩) (Kd.V_far (p := ⟨gb321, 0, none⟩) (Kd.V_mono HO319.out (fun k_ hk => (⟨hk, hk.2⟩ : _ ∧ k_ ≠ gb321))) (fun _ hk => hk.2) (.int .i64 t315)) (fun _ hk => hk.2) (.int .i64 t316)) (fun _ hk => hk.2) (.slice Ao42 t317.length co42)) (fun _ hk => ⟨hk.1.1.1, ⟨hk.1.1.2.1, ⟨hk.1.1.2.2.1, ⟨hk.1.1.2.2.2, hk.1.2⟩⟩⟩⟩)⟩, ⟨by (with_reducible repeat (first | refine blk_drewN ?_ _ | refine blk_drew ?_ | refine blk_alloc ?_ _)); refine blk_far ?_ NB300_321.out _; (with_reducible repeat (first | refine blk_drewN ?_ _ | refine blk_drew ?_ | refine blk_alloc ?_ _)); refine blk_far ?_ NB300_321.out _; (with_reducible repeat (first | refine blk_drewN ?_ _ | refine blk_drew ?_ | refine blk_alloc ?_ _)); refine blk_far ?_ NB300_321.out _; (with_reducible repeat (first | refine blk_drewN ?_ _ | refine blk_drew ?_ | refine blk_alloc ?_ _)); exact BK300.out⟩, ⟨by (with_reducible repeat (first | refine blk_drewN ?_ _ | refine blk_drew ?_ | refine blk_alloc ?_ _)); refine blk_far ?_ NB307_321.out _; (with_reducible repeat (first | refine blk_drewN ?_ _ | refine blk_drew ?_ | refine blk_alloc ?_ _)); refine blk_far ?_ NB307_321.out _; (with_reducible repeat (first | refine blk_drewN ?_ _ | refine blk_drew ?_ | refine blk_alloc ?_ _)); refine blk_far ?_ NB307_321.out _; (with_reducible repeat (first | refine blk_drewN ?_ _ | refine blk_drew ?_ | refine blk_alloc ?_ _)); exact BK307.out⟩, ⟨by (with_reducible repeat (first | refine blk_drewN ?_ _ | refine blk_drew ?_ | refine blk_alloc ?_ _)); refine blk_far ?_ NB314_321.out _; (with_reducible repeat (first | refine blk_drewN ?_ _ | refine blk_drew ?_ | refine blk_alloc ?_ _)); refine blk_far ?_ NB314_321.out _; (with_reducible repeat (first | refine blk_drewN ?_ _ | refine blk_drew ?_ | refine blk_alloc ?_ _)); refine blk_far ?_ NB314_321.out _; (with_reducible repeat (first | refine blk_drewN ?_ _ | refine blk_drew ?_ | refine blk_alloc ?_ _)); exact BK314.out⟩, ⟨by (with_reducible repeat (first | refine blk_drewN ?_ _ | refine blk_drew ?_ | refine blk_alloc ?_ _)); refine blk_put (cs := #[.int .i64 t315, .int .i64 t316, .slice none 0 0]) ?_ 2 _ rfl; (with_reducible repeat (first | refine blk_drewN ?_ _ | refine blk_drew ?_ | refine blk_alloc ?_ _)); refine blk_put (cs := #[.int .i64 t315, .int .i64 0, .slice none 0 0]) ?_ 1 _ rfl; (with_reducible repeat (first | refine blk_drewN ?_ _ | refine blk_drew ?_ | refine blk_alloc ?_ _)); refine blk_put (cs := #[.int .i64 0, .int .i64 0, .slice none 0 0]) ?_ 0 _ rfl; (with_reducible repeat (first | refine blk_drewN ?_ _ | refine blk_drew ?_ | refine blk_alloc ?_ _)); exact BK321.out⟩, ⟨by repeat (first | (with_reducible first | exact HB.out | apply below_alloc | apply pw_below_drewN | apply below_drew1 | refine below_set ?_ GE300.out | refine below_set ?_ GE307.out | refine below_set ?_ GE314.out | refine below_set ?_ GE321.out) | exact HB.out)⟩⟩
  replace c45 := Bool.eq_false_iff.mpr c45
  subst c45
  rw [if_neg (show ¬ (false = true) by decide)] at H
  have H' := Aside0.mk H
  clear H
  go_wp2
  go_meet
  case rel => exact ⟨_, (true), (by first | rfl | (simp; done) | (simp [*]; done) | (simp [bne]; done)), H', ⟨by first | omega | exact Nat.le_refl _⟩, ⟨by (with_reducible repeat (first | apply Kd.R_alloc | apply Kd.R_drewN | apply Kd.R_drew)); exact Kd.R_mono (Kd.R_far (p := ⟨gb321, 2, none⟩) (Kd.R_far (p := ⟨gb321, 1, none⟩) (Kd.R_far (p := ⟨gb321, 0, none⟩) (Kd.R_types HO293.out BK321.out (by decide)) (fun _ hk => hk.2) (.int .i64 t315)) (fun _ hk => hk.2) (.int .i64 t316)) (fun _ hk => hk.2) (.slice Ao42 t317.length co42)) (fun _ hk => trivial)⟩, ⟨by (with_reducible repeat (first | apply Kd.V_alloc | apply Kd.V_drewN | apply Kd.V_drew)); exact Kd.V_mono (Kd.V_far (p := ⟨gb321, 2, none⟩) (Kd.V_far (p := ⟨gb321, 1, none⟩) (Kd.V_far (p := ⟨gb321, 0, none⟩) (Kd.V_mono HO298.out (fun k_ hk => (⟨hk, hk.2⟩ : _ ∧ k_ ≠ gb321))) (fun _ hk => hk.2) (.int .i64 t315)) (fun _ hk => hk.2) (.int .i64 t316)) (fun _ hk => hk.2) (.slice Ao42 t317.length co42)) (fun _ hk => ⟨hk.1.1.1.1.1, ⟨hk.1.1.1.1.2, ⟨hk.1.1.1.2, ⟨hk.1.1.2, hk.1.2⟩⟩⟩⟩)⟩, ⟨by (with_reducible repeat (first | apply Kd.V_alloc | apply Kd.V_drewN | apply Kd.V_drew)); exact Kd.V_mono (Kd.V_far (p := ⟨gb321, 2, none⟩) (Kd.V_far (p := ⟨gb321, 1, none⟩) (Kd.V_far (p := ⟨gb321, 0, none⟩) (Kd.V_mono HO305.out (fun k_ hk => (⟨hk, hk.2⟩ : _ ∧ k_ ≠ gb321))) (fun _ hk => hk.2) (.int .i64 t315)) (fun _ hk => hk.2) (.int .i64 t316)) (fun _ hk => hk.2) (.slice Ao42 t317.length co42)) (fun _ hk => ⟨hk.1.1.1.1.1, ⟨hk.1.1.1.1.2, ⟨hk.1.1.1.2, ⟨hk.1.1.2, hk.1.2⟩⟩⟩⟩)⟩, ⟨by (with_reducible repeat (first | apply Kd.V_alloc | apply Kd.V_drewN | apply Kd.V_drew)); exact Kd.V_mono (Kd.V_far (p := ⟨gb321, 2, none⟩) (Kd.V_far (p := ⟨gb321, 1, none⟩) (Kd.V_far (p := ⟨gb321, 0, none⟩) (Kd.V_mono HO312.out (fun k_ hk => (⟨hk, hk.2⟩ : _ ∧ k_ ≠ gb321))) (fun _ hk => hk.2) (.int .i64 t315)) (fun _ hk => hk.2) (.int .i64 t316)) (fun _ hk => hk.2) (.slice Ao42 t317.length co42)) (fun _ hk => ⟨hk.1.1.1.1, ⟨hk.1.1.1.2.1, ⟨hk.1.1.1.2.2, ⟨hk.1.1.2, hk.1.2⟩⟩⟩⟩)⟩, ⟨by (with_reducible repeat (first | apply Kd.V_alloc | apply Kd.V_drewN | apply Kd.V_drew)); exact Kd.V_mono (Kd.V_far (p := ⟨gb321, 2, none⟩) (Kd.V_far (p := ⟨gb321, 1, none⟩) (Kd.V_far (p := ⟨gb321, 0, none⟩) (Kd.V_mono HO319.out (fun k_ hk => (⟨hk, hk.2⟩ : _ ∧ k_ ≠ gb321))) (fun _ hk => hk.2) (.int .i64 t315)) (fun _ hk => hk.2) (.int .i64 t316)) (fun _ hk => hk.2) (.slice Ao42 t317.length co42)) (fun _ hk => ⟨hk.1.1.1, ⟨hk.1.1.2.1, ⟨hk.1.1.2.2.1, ⟨hk.1.1.2.2.2, hk.1.2⟩⟩⟩⟩)⟩, ⟨by (with_reducible repeat (first | refine blk_drewN ?_ _ | refine blk_drew ?_ | refine blk_alloc ?_ _)); refine blk_far ?_ NB300_321.out _; (with_reducible repeat (first | refine blk_drewN ?_ _ | refine blk_drew ?_ | refine blk_alloc ?_ _)); refine blk_far ?_ NB300_321.out _; (with_reducible repeat (first | refine blk_drewN ?_ _ | refine blk_drew ?_ | refine blk_alloc ?_ _)); refine blk_far ?_ NB300_321.out _; (with_reducible repeat (first | refine blk_drewN ?_ _ | refine blk_drew ?_ | refine blk_alloc ?_ _)); exact BK300.out⟩, ⟨by (with_reducible repeat (first | refine blk_drewN ?_ _ | refine blk_drew ?_ | refine blk_alloc ?_ _)); refine blk_far ?_ NB307_321.out _; (with_reducible repeat (first | refine blk_drewN ?_ _ | refine blk_drew ?_ | refine blk_alloc ?_ _)); refine blk_far ?_ NB307_321.out _; (with_reducible repeat (first | refine blk_drewN ?_ _ | refine blk_drew ?_ | refine blk_alloc ?_ _)); refine blk_far ?_ NB307_321.out _; (with_reducible repeat (first | refine blk_drewN ?_ _ | refine blk_drew ?_ | refine blk_alloc ?_ _)); exact BK307.out⟩, ⟨by (with_reducible repeat (first | refine blk_drewN ?_ _ | refine blk_drew ?_ | refine blk_alloc ?_ _)); refine blk_far ?_ NB314_321.out _; (with_reducible repeat (first | refine blk_drewN ?_ _ | refine blk_drew ?_ | refine blk_alloc ?_ _)); refine blk_far ?_ NB314_321.out _; (with_reducible repeat (first | refine blk_drewN ?_ _ | refine blk_drew ?_ | refine blk_alloc ?_ _)); refine blk_far ?_ NB314_321.out _; (with_reducible repeat (first | refine blk_drewN ?_ _ | refine blk_drew ?_ | refine blk_alloc ?_ _)); exact BK314.out⟩, ⟨by (with_reducible repeat (first | refine blk_drewN ?_ _ | refine blk_drew ?_ | refine blk_alloc ?_ _)); refine blk_put (cs := #[.int .i64 t315, .int .i64 t316, .slice none 0 0]) ?_ 2 _ rfl; (with_reducible repeat (first | refine blk_drewN ?_ _ | refine blk_drew ?_ | refine blk_alloc ?_ _)); refine blk_put (cs := #[.int .i64 t315, .int .i64 0, .slice none 0 0]) ?_ 1 _ rfl; (with_reducible repeat (first | refine blk_drewN ?_ _ | refine blk_drew ?_ | refine blk_alloc ?_ _)); refine blk_put (cs := #[.int .i64 0, .int .i64 0, .slice none 0 0]) ?_ 0 _ rfl; (with_reducible repeat (first | refine blk_drewN ?_ _ | refine blk_drew ?_ | refine blk_alloc ?_ _)); exact BK321.out⟩, ⟨by repeat (first | (with_reducible first | exact HB.out | apply below_alloc | apply pw_below_drewN | apply below_drew1 | refine below_set ?_ GE300.out | refine below_set ?_ GE307.out | refine below_set ?_ GE314.out | refine below_set ?_ GE321.out) | exact HB.out)⟩⟩
 case rest =>
  clear HC17
  try clear c1
  try clear c2
  try clear p2
  try clear c3
  try clear c4
  try clear c5
  try clear c9
  try clear c9b0
  try clear c9b1
  try clear c9b2
  try clear c10
  try clear c10b0
  try clear c10b1
  try clear c10b2
  try clear c11
  try clear c11b0
  try clear c11b1
  try clear c11b2
  try clear c12
  try clear c12b0
  try clear c12b1
  try clear c12b2
  try clear c14
  try clear c14b0
  try clear c14b1
  try clear c14b2
  try clear c15
  try clear c15b0
  try clear c15b1
  try clear c15b2
  try clear c27
  try clear c32
  try clear c33
  try clear c38
  try clear c39
  try clear c40
  try clear c43
  try clear c44
  try clear c45
  try clear hcz23_0
  try clear hcz23_1
  try clear hcz23_2
  try clear hcz28_0
  try clear hcz28_1
  try clear hcz28_2
  try clear hcz34_0
  try clear hcz34_1
  try clear hcz34_2
  try clear hcz41_0
  try clear hcz41_1
  try clear hcz41_2
  try clear hfz23_0
  try clear hfz23_1
  try clear hfz23_2
  try clear hfz28_0
  try clear hfz28_1
  try clear hfz28_2
  try clear hfz34_0
  try clear hfz34_1
  try clear hfz34_2
  try clear hfz41_0
  try clear hfz41_1
  try clear hfz41_2
  obtain ⟨kq, x77_16, rfl, HA, HJ16, HO_11, HO_301002, HO_308002, HO_315002, HO_322002, BK300, BK307, BK314, BK321, HB⟩ := hcut
  cases kq with
  | zero => exact absurd HA.out (by simp [bobbinetkeep_ExprParts.j0])
  | succ kj16 =>
   have H := HA.out
   clear HA
   simp only [bobbinetkeep_ExprParts.j0] at H
   by_cases c46 : x77_16 = true
   ·
    subst c46
    rw [if_pos rfl] at H
    exact absurd H (by simp)
   replace c46 := Bool.eq_false_iff.mpr c46
   subst c46
   rw [if_neg (show ¬ (false = true) by decide)] at H
   have H' := Aside0.mk H
   clear H
   go_wp2
   go_loopg [20, 21] kj16 (fun kq v20 v21 w' => ∃ (x20_2 : Bool) (x21_2 : Int), v20 = .bool x20_2 ∧ v21 = .int .i64 x21_2 ∧ Aside0 (bobbinetkeep_ExprParts.l0 kq t291 x20_2 x21_2 t294 t295 t296 t301 t302 t303 t308 t309 t310 t315 t316 t317 = some r) ∧ Aside0 (kq ≤ kj16) ∧ Aside0 (Kd.R (Kd.int .i64) 3 w' w.heap.size (fun _ => True) v292 t291) ∧ Aside0 (Kd.V k28 28 w' w.heap.size (fun k_ => some k_ ≠ (v292 : Value).ownBlock ∧ k_ ≠ gb300 ∧ k_ ≠ gb307 ∧ k_ ≠ gb314 ∧ k_ ≠ gb321) (.slice Ao24 t296.length co24) t296) ∧ Aside0 (Kd.V k28 28 w' w.heap.size (fun k_ => some k_ ≠ (v292 : Value).ownBlock ∧ k_ ≠ gb300 ∧ k_ ≠ gb307 ∧ k_ ≠ gb314 ∧ k_ ≠ gb321) (.slice Ao29 t303.length co29) t303) ∧ Aside0 (Kd.V k28 28 w' w.heap.size (fun k_ => some k_ ≠ (v292 : Value).ownBlock ∧ k_ ≠ gb300 ∧ k_ ≠ gb307 ∧ k_ ≠ gb314 ∧ k_ ≠ gb321) (.slice Ao35 t310.length co35) t310) ∧ Aside0 (Kd.V k28 28 w' w.heap.size (fun k_ => some k_ ≠ (v292 : Value).ownBlock ∧ k_ ≠ gb300 ∧ k_ ≠ gb307 ∧ k_ ≠ gb314 ∧ k_ ≠ gb321) (.slice Ao42 t317.length co42) t317) ∧ Aside0 (w'.heap[gb300]? = some (.cells #[.int .i64 t294, .int .i64 t295, (.slice Ao24 t296.length co24)] 28 (0, 0))) ∧ Aside0 (w'.heap[gb307]? = some (.cells #[.int .i64 t301, .int .i64 t302, (.slice Ao29 t303.length co29)] 28 (0, 0))) ∧ Aside0 (w'.heap[gb314]? = some (.cells #[.int .i64 t308, .int .i64 t309, (.slice Ao35 t310.length co35)] 28 (0, 0))) ∧ Aside0 (w'.heap[gb321]? = some (.cells #[.int .i64 t315, .int .i64 t316, (.slice Ao42 t317.length co42)] 28 (0, 0))) ∧ Aside0 (Below w.heap.size w w'))
   case atStart => exact ⟨(false), (0), (by first | rfl | (simp; done) | (simp [*]; done) | (simp [bne]; done)), (by first | rfl | (simp; done) | (simp [*]; done) | (simp [bne]; done)), H', ⟨Nat.le_refl _⟩, ⟨by (with_reducible repeat (first | apply Kd.R_alloc | apply Kd.R_drewN | apply Kd.R_drew)); exact HO_11.out⟩, ⟨by (with_reducible repeat (first | apply Kd.V_alloc | apply Kd.V_drewN | apply Kd.V_drew)); exact HO_301002.out⟩, ⟨by (with_reducible repeat (first | apply Kd.V_alloc | apply Kd.V_drewN | apply Kd.V_drew)); exact HO_308002.out⟩, ⟨by (with_reducible repeat (first | apply Kd.V_alloc | apply Kd.V_drewN | apply Kd.V_drew)); exact HO_315002.out⟩, ⟨by (with_reducible repeat (first | apply Kd.V_alloc | apply Kd.V_drewN | apply Kd.V_drew)); exact HO_322002.out⟩, ⟨by (with_reducible repeat (first | refine blk_drewN ?_ _ | refine blk_drew ?_ | refine blk_alloc ?_ _)); exact BK300.out⟩, ⟨by (with_reducible repeat (first | refine blk_drewN ?_ _ | refine blk_drew ?_ | refine blk_alloc ?_ _)); exact BK307.out⟩, ⟨by (with_reducible repeat (first | refine blk_drewN ?_ _ | refine blk_drew ?_ | refine blk_alloc ?_ _)); exact BK314.out⟩, ⟨by (with_reducible repeat (first | refine blk_drewN ?_ _ | refine blk_drew ?_ | refine blk_alloc ?_ _)); exact BK321.out⟩, ⟨by repeat (first | (with_reducible first | exact HB.out | apply below_alloc | apply pw_below_drewN | apply below_drew1 | refine below_set ?_ GE300.out | refine below_set ?_ GE307.out | refine below_set ?_ GE314.out | refine below_set ?_ GE321.out) | exact HB.out)⟩⟩
   case round =>
    clear H'
    try clear c1
    try clear c2
    try clear p2
    try clear c3
    try clear c4
    try clear c5
    try clear c9
    try clear c9b0
    try clear c9b1
    try clear c9b2
    try clear c10
    try clear c10b0
    try clear c10b1
    try clear c10b2
    try clear c11
    try clear c11b0
    try clear c11b1
    try clear c11b2
    try clear c12
    try clear c12b0
    try clear c12b1
    try clear c12b2
    try clear c14
    try clear c14b0
    try clear c14b1
    try clear c14b2
    try clear c15
    try clear c15b0
    try clear c15b1
    try clear c15b2
    try clear c27
    try clear c32
    try clear c33
    try clear c38
    try clear c39
    try clear c40
    try clear c43
    try clear c44
    try clear c45
    try clear c46
    try clear hcz23_0
    try clear hcz23_1
    try clear hcz23_2
    try clear hcz28_0
    try clear hcz28_1
    try clear hcz28_2
    try clear hcz34_0
    try clear hcz34_1
    try clear hcz34_2
    try clear hcz41_0
    try clear hcz41_1
    try clear hcz41_2
    try clear hfz23_0
    try clear hfz23_1
    try clear hfz23_2
    try clear hfz28_0
    try clear hfz28_1
    try clear hfz28_2
    try clear hfz34_0
    try clear hfz34_1
    try clear hfz34_2
    try clear hfz41_0
    try clear hfz41_1
    try clear hfz41_2
    try clear p2
    obtain ⟨x20_2, x21_2, rfl, rfl, HA, HK2, HO_11, HO_301002, HO_308002, HO_315002, HO_322002, BK300, BK307, BK314, BK321, HB⟩ := hrel
    cases gk with
    | zero => exact absurd HA.out (by simp [bobbinetkeep_ExprParts.l0])
    | succ k2 =>
     have H := HA.out
     clear HA
     simp only [bobbinetkeep_ExprParts.l0] at H
     by_cases c47 : x21_2 ≤ (t291.length : Int)
     ·
      rw [if_pos c47] at H
      have c47b0 : decide (x21_2 ≤ (t291.length : Int)) = true := decide_eq_true c47
      clear c47
      by_cases c48 : x20_2 = true
      ·
       subst c48
       rw [if_pos rfl] at H
       have H' := Aside0.mk H
       clear H
       obtain ⟨Ao49, co49, eo49⟩ := Kd.R_slice HO_11.out
       subst eo49
       try go_wp2
       have n0_ := Aside0.mk (Kd.R_drew HO_11.out)
       have n1_ := Aside0.mk (Kd.V_drew HO_301002.out)
       have n2_ := Aside0.mk (Kd.V_drew HO_308002.out)
       have n3_ := Aside0.mk (Kd.V_drew HO_315002.out)
       have n4_ := Aside0.mk (Kd.V_drew HO_322002.out)
       have n5_ := Aside0.mk (blk_drew BK300.out)
       have n6_ := Aside0.mk (blk_drew BK307.out)
       have n7_ := Aside0.mk (blk_drew BK314.out)
       have n8_ := Aside0.mk (blk_drew BK321.out)
       have n9_ := Aside0.mk (below_drew1 HB.out)
       clear HO_11
       clear HO_301002
       clear HO_308002
       clear HO_315002
       clear HO_322002
       clear BK300
       clear BK307
       clear BK314
       clear BK321
       clear HB
       have HO_11 := n0_
       have HO_301002 := n1_
       have HO_308002 := n2_
       have HO_315002 := n3_
       have HO_322002 := n4_
       have BK300 := n5_
       have BK307 := n6_
       have BK314 := n7_
       have BK321 := n8_
       have HB := n9_
       clear n0_ n1_ n2_ n3_ n4_ n5_ n6_ n7_ n8_ n9_
       refine start_ (n := 16) (S := fun w' => True) (ds := []) b_0 (by kernel_rfl) rfl rfl trivial (fun hHeld => ?_); refine with_tabW bobbinetkeep_ExprParts.tab14 bobbinetkeep_ExprParts.bits14 (fun HT_ HW_ => ?_)
       generalize wr.drew = w50 at HO_11 HO_301002 HO_308002 HO_315002 HO_322002 BK300 BK307 BK314 BK321 HB hHeld ⊢
       refine pure_ (i := 0) (N := some 84) (v := ?_) (a' := ?_) b_1 rfl rfl (any_of HT_.out (by kernel_rfl)) (fun _ _ _ h => h) (Or.inl ⟨by rfl, ?_⟩) ?_ ?_
       rotate_left
       ·
        intro w'
        go_simp
        with_reducible rfl
       rotate_left
       ·
        simp only [Act.put, List.setIfInBounds_toArray, List.set_cons_zero, List.set_cons_succ, i64_w, i32_w]
        rfl
       refine pure_ (i := 1) (N := some 85) (v := ?_) (a' := ?_) b_2 rfl rfl (any_of HT_.out (by kernel_rfl)) (fun _ _ _ h => h) (Or.inl ⟨by rfl, ?_⟩) ?_ ?_
       rotate_left
       ·
        intro w'
        go_simp
        with_reducible rfl
       rotate_left
       ·
        simp only [Act.put, List.setIfInBounds_toArray, List.set_cons_zero, List.set_cons_succ, i64_w, i32_w]
        rfl
       refine pure_ (i := 2) (N := some 86) (v := undef) (a' := ?_) b_3 rfl rfl (any_of HT_.out (by kernel_rfl)) (fun _ _ _ h => h) (Or.inr ⟨by rfl, rfl⟩) ?_ ?_
       rotate_left
       ·
        simp only [Act.put, List.setIfInBounds_toArray, List.set_cons_zero, List.set_cons_succ, i64_w, i32_w]
        rfl
       refine pure_ (i := 3) (N := some 87) (v := undef) (a' := ?_) b_4 rfl rfl (any_of HT_.out (by kernel_rfl)) (fun _ _ _ h => h) (Or.inr ⟨by rfl, rfl⟩) ?_ ?_
       rotate_left
       ·
        simp only [Act.put, List.setIfInBounds_toArray, List.set_cons_zero, List.set_cons_succ, i64_w, i32_w]
        rfl
       refine pure_ (i := 4) (N := some 88) (v := undef) (a' := ?_) b_5 rfl rfl (any_of HT_.out (by kernel_rfl)) (fun _ _ _ h => h) (Or.inr ⟨by rfl, rfl⟩) ?_ ?_
       rotate_left
       ·
        simp only [Act.put, List.setIfInBounds_toArray, List.set_cons_zero, List.set_cons_succ, i64_w, i32_w]
        rfl
       refine pure_ (i := 5) (N := some 89) (v := undef) (a' := ?_) b_6 rfl rfl (any_of HT_.out (by kernel_rfl)) (fun _ _ _ h => h) (Or.inr ⟨by rfl, rfl⟩) ?_ ?_
       rotate_left
       ·
        simp only [Act.put, List.setIfInBounds_toArray, List.set_cons_zero, List.set_cons_succ, i64_w, i32_w]
        rfl
       refine pure_ (i := 6) (N := some 90) (v := undef) (a' := ?_) b_7 rfl rfl (any_of HT_.out (by kernel_rfl)) (fun _ _ _ h => h) (Or.inr ⟨by rfl, rfl⟩) ?_ ?_
       rotate_left
       ·
        simp only [Act.put, List.setIfInBounds_toArray, List.set_cons_zero, List.set_cons_succ, i64_w, i32_w]
        rfl
       refine pure_ (i := 7) (N := some 91) (v := undef) (a' := ?_) b_8 rfl rfl (any_of HT_.out (by kernel_rfl)) (fun _ _ _ h => h) (Or.inr ⟨by rfl, rfl⟩) ?_ ?_
       rotate_left
       ·
        simp only [Act.put, List.setIfInBounds_toArray, List.set_cons_zero, List.set_cons_succ, i64_w, i32_w]
        rfl
       refine pure_ (i := 8) (N := some 92) (v := undef) (a' := ?_) b_9 rfl rfl (any_of HT_.out (by kernel_rfl)) (fun _ _ _ h => h) (Or.inr ⟨by rfl, rfl⟩) ?_ ?_
       rotate_left
       ·
        simp only [Act.put, List.setIfInBounds_toArray, List.set_cons_zero, List.set_cons_succ, i64_w, i32_w]
        rfl
       refine pure_ (i := 9) (N := some 93) (v := undef) (a' := ?_) b_10 rfl rfl (any_of HT_.out (by kernel_rfl)) (fun _ _ _ h => h) (Or.inr ⟨by rfl, rfl⟩) ?_ ?_
       rotate_left
       ·
        simp only [Act.put, List.setIfInBounds_toArray, List.set_cons_zero, List.set_cons_succ, i64_w, i32_w]
        rfl
       refine pure_ (i := 10) (N := some 94) (v := undef) (a' := ?_) b_11 rfl rfl (any_of HT_.out (by kernel_rfl)) (fun _ _ _ h => h) (Or.inr ⟨by rfl, rfl⟩) ?_ ?_
       rotate_left
       ·
        simp only [Act.put, List.setIfInBounds_toArray, List.set_cons_zero, List.set_cons_succ, i64_w, i32_w]
        rfl
       refine pure_ (i := 11) (N := some 95) (v := undef) (a' := ?_) b_12 rfl rfl (any_of HT_.out (by kernel_rfl)) (fun _ _ _ h => h) (Or.inr ⟨by rfl, rfl⟩) ?_ ?_
       rotate_left
       ·
        simp only [Act.put, List.setIfInBounds_toArray, List.set_cons_zero, List.set_cons_succ, i64_w, i32_w]
        rfl
       refine pure_ (i := 12) (N := some 96) (v := undef) (a' := ?_) b_13 rfl rfl (any_of HT_.out (by kernel_rfl)) (fun _ _ _ h => h) (Or.inr ⟨by rfl, rfl⟩) ?_ ?_
       rotate_left
       ·
        simp only [Act.put, List.setIfInBounds_toArray, List.set_cons_zero, List.set_cons_succ, i64_w, i32_w]
        rfl
       refine pure_ (i := 13) (N := some 97) (v := undef) (a' := ?_) b_14 rfl rfl (any_of HT_.out (by kernel_rfl)) (fun _ _ _ h => h) (Or.inr ⟨by rfl, rfl⟩) ?_ ?_
       rotate_left
       ·
        simp only [Act.put, List.setIfInBounds_toArray, List.set_cons_zero, List.set_cons_succ, i64_w, i32_w]
        rfl
       refine pure_ (i := 14) (N := some 98) (v := ?_) (a' := ?_) b_15 rfl rfl (any_of HT_.out (by kernel_rfl)) (fun _ _ _ h => h) (Or.inl ⟨by rfl, ?_⟩) ?_ ?_
       rotate_left
       ·
        intro w'
        go_simp
        with_reducible rfl
       rotate_left
       ·
        simp only [Act.put, List.setIfInBounds_toArray, List.set_cons_zero, List.set_cons_succ, i64_w, i32_w]
        rfl
       refine pure_ (i := 15) (N := some 20) (v := ?_) (a' := ?_) b_16 rfl rfl (any_of HT_.out (by kernel_rfl)) (fun _ _ _ h => h) (Or.inl ⟨by rfl, ?_⟩) ?_ ?_
       rotate_left
       ·
        intro w'
        go_simp
        with_reducible rfl
       rotate_left
       ·
        simp only [Act.put, List.setIfInBounds_toArray, List.set_cons_zero, List.set_cons_succ, i64_w, i32_w]
        rfl
       refine done_ (done_of HT_.out (by kernel_rfl)) ?_
       try go_wp2
       go_roundg k2
       case measure => have := HJ16.out; have := HK2.out; omega
       case rel => exact ⟨(true), (wrap64 (x21_2 + 1)), (by first | rfl | (simp; done) | (simp [*]; done) | (simp [bne]; done)), (by first | rfl | (simp; done) | (simp [*]; done) | (simp [bne]; done)), H', ⟨by have := HJ16.out; have := HK2.out; omega⟩, ⟨by (with_reducible repeat (first | apply Kd.R_alloc | apply Kd.R_drewN | apply Kd.R_drew)); exact HO_11.out⟩, ⟨by (with_reducible repeat (first | apply Kd.V_alloc | apply Kd.V_drewN | apply Kd.V_drew)); exact HO_301002.out⟩, ⟨by (with_reducible repeat (first | apply Kd.V_alloc | apply Kd.V_drewN | apply Kd.V_drew)); exact HO_308002.out⟩, ⟨by (with_reducible repeat (first | apply Kd.V_alloc | apply Kd.V_drewN | apply Kd.V_drew)); exact HO_315002.out⟩, ⟨by (with_reducible repeat (first | apply Kd.V_alloc | apply Kd.V_drewN | apply Kd.V_drew)); exact HO_322002.out⟩, ⟨by (with_reducible repeat (first | refine blk_drewN ?_ _ | refine blk_drew ?_ | refine blk_alloc ?_ _)); exact BK300.out⟩, ⟨by (with_reducible repeat (first | refine blk_drewN ?_ _ | refine blk_drew ?_ | refine blk_alloc ?_ _)); exact BK307.out⟩, ⟨by (with_reducible repeat (first | refine blk_drewN ?_ _ | refine blk_drew ?_ | refine blk_alloc ?_ _)); exact BK314.out⟩, ⟨by (with_reducible repeat (first | refine blk_drewN ?_ _ | refine blk_drew ?_ | refine blk_alloc ?_ _)); exact BK321.out⟩, ⟨by repeat (first | (with_reducible first | exact HB.out | apply below_alloc | apply pw_below_drewN | apply below_drew1 | refine below_set ?_ GE300.out | refine below_set ?_ GE307.out | refine below_set ?_ GE314.out | refine below_set ?_ GE321.out) | exact HB.out)⟩⟩
      replace c48 := Bool.eq_false_iff.mpr c48
      subst c48
      rw [if_neg (show ¬ (false = true) by decide)] at H
      by_cases c51 : 0 ≤ x21_2
      rotate_left
      ·
       rw [if_neg c51] at H
       exact absurd H (by simp)
      rw [if_pos c51] at H
      have c51b0 := eq_true c51
      have c51b1 : decide (0 ≤ x21_2) = true := decide_eq_true c51
      clear c51
      have c52b0 := eq_true (of_decide_eq_true (by first | (with_reducible assumption) | assumption) : x21_2 ≤ (t291.length : Int))
      obtain ⟨y322, hy322⟩ : ∃ y_ : List Int, y_ = (t291.take (x21_2 : Int).toNat) := ⟨_, rfl⟩
      replace H : ((bobbinetkeep_matches.f k2 t294 t295 t296 y322).bind fun t326 => (if t326 = true then ((bobbinetkeep_matches.f k2 t301 t302 t303 (t291.drop (x21_2 : Int).toNat)).bind fun t331 => (bobbinetkeep_ExprParts.l0 k2 t291 t331 (wrap64 (x21_2 + 1)) t294 t295 t296 t301 t302 t303 t308 t309 t310 t315 t316 t317)) else (bobbinetkeep_ExprParts.l0 k2 t291 false (wrap64 (x21_2 + 1)) t294 t295 t296 t301 t302 t303 t308 t309 t310 t315 t316 t317))) = some r := by first | (rw [hy322]; with_reducible exact H) | (have H2_ := (Option.bind_some _ _).symm.trans H; rw [hy322]; with_reducible exact H2_) | (have H2_ := (Option.bind_some _ _).symm.trans H; with_reducible exact H2_) | with_reducible exact H | (rw [hy322]; exact H) | exact H
      have Ny322 := Aside0.mk hy322
      clear hy322
      replace H := Option.bind_eq_some_iff.mp H
      obtain ⟨t326, A530, H⟩ := H
      (try dsimp only at H)
      have A53 := Aside0.mk A530
      clear A530
      by_cases c54 : t326 = true
      rotate_left
      ·
       replace c54 := Bool.eq_false_iff.mpr c54
       subst c54
       rw [if_neg (show ¬ (false = true) by decide)] at H
       have H' := Aside0.mk H
       clear H
       obtain ⟨Ao64, co64, eo64⟩ := Kd.R_slice HO_11.out
       subst eo64
       try go_wp2
       have n0_ := Aside0.mk (Kd.R_drew HO_11.out)
       have n1_ := Aside0.mk (Kd.V_drew HO_301002.out)
       have n2_ := Aside0.mk (Kd.V_drew HO_308002.out)
       have n3_ := Aside0.mk (Kd.V_drew HO_315002.out)
       have n4_ := Aside0.mk (Kd.V_drew HO_322002.out)
       have n5_ := Aside0.mk (blk_drew BK300.out)
       have n6_ := Aside0.mk (blk_drew BK307.out)
       have n7_ := Aside0.mk (blk_drew BK314.out)
       have n8_ := Aside0.mk (blk_drew BK321.out)
       have n9_ := Aside0.mk (below_drew1 HB.out)
       clear HO_11
       clear HO_301002
       clear HO_308002
       clear HO_315002
       clear HO_322002
       clear BK300
       clear BK307
       clear BK314
       clear BK321
       clear HB
       have HO_11 := n0_
       have HO_301002 := n1_
       have HO_308002 := n2_
       have HO_315002 := n3_
       have HO_322002 := n4_
       have BK300 := n5_
       have BK307 := n6_
       have BK314 := n7_
       have BK321 := n8_
       have HB := n9_
       clear n0_ n1_ n2_ n3_ n4_ n5_ n6_ n7_ n8_ n9_
       have q66 : (x21_2 : Int) ≤ ((t291.length : Int) : Int) := of_decide_eq_true (by first | (with_reducible assumption) | assumption)
       obtain ⟨i066, hi066, _, hsz66, _⟩ := info_parts info3
       have hroom66 : t291.length ≤ co64 := (Kd.R_reads' HO_11.out).2.1
       have hC66 : Kd.C (Kd.int .i64) _ Ao64 t291.length t291 := (Kd.R_reads' HO_11.out).2.2
       have hcut66 := cut_to (P := Try.prog) 22 3 .i64 Try.underlying22 hi066 Ao64 t291.length co64 x21_2 (of_decide_eq_true (by first | (with_reducible assumption) | assumption)) q66 hroom66
       have hr66 := Kd.C_take (m := (x21_2 : Int).toNat) hC66 (by omega)
       have hy66 : y322.length = (x21_2 : Int).toNat := (by rw [Ny322.out, List.length_take]; omega)
       rw [← Ny322.out] at hr66
       rw [← hy66] at hcut66
       have HR325 := Aside0.mk hr66
       have HC325 := Aside0.mk (show y322.length ≤ co64 from by omega)
       clear hr66 hC66 hroom66 hi066 hsz66
       have KY66 := Aside0.mk hy66
       clear hy66
       have KL66 := Aside0.mk (show (x21_2 : Int).toNat ≤ t291.length from by omega)
       replace q66 := eq_true q66
       refine start_ (n := 16) (S := fun w' => w'.cell? ⟨gb300, 0, none⟩ = some (.int .i64 t294) ∧ w'.cell? ⟨gb300, 1, none⟩ = some (.int .i64 t295) ∧ w'.cell? ⟨gb300, 2, none⟩ = some (.slice Ao24 t296.length co24)) (ds := []) b_0 (by kernel_rfl) rfl rfl ⟨(blk_cell BK300.out 0).trans rfl, (blk_cell BK300.out 1).trans rfl, (blk_cell BK300.out 2).trans rfl⟩ (fun hHeld => ?_); refine with_tabW bobbinetkeep_ExprParts.tab14 bobbinetkeep_ExprParts.bits14 (fun HT_ HW_ => ?_)
       generalize wr.drew = w65 at HO_11 HO_301002 HO_308002 HO_315002 HO_322002 BK300 BK307 BK314 BK321 HB HR325 hHeld ⊢
       refine pure_ (i := 0) (N := some 84) (v := ?_) (a' := ?_) b_1 rfl rfl (any_of HT_.out (by kernel_rfl)) (fun _ _ _ h => h) (Or.inl ⟨by rfl, ?_⟩) ?_ ?_
       rotate_left
       ·
        intro w'
        go_simp
        with_reducible rfl
       rotate_left
       ·
        simp only [Act.put, List.setIfInBounds_toArray, List.set_cons_zero, List.set_cons_succ, i64_w, i32_w]
        rfl
       refine pure_ (i := 1) (N := some 85) (v := ?_) (a' := ?_) b_2 rfl rfl (any_of HT_.out (by kernel_rfl)) (fun _ _ _ h => h) (Or.inl ⟨by rfl, ?_⟩) ?_ ?_
       rotate_left
       ·
        intro w'
        go_simp
        with_reducible rfl
       rotate_left
       ·
        simp only [Act.put, List.setIfInBounds_toArray, List.set_cons_zero, List.set_cons_succ, i64_w, i32_w]
        rfl
       refine pure_ (i := 3) (N := some 87) (v := ?_) (a' := ?_) b_17 rfl rfl (any_of HT_.out (by kernel_rfl)) (fun _ _ _ h => h) (Or.inl ⟨by rfl, ?_⟩) ?_ ?_
       rotate_left
       ·
        intro w'
        go_simp
        with_reducible rfl
       rotate_left
       ·
        simp only [Act.put, List.setIfInBounds_toArray, List.set_cons_zero, List.set_cons_succ, i64_w, i32_w]
        rfl
       refine pure_ (i := 4) (N := some 88) (v := ?_) (a' := ?_) b_18 rfl rfl (any_of HT_.out (by kernel_rfl)) (fun _ _ _ h => h) (Or.inl ⟨by rfl, ?_⟩) ?_ ?_
       rotate_left
       ·
        intro w'
        go_simp
        with_reducible rfl
       rotate_left
       ·
        simp only [Act.put, List.setIfInBounds_toArray, List.set_cons_zero, List.set_cons_succ, i64_w, i32_w]
        rfl
       refine pure_ (i := 5) (N := some 89) (v := ?_) (a' := ?_) b_19 rfl rfl (any_of HT_.out (by kernel_rfl)) (fun _ _ _ h => h) (Or.inl ⟨by rfl, ?_⟩) ?_ ?_
       rotate_left
       ·
        intro w'
        go_simp
        with_reducible rfl
       rotate_left
       ·
        simp only [Act.put, List.setIfInBounds_toArray, List.set_cons_zero, List.set_cons_succ, i64_w, i32_w]
        rfl
       refine take_ (i := 2) (N := some 86) (v := ?_) (a' := ?_) b_6 rfl rfl (take_ofW HT_.out HW_.out (by kernel_rfl)) (fun _ _ _ h => h) (Or.inl ⟨by rfl, ?_⟩) hHeld ?_ ?_
       rotate_left
       ·
        rintro w' ⟨s0, s1, s2⟩
        go_simp
        with_reducible rfl
       rotate_left
       ·
        simp only [Act.put, List.setIfInBounds_toArray, List.set_cons_zero, List.set_cons_succ, i64_w, i32_w]
        rfl
       refine one_ (i := 6) (N := some 90) b_7 rfl rfl (one_of HT_.out (by kernel_rfl)) (by decide) (fun K hK => ?_)
       refine goes_ Try.func16 (by kernel_rfl) rfl #[.agg #[.int .i64 t294, .int .i64 t295, .slice Ao24 t296.length co24], .slice Ao64 y322.length co64] (by rfl) rfl rfl (by (try simp only [List.map_toArray, List.map_cons, List.map_nil]); first | done | rfl | (simp only [List.length_drop, List.length_take]; rfl)) ?_
       with_reducible refine (bobbinetkeep_matches.calls k2 t294 t295 _ _ t296 _ _ y322 false _ ?side1 ?side2 ?side3 ?side4 A53.out).mono ?_
       (case side1 => repeat (first | exact (Kd.V_reads' HO_301002.out).2.2 | (with_reducible refine Kd.C_alloc ?_ _) | (with_reducible refine Kd.C_drewN ?_ _) | (with_reducible refine Kd.C_drew ?_)))
       (case side2 => exact (Kd.V_reads' HO_301002.out).2.1)
       (case side3 => repeat (first | exact (by repeat (first | (with_reducible exact HR325.out) | (with_reducible refine Kd.C_alloc ?_ _) | (with_reducible refine Kd.C_drewN ?_ _) | (with_reducible refine Kd.C_drew ?_) | exact HR325.out)) | (with_reducible refine Kd.C_alloc ?_ _) | (with_reducible refine Kd.C_drewN ?_ _) | (with_reducible refine Kd.C_drew ?_)))
       (case side4 => exact HC325.out)
       rintro e w67 ⟨rfl, hb⟩
       refine ⟨_, rfl, ?_⟩
       have n0_ := Aside0.mk (Kd.R_below (R_st <| HO_11.out) hb)
       have n1_ := Aside0.mk (Kd.V_below (V_st <| HO_301002.out) hb)
       have n2_ := Aside0.mk (Kd.V_below (V_st <| HO_308002.out) hb)
       have n3_ := Aside0.mk (Kd.V_below (V_st <| HO_315002.out) hb)
       have n4_ := Aside0.mk (Kd.V_below (V_st <| HO_322002.out) hb)
       have n5_ := Aside0.mk (blk_below (g := gb300) (o := .cells #[.int .i64 t294, .int .i64 t295, .slice Ao24 t296.length co24] 28 (0, 0)) (by (with_reducible repeat (first | refine blk_drewN ?_ _ | refine blk_drew ?_ | refine blk_alloc ?_ _)); exact BK300.out) hb)
       have n6_ := Aside0.mk (blk_below (g := gb307) (o := .cells #[.int .i64 t301, .int .i64 t302, .slice Ao29 t303.length co29] 28 (0, 0)) (by (with_reducible repeat (first | refine blk_drewN ?_ _ | refine blk_drew ?_ | refine blk_alloc ?_ _)); exact BK307.out) hb)
       have n7_ := Aside0.mk (blk_below (g := gb314) (o := .cells #[.int .i64 t308, .int .i64 t309, .slice Ao35 t310.length co35] 28 (0, 0)) (by (with_reducible repeat (first | refine blk_drewN ?_ _ | refine blk_drew ?_ | refine blk_alloc ?_ _)); exact BK314.out) hb)
       have n8_ := Aside0.mk (blk_below (g := gb321) (o := .cells #[.int .i64 t315, .int .i64 t316, .slice Ao42 t317.length co42] 28 (0, 0)) (by (with_reducible repeat (first | refine blk_drewN ?_ _ | refine blk_drew ?_ | refine blk_alloc ?_ _)); exact BK321.out) hb)
       (first | have n9_ := Aside0.mk (Kd.C_below (Kd.C_drewN HR325.out _) hb) | have n9_ := Aside0.mk (Kd.C_below HR325.out hb) | have n9_ := Aside0.mk (Kd.C_below (by repeat (first | (with_reducible exact HR325.out) | (with_reducible refine Kd.C_alloc ?_ _) | (with_reducible refine Kd.C_drewN ?_ _) | (with_reducible refine Kd.C_drew ?_) | exact HR325.out)) hb))
       have n10_ := Aside0.mk (below_step (by repeat (first | (with_reducible first | exact HB.out | apply below_alloc | apply pw_below_drewN | apply below_drew1 | refine below_set ?_ GE300.out | refine below_set ?_ GE307.out | refine below_set ?_ GE314.out | refine below_set ?_ GE321.out) | exact HB.out)) hb)
       clear HO_11
       clear HO_301002
       clear HO_308002
       clear HO_315002
       clear HO_322002
       clear BK300
       clear BK307
       clear BK314
       clear BK321
       clear HR325
       clear HB
       have HO_11 := n0_
       have HO_301002 := n1_
       have HO_308002 := n2_
       have HO_315002 := n3_
       have HO_322002 := n4_
       have BK300 := n5_
       have BK307 := n6_
       have BK314 := n7_
       have BK321 := n8_
       have HR325 := n9_
       have HB := n10_
       clear n0_ n1_ n2_ n3_ n4_ n5_ n6_ n7_ n8_ n9_ n10_
       (try clear hb)
       (try clear hb2)
       (try clear hk)
       (try clear hi)
       refine hK.out _ _ ⟨(blk_cell BK300.out 0).trans rfl, (blk_cell BK300.out 1).trans rfl, (blk_cell BK300.out 2).trans rfl⟩ (fun hHeld => ?_)
       clear hK K
       refine norm_ (a' := ?_) ?_ ?_
       rotate_left
       ·
        show Act.put _ (some 90) _ = _
        simp only [Act.put, List.setIfInBounds_toArray, List.set_cons_zero, List.set_cons_succ, i64_w, i32_w]
        rfl
       refine pure_ (i := 7) (N := some 91) (v := ?_) (a' := ?_) b_8 rfl rfl (any_of HT_.out (by kernel_rfl)) (fun _ _ _ h => h) (Or.inl ⟨by rfl, ?_⟩) ?_ ?_
       rotate_left
       ·
        intro w'
        go_simp
        with_reducible rfl
       rotate_left
       ·
        simp only [Act.put, List.setIfInBounds_toArray, List.set_cons_zero, List.set_cons_succ, i64_w, i32_w]
        rfl
       refine pure_ (i := 8) (N := some 92) (v := undef) (a' := ?_) b_9 rfl rfl (any_of HT_.out (by kernel_rfl)) (fun _ _ _ h => h) (Or.inr ⟨by rfl, rfl⟩) ?_ ?_
       rotate_left
       ·
        simp only [Act.put, List.setIfInBounds_toArray, List.set_cons_zero, List.set_cons_succ, i64_w, i32_w]
        rfl
       refine pure_ (i := 9) (N := some 93) (v := undef) (a' := ?_) b_10 rfl rfl (any_of HT_.out (by kernel_rfl)) (fun _ _ _ h => h) (Or.inr ⟨by rfl, rfl⟩) ?_ ?_
       rotate_left
       ·
        simp only [Act.put, List.setIfInBounds_toArray, List.set_cons_zero, List.set_cons_succ, i64_w, i32_w]
        rfl
       refine pure_ (i := 10) (N := some 94) (v := undef) (a' := ?_) b_11 rfl rfl (any_of HT_.out (by kernel_rfl)) (fun _ _ _ h => h) (Or.inr ⟨by rfl, rfl⟩) ?_ ?_
       rotate_left
       ·
        simp only [Act.put, List.setIfInBounds_toArray, List.set_cons_zero, List.set_cons_succ, i64_w, i32_w]
        rfl
       refine pure_ (i := 11) (N := some 95) (v := undef) (a' := ?_) b_12 rfl rfl (any_of HT_.out (by kernel_rfl)) (fun _ _ _ h => h) (Or.inr ⟨by rfl, rfl⟩) ?_ ?_
       rotate_left
       ·
        simp only [Act.put, List.setIfInBounds_toArray, List.set_cons_zero, List.set_cons_succ, i64_w, i32_w]
        rfl
       refine pure_ (i := 12) (N := some 96) (v := undef) (a' := ?_) b_13 rfl rfl (any_of HT_.out (by kernel_rfl)) (fun _ _ _ h => h) (Or.inr ⟨by rfl, rfl⟩) ?_ ?_
       rotate_left
       ·
        simp only [Act.put, List.setIfInBounds_toArray, List.set_cons_zero, List.set_cons_succ, i64_w, i32_w]
        rfl
       refine pure_ (i := 13) (N := some 97) (v := ?_) (a' := ?_) b_14 rfl rfl (any_of HT_.out (by kernel_rfl)) (fun _ _ _ h => h) (Or.inl ⟨by rfl, ?_⟩) ?_ ?_
       rotate_left
       ·
        intro w'
        go_simp
        with_reducible rfl
       rotate_left
       ·
        simp only [Act.put, List.setIfInBounds_toArray, List.set_cons_zero, List.set_cons_succ, i64_w, i32_w]
        rfl
       refine pure_ (i := 14) (N := some 98) (v := ?_) (a' := ?_) b_15 rfl rfl (any_of HT_.out (by kernel_rfl)) (fun _ _ _ h => h) (Or.inl ⟨by rfl, ?_⟩) ?_ ?_
       rotate_left
       ·
        intro w'
        go_simp
        with_reducible rfl
       rotate_left
       ·
        simp only [Act.put, List.setIfInBounds_toArray, List.set_cons_zero, List.set_cons_succ, i64_w, i32_w]
        rfl
       refine pure_ (i := 15) (N := some 20) (v := ?_) (a' := ?_) b_16 rfl rfl (any_of HT_.out (by kernel_rfl)) (fun _ _ _ h => h) (Or.inl ⟨by rfl, ?_⟩) ?_ ?_
       rotate_left
       ·
        intro w'
        go_simp
        with_reducible rfl
       rotate_left
       ·
        simp only [Act.put, List.setIfInBounds_toArray, List.set_cons_zero, List.set_cons_succ, i64_w, i32_w]
        rfl
       refine done_ (done_of HT_.out (by kernel_rfl)) ?_
       try go_wp2
       go_roundg k2
       case measure => have := HJ16.out; have := HK2.out; omega
       case rel => exact ⟨(false), (wrap64 (x21_2 + 1)), (by first | rfl | (simp; done) | (simp [*]; done) | (simp [bne]; done)), (by first | rfl | (simp; done) | (simp [*]; done) | (simp [bne]; done)), H', ⟨by have := HJ16.out; have := HK2.out; omega⟩, ⟨by (with_reducible repeat (first | apply Kd.R_alloc | apply Kd.R_drewN | apply Kd.R_drew)); exact HO_11.out⟩, ⟨by (with_reducible repeat (first | apply Kd.V_alloc | apply Kd.V_drewN | apply Kd.V_drew)); exact HO_301002.out⟩, ⟨by (with_reducible repeat (first | apply Kd.V_alloc | apply Kd.V_drewN | apply Kd.V_drew)); exact HO_308002.out⟩, ⟨by (with_reducible repeat (first | apply Kd.V_alloc | apply Kd.V_drewN | apply Kd.V_drew)); exact HO_315002.out⟩, ⟨by (with_reducible repeat (first | apply Kd.V_alloc | apply Kd.V_drewN | apply Kd.V_drew)); exact HO_322002.out⟩, ⟨by (with_reducible repeat (first | refine blk_drewN ?_ _ | refine blk_drew ?_ | refine blk_alloc ?_ _)); exact BK300.out⟩, ⟨by (with_reducible repeat (first | refine blk_drewN ?_ _ | refine blk_drew ?_ | refine blk_alloc ?_ _)); exact BK307.out⟩, ⟨by (with_reducible repeat (first | refine blk_drewN ?_ _ | refine blk_drew ?_ | refine blk_alloc ?_ _)); exact BK314.out⟩, ⟨by (with_reducible repeat (first | refine blk_drewN ?_ _ | refine blk_drew ?_ | refine blk_alloc ?_ _)); exact BK321.out⟩, ⟨by repeat (first | (with_reducible first | exact HB.out | apply below_alloc | apply pw_below_drewN | apply below_drew1 | refine below_set ?_ GE300.out | refine below_set ?_ GE307.out | refine below_set ?_ GE314.out | refine below_set ?_ GE321.out) | exact HB.out)⟩⟩
      subst c54
      rw [if_pos rfl] at H
      have c55b0 := eq_true (of_decide_eq_true (by first | (with_reducible assumption) | assumption) : 0 ≤ x21_2)
      have c56b0 := eq_true (of_decide_eq_true (by first | (with_reducible assumption) | assumption) : x21_2 ≤ (t291.length : Int))
      obtain ⟨y327, hy327⟩ : ∃ y_ : List Int, y_ = (t291.drop (x21_2 : Int).toNat) := ⟨_, rfl⟩
      replace H : ((bobbinetkeep_matches.f k2 t301 t302 t303 y327).bind fun t331 => (bobbinetkeep_ExprParts.l0 k2 t291 t331 (wrap64 (x21_2 + 1)) t294 t295 t296 t301 t302 t303 t308 t309 t310 t315 t316 t317)) = some r := by first | (rw [hy327]; with_reducible exact H) | (have H2_ := (Option.bind_some _ _).symm.trans H; rw [hy327]; with_reducible exact H2_) | (have H2_ := (Option.bind_some _ _).symm.trans H; with_reducible exact H2_) | with_reducible exact H | (rw [hy327]; exact H) | exact H
      have Ny327 := Aside0.mk hy327
      clear hy327
      replace H := Option.bind_eq_some_iff.mp H
      obtain ⟨t331, A570, H⟩ := H
      (try dsimp only at H)
      have A57 := Aside0.mk A570
      clear A570
      have H' := Aside0.mk H
      clear H
      obtain ⟨Ao58, co58, eo58⟩ := Kd.R_slice HO_11.out
      subst eo58
      try go_wp2
      have n0_ := Aside0.mk (Kd.R_drew HO_11.out)
      have n1_ := Aside0.mk (Kd.V_drew HO_301002.out)
      have n2_ := Aside0.mk (Kd.V_drew HO_308002.out)
      have n3_ := Aside0.mk (Kd.V_drew HO_315002.out)
      have n4_ := Aside0.mk (Kd.V_drew HO_322002.out)
      have n5_ := Aside0.mk (blk_drew BK300.out)
      have n6_ := Aside0.mk (blk_drew BK307.out)
      have n7_ := Aside0.mk (blk_drew BK314.out)
      have n8_ := Aside0.mk (blk_drew BK321.out)
      have n9_ := Aside0.mk (below_drew1 HB.out)
      clear HO_11
      clear HO_301002
      clear HO_308002
      clear HO_315002
      clear HO_322002
      clear BK300
      clear BK307
      clear BK314
      clear BK321
      clear HB
      have HO_11 := n0_
      have HO_301002 := n1_
      have HO_308002 := n2_
      have HO_315002 := n3_
      have HO_322002 := n4_
      have BK300 := n5_
      have BK307 := n6_
      have BK314 := n7_
      have BK321 := n8_
      have HB := n9_
      clear n0_ n1_ n2_ n3_ n4_ n5_ n6_ n7_ n8_ n9_
      have q60 : (x21_2 : Int) ≤ ((t291.length : Int) : Int) := of_decide_eq_true (by first | (with_reducible assumption) | assumption)
      obtain ⟨i060, hi060, _, hsz60, _⟩ := info_parts info3
      have hroom60 : t291.length ≤ co58 := (Kd.R_reads' HO_11.out).2.1
      have hC60 : Kd.C (Kd.int .i64) _ Ao58 t291.length t291 := (Kd.R_reads' HO_11.out).2.2
      have hcut60 := cut_to (P := Try.prog) 22 3 .i64 Try.underlying22 hi060 Ao58 t291.length co58 x21_2 (of_decide_eq_true (by first | (with_reducible assumption) | assumption)) q60 hroom60
      have hr60 := Kd.C_take (m := (x21_2 : Int).toNat) hC60 (by omega)
      have hy60 : y322.length = (x21_2 : Int).toNat := (by rw [Ny322.out, List.length_take]; omega)
      rw [← Ny322.out] at hr60
      rw [← hy60] at hcut60
      have HR325 := Aside0.mk hr60
      have HC325 := Aside0.mk (show y322.length ≤ co58 from by omega)
      clear hr60 hC60 hroom60 hi060 hsz60
      have KY60 := Aside0.mk hy60
      clear hy60
      have KL60 := Aside0.mk (show (x21_2 : Int).toNat ≤ t291.length from by omega)
      replace q60 := eq_true q60
      refine start_ (n := 16) (S := fun w' => w'.cell? ⟨gb300, 0, none⟩ = some (.int .i64 t294) ∧ w'.cell? ⟨gb300, 1, none⟩ = some (.int .i64 t295) ∧ w'.cell? ⟨gb300, 2, none⟩ = some (.slice Ao24 t296.length co24) ∧ w'.cell? ⟨gb307, 0, none⟩ = some (.int .i64 t301) ∧ w'.cell? ⟨gb307, 1, none⟩ = some (.int .i64 t302) ∧ w'.cell? ⟨gb307, 2, none⟩ = some (.slice Ao29 t303.length co29)) (ds := []) b_0 (by kernel_rfl) rfl rfl ⟨(blk_cell BK300.out 0).trans rfl, (blk_cell BK300.out 1).trans rfl, (blk_cell BK300.out 2).trans rfl, (blk_cell BK307.out 0).trans rfl, (blk_cell BK307.out 1).trans rfl, (blk_cell BK307.out 2).trans rfl⟩ (fun hHeld => ?_); refine with_tabW bobbinetkeep_ExprParts.tab14 bobbinetkeep_ExprParts.bits14 (fun HT_ HW_ => ?_)
      generalize wr.drew = w59 at HO_11 HO_301002 HO_308002 HO_315002 HO_322002 BK300 BK307 BK314 BK321 HB HR325 hHeld ⊢
      refine pure_ (i := 0) (N := some 84) (v := ?_) (a' := ?_) b_1 rfl rfl (any_of HT_.out (by kernel_rfl)) (fun _ _ _ h => h) (Or.inl ⟨by rfl, ?_⟩) ?_ ?_
      rotate_left
      ·
       intro w'
       go_simp
       with_reducible rfl
      rotate_left
      ·
       simp only [Act.put, List.setIfInBounds_toArray, List.set_cons_zero, List.set_cons_succ, i64_w, i32_w]
       rfl
      refine pure_ (i := 1) (N := some 85) (v := ?_) (a' := ?_) b_2 rfl rfl (any_of HT_.out (by kernel_rfl)) (fun _ _ _ h => h) (Or.inl ⟨by rfl, ?_⟩) ?_ ?_
      rotate_left
      ·
       intro w'
       go_simp
       with_reducible rfl
      rotate_left
      ·
       simp only [Act.put, List.setIfInBounds_toArray, List.set_cons_zero, List.set_cons_succ, i64_w, i32_w]
       rfl
      refine pure_ (i := 3) (N := some 87) (v := ?_) (a' := ?_) b_17 rfl rfl (any_of HT_.out (by kernel_rfl)) (fun _ _ _ h => h) (Or.inl ⟨by rfl, ?_⟩) ?_ ?_
      rotate_left
      ·
       intro w'
       go_simp
       with_reducible rfl
      rotate_left
      ·
       simp only [Act.put, List.setIfInBounds_toArray, List.set_cons_zero, List.set_cons_succ, i64_w, i32_w]
       rfl
      refine pure_ (i := 4) (N := some 88) (v := ?_) (a' := ?_) b_18 rfl rfl (any_of HT_.out (by kernel_rfl)) (fun _ _ _ h => h) (Or.inl ⟨by rfl, ?_⟩) ?_ ?_
      rotate_left
      ·
       intro w'
       go_simp
       with_reducible rfl
      rotate_left
      ·
       simp only [Act.put, List.setIfInBounds_toArray, List.set_cons_zero, List.set_cons_succ, i64_w, i32_w]
       rfl
      refine pure_ (i := 5) (N := some 89) (v := ?_) (a' := ?_) b_19 rfl rfl (any_of HT_.out (by kernel_rfl)) (fun _ _ _ h => h) (Or.inl ⟨by rfl, ?_⟩) ?_ ?_
      rotate_left
      ·
       intro w'
       go_simp
       with_reducible rfl
      rotate_left
      ·
       simp only [Act.put, List.setIfInBounds_toArray, List.set_cons_zero, List.set_cons_succ, i64_w, i32_w]
       rfl
      refine take_ (i := 2) (N := some 86) (v := ?_) (a' := ?_) b_6 rfl rfl (take_ofW HT_.out HW_.out (by kernel_rfl)) (fun _ _ _ h => h) (Or.inl ⟨by rfl, ?_⟩) hHeld ?_ ?_
      rotate_left
      ·
       rintro w' ⟨s0, s1, s2, s3, s4, s5⟩
       go_simp
       with_reducible rfl
      rotate_left
      ·
       simp only [Act.put, List.setIfInBounds_toArray, List.set_cons_zero, List.set_cons_succ, i64_w, i32_w]
       rfl
      refine one_ (i := 6) (N := some 90) b_7 rfl rfl (one_of HT_.out (by kernel_rfl)) (by decide) (fun K hK => ?_)
      refine goes_ Try.func16 (by kernel_rfl) rfl #[.agg #[.int .i64 t294, .int .i64 t295, .slice Ao24 t296.length co24], .slice Ao58 y322.length co58] (by rfl) rfl rfl (by (try simp only [List.map_toArray, List.map_cons, List.map_nil]); first | done | rfl | (simp only [List.length_drop, List.length_take]; rfl)) ?_
      with_reducible refine (bobbinetkeep_matches.calls k2 t294 t295 _ _ t296 _ _ y322 true _ ?side1 ?side2 ?side3 ?side4 A53.out).mono ?_
      (case side1 => repeat (first | exact (Kd.V_reads' HO_301002.out).2.2 | (with_reducible refine Kd.C_alloc ?_ _) | (with_reducible refine Kd.C_drewN ?_ _) | (with_reducible refine Kd.C_drew ?_)))
      (case side2 => exact (Kd.V_reads' HO_301002.out).2.1)
      (case side3 => repeat (first | exact (by repeat (first | (with_reducible exact HR325.out) | (with_reducible refine Kd.C_alloc ?_ _) | (with_reducible refine Kd.C_drewN ?_ _) | (with_reducible refine Kd.C_drew ?_) | exact HR325.out)) | (with_reducible refine Kd.C_alloc ?_ _) | (with_reducible refine Kd.C_drewN ?_ _) | (with_reducible refine Kd.C_drew ?_)))
      (case side4 => exact HC325.out)
      rintro e w61 ⟨rfl, hb⟩
      refine ⟨_, rfl, ?_⟩
      have n0_ := Aside0.mk (Kd.R_below (R_st <| HO_11.out) hb)
      have n1_ := Aside0.mk (Kd.V_below (V_st <| HO_301002.out) hb)
      have n2_ := Aside0.mk (Kd.V_below (V_st <| HO_308002.out) hb)
      have n3_ := Aside0.mk (Kd.V_below (V_st <| HO_315002.out) hb)
      have n4_ := Aside0.mk (Kd.V_below (V_st <| HO_322002.out) hb)
      have n5_ := Aside0.mk (blk_below (g := gb300) (o := .cells #[.int .i64 t294, .int .i64 t295, .slice Ao24 t296.length co24] 28 (0, 0)) (by (with_reducible repeat (first | refine blk_drewN ?_ _ | refine blk_drew ?_ | refine blk_alloc ?_ _)); exact BK300.out) hb)
      have n6_ := Aside0.mk (blk_below (g := gb307) (o := .cells #[.int .i64 t301, .int .i64 t302, .slice Ao29 t303.length co29] 28 (0, 0)) (by (with_reducible repeat (first | refine blk_drewN ?_ _ | refine blk_drew ?_ | refine blk_alloc ?_ _)); exact BK307.out) hb)
      have n7_ := Aside0.mk (blk_below (g := gb314) (o := .cells #[.int .i64 t308, .int .i64 t309, .slice Ao35 t310.length co35] 28 (0, 0)) (by (with_reducible repeat (first | refine blk_drewN ?_ _ | refine blk_drew ?_ | refine blk_alloc ?_ _)); exact BK314.out) hb)
      have n8_ := Aside0.mk (blk_below (g := gb321) (o := .cells #[.int .i64 t315, .int .i64 t316, .slice Ao42 t317.length co42] 28 (0, 0)) (by (with_reducible repeat (first | refine blk_drewN ?_ _ | refine blk_drew ?_ | refine blk_alloc ?_ _)); exact BK321.out) hb)
      (first | have n9_ := Aside0.mk (Kd.C_below (Kd.C_drewN HR325.out _) hb) | have n9_ := Aside0.mk (Kd.C_below HR325.out hb) | have n9_ := Aside0.mk (Kd.C_below (by repeat (first | (with_reducible exact HR325.out) | (with_reducible refine Kd.C_alloc ?_ _) | (with_reducible refine Kd.C_drewN ?_ _) | (with_reducible refine Kd.C_drew ?_) | exact HR325.out)) hb))
      have n10_ := Aside0.mk (below_step (by repeat (first | (with_reducible first | exact HB.out | apply below_alloc | apply pw_below_drewN | apply below_drew1 | refine below_set ?_ GE300.out | refine below_set ?_ GE307.out | refine below_set ?_ GE314.out | refine below_set ?_ GE321.out) | exact HB.out)) hb)
      clear HO_11
      clear HO_301002
      clear HO_308002
      clear HO_315002
      clear HO_322002
      clear BK300
      clear BK307
      clear BK314
      clear BK321
      clear HR325
      clear HB
      have HO_11 := n0_
      have HO_301002 := n1_
      have HO_308002 := n2_
      have HO_315002 := n3_
      have HO_322002 := n4_
      have BK300 := n5_
      have BK307 := n6_
      have BK314 := n7_
      have BK321 := n8_
      have HR325 := n9_
      have HB := n10_
      clear n0_ n1_ n2_ n3_ n4_ n5_ n6_ n7_ n8_ n9_ n10_
      (try clear hb)
      (try clear hb2)
      (try clear hk)
      (try clear hi)
      have q62 : (x21_2 : Int) ≤ ((t291.length : Int) : Int) := of_decide_eq_true (by first | (with_reducible assumption) | assumption)
      obtain ⟨i062, hi062, _, hsz62, _⟩ := info_parts info3
      have hroom62 : t291.length ≤ co58 := (Kd.R_reads' HO_11.out).2.1
      have hC62 : Kd.C (Kd.int .i64) _ Ao58 t291.length t291 := (Kd.R_reads' HO_11.out).2.2
      have q062 : (0 : Int) ≤ (x21_2 : Int) := of_decide_eq_true (by first | (with_reducible assumption) | assumption)
      have hcut62 := cut_from (P := Try.prog) 22 3 .i64 Try.underlying22 hi062 1 hsz62 Ao58 t291.length co58 x21_2 q062 q62
      have hr62 := Kd.C_drop (m := (x21_2 : Int).toNat) (c := co58) hC62 (by omega) hroom62
      obtain ⟨A62, hA62⟩ : ∃ A1, A1 = (if co58 = (x21_2 : Int).toNat then Ao58 else (Ao58 : Option Addr).map (·.add ((x21_2 : Int).toNat * 1))) := ⟨_, rfl⟩
      obtain ⟨c62, hc62⟩ : ∃ c1, c1 = co58 - (x21_2 : Int).toNat := ⟨_, rfl⟩
      have hy62 : y327.length = t291.length - (x21_2 : Int).toNat := (by rw [Ny327.out, List.length_drop] <;> omega)
      rw [show (t291).drop (x21_2 : Int).toNat = y327 from Ny327.out.symm] at hr62
      replace hr62 : Kd.C (Kd.int .i64) _ A62 y327.length y327 := (by rw [hA62]; exact hr62)
      rw [← hy62, ← hA62, ← hc62] at hcut62
      have HR330 := Aside0.mk hr62
      have HC330 := Aside0.mk (show y327.length ≤ c62 from by rw [hy62, hc62]; exact Nat.sub_le_sub_right hroom62 _)
      clear hr62 hC62 hroom62 hi062 hsz62 hc62
      have KY62 := Aside0.mk hy62
      have KA62 := Aside0.mk hA62
      clear hy62 hA62
      have KL62 := Aside0.mk (show (x21_2 : Int).toNat ≤ t291.length from by omega)
      replace q62 := eq_true q62
      refine hK.out _ _ ⟨(blk_cell BK300.out 0).trans rfl, (blk_cell BK300.out 1).trans rfl, (blk_cell BK300.out 2).trans rfl, (blk_cell BK307.out 0).trans rfl, (blk_cell BK307.out 1).trans rfl, (blk_cell BK307.out 2).trans rfl⟩ (fun hHeld => ?_)
      clear hK K
      refine norm_ (a' := ?_) ?_ ?_
      rotate_left
      ·
       show Act.put _ (some 90) _ = _
       simp only [Act.put, List.setIfInBounds_toArray, List.set_cons_zero, List.set_cons_succ, i64_w, i32_w]
       rfl
      refine pure_ (i := 7) (N := some 91) (v := ?_) (a' := ?_) b_8 rfl rfl (any_of HT_.out (by kernel_rfl)) (fun _ _ _ h => h) (Or.inl ⟨by rfl, ?_⟩) ?_ ?_
      rotate_left
      ·
       intro w'
       go_simp
       with_reducible rfl
      rotate_left
      ·
       simp only [Act.put, List.setIfInBounds_toArray, List.set_cons_zero, List.set_cons_succ, i64_w, i32_w]
       rfl
      refine pure_ (i := 9) (N := some 93) (v := ?_) (a' := ?_) b_20 rfl rfl (any_of HT_.out (by kernel_rfl)) (fun _ _ _ h => h) (Or.inl ⟨by rfl, ?_⟩) ?_ ?_
      rotate_left
      ·
       intro w'
       go_simp
       with_reducible rfl
      rotate_left
      ·
       simp only [Act.put, List.setIfInBounds_toArray, List.set_cons_zero, List.set_cons_succ, i64_w, i32_w]
       rfl
      refine pure_ (i := 10) (N := some 94) (v := ?_) (a' := ?_) b_21 rfl rfl (any_of HT_.out (by kernel_rfl)) (fun _ _ _ h => h) (Or.inl ⟨by rfl, ?_⟩) ?_ ?_
      rotate_left
      ·
       intro w'
       go_simp
       with_reducible rfl
      rotate_left
      ·
       simp only [Act.put, List.setIfInBounds_toArray, List.set_cons_zero, List.set_cons_succ, i64_w, i32_w]
       rfl
      refine pure_ (i := 11) (N := some 95) (v := ?_) (a' := ?_) b_22 rfl rfl (any_of HT_.out (by kernel_rfl)) (fun _ _ _ h => h) (Or.inl ⟨by rfl, ?_⟩) ?_ ?_
      rotate_left
      ·
       intro w'
       go_simp
       with_reducible rfl
      rotate_left
      ·
       simp only [Act.put, List.setIfInBounds_toArray, List.set_cons_zero, List.set_cons_succ, i64_w, i32_w]
       rfl
      refine take_ (i := 8) (N := some 92) (v := ?_) (a' := ?_) b_12 rfl rfl (take_ofW HT_.out HW_.out (by kernel_rfl)) (fun _ _ _ h => h) (Or.inl ⟨by rfl, ?_⟩) hHeld ?_ ?_
      rotate_left
      ·
       rintro w' ⟨s0, s1, s2, s3, s4, s5⟩
       go_simp
       with_reducible rfl
      rotate_left
      ·
       simp only [Act.put, List.setIfInBounds_toArray, List.set_cons_zero, List.set_cons_succ, i64_w, i32_w]
       rfl
      refine one_ (i := 12) (N := some 96) b_13 rfl rfl (one_of HT_.out (by kernel_rfl)) (by decide) (fun K hK => ?_)
      refine goes_ Try.func16 (by kernel_rfl) rfl #[.agg #[.int .i64 t301, .int .i64 t302, .slice Ao29 t303.length co29], .slice A62 y327.length c62] (by rfl) rfl rfl (by (try simp only [List.map_toArray, List.map_cons, List.map_nil]); first | done | rfl | (simp only [List.length_drop, List.length_take]; rfl)) ?_
      with_reducible refine (bobbinetkeep_matches.calls k2 t301 t302 _ _ t303 _ _ y327 t331 _ ?side1 ?side2 ?side3 ?side4 A57.out).mono ?_
      (case side1 => repeat (first | exact (Kd.V_reads' HO_308002.out).2.2 | (with_reducible refine Kd.C_alloc ?_ _) | (with_reducible refine Kd.C_drewN ?_ _) | (with_reducible refine Kd.C_drew ?_)))
      (case side2 => exact (Kd.V_reads' HO_308002.out).2.1)
      (case side3 => repeat (first | exact (by repeat (first | (with_reducible exact HR330.out) | (with_reducible refine Kd.C_alloc ?_ _) | (with_reducible refine Kd.C_drewN ?_ _) | (with_reducible refine Kd.C_drew ?_) | exact HR330.out)) | (with_reducible refine Kd.C_alloc ?_ _) | (with_reducible refine Kd.C_drewN ?_ _) | (with_reducible refine Kd.C_drew ?_)))
      (case side4 => exact HC330.out)
      rintro e w63 ⟨rfl, hb⟩
      refine ⟨_, rfl, ?_⟩
      have n0_ := Aside0.mk (Kd.R_below (R_st <| HO_11.out) hb)
      have n1_ := Aside0.mk (Kd.V_below (V_st <| HO_301002.out) hb)
      have n2_ := Aside0.mk (Kd.V_below (V_st <| HO_308002.out) hb)
      have n3_ := Aside0.mk (Kd.V_below (V_st <| HO_315002.out) hb)
      have n4_ := Aside0.mk (Kd.V_below (V_st <| HO_322002.out) hb)
      have n5_ := Aside0.mk (blk_below (g := gb300) (o := .cells #[.int .i64 t294, .int .i64 t295, .slice Ao24 t296.length co24] 28 (0, 0)) (by (with_reducible repeat (first | refine blk_drewN ?_ _ | refine blk_drew ?_ | refine blk_alloc ?_ _)); exact BK300.out) hb)
      have n6_ := Aside0.mk (blk_below (g := gb307) (o := .cells #[.int .i64 t301, .int .i64 t302, .slice Ao29 t303.length co29] 28 (0, 0)) (by (with_reducible repeat (first | refine blk_drewN ?_ _ | refine blk_drew ?_ | refine blk_alloc ?_ _)); exact BK307.out) hb)
      have n7_ := Aside0.mk (blk_below (g := gb314) (o := .cells #[.int .i64 t308, .int .i64 t309, .slice Ao35 t310.length co35] 28 (0, 0)) (by (with_reducible repeat (first | refine blk_drewN ?_ _ | refine blk_drew ?_ | refine blk_alloc ?_ _)); exact BK314.out) hb)
      have n8_ := Aside0.mk (blk_below (g := gb321) (o := .cells #[.int .i64 t315, .int .i64 t316, .slice Ao42 t317.length co42] 28 (0, 0)) (by (with_reducible repeat (first | refine blk_drewN ?_ _ | refine blk_drew ?_ | refine blk_alloc ?_ _)); exact BK321.out) hb)
      (first | have n9_ := Aside0.mk (Kd.C_below (Kd.C_drewN HR325.out _) hb) | have n9_ := Aside0.mk (Kd.C_below HR325.out hb) | have n9_ := Aside0.mk (Kd.C_below (by repeat (first | (with_reducible exact HR325.out) | (with_reducible refine Kd.C_alloc ?_ _) | (with_reducible refine Kd.C_drewN ?_ _) | (with_reducible refine Kd.C_drew ?_) | exact HR325.out)) hb))
      (first | have n10_ := Aside0.mk (Kd.C_below (Kd.C_drewN HR330.out _) hb) | have n10_ := Aside0.mk (Kd.C_below HR330.out hb) | have n10_ := Aside0.mk (Kd.C_below (by repeat (first | (with_reducible exact HR330.out) | (with_reducible refine Kd.C_alloc ?_ _) | (with_reducible refine Kd.C_drewN ?_ _) | (with_reducible refine Kd.C_drew ?_) | exact HR330.out)) hb))
      have n11_ := Aside0.mk (below_step (by repeat (first | (with_reducible first | exact HB.out | apply below_alloc | apply pw_below_drewN | apply below_drew1 | refine below_set ?_ GE300.out | refine below_set ?_ GE307.out | refine below_set ?_ GE314.out | refine below_set ?_ GE321.out) | exact HB.out)) hb)
      clear HO_11
      clear HO_301002
      clear HO_308002
      clear HO_315002
      clear HO_322002
      clear BK300
      clear BK307
      clear BK314
      clear BK321
      clear HR325
      clear HR330
      clear HB
      have HO_11 := n0_
      have HO_301002 := n1_
      have HO_308002 := n2_
      have HO_315002 := n3_
      have HO_322002 := n4_
      have BK300 := n5_
      have BK307 := n6_
      have BK314 := n7_
      have BK321 := n8_
      have HR325 := n9_
      have HR330 := n10_
      have HB := n11_
      clear n0_ n1_ n2_ n3_ n4_ n5_ n6_ n7_ n8_ n9_ n10_ n11_
      (try clear hb)
      (try clear hb2)
      (try clear hk)
      (try clear hi)
      refine hK.out _ _ ⟨(blk_cell BK300.out 0).trans rfl, (blk_cell BK300.out 1).trans rfl, (blk_cell BK300.out 2).trans rfl, (blk_cell BK307.out 0).trans rfl, (blk_cell BK307.out 1).trans rfl, (blk_cell BK307.out 2).trans rfl⟩ (fun hHeld => ?_)
      clear hK K
      refine norm_ (a' := ?_) ?_ ?_
      rotate_left
      ·
       show Act.put _ (some 96) _ = _
       simp only [Act.put, List.setIfInBounds_toArray, List.set_cons_zero, List.set_cons_succ, i64_w, i32_w]
       rfl
      refine pure_ (i := 13) (N := some 97) (v := ?_) (a' := ?_) b_14 rfl rfl (any_of HT_.out (by kernel_rfl)) (fun _ _ _ h => h) (Or.inl ⟨by rfl, ?_⟩) ?_ ?_
      rotate_left
      ·
       intro w'
       go_simp
       with_reducible rfl
      rotate_left
      ·
       simp only [Act.put, List.setIfInBounds_toArray, List.set_cons_zero, List.set_cons_succ, i64_w, i32_w]
       rfl
      refine pure_ (i := 14) (N := some 98) (v := ?_) (a' := ?_) b_15 rfl rfl (any_of HT_.out (by kernel_rfl)) (fun _ _ _ h => h) (Or.inl ⟨by rfl, ?_⟩) ?_ ?_
      rotate_left
      ·
       intro w'
       go_simp
       with_reducible rfl
      rotate_left
      ·
       simp only [Act.put, List.setIfInBounds_toArray, List.set_cons_zero, List.set_cons_succ, i64_w, i32_w]
       rfl
      refine pure_ (i := 15) (N := some 20) (v := ?_) (a' := ?_) b_16 rfl rfl (any_of HT_.out (by kernel_rfl)) (fun _ _ _ h => h) (Or.inl ⟨by rfl, ?_⟩) ?_ ?_
      rotate_left
      ·
       intro w'
       go_simp
       with_reducible rfl
      rotate_left
      ·
       simp only [Act.put, List.setIfInBounds_toArray, List.set_cons_zero, List.set_cons_succ, i64_w, i32_w]
       rfl
      refine done_ (done_of HT_.out (by kernel_rfl)) ?_
      try go_wp2
      go_roundg k2
      case measure => have := HJ16.out; have := HK2.out; omega
      case rel => exact ⟨(t331), (wrap64 (x21_2 + 1)), (by first | rfl | (simp; done) | (simp [*]; done) | (simp [bne]; done)), (by first | rfl | (simp; done) | (simp [*]; done) | (simp [bne]; done)), H', ⟨by have := HJ16.out; have := HK2.out; omega⟩, ⟨by (with_reducible repeat (first | apply Kd.R_alloc | apply Kd.R_drewN | apply Kd.R_drew)); exact HO_11.out⟩, ⟨by (with_reducible repeat (first | apply Kd.V_alloc | apply Kd.V_drewN | apply Kd.V_drew)); exact HO_301002.out⟩, ⟨by (with_reducible repeat (first | apply Kd.V_alloc | apply Kd.V_drewN | apply Kd.V_drew)); exact HO_308002.out⟩, ⟨by (with_reducible repeat (first | apply Kd.V_alloc | apply Kd.V_drewN | apply Kd.V_drew)); exact HO_315002.out⟩, ⟨by (with_reducible repeat (first | apply Kd.V_alloc | apply Kd.V_drewN | apply Kd.V_drew)); exact HO_322002.out⟩, ⟨by (with_reducible repeat (first | refine blk_drewN ?_ _ | refine blk_drew ?_ | refine blk_alloc ?_ _)); exact BK300.out⟩, ⟨by (with_reducible repeat (first | refine blk_drewN ?_ _ | refine blk_drew ?_ | refine blk_alloc ?_ _)); exact BK307.out⟩, ⟨by (with_reducible repeat (first | refine blk_drewN ?_ _ | refine blk_drew ?_ | refine blk_alloc ?_ _)); exact BK314.out⟩, ⟨by (with_reducible repeat (first | refine blk_drewN ?_ _ | refine blk_drew ?_ | refine blk_alloc ?_ _)); exact BK321.out⟩, ⟨by repeat (first | (with_reducible first | exact HB.out | apply below_alloc | apply pw_below_drewN | apply below_drew1 | refine below_set ?_ GE300.out | refine below_set ?_ GE307.out | refine below_set ?_ GE314.out | refine below_set ?_ GE321.out) | exact HB.out)⟩⟩
     rw [if_neg c47] at H
     have c47b0 : decide (x21_2 ≤ (t291.length : Int)) = false := decide_eq_false c47
     clear c47
     replace H := Option.bind_eq_some_iff.mp H
     obtain ⟨⟨t332, t333, t334, t337⟩, A680, H⟩ := H
     (try dsimp only at H)
     have A68 := Aside0.mk A680
     clear A680
     by_cases c69 : t337 = true
     rotate_left
     ·
      replace c69 := Bool.eq_false_iff.mpr c69
      subst c69
      rw [if_neg (show ¬ (false = true) by decide)] at H
      exact absurd H (by simp)
     subst c69
     rw [if_pos rfl] at H
     obtain ⟨y339, hy339⟩ : ∃ y_ : List Int, y_ = (([0] : List Int)) := ⟨_, rfl⟩
     replace H : ((bobbinetkeep_matches.f k2 t332 t333 t334 y339).bind fun t342 => (if t342 = true then ((bobbinetkeep_matches.f k2 t308 t309 t310 t291).bind fun t343 => (if (t343 == x20_2) = true then ((bobbinetkeep_matches.f k2 t315 t316 t317 t291).bind fun t344 => ((bobbinetkeep_matches.f k2 t294 t295 t296 t291).bind fun t345 => (if t345 = true then (some (t344 == true)) else ((bobbinetkeep_matches.f k2 t301 t302 t303 t291).bind fun t346 => (some (t344 == t346)))))) else (none))) else (none))) = some r := by first | (rw [hy339]; with_reducible exact H) | (have H2_ := (Option.bind_some _ _).symm.trans H; rw [hy339]; with_reducible exact H2_) | (have H2_ := (Option.bind_some _ _).symm.trans H; with_reducible exact H2_) | with_reducible exact H | (rw [hy339]; exact H) | exact H
     have Ny339 := Aside0.mk hy339
     clear hy339
     replace H := Option.bind_eq_some_iff.mp H
     obtain ⟨t342, A700, H⟩ := H
     (try dsimp only at H)
     have A70 := Aside0.mk A700
     clear A700
     by_cases c71 : t342 = true
     rotate_left
     ·
      replace c71 := Bool.eq_false_iff.mpr c71
      subst c71
      rw [if_neg (show ¬ (false = true) by decide)] at H
      exact absurd H (by simp)
     subst c71
     rw [if_pos rfl] at H
     replace H := Option.bind_eq_some_iff.mp H
     obtain ⟨t343, A720, H⟩ := H
     (try dsimp only at H)
     have A72 := Aside0.mk A720
     clear A720
     by_cases c73 : (t343 == x20_2) = true
     rotate_left
     ·
      rw [if_neg c73] at H
      have c73b0 : (t343 == x20_2) = false := by simpa using c73
      (try (have c73b1 : decide (t343 = x20_2) = false := by simpa using c73))
      (try (have c73b2 : (t343 == x20_2) = false := by simpa using c73))
      (try (have c73b3 : ¬ (t343 = x20_2) := by simpa using c73))
      clear c73
      exact absurd H (by simp)
     rw [if_pos c73] at H
     have c73b0 : (t343 == x20_2) = true := c73
     (try (have c73b1 : decide (t343 = x20_2) = true := by simpa using c73))
     (try (have c73b2 : (t343 == x20_2) = true := by simpa using c73))
     clear c73
     replace H := Option.bind_eq_some_iff.mp H
     obtain ⟨t344, A740, H⟩ := H
     (try dsimp only at H)
     have A74 := Aside0.mk A740
     clear A740
     replace H := Option.bind_eq_some_iff.mp H
     obtain ⟨t345, A750, H⟩ := H
     (try dsimp only at H)
     have A75 := Aside0.mk A750
     clear A750
     by_cases c76 : t345 = true
     ·
      subst c76
      rw [if_pos rfl] at H
      obtain rfl := Option.some.inj H
      obtain ⟨Ao77, co77, eo77⟩ := Kd.R_slice HO_11.out
      subst eo77
      try go_wp2_with (first | ((with_reducible refine gate_callee (f := 11) rfl ?_); refine goesL_ (some 100) rfl rfl Try.func11 (by kernel_rfl) rfl #[.string (⟨#[97]⟩ : ByteArray)] rfl (by (try simp only [List.map_toArray, List.map_cons, List.map_nil]); first | done | rfl | (simp only [List.length_drop, List.length_take]; rfl)) ?_; (with_reducible refine (bobbinetkeep_exprOf.calls k2 (⟨#[97]⟩ : ByteArray) t332 t333 t334 true _ A68.out).mono ?_); rintro e w78 ⟨v335, rfl, ho0, hb⟩; refine ⟨_, rfl, ?_⟩; have n0_ := Aside0.mk (Kd.R_below (R_st <| HO_11.out) hb); have n1_ := Aside0.mk (Kd.V_below (V_st <| HO_301002.out) hb); have n2_ := Aside0.mk (Kd.V_below (V_st <| HO_308002.out) hb); have n3_ := Aside0.mk (Kd.V_below (V_st <| HO_315002.out) hb); have n4_ := Aside0.mk (Kd.V_below (V_st <| HO_322002.out) hb); have n5_ := Aside0.mk (Kd.V_lower (Kd.V_mono (ok' := fun k_ => some k_ ≠ (.slice Ao77 t291.length co77 : Value).ownBlock ∧ k_ ≠ gb300 ∧ k_ ≠ gb307 ∧ k_ ≠ gb314 ∧ k_ ≠ gb321) ho0 (fun k_ hk_ => ⟨(Kd.fresh' (Kd.R_lt (R_st <| HO_11.out)) k_ hk_), (Kd.freshB (g := gb300) (o := .cells #[.int .i64 t294, .int .i64 t295, .slice Ao24 t296.length co24] 28 (0, 0)) (by (with_reducible repeat (first | refine blk_drewN ?_ _ | refine blk_drew ?_ | refine blk_alloc ?_ _)); exact BK300.out) k_ hk_), (Kd.freshB (g := gb307) (o := .cells #[.int .i64 t301, .int .i64 t302, .slice Ao29 t303.length co29] 28 (0, 0)) (by (with_reducible repeat (first | refine blk_drewN ?_ _ | refine blk_drew ?_ | refine blk_alloc ?_ _)); exact BK307.out) k_ hk_), (Kd.freshB (g := gb314) (o := .cells #[.int .i64 t308, .int .i64 t309, .slice Ao35 t310.length co35] 28 (0, 0)) (by (with_reducible repeat (first | refine blk_drewN ?_ _ | refine blk_drew ?_ | refine blk_alloc ?_ _)); exact BK314.out) k_ hk_), (Kd.freshB (g := gb321) (o := .cells #[.int .i64 t315, .int .i64 t316, .slice Ao42 t317.length co42] 28 (0, 0)) (by (with_reducible repeat (first | refine blk_drewN ?_ _ | refine blk_drew ?_ | refine blk_alloc ?_ _)); exact BK321.out) k_ hk_)⟩)) (below_size (by repeat (first | (with_reducible first | exact HB.out | apply below_alloc | apply pw_below_drewN | apply below_drew1 | refine below_set ?_ GE300.out | refine below_set ?_ GE307.out | refine below_set ?_ GE314.out | refine below_set ?_ GE321.out) | exact HB.out)))); have n6_ := Aside0.mk (blk_below (g := gb300) (o := .cells #[.int .i64 t294, .int .i64 t295, .slice Ao24 t296.length co24] 28 (0, 0)) (by (with_reducible repeat (first | refine blk_drewN ?_ _ | refine blk_drew ?_ | refine blk_alloc ?_ _)); exact BK300.out) hb); have n7_ := Aside0.mk (blk_below (g := gb307) (o := .cells #[.int .i64 t301, .int .i64 t302, .slice Ao29 t303.length co29] 28 (0, 0)) (by (with_reducible repeat (first | refine blk_drewN ?_ _ | refine blk_drew ?_ | refine blk_alloc ?_ _)); exact BK307.out) hb); have n8_ := Aside0.mk (blk_below (g := gb314) (o := .cells #[.int .i64 t308, .int .i64 t309, .slice Ao35 t310.length co35] 28 (0, 0)) (by (with_reducible repeat (first | refine blk_drewN ?_ _ | refine blk_drew ?_ | refine blk_alloc ?_ _)); exact BK314.out) hb); have n9_ := Aside0.mk (blk_below (g := gb321) (o := .cells #[.int .i64 t315, .int .i64 t316, .slice Ao42 t317.length co42] 28 (0, 0)) (by (with_reducible repeat (first | refine blk_drewN ?_ _ | refine blk_drew ?_ | refine blk_alloc ?_ _)); exact BK321.out) hb); have n10_ := Aside0.mk (below_step (by repeat (first | (with_reducible first | exact HB.out | apply below_alloc | apply pw_below_drewN | apply below_drew1 | refine below_set ?_ GE300.out | refine below_set ?_ GE307.out | refine below_set ?_ GE314.out | refine below_set ?_ GE321.out) | exact HB.out)) hb); clear HO_11; clear HO_301002; clear HO_308002; clear HO_315002; clear HO_322002; clear BK300; clear BK307; clear BK314; clear BK321; clear HB; have HO_11 := n0_; have HO_301002 := n1_; have HO_308002 := n2_; have HO_315002 := n3_; have HO_322002 := n4_; have HO336 := n5_; have BK300 := n6_; have BK307 := n7_; have BK314 := n8_; have BK321 := n9_; have HB := n10_; clear n0_ n1_ n2_ n3_ n4_ n5_ n6_ n7_ n8_ n9_ n10_; (try clear hb); (try clear hb2); (try clear hk); (try clear hi); (try clear ho0)) | ((with_reducible refine gate_dst (N := 22) rfl ?_); (try (refine gate_guard (by rfl) ?_; dsimp only)); refine box_event ?hg (N := 22) ?hd (cs := #[.int .i64 0, .int .i64 0, .slice none 0 0]) (t := 28) ?hr ?_; (case hd => rfl); (case hg => rfl); (case hr => first | (go_simp; done) | (go_simp; rfl)); intro gb338 hg w79 hbox hb; have n0_ := Aside0.mk (Kd.R_below (R_st <| HO_11.out) hb); have n1_ := Aside0.mk (Kd.V_below (Kd.V_elderB (V_st <| HO_301002.out) gb338 (Nat.le_of_eq hg.symm)) hb); have n2_ := Aside0.mk (Kd.V_below (Kd.V_elderB (V_st <| HO_308002.out) gb338 (Nat.le_of_eq hg.symm)) hb); have n3_ := Aside0.mk (Kd.V_below (Kd.V_elderB (V_st <| HO_315002.out) gb338 (Nat.le_of_eq hg.symm)) hb); have n4_ := Aside0.mk (Kd.V_below (Kd.V_elderB (V_st <| HO_322002.out) gb338 (Nat.le_of_eq hg.symm)) hb); have n5_ := Aside0.mk (Kd.V_below (Kd.V_elderB (V_st <| HO336.out) gb338 (Nat.le_of_eq hg.symm)) hb); have n6_ := Aside0.mk (blk_below (g := gb300) (o := .cells #[.int .i64 t294, .int .i64 t295, .slice Ao24 t296.length co24] 28 (0, 0)) (by (with_reducible repeat (first | refine blk_drewN ?_ _ | refine blk_drew ?_ | refine blk_alloc ?_ _)); exact BK300.out) hb); have n7_ := Aside0.mk (blk_below (g := gb307) (o := .cells #[.int .i64 t301, .int .i64 t302, .slice Ao29 t303.length co29] 28 (0, 0)) (by (with_reducible repeat (first | refine blk_drewN ?_ _ | refine blk_drew ?_ | refine blk_alloc ?_ _)); exact BK307.out) hb); have n8_ := Aside0.mk (blk_below (g := gb314) (o := .cells #[.int .i64 t308, .int .i64 t309, .slice Ao35 t310.length co35] 28 (0, 0)) (by (with_reducible repeat (first | refine blk_drewN ?_ _ | refine blk_drew ?_ | refine blk_alloc ?_ _)); exact BK314.out) hb); have n9_ := Aside0.mk (blk_below (g := gb321) (o := .cells #[.int .i64 t315, .int .i64 t316, .slice Ao42 t317.length co42] 28 (0, 0)) (by (with_reducible repeat (first | refine blk_drewN ?_ _ | refine blk_drew ?_ | refine blk_alloc ?_ _)); exact BK321.out) hb); have n10_ := Aside0.mk (below_step (by repeat (first | (with_reducible first | exact HB.out | apply below_alloc | apply pw_below_drewN | apply below_drew1 | refine below_set ?_ GE300.out | refine below_set ?_ GE307.out | refine below_set ?_ GE314.out | refine below_set ?_ GE321.out) | exact HB.out)) hb); have n11_ := Aside0.mk (hbox); have n12_ := Aside0.mk ((by rw [hg]; exact (below_size (by repeat (first | (with_reducible first | exact HB.out | apply below_alloc | apply pw_below_drewN | apply below_drew1 | refine below_set ?_ GE300.out | refine below_set ?_ GE307.out | refine below_set ?_ GE314.out | refine below_set ?_ GE321.out) | exact HB.out))) : w.heap.size ≤ gb338)); have n13_ := Aside0.mk ((by rw [hg]; exact (below_size (by repeat (first | (with_reducible first | exact HB.out | apply below_alloc | apply pw_below_drewN | apply below_drew1 | refine below_set ?_ GE300.out | refine below_set ?_ GE307.out | refine below_set ?_ GE314.out | refine below_set ?_ GE321.out) | exact HB.out))) : w.heap.size ≤ gb338)); have n14_ := Aside0.mk ((by rw [hg]; exact Nat.ne_of_lt (blk_lt (g := gb300) (o := .cells #[.int .i64 t294, .int .i64 t295, .slice Ao24 t296.length co24] 28 (0, 0)) (by (with_reducible repeat (first | refine blk_drewN ?_ _ | refine blk_drew ?_ | refine blk_alloc ?_ _)); exact BK300.out)) : gb300 ≠ gb338)); have n15_ := Aside0.mk ((by rw [hg]; exact Nat.ne_of_gt (blk_lt (g := gb300) (o := .cells #[.int .i64 t294, .int .i64 t295, .slice Ao24 t296.length co24] 28 (0, 0)) (by (with_reducible repeat (first | refine blk_drewN ?_ _ | refine blk_drew ?_ | refine blk_alloc ?_ _)); exact BK300.out)) : gb338 ≠ gb300)); have n16_ := Aside0.mk ((by rw [hg]; exact Nat.ne_of_lt (blk_lt (g := gb307) (o := .cells #[.int .i64 t301, .int .i64 t302, .slice Ao29 t303.length co29] 28 (0, 0)) (by (with_reducible repeat (first | refine blk_drewN ?_ _ | refine blk_drew ?_ | refine blk_alloc ?_ _)); exact BK307.out)) : gb307 ≠ gb338)); have n17_ := Aside0.mk ((by rw [hg]; exact Nat.ne_of_gt (blk_lt (g := gb307) (o := .cells #[.int .i64 t301, .int .i64 t302, .slice Ao29 t303.length co29] 28 (0, 0)) (by (with_reducible repeat (first | refine blk_drewN ?_ _ | refine blk_drew ?_ | refine blk_alloc ?_ _)); exact BK307.out)) : gb338 ≠ gb307)); have n18_ := Aside0.mk ((by rw [hg]; exact Nat.ne_of_lt (blk_lt (g := gb314) (o := .cells #[.int .i64 t308, .int .i64 t309, .slice Ao35 t310.length co35] 28 (0, 0)) (by (with_reducible repeat (first | refine blk_drewN ?_ _ | refine blk_drew ?_ | refine blk_alloc ?_ _)); exact BK314.out)) : gb314 ≠ gb338)); have n19_ := Aside0.mk ((by rw [hg]; exact Nat.ne_of_gt (blk_lt (g := gb314) (o := .cells #[.int .i64 t308, .int .i64 t309, .slice Ao35 t310.length co35] 28 (0, 0)) (by (with_reducible repeat (first | refine blk_drewN ?_ _ | refine blk_drew ?_ | refine blk_alloc ?_ _)); exact BK314.out)) : gb338 ≠ gb314)); have n20_ := Aside0.mk ((by rw [hg]; exact Nat.ne_of_lt (blk_lt (g := gb321) (o := .cells #[.int .i64 t315, .int .i64 t316, .slice Ao42 t317.length co42] 28 (0, 0)) (by (with_reducible repeat (first | refine blk_drewN ?_ _ | refine blk_drew ?_ | refine blk_alloc ?_ _)); exact BK321.out)) : gb321 ≠ gb338)); have n21_ := Aside0.mk ((by rw [hg]; exact Nat.ne_of_gt (blk_lt (g := gb321) (o := .cells #[.int .i64 t315, .int .i64 t316, .slice Ao42 t317.length co42] 28 (0, 0)) (by (with_reducible repeat (first | refine blk_drewN ?_ _ | refine blk_drew ?_ | refine blk_alloc ?_ _)); exact BK321.out)) : gb338 ≠ gb321)); clear HO_11; clear HO_301002; clear HO_308002; clear HO_315002; clear HO_322002; clear HO336; clear BK300; clear BK307; clear BK314; clear BK321; clear HB; have HO_11 := n0_; have HO_301002 := n1_; have HO_308002 := n2_; have HO_315002 := n3_; have HO_322002 := n4_; have HO336 := n5_; have BK300 := n6_; have BK307 := n7_; have BK314 := n8_; have BK321 := n9_; have HB := n10_; have BK338 := n11_; have GW338 := n12_; have GE338 := n13_; have NB300_338 := n14_; have NB338_300 := n15_; have NB307_338 := n16_; have NB338_307 := n17_; have NB314_338 := n18_; have NB338_314 := n19_; have NB321_338 := n20_; have NB338_321 := n21_; clear n0_ n1_ n2_ n3_ n4_ n5_ n6_ n7_ n8_ n9_ n10_ n11_ n12_ n13_ n14_ n15_ n16_ n17_ n18_ n19_ n20_ n21_; clear hb hbox hg; have hnb80 := NB338_300.out; have hnc80 := NB300_338.out; have hnb81 := NB338_307.out; have hnc81 := NB307_338.out; have hnb82 := NB338_314.out; have hnc82 := NB314_338.out; have hnb83 := NB338_321.out; have hnc83 := NB321_338.out; have hcz84_0 : w79.cell? ⟨gb338, 0, none⟩ = some (.int .i64 0) := (blk_cell BK338.out 0).trans rfl; have hcz84_1 : w79.cell? ⟨gb338, 1, none⟩ = some (.int .i64 0) := (blk_cell BK338.out 1).trans rfl; have hcz84_2 : w79.cell? ⟨gb338, 2, none⟩ = some (.slice none 0 0) := (blk_cell BK338.out 2).trans rfl; have hfz84_0 := blk_frozen BK338.out 0; have hfz84_1 := blk_frozen BK338.out 1; have hfz84_2 := blk_frozen BK338.out 2; obtain ⟨Ao85, co85, eo85⟩ := Kd.V_slice HO336.out; subst eo85))
      have n0_ : Aside0 (Kd.R (Kd.int .i64) 3 (((w79.setCell ⟨gb338, 0, none⟩ (.int .i64 t332)).setCell ⟨gb338, 1, none⟩ (.int .i64 t333)).setCell ⟨gb338, 2, none⟩ (.slice Ao85 t334.length co85)) w.heap.size (fun _ => True) (.slice Ao77 t291.length co77) t291) := ⟨by (with_reducible repeat (first | apply Kd.R_alloc | apply Kd.R_drewN | apply Kd.R_drew)); exact Kd.R_mono (Kd.R_far (p := ⟨gb338, 2, none⟩) (Kd.R_far (p := ⟨gb338, 1, none⟩) (Kd.R_far (p := ⟨gb338, 0, none⟩) (Kd.R_types HO_11.out BK338.out (by decide)) (fun _ hk => hk.2) (.int .i64 t332)) (fun _ hk => hk.2) (.int .i64 t333)) (fun _ hk => hk.2) (.slice Ao85 t334.length co85)) (fun _ hk => trivial)⟩
      have n1_ : Aside0 (Kd.V k28 28 (((w79.setCell ⟨gb338, 0, none⟩ (.int .i64 t332)).setCell ⟨gb338, 1, none⟩ (.int .i64 t333)).setCell ⟨gb338, 2, none⟩ (.slice Ao85 t334.length co85)) w.heap.size (fun k_ => some k_ ≠ (.slice Ao77 t291.length co77 : Value).ownBlock ∧ k_ ≠ gb300 ∧ k_ ≠ gb307 ∧ k_ ≠ gb314 ∧ k_ ≠ gb321 ∧ k_ ≠ gb338) (.slice Ao24 t296.length co24) t296) := ⟨by (with_reducible repeat (first | apply Kd.V_alloc | apply Kd.V_drewN | apply Kd.V_drew)); exact Kd.V_mono (Kd.V_far (p := ⟨gb338, 2, none⟩) (Kd.V_far (p := ⟨gb338, 1, none⟩) (Kd.V_far (p := ⟨gb338, 0, none⟩) (Kd.V_mono HO_301002.out (fun k_ hk => (⟨hk, hk.2⟩ : _ ∧ k_ ≠ gb338))) (fun _ hk => hk.2) (.int .i64 t332)) (fun _ hk => hk.2) (.int .i64 t333)) (fun _ hk => hk.2) (.slice Ao85 t334.length co85)) (fun _ hk => ⟨hk.1.1.1, ⟨hk.1.1.2.1, ⟨hk.1.1.2.2.1, ⟨hk.1.1.2.2.2.1, ⟨hk.1.1.2.2.2.2, hk.1.2⟩⟩⟩⟩⟩)⟩
      have n2_ : Aside0 (Kd.V k28 28 (((w79.setCell ⟨gb338, 0, none⟩ (.int .i64 t332)).setCell ⟨gb338, 1, none⟩ (.int .i64 t333)).setCell ⟨gb338, 2, none⟩ (.slice Ao85 t334.length co85)) w.heap.size (fun k_ => some k_ ≠ (.slice Ao77 t291.length co77 : Value).ownBlock ∧ k_ ≠ gb300 ∧ k_ ≠ gb307 ∧ k_ ≠ gb314 ∧ k_ ≠ gb321 ∧ k_ ≠ gb338) (.slice Ao29 t303.length co29) t303) := ⟨by (with_reducible repeat (first | apply Kd.V_alloc | apply Kd.V_drewN | apply Kd.V_drew)); exact Kd.V_mono (Kd.V_far (p := ⟨gb338, 2, none⟩) (Kd.V_far (p := ⟨gb338, 1, none⟩) (Kd.V_far (p := ⟨gb338, 0, none⟩) (Kd.V_mono HO_308002.out (fun k_ hk => (⟨hk, hk.2⟩ : _ ∧ k_ ≠ gb338))) (fun _ hk => hk.2) (.int .i64 t332)) (fun _ hk => hk.2) (.int .i64 t333)) (fun _ hk => hk.2) (.slice Ao85 t334.length co85)) (fun _ hk => ⟨hk.1.1.1, ⟨hk.1.1.2.1, ⟨hk.1.1.2.2.1, ⟨hk.1.1.2.2.2.1, ⟨hk.1.1.2.2.2.2, hk.1.2⟩⟩⟩⟩⟩)⟩
      have n3_ : Aside0 (Kd.V k28 28 (((w79.setCell ⟨gb338, 0, none⟩ (.int .i64 t332)).setCell ⟨gb338, 1, none⟩ (.int .i64 t333)).setCell ⟨gb338, 2, none⟩ (.slice Ao85 t334.length co85)) w.heap.size (fun k_ => some k_ ≠ (.slice Ao77 t291.length co77 : Value).ownBlock ∧ k_ ≠ gb300 ∧ k_ ≠ gb307 ∧ k_ ≠ gb314 ∧ k_ ≠ gb321 ∧ k_ ≠ gb338) (.slice Ao35 t310.length co35) t310) := ⟨by (with_reducible repeat (first | apply Kd.V_alloc | apply Kd.V_drewN | apply Kd.V_drew)); exact Kd.V_mono (Kd.V_far (p := ⟨gb338, 2, none⟩) (Kd.V_far (p := ⟨gb338, 1, none⟩) (Kd.V_far (p := ⟨gb338, 0, none⟩) (Kd.V_mono HO_315002.out (fun k_ hk => (⟨hk, hk.2⟩ : _ ∧ k_ ≠ gb338))) (fun _ hk => hk.2) (.int .i64 t332)) (fun _ hk => hk.2) (.int .i64 t333)) (fun _ hk => hk.2) (.slice Ao85 t334.length co85)) (fun _ hk => ⟨hk.1.1.1, ⟨hk.1.1.2.1, ⟨hk.1.1.2.2.1, ⟨hk.1.1.2.2.2.1, ⟨hk.1.1.2.2.2.2, hk.1.2⟩⟩⟩⟩⟩)⟩
      have n4_ : Aside0 (Kd.V k28 28 (((w79.setCell ⟨gb338, 0, none⟩ (.int .i64 t332)).setCell ⟨gb338, 1, none⟩ (.int .i64 t333)).setCell ⟨gb338, 2, none⟩ (.slice Ao85 t334.length co85)) w.heap.size (fun k_ => some k_ ≠ (.slice Ao77 t291.length co77 : Value).ownBlock ∧ k_ ≠ gb300 ∧ k_ ≠ gb307 ∧ k_ ≠ gb314 ∧ k_ ≠ gb321 ∧ k_ ≠ gb338) (.slice Ao42 t317.length co42) t317) := ⟨by (with_reducible repeat (first | apply Kd.V_alloc | apply Kd.V_drewN | apply Kd.V_drew)); exact Kd.V_mono (Kd.V_far (p := ⟨gb338, 2, none⟩) (Kd.V_far (p := ⟨gb338, 1, none⟩) (Kd.V_far (p := ⟨gb338, 0, none⟩) (Kd.V_mono HO_322002.out (fun k_ hk => (⟨hk, hk.2⟩ : _ ∧ k_ ≠ gb338))) (fun _ hk => hk.2) (.int .i64 t332)) (fun _ hk => hk.2) (.int .i64 t333)) (fun _ hk => hk.2) (.slice Ao85 t334.length co85)) (fun _ hk => ⟨hk.1.1.1, ⟨hk.1.1.2.1, ⟨hk.1.1.2.2.1, ⟨hk.1.1.2.2.2.1, ⟨hk.1.1.2.2.2.2, hk.1.2⟩⟩⟩⟩⟩)⟩
      have n5_ : Aside0 (Kd.V k28 28 (((w79.setCell ⟨gb338, 0, none⟩ (.int .i64 t332)).setCell ⟨gb338, 1, none⟩ (.int .i64 t333)).setCell ⟨gb338, 2, none⟩ (.slice Ao85 t334.length co85)) w.heap.size (fun k_ => some k_ ≠ (.slice Ao77 t291.length co77 : Value).ownBlock ∧ k_ ≠ gb300 ∧ k_ ≠ gb307 ∧ k_ ≠ gb314 ∧ k_ ≠ gb321 ∧ k_ ≠ gb338) (.slice Ao85 t334.length co85) t334) := ⟨by (with_reducible repeat (first | apply Kd.V_alloc | apply Kd.V_drewN | apply Kd.V_drew)); exact Kd.V_mono (Kd.V_far (p := ⟨gb338, 2, none⟩) (Kd.V_far (p := ⟨gb338, 1, none⟩) (Kd.V_far (p := ⟨gb338, 0, none⟩) (Kd.V_mono HO336.out (fun k_ hk => (⟨hk, hk.2⟩ : _ ∧ k_ ≠ gb338))) (fun _ hk => hk.2) (.int .i64 t332)) (fun _ hk => hk.2) (.int .i64 t333)) (fun _ hk => hk.2) (.slice Ao85 t334.length co85)) (fun _ hk => ⟨hk.1.1.1, ⟨hk.1.1.2.1, ⟨hk.1.1.2.2.1, ⟨hk.1.1.2.2.2.1, ⟨hk.1.1.2.2.2.2, hk.1.2⟩⟩⟩⟩⟩)⟩
      have n6_ : Aside0 ((((w79.setCell ⟨gb338, 0, none⟩ (.int .i64 t332)).setCell ⟨gb338, 1, none⟩ (.int .i64 t333)).setCell ⟨gb338, 2, none⟩ (.slice Ao85 t334.length co85)).heap[gb300]? = some (.cells #[.int .i64 t294, .int .i64 t295, .slice Ao24 t296.length co24] 28 (0, 0))) := ⟨by (with_reducible repeat (first | refine blk_drewN ?_ _ | refine blk_drew ?_ | refine blk_alloc ?_ _)); refine blk_far ?_ NB300_338.out _; (with_reducible repeat (first | refine blk_drewN ?_ _ | refine blk_drew ?_ | refine blk_alloc ?_ _)); refine blk_far ?_ NB300_338.out _; (with_reducible repeat (first | refine blk_drewN ?_ _ | refine blk_drew ?_ | refine blk_alloc ?_ _)); refine blk_far ?_ NB300_338.out _; (with_reducible repeat (first | refine blk_drewN ?_ _ | refine blk_drew ?_ | refine blk_alloc ?_ _)); exact BK300.out⟩
      have n7_ : Aside0 ((((w79.setCell ⟨gb338, 0, none⟩ (.int .i64 t332)).setCell ⟨gb338, 1, none⟩ (.int .i64 t333)).setCell ⟨gb338, 2, none⟩ (.slice Ao85 t334.length co85)).heap[gb307]? = some (.cells #[.int .i64 t301, .int .i64 t302, .slice Ao29 t303.length co29] 28 (0, 0))) := ⟨by (with_reducible repeat (first | refine blk_drewN ?_ _ | refine blk_drew ?_ | refine blk_alloc ?_ _)); refine blk_far ?_ NB307_338.out _; (with_reducible repeat (first | refine blk_drewN ?_ _ | refine blk_drew ?_ | refine blk_alloc ?_ _)); refine blk_far ?_ NB307_338.out _; (with_reducible repeat (first | refine blk_drewN ?_ _ | refine blk_drew ?_ | refine blk_alloc ?_ _)); refine blk_far ?_ NB307_338.out _; (with_reducible repeat (first | refine blk_drewN ?_ _ | refine blk_drew ?_ | refine blk_alloc ?_ _)); exact BK307.out⟩
      have n8_ : Aside0 ((((w79.setCell ⟨gb338, 0, none⟩ (.int .i64 t332)).setCell ⟨gb338, 1, none⟩ (.int .i64 t333)).setCell ⟨gb338, 2, none⟩ (.slice Ao85 t334.length co85)).heap[gb314]? = some (.cells #[.int .i64 t308, .int .i64 t309, .slice Ao35 t310.length co35] 28 (0, 0))) := ⟨by (with_reducible repeat (first | refine blk_drewN ?_ _ | refine blk_drew ?_ | refine blk_alloc ?_ _)); refine blk_far ?_ NB314_338.out _; (with_reducible repeat (first | refine blk_drewN ?_ _ | refine blk_drew ?_ | refine blk_alloc ?_ _)); refine blk_far ?_ NB314_338.out _; (with_reducible repeat (first | refine blk_drewN ?_ _ | refine blk_drew ?_ | refine blk_alloc ?_ _)); refine blk_far ?_ NB314_338.out _; (with_reducible repeat (first | refine blk_drewN ?_ _ | refine blk_drew ?_ | refine blk_alloc ?_ _)); exact BK314.out⟩
      have n9_ : Aside0 ((((w79.setCell ⟨gb338, 0, none⟩ (.int .i64 t332)).setCell ⟨gb338, 1, none⟩ (.int .i64 t333)).setCell ⟨gb338, 2, none⟩ (.slice Ao85 t334.length co85)).heap[gb321]? = some (.cells #[.int .i64 t315, .int .i64 t316, .slice Ao42 t317.length co42] 28 (0, 0))) := ⟨by (with_reducible repeat (first | refine blk_drewN ?_ _ | refine blk_drew ?_ | refine blk_alloc ?_ _)); refine blk_far ?_ NB321_338.out _; (with_reducible repeat (first | refine blk_drewN ?_ _ | refine blk_drew ?_ | refine blk_alloc ?_ _)); refine blk_far ?_ NB321_338.out _; (with_reducible repeat (first | refine blk_drewN ?_ _ | refine blk_drew ?_ | refine blk_alloc ?_ _)); refine blk_far ?_ NB321_338.out _; (with_reducible repeat (first | refine blk_drewN ?_ _ | refine blk_drew ?_ | refine blk_alloc ?_ _)); exact BK321.out⟩
      have n10_ : Aside0 ((((w79.setCell ⟨gb338, 0, none⟩ (.int .i64 t332)).setCell ⟨gb338, 1, none⟩ (.int .i64 t333)).setCell ⟨gb338, 2, none⟩ (.slice Ao85 t334.length co85)).heap[gb338]? = some (.cells #[.int .i64 t332, .int .i64 t333, .slice Ao85 t334.length co85] 28 (0, 0))) := ⟨by (with_reducible repeat (first | refine blk_drewN ?_ _ | refine blk_drew ?_ | refine blk_alloc ?_ _)); refine blk_put (cs := #[.int .i64 t332, .int .i64 t333, .slice none 0 0]) ?_ 2 _ rfl; (with_reducible repeat (first | refine blk_drewN ?_ _ | refine blk_drew ?_ | refine blk_alloc ?_ _)); refine blk_put (cs := #[.int .i64 t332, .int .i64 0, .slice none 0 0]) ?_ 1 _ rfl; (with_reducible repeat (first | refine blk_drewN ?_ _ | refine blk_drew ?_ | refine blk_alloc ?_ _)); refine blk_put (cs := #[.int .i64 0, .int .i64 0, .slice none 0 0]) ?_ 0 _ rfl; (with_reducible repeat (first | refine blk_drewN ?_ _ | refine blk_drew ?_ | refine blk_alloc ?_ _)); exact BK338.out⟩
      have n11_ : Aside0 (Below w.heap.size w (((w79.setCell ⟨gb338, 0, none⟩ (.int .i64 t332)).setCell ⟨gb338, 1, none⟩ (.int .i64 t333)).setCell ⟨gb338, 2, none⟩ (.slice Ao85 t334.length co85))) := ⟨by repeat (first | (with_reducible first | exact HB.out | apply below_alloc | apply pw_below_drewN | apply below_drew1 | refine below_set ?_ GE300.out | refine below_set ?_ GE307.out | refine below_set ?_ GE314.out | refine below_set ?_ GE321.out | refine below_set ?_ GE338.out) | exact HB.out)⟩
      (try clear HO_11)
      (try clear HO_301002)
      (try clear HO_308002)
      (try clear HO_315002)
      (try clear HO_322002)
      (try clear HO336)
      (try clear BK300)
      (try clear BK307)
      (try clear BK314)
      (try clear BK321)
      (try clear BK338)
      (try clear HB)
      generalize (((w79.setCell ⟨gb338, 0, none⟩ (.int .i64 t332)).setCell ⟨gb338, 1, none⟩ (.int .i64 t333)).setCell ⟨gb338, 2, none⟩ (.slice Ao85 t334.length co85)) = w86 at n0_ n1_ n2_ n3_ n4_ n5_ n6_ n7_ n8_ n9_ n10_ n11_ ⊢
      have HO_11 := n0_
      have HO_301002 := n1_
      have HO_308002 := n2_
      have HO_315002 := n3_
      have HO_322002 := n4_
      have HO336 := n5_
      have BK300 := n6_
      have BK307 := n7_
      have BK314 := n8_
      have BK321 := n9_
      have BK338 := n10_
      have HB := n11_
      clear n0_ n1_ n2_ n3_ n4_ n5_ n6_ n7_ n8_ n9_ n10_ n11_
      have n0_ := Aside0.mk (Kd.R_drew HO_11.out)
      have n1_ := Aside0.mk (Kd.V_drew HO_301002.out)
      have n2_ := Aside0.mk (Kd.V_drew HO_308002.out)
      have n3_ := Aside0.mk (Kd.V_drew HO_315002.out)
      have n4_ := Aside0.mk (Kd.V_drew HO_322002.out)
      have n5_ := Aside0.mk (Kd.V_drew HO336.out)
      have n6_ := Aside0.mk (blk_drew BK300.out)
      have n7_ := Aside0.mk (blk_drew BK307.out)
      have n8_ := Aside0.mk (blk_drew BK314.out)
      have n9_ := Aside0.mk (blk_drew BK321.out)
      have n10_ := Aside0.mk (blk_drew BK338.out)
      have n11_ := Aside0.mk (below_drew1 HB.out)
      clear HO_11
      clear HO_301002
      clear HO_308002
      clear HO_315002
      clear HO_322002
      clear HO336
      clear BK300
      clear BK307
      clear BK314
      clear BK321
      clear BK338
      clear HB
      have HO_11 := n0_
      have HO_301002 := n1_
      have HO_308002 := n2_
      have HO_315002 := n3_
      have HO_322002 := n4_
      have HO336 := n5_
      have BK300 := n6_
      have BK307 := n7_
      have BK314 := n8_
      have BK321 := n9_
      have BK338 := n10_
      have HB := n11_
      clear n0_ n1_ n2_ n3_ n4_ n5_ n6_ n7_ n8_ n9_ n10_ n11_
      refine start_ (n := 28) (S := fun w' => w'.cell? ⟨gb338, 0, none⟩ = some (.int .i64 t332) ∧ w'.cell? ⟨gb338, 1, none⟩ = some (.int .i64 t333) ∧ w'.cell? ⟨gb338, 2, none⟩ = some (.slice Ao85 t334.length co85) ∧ w'.cell? ⟨gb314, 0, none⟩ = some (.int .i64 t308) ∧ w'.cell? ⟨gb314, 1, none⟩ = some (.int .i64 t309) ∧ w'.cell? ⟨gb314, 2, none⟩ = some (.slice Ao35 t310.length co35) ∧ w'.cell? ⟨gb321, 0, none⟩ = some (.int .i64 t315) ∧ w'.cell? ⟨gb321, 1, none⟩ = some (.int .i64 t316) ∧ w'.cell? ⟨gb321, 2, none⟩ = some (.slice Ao42 t317.length co42) ∧ w'.cell? ⟨gb300, 0, none⟩ = some (.int .i64 t294) ∧ w'.cell? ⟨gb300, 1, none⟩ = some (.int .i64 t295) ∧ w'.cell? ⟨gb300, 2, none⟩ = some (.slice Ao24 t296.length co24)) (ds := []) b_23 (by kernel_rfl) rfl rfl ⟨(blk_cell BK338.out 0).trans rfl, (blk_cell BK338.out 1).trans rfl, (blk_cell BK338.out 2).trans rfl, (blk_cell BK314.out 0).trans rfl, (blk_cell BK314.out 1).trans rfl, (blk_cell BK314.out 2).trans rfl, (blk_cell BK321.out 0).trans rfl, (blk_cell BK321.out 1).trans rfl, (blk_cell BK321.out 2).trans rfl, (blk_cell BK300.out 0).trans rfl, (blk_cell BK300.out 1).trans rfl, (blk_cell BK300.out 2).trans rfl⟩ (fun hHeld => ?_); refine with_tabW bobbinetkeep_ExprParts.tab16 bobbinetkeep_ExprParts.bits16 (fun HT_ HW_ => ?_)
      generalize w86.drew = w87 at HO_11 HO_301002 HO_308002 HO_315002 HO_322002 HO336 BK300 BK307 BK314 BK321 BK338 HB hHeld ⊢
      refine pure_ (i := 0) (N := some 103) (v := ?_) (a' := ?_) b_24 rfl rfl (any_of HT_.out (by kernel_rfl)) (fun _ _ _ h => h) (Or.inl ⟨by rfl, ?_⟩) ?_ ?_
      rotate_left
      ·
       intro w'
       go_simp
       with_reducible rfl
      rotate_left
      ·
       simp only [Act.put, List.setIfInBounds_toArray, List.set_cons_zero, List.set_cons_succ, i64_w, i32_w]
       rfl
      refine pure_ (i := 1) (N := some 104) (v := ?_) (a' := ?_) b_25 rfl rfl (any_of HT_.out (by kernel_rfl)) (fun _ _ _ h => h) (Or.inl ⟨by rfl, ?_⟩) ?_ ?_
      rotate_left
      ·
       intro w'
       go_simp
       with_reducible rfl
      rotate_left
      ·
       simp only [Act.put, List.setIfInBounds_toArray, List.set_cons_zero, List.set_cons_succ, i64_w, i32_w]
       rfl
      refine take_ (i := 2) (N := some 105) (v := ?_) (a' := ?_) b_26 rfl rfl (take_ofW HT_.out HW_.out (by kernel_rfl)) (fun _ _ _ h => h) (Or.inl ⟨by rfl, ?_⟩) hHeld ?_ ?_
      rotate_left
      ·
       rintro w' ⟨s0, s1, s2, s3, s4, s5, s6, s7, s8, s9, s10, s11⟩
       go_simp
       with_reducible rfl
      rotate_left
      ·
       simp only [Act.put, List.setIfInBounds_toArray, List.set_cons_zero, List.set_cons_succ, i64_w, i32_w]
       rfl
      refine one_ (i := 3) (N := some 106) b_27 rfl rfl (one_of HT_.out (by kernel_rfl)) (by decide) (fun K hK => ?_)
      refine Kd.R_lit_step (Kd.int .i64) _ 3 ?hg (N := 106) ?hd (xs := ([0] : List Int)) (inner := [.int .i64 0]) (ok := fun _ => True) (okp := fun _ => True) ?hr ?hp (fun _ hk => hk) trivial (Below.refl _ _) (Nat.le_refl _) (by simp) ?_; (case hd => rfl); (case hg => rfl); (case hr => first | (go_simp; done) | (go_simp; rfl)); (case hp => exact (Reps.one (show Kd.M (Kd.int .i64) _ _ _ 0 [.int .i64 0] from rfl) (Reps.none _ _)))
      intro v340 w88 ho89 hb hg_ hnew_
      clear hg_ hnew_
      (first | rw [← Ny339.out] at ho89 | (simp only [Int.reduceToNat] at ho89; rw [← Ny339.out] at ho89))
      have n0_ := Aside0.mk (Kd.R_elder' (R_st <| HO_11.out) (Kd.R_base ho89) hb)
      have n1_ := Aside0.mk (Kd.V_elder' (V_st <| HO_301002.out) (Kd.R_base ho89) hb)
      have n2_ := Aside0.mk (Kd.V_elder' (V_st <| HO_308002.out) (Kd.R_base ho89) hb)
      have n3_ := Aside0.mk (Kd.V_elder' (V_st <| HO_315002.out) (Kd.R_base ho89) hb)
      have n4_ := Aside0.mk (Kd.V_elder' (V_st <| HO_322002.out) (Kd.R_base ho89) hb)
      have n5_ := Aside0.mk (Kd.V_elder' (V_st <| HO336.out) (Kd.R_base ho89) hb)
      have n6_ := Aside0.mk (Kd.R_lower (Kd.R_new' ho89 (Kd.R_lt (R_st <| HO_11.out))) (below_size (by repeat (first | (with_reducible first | exact HB.out | apply below_alloc | apply pw_below_drewN | apply below_drew1 | refine below_set ?_ GE300.out | refine below_set ?_ GE307.out | refine below_set ?_ GE314.out | refine below_set ?_ GE321.out | refine below_set ?_ GE338.out) | exact HB.out))))
      have n7_ := Aside0.mk (blk_below (g := gb300) (o := .cells #[.int .i64 t294, .int .i64 t295, .slice Ao24 t296.length co24] 28 (0, 0)) (by (with_reducible repeat (first | refine blk_drewN ?_ _ | refine blk_drew ?_ | refine blk_alloc ?_ _)); exact BK300.out) hb)
      have n8_ := Aside0.mk (blk_below (g := gb307) (o := .cells #[.int .i64 t301, .int .i64 t302, .slice Ao29 t303.length co29] 28 (0, 0)) (by (with_reducible repeat (first | refine blk_drewN ?_ _ | refine blk_drew ?_ | refine blk_alloc ?_ _)); exact BK307.out) hb)
      have n9_ := Aside0.mk (blk_below (g := gb314) (o := .cells #[.int .i64 t308, .int .i64 t309, .slice Ao35 t310.length co35] 28 (0, 0)) (by (with_reducible repeat (first | refine blk_drewN ?_ _ | refine blk_drew ?_ | refine blk_alloc ?_ _)); exact BK314.out) hb)
      have n10_ := Aside0.mk (blk_below (g := gb321) (o := .cells #[.int .i64 t315, .int .i64 t316, .slice Ao42 t317.length co42] 28 (0, 0)) (by (with_reducible repeat (first | refine blk_drewN ?_ _ | refine blk_drew ?_ | refine blk_alloc ?_ _)); exact BK321.out) hb)
      have n11_ := Aside0.mk (blk_below (g := gb338) (o := .cells #[.int .i64 t332, .int .i64 t333, .slice Ao85 t334.length co85] 28 (0, 0)) (by (with_reducible repeat (first | refine blk_drewN ?_ _ | refine blk_drew ?_ | refine blk_alloc ?_ _)); exact BK338.out) hb)
      have n12_ := Aside0.mk (below_step (by repeat (first | (with_reducible first | exact HB.out | apply below_alloc | apply pw_below_drewN | apply below_drew1 | refine below_set ?_ GE300.out | refine below_set ?_ GE307.out | refine below_set ?_ GE314.out | refine below_set ?_ GE321.out | refine below_set ?_ GE338.out) | exact HB.out)) hb)
      clear HO_11
      clear HO_301002
      clear HO_308002
      clear HO_315002
      clear HO_322002
      clear HO336
      clear BK300
      clear BK307
      clear BK314
      clear BK321
      clear BK338
      clear HB
      have HO_11 := n0_
      have HO_301002 := n1_
      have HO_308002 := n2_
      have HO_315002 := n3_
      have HO_322002 := n4_
      have HO336 := n5_
      have HO341 := n6_
      have BK300 := n7_
      have BK307 := n8_
      have BK314 := n9_
      have BK321 := n10_
      have BK338 := n11_
      have HB := n12_
      clear n0_ n1_ n2_ n3_ n4_ n5_ n6_ n7_ n8_ n9_ n10_ n11_ n12_
      clear hb ho89
      obtain ⟨Ao90, co90, eo90⟩ := Kd.R_slice HO341.out
      (first | subst eo90 | (injection eo90 with f1_ f2_ f3_; have f4_ := f1_.symm; have f5_ := f3_.symm; clear f1_ f2_ f3_; subst f4_; subst f5_))
      refine hK.out _ _ ⟨(blk_cell BK338.out 0).trans rfl, (blk_cell BK338.out 1).trans rfl, (blk_cell BK338.out 2).trans rfl, (blk_cell BK314.out 0).trans rfl, (blk_cell BK314.out 1).trans rfl, (blk_cell BK314.out 2).trans rfl, (blk_cell BK321.out 0).trans rfl, (blk_cell BK321.out 1).trans rfl, (blk_cell BK321.out 2).trans rfl, (blk_cell BK300.out 0).trans rfl, (blk_cell BK300.out 1).trans rfl, (blk_cell BK300.out 2).trans rfl⟩ (fun hHeld => ?_)
      clear hK K
      refine norm_ (a' := ?_) ?_ ?_
      rotate_left
      ·
       show Act.put _ (some 106) _ = _
       simp only [Act.put, List.setIfInBounds_toArray, List.set_cons_zero, List.set_cons_succ, i64_w, i32_w]
       rfl
      refine one_ (i := 4) (N := some 107) b_28 rfl rfl (one_of HT_.out (by kernel_rfl)) (by decide) (fun K hK => ?_)
      refine goes_ Try.func16 (by kernel_rfl) rfl #[.agg #[.int .i64 t332, .int .i64 t333, .slice Ao85 t334.length co85], .slice Ao90 y339.length co90] (by rfl) rfl rfl (by (try simp only [List.map_toArray, List.map_cons, List.map_nil]); first | done | rfl | (simp only [List.length_drop, List.length_take]; rfl)) ?_
      with_reducible refine (bobbinetkeep_matches.calls k2 t332 t333 _ _ t334 _ _ y339 true _ ?side1 ?side2 ?side3 ?side4 A70.out).mono ?_
      (case side1 => repeat (first | exact (Kd.V_reads' HO336.out).2.2 | (with_reducible refine Kd.C_alloc ?_ _) | (with_reducible refine Kd.C_drewN ?_ _) | (with_reducible refine Kd.C_drew ?_)))
      (case side2 => exact (Kd.V_reads' HO336.out).2.1)
      (case side3 => repeat (first | exact (Kd.R_reads' HO341.out).2.2 | (with_reducible refine Kd.C_alloc ?_ _) | (with_reducible refine Kd.C_drewN ?_ _) | (with_reducible refine Kd.C_drew ?_)))
      (case side4 => exact (Kd.R_reads' HO341.out).2.1)
      rintro e w91 ⟨rfl, hb⟩
      refine ⟨_, rfl, ?_⟩
      have n0_ := Aside0.mk (Kd.R_below (R_st <| HO_11.out) hb)
      have n1_ := Aside0.mk (Kd.V_below (V_st <| HO_301002.out) hb)
      have n2_ := Aside0.mk (Kd.V_below (V_st <| HO_308002.out) hb)
      have n3_ := Aside0.mk (Kd.V_below (V_st <| HO_315002.out) hb)
      have n4_ := Aside0.mk (Kd.V_below (V_st <| HO_322002.out) hb)
      have n5_ := Aside0.mk (Kd.V_below (V_st <| HO336.out) hb)
      have n6_ := Aside0.mk (Kd.R_below (R_st <| HO341.out) hb)
      have n7_ := Aside0.mk (blk_below (g := gb300) (o := .cells #[.int .i64 t294, .int .i64 t295, .slice Ao24 t296.length co24] 28 (0, 0)) (by (with_reducible repeat (first | refine blk_drewN ?_ _ | refine blk_drew ?_ | refine blk_alloc ?_ _)); exact BK300.out) hb)
      have n8_ := Aside0.mk (blk_below (g := gb307) (o := .cells #[.int .i64 t301, .int .i64 t302, .slice Ao29 t303.length co29] 28 (0, 0)) (by (with_reducible repeat (first | refine blk_drewN ?_ _ | refine blk_drew ?_ | refine blk_alloc ?_ _)); exact BK307.out) hb)
      have n9_ := Aside0.mk (blk_below (g := gb314) (o := .cells #[.int .i64 t308, .int .i64 t309, .slice Ao35 t310.length co35] 28 (0, 0)) (by (with_reducible repeat (first | refine blk_drewN ?_ _ | refine blk_drew ?_ | refine blk_alloc ?_ _)); exact BK314.out) hb)
      have n10_ := Aside0.mk (blk_below (g := gb321) (o := .cells #[.int .i64 t315, .int .i64 t316, .slice Ao42 t317.length co42] 28 (0, 0)) (by (with_reducible repeat (first | refine blk_drewN ?_ _ | refine blk_drew ?_ | refine blk_alloc ?_ _)); exact BK321.out) hb)
      have n11_ := Aside0.mk (blk_below (g := gb338) (o := .cells #[.int .i64 t332, .int .i64 t333, .slice Ao85 t334.length co85] 28 (0, 0)) (by (with_reducible repeat (first | refine blk_drewN ?_ _ | refine blk_drew ?_ | refine blk_alloc ?_ _)); exact BK338.out) hb)
      have n12_ := Aside0.mk (below_step (by repeat (first | (with_reducible first | exact HB.out | apply below_alloc | apply pw_below_drewN | apply below_drew1 | refine below_set ?_ GE300.out | refine below_set ?_ GE307.out | refine below_set ?_ GE314.out | refine below_set ?_ GE321.out | refine below_set ?_ GE338.out) | exact HB.out)) hb)
      clear HO_11
      clear HO_301002
      clear HO_308002
      clear HO_315002
      clear HO_322002
      clear HO336
      clear HO341
      clear BK300
      clear BK307
      clear BK314
      clear BK321
      clear BK338
      clear HB
      have HO_11 := n0_
      have HO_301002 := n1_
      have HO_308002 := n2_
      have HO_315002 := n3_
      have HO_322002 := n4_
      have HO336 := n5_
      have HO341 := n6_
      have BK300 := n7_
      have BK307 := n8_
      have BK314 := n9_
      have BK321 := n10_
      have BK338 := n11_
      have HB := n12_
      clear n0_ n1_ n2_ n3_ n4_ n5_ n6_ n7_ n8_ n9_ n10_ n11_ n12_
      (try clear hb)
      (try clear hb2)
      (try clear hk)
      (try clear hi)
      refine hK.out _ _ ⟨(blk_cell BK338.out 0).trans rfl, (blk_cell BK338.out 1).trans rfl, (blk_cell BK338.out 2).trans rfl, (blk_cell BK314.out 0).trans rfl, (blk_cell BK314.out 1).trans rfl, (blk_cell BK314.out 2).trans rfl, (blk_cell BK321.out 0).trans rfl, (blk_cell BK321.out 1).trans rfl, (blk_cell BK321.out 2).trans rfl, (blk_cell BK300.out 0).trans rfl, (blk_cell BK300.out 1).trans rfl, (blk_cell BK300.out 2).trans rfl⟩ (fun hHeld => ?_)
      clear hK K
      refine norm_ (a' := ?_) ?_ ?_
      rotate_left
      ·
       show Act.put _ (some 107) _ = _
       simp only [Act.put, List.setIfInBounds_toArray, List.set_cons_zero, List.set_cons_succ, i64_w, i32_w]
       rfl
      refine pure_ (i := 5) (N := some 108) (v := ?_) (a' := ?_) b_29 rfl rfl (any_of HT_.out (by kernel_rfl)) (fun _ _ _ h => h) (Or.inl ⟨by rfl, ?_⟩) ?_ ?_
      rotate_left
      ·
       intro w'
       go_simp
       with_reducible rfl
      rotate_left
      ·
       simp only [Act.put, List.setIfInBounds_toArray, List.set_cons_zero, List.set_cons_succ, i64_w, i32_w]
       rfl
      refine pure_ (i := 6) (N := some 109) (v := ?_) (a' := ?_) b_30 rfl rfl (any_of HT_.out (by kernel_rfl)) (fun _ _ _ h => h) (Or.inl ⟨by rfl, ?_⟩) ?_ ?_
      rotate_left
      ·
       intro w'
       go_simp
       with_reducible rfl
      rotate_left
      ·
       simp only [Act.put, List.setIfInBounds_toArray, List.set_cons_zero, List.set_cons_succ, i64_w, i32_w]
       rfl
      refine pure_ (i := 8) (N := some 111) (v := ?_) (a' := ?_) b_31 rfl rfl (any_of HT_.out (by kernel_rfl)) (fun _ _ _ h => h) (Or.inl ⟨by rfl, ?_⟩) ?_ ?_
      rotate_left
      ·
       intro w'
       go_simp
       with_reducible rfl
      rotate_left
      ·
       simp only [Act.put, List.setIfInBounds_toArray, List.set_cons_zero, List.set_cons_succ, i64_w, i32_w]
       rfl
      refine pure_ (i := 10) (N := some 113) (v := ?_) (a' := ?_) b_32 rfl rfl (any_of HT_.out (by kernel_rfl)) (fun _ _ _ h => h) (Or.inl ⟨by rfl, ?_⟩) ?_ ?_
      rotate_left
      ·
       intro w'
       go_simp
       with_reducible rfl
      rotate_left
      ·
       simp only [Act.put, List.setIfInBounds_toArray, List.set_cons_zero, List.set_cons_succ, i64_w, i32_w]
       rfl
      refine take_ (i := 7) (N := some 110) (v := ?_) (a' := ?_) b_33 rfl rfl (take_ofW HT_.out HW_.out (by kernel_rfl)) (fun _ _ _ h => h) (Or.inl ⟨by rfl, ?_⟩) hHeld ?_ ?_
      rotate_left
      ·
       rintro w' ⟨s0, s1, s2, s3, s4, s5, s6, s7, s8, s9, s10, s11⟩
       go_simp
       with_reducible rfl
      rotate_left
      ·
       simp only [Act.put, List.setIfInBounds_toArray, List.set_cons_zero, List.set_cons_succ, i64_w, i32_w]
       rfl
      refine one_ (i := 9) (N := some 112) b_34 rfl rfl (one_of HT_.out (by kernel_rfl)) (by decide) (fun K hK => ?_)
      refine goes_ Try.func16 (by kernel_rfl) rfl #[.agg #[.int .i64 t308, .int .i64 t309, .slice Ao35 t310.length co35], .slice Ao77 t291.length co77] (by rfl) rfl rfl (by (try simp only [List.map_toArray, List.map_cons, List.map_nil]); first | done | rfl | (simp only [List.length_drop, List.length_take]; rfl)) ?_
      with_reducible refine (bobbinetkeep_matches.calls k2 t308 t309 _ _ t310 _ _ t291 t343 _ ?side1 ?side2 ?side3 ?side4 A72.out).mono ?_
      (case side1 => repeat (first | exact (Kd.V_reads' HO_315002.out).2.2 | (with_reducible refine Kd.C_alloc ?_ _) | (with_reducible refine Kd.C_drewN ?_ _) | (with_reducible refine Kd.C_drew ?_)))
      (case side2 => exact (Kd.V_reads' HO_315002.out).2.1)
      (case side3 => repeat (first | exact (Kd.R_reads' HO_11.out).2.2 | (with_reducible refine Kd.C_alloc ?_ _) | (with_reducible refine Kd.C_drewN ?_ _) | (with_reducible refine Kd.C_drew ?_)))
      (case side4 => exact (Kd.R_reads' HO_11.out).2.1)
      rintro e w92 ⟨rfl, hb⟩
      refine ⟨_, rfl, ?_⟩
      have n0_ := Aside0.mk (Kd.R_below (R_st <| HO_11.out) hb)
      have n1_ := Aside0.mk (Kd.V_below (V_st <| HO_301002.out) hb)
      have n2_ := Aside0.mk (Kd.V_below (V_st <| HO_308002.out) hb)
      have n3_ := Aside0.mk (Kd.V_below (V_st <| HO_315002.out) hb)
      have n4_ := Aside0.mk (Kd.V_below (V_st <| HO_322002.out) hb)
      have n5_ := Aside0.mk (Kd.V_below (V_st <| HO336.out) hb)
      have n6_ := Aside0.mk (Kd.R_below (R_st <| HO341.out) hb)
      have n7_ := Aside0.mk (blk_below (g := gb300) (o := .cells #[.int .i64 t294, .int .i64 t295, .slice Ao24 t296.length co24] 28 (0, 0)) (by (with_reducible repeat (first | refine blk_drewN ?_ _ | refine blk_drew ?_ | refine blk_alloc ?_ _)); exact BK300.out) hb)
      have n8_ := Aside0.mk (blk_below (g := gb307) (o := .cells #[.int .i64 t301, .int .i64 t302, .slice Ao29 t303.length co29] 28 (0, 0)) (by (with_reducible repeat (first | refine blk_drewN ?_ _ | refine blk_drew ?_ | refine blk_alloc ?_ _)); exact BK307.out) hb)
      have n9_ := Aside0.mk (blk_below (g := gb314) (o := .cells #[.int .i64 t308, .int .i64 t309, .slice Ao35 t310.length co35] 28 (0, 0)) (by (with_reducible repeat (first | refine blk_drewN ?_ _ | refine blk_drew ?_ | refine blk_alloc ?_ _)); exact BK314.out) hb)
      have n10_ := Aside0.mk (blk_below (g := gb321) (o := .cells #[.int .i64 t315, .int .i64 t316, .slice Ao42 t317.length co42] 28 (0, 0)) (by (with_reducible repeat (first | refine blk_drewN ?_ _ | refine blk_drew ?_ | refine blk_alloc ?_ _)); exact BK321.out) hb)
      have n11_ := Aside0.mk (blk_below (g := gb338) (o := .cells #[.int .i64 t332, .int .i64 t333, .slice Ao85 t334.length co85] 28 (0, 0)) (by (with_reducible repeat (first | refine blk_drewN ?_ _ | refine blk_drew ?_ | refine blk_alloc ?_ _)); exact BK338.out) hb)
      have n12_ := Aside0.mk (below_step (by repeat (first | (with_reducible first | exact HB.out | apply below_alloc | apply pw_below_drewN | apply below_drew1 | refine below_set ?_ GE300.out | refine below_set ?_ GE307.out | refine below_set ?_ GE314.out | refine below_set ?_ GE321.out | refine below_set ?_ GE338.out) | exact HB.out)) hb)
      clear HO_11
      clear HO_301002
      clear HO_308002
      clear HO_315002
      clear HO_322002
      clear HO336
      clear HO341
      clear BK300
      clear BK307
      clear BK314
      clear BK321
      clear BK338
      clear HB
      have HO_11 := n0_
      have HO_301002 := n1_
      have HO_308002 := n2_
      have HO_315002 := n3_
      have HO_322002 := n4_
      have HO336 := n5_
      have HO341 := n6_
      have BK300 := n7_
      have BK307 := n8_
      have BK314 := n9_
      have BK321 := n10_
      have BK338 := n11_
      have HB := n12_
      clear n0_ n1_ n2_ n3_ n4_ n5_ n6_ n7_ n8_ n9_ n10_ n11_ n12_
      (try clear hb)
      (try clear hb2)
      (try clear hk)
      (try clear hi)
      refine hK.out _ _ ⟨(blk_cell BK338.out 0).trans rfl, (blk_cell BK338.out 1).trans rfl, (blk_cell BK338.out 2).trans rfl, (blk_cell BK314.out 0).trans rfl, (blk_cell BK314.out 1).trans rfl, (blk_cell BK314.out 2).trans rfl, (blk_cell BK321.out 0).trans rfl, (blk_cell BK321.out 1).trans rfl, (blk_cell BK321.out 2).trans rfl, (blk_cell BK300.out 0).trans rfl, (blk_cell BK300.out 1).trans rfl, (blk_cell BK300.out 2).trans rfl⟩ (fun hHeld => ?_)
      clear hK K
      refine norm_ (a' := ?_) ?_ ?_
      rotate_left
      ·
       show Act.put _ (some 112) _ = _
       simp only [Act.put, List.setIfInBounds_toArray, List.set_cons_zero, List.set_cons_succ, i64_w, i32_w]
       rfl
      refine pure_ (i := 11) (N := some 114) (v := ?_) (a' := ?_) b_35 rfl rfl (any_of HT_.out (by kernel_rfl)) (fun _ _ _ h => h) (Or.inl ⟨by rfl, ?_⟩) ?_ ?_
      rotate_left
      ·
       intro w'
       go_simp
       with_reducible rfl
      rotate_left
      ·
       simp only [Act.put, List.setIfInBounds_toArray, List.set_cons_zero, List.set_cons_succ, i64_w, i32_w]
       rfl
      refine pure_ (i := 12) (N := some 115) (v := ?_) (a' := ?_) b_36 rfl rfl (any_of HT_.out (by kernel_rfl)) (fun _ _ _ h => h) (Or.inl ⟨by rfl, ?_⟩) ?_ ?_
      rotate_left
      ·
       intro w'
       go_simp
       with_reducible rfl
      rotate_left
      ·
       simp only [Act.put, List.setIfInBounds_toArray, List.set_cons_zero, List.set_cons_succ, i64_w, i32_w]
       rfl
      refine pure_ (i := 13) (N := some 116) (v := ?_) (a' := ?_) b_37 rfl rfl (any_of HT_.out (by kernel_rfl)) (fun _ _ _ h => h) (Or.inl ⟨by rfl, ?_⟩) ?_ ?_
      rotate_left
      ·
       intro w'
       go_simp
       with_reducible rfl
      rotate_left
      ·
       simp only [Act.put, List.setIfInBounds_toArray, List.set_cons_zero, List.set_cons_succ, i64_w, i32_w]
       rfl
      refine pure_ (i := 15) (N := some 118) (v := ?_) (a' := ?_) b_38 rfl rfl (any_of HT_.out (by kernel_rfl)) (fun _ _ _ h => h) (Or.inl ⟨by rfl, ?_⟩) ?_ ?_
      rotate_left
      ·
       intro w'
       go_simp
       with_reducible rfl
      rotate_left
      ·
       simp only [Act.put, List.setIfInBounds_toArray, List.set_cons_zero, List.set_cons_succ, i64_w, i32_w]
       rfl
      refine pure_ (i := 18) (N := some 121) (v := ?_) (a' := ?_) b_39 rfl rfl (any_of HT_.out (by kernel_rfl)) (fun _ _ _ h => h) (Or.inl ⟨by rfl, ?_⟩) ?_ ?_
      rotate_left
      ·
       intro w'
       go_simp
       with_reducible rfl
      rotate_left
      ·
       simp only [Act.put, List.setIfInBounds_toArray, List.set_cons_zero, List.set_cons_succ, i64_w, i32_w]
       rfl
      refine take_ (i := 14) (N := some 117) (v := ?_) (a' := ?_) b_40 rfl rfl (take_ofW HT_.out HW_.out (by kernel_rfl)) (fun _ _ _ h => h) (Or.inl ⟨by rfl, ?_⟩) hHeld ?_ ?_
      rotate_left
      ·
       rintro w' ⟨s0, s1, s2, s3, s4, s5, s6, s7, s8, s9, s10, s11⟩
       go_simp
       with_reducible rfl
      rotate_left
      ·
       simp only [Act.put, List.setIfInBounds_toArray, List.set_cons_zero, List.set_cons_succ, i64_w, i32_w]
       rfl
      refine take_ (i := 17) (N := some 120) (v := ?_) (a' := ?_) b_41 rfl rfl (take_ofW HT_.out HW_.out (by kernel_rfl)) (fun _ _ _ h => h) (Or.inl ⟨by rfl, ?_⟩) hHeld ?_ ?_
      rotate_left
      ·
       rintro w' ⟨s0, s1, s2, s3, s4, s5, s6, s7, s8, s9, s10, s11⟩
       go_simp
       with_reducible rfl
      rotate_left
      ·
       simp only [Act.put, List.setIfInBounds_toArray, List.set_cons_zero, List.set_cons_succ, i64_w, i32_w]
       rfl
      refine one_ (i := 16) (N := some 119) b_42 rfl rfl (one_of HT_.out (by kernel_rfl)) (by decide) (fun K hK => ?_)
      refine goes_ Try.func16 (by kernel_rfl) rfl #[.agg #[.int .i64 t315, .int .i64 t316, .slice Ao42 t317.length co42], .slice Ao77 t291.length co77] (by rfl) rfl rfl (by (try simp only [List.map_toArray, List.map_cons, List.map_nil]); first | done | rfl | (simp only [List.length_drop, List.length_take]; rfl)) ?_
      with_reducible refine (bobbinetkeep_matches.calls k2 t315 t316 _ _ t317 _ _ t291 t344 _ ?side1 ?side2 ?side3 ?side4 A74.out).mono ?_
      (case side1 => repeat (first | exact (Kd.V_reads' HO_322002.out).2.2 | (with_reducible refine Kd.C_alloc ?_ _) | (with_reducible refine Kd.C_drewN ?_ _) | (with_reducible refine Kd.C_drew ?_)))
      (case side2 => exact (Kd.V_reads' HO_322002.out).2.1)
      (case side3 => repeat (first | exact (Kd.R_reads' HO_11.out).2.2 | (with_reducible refine Kd.C_alloc ?_ _) | (with_reducible refine Kd.C_drewN ?_ _) | (with_reducible refine Kd.C_drew ?_)))
      (case side4 => exact (Kd.R_reads' HO_11.out).2.1)
      rintro e w93 ⟨rfl, hb⟩
      refine ⟨_, rfl, ?_⟩
      have n0_ := Aside0.mk (Kd.R_below (R_st <| HO_11.out) hb)
      have n1_ := Aside0.mk (Kd.V_below (V_st <| HO_301002.out) hb)
      have n2_ := Aside0.mk (Kd.V_below (V_st <| HO_308002.out) hb)
      have n3_ := Aside0.mk (Kd.V_below (V_st <| HO_315002.out) hb)
      have n4_ := Aside0.mk (Kd.V_below (V_st <| HO_322002.out) hb)
      have n5_ := Aside0.mk (Kd.V_below (V_st <| HO336.out) hb)
      have n6_ := Aside0.mk (Kd.R_below (R_st <| HO341.out) hb)
      have n7_ := Aside0.mk (blk_below (g := gb300) (o := .cells #[.int .i64 t294, .int .i64 t295, .slice Ao24 t296.length co24] 28 (0, 0)) (by (with_reducible repeat (first | refine blk_drewN ?_ _ | refine blk_drew ?_ | refine blk_alloc ?_ _)); exact BK300.out) hb)
      have n8_ := Aside0.mk (blk_below (g := gb307) (o := .cells #[.int .i64 t301, .int .i64 t302, .slice Ao29 t303.length co29] 28 (0, 0)) (by (with_reducible repeat (first | refine blk_drewN ?_ _ | refine blk_drew ?_ | refine blk_alloc ?_ _)); exact BK307.out) hb)
      have n9_ := Aside0.mk (blk_below (g := gb314) (o := .cells #[.int .i64 t308, .int .i64 t309, .slice Ao35 t310.length co35] 28 (0, 0)) (by (with_reducible repeat (first | refine blk_drewN ?_ _ | refine blk_drew ?_ | refine blk_alloc ?_ _)); exact BK314.out) hb)
      have n10_ := Aside0.mk (blk_below (g := gb321) (o := .cells #[.int .i64 t315, .int .i64 t316, .slice Ao42 t317.length co42] 28 (0, 0)) (by (with_reducible repeat (first | refine blk_drewN ?_ _ | refine blk_drew ?_ | refine blk_alloc ?_ _)); exact BK321.out) hb)
      have n11_ := Aside0.mk (blk_below (g := gb338) (o := .cells #[.int .i64 t332, .int .i64 t333, .slice Ao85 t334.length co85] 28 (0, 0)) (by (with_reducible repeat (first | refine blk_drewN ?_ _ | refine blk_drew ?_ | refine blk_alloc ?_ _)); exact BK338.out) hb)
      have n12_ := Aside0.mk (below_step (by repeat (first | (with_reducible first | exact HB.out | apply below_alloc | apply pw_below_drewN | apply below_drew1 | refine below_set ?_ GE300.out | refine below_set ?_ GE307.out | refine below_set ?_ GE314.out | refine below_set ?_ GE321.out | refine below_set ?_ GE338.out) | exact HB.out)) hb)
      clear HO_11
      clear HO_301002
      clear HO_308002
      clear HO_315002
      clear HO_322002
      clear HO336
      clear HO341
      clear BK300
      clear BK307
      clear BK314
      clear BK321
      clear BK338
      clear HB
      have HO_11 := n0_
      have HO_301002 := n1_
      have HO_308002 := n2_
      have HO_315002 := n3_
      have HO_322002 := n4_
      have HO336 := n5_
      have HO341 := n6_
      have BK300 := n7_
      have BK307 := n8_
      have BK314 := n9_
      have BK321 := n10_
      have BK338 := n11_
      have HB := n12_
      clear n0_ n1_ n2_ n3_ n4_ n5_ n6_ n7_ n8_ n9_ n10_ n11_ n12_
      (try clear hb)
      (try clear hb2)
      (try clear hk)
      (try clear hi)
      refine hK.out _ _ ⟨(blk_cell BK338.out 0).trans rfl, (blk_cell BK338.out 1).trans rfl, (blk_cell BK338.out 2).trans rfl, (blk_cell BK314.out 0).trans rfl, (blk_cell BK314.out 1).trans rfl, (blk_cell BK314.out 2).trans rfl, (blk_cell BK321.out 0).trans rfl, (blk_cell BK321.out 1).trans rfl, (blk_cell BK321.out 2).trans rfl, (blk_cell BK300.out 0).trans rfl, (blk_cell BK300.out 1).trans rfl, (blk_cell BK300.out 2).trans rfl⟩ (fun hHeld => ?_)
      clear hK K
      refine norm_ (a' := ?_) ?_ ?_
      rotate_left
      ·
       show Act.put _ (some 119) _ = _
       simp only [Act.put, List.setIfInBounds_toArray, List.set_cons_zero, List.set_cons_succ, i64_w, i32_w]
       rfl
      refine one_ (i := 19) (N := some 122) b_43 rfl rfl (one_of HT_.out (by kernel_rfl)) (by decide) (fun K hK => ?_)
      refine goes_ Try.func16 (by kernel_rfl) rfl #[.agg #[.int .i64 t294, .int .i64 t295, .slice Ao24 t296.length co24], .slice Ao77 t291.length co77] (by rfl) rfl rfl (by (try simp only [List.map_toArray, List.map_cons, List.map_nil]); first | done | rfl | (simp only [List.length_drop, List.length_take]; rfl)) ?_
      with_reducible refine (bobbinetkeep_matches.calls k2 t294 t295 _ _ t296 _ _ t291 true _ ?side1 ?side2 ?side3 ?side4 A75.out).mono ?_
      (case side1 => repeat (first | exact (Kd.V_reads' HO_301002.out).2.2 | (with_reducible refine Kd.C_alloc ?_ _) | (with_reducible refine Kd.C_drewN ?_ _) | (with_reducible refine Kd.C_drew ?_)))
      (case side2 => exact (Kd.V_reads' HO_301002.out).2.1)
      (case side3 => repeat (first | exact (Kd.R_reads' HO_11.out).2.2 | (with_reducible refine Kd.C_alloc ?_ _) | (with_reducible refine Kd.C_drewN ?_ _) | (with_reducible refine Kd.C_drew ?_)))
      (case side4 => exact (Kd.R_reads' HO_11.out).2.1)
      rintro e w94 ⟨rfl, hb⟩
      refine ⟨_, rfl, ?_⟩
      have n0_ := Aside0.mk (Kd.R_below (R_st <| HO_11.out) hb)
      have n1_ := Aside0.mk (Kd.V_below (V_st <| HO_301002.out) hb)
      have n2_ := Aside0.mk (Kd.V_below (V_st <| HO_308002.out) hb)
      have n3_ := Aside0.mk (Kd.V_below (V_st <| HO_315002.out) hb)
      have n4_ := Aside0.mk (Kd.V_below (V_st <| HO_322002.out) hb)
      have n5_ := Aside0.mk (Kd.V_below (V_st <| HO336.out) hb)
      have n6_ := Aside0.mk (Kd.R_below (R_st <| HO341.out) hb)
      have n7_ := Aside0.mk (blk_below (g := gb300) (o := .cells #[.int .i64 t294, .int .i64 t295, .slice Ao24 t296.length co24] 28 (0, 0)) (by (with_reducible repeat (first | refine blk_drewN ?_ _ | refine blk_drew ?_ | refine blk_alloc ?_ _)); exact BK300.out) hb)
      have n8_ := Aside0.mk (blk_below (g := gb307) (o := .cells #[.int .i64 t301, .int .i64 t302, .slice Ao29 t303.length co29] 28 (0, 0)) (by (with_reducible repeat (first | refine blk_drewN ?_ _ | refine blk_drew ?_ | refine blk_alloc ?_ _)); exact BK307.out) hb)
      have n9_ := Aside0.mk (blk_below (g := gb314) (o := .cells #[.int .i64 t308, .int .i64 t309, .slice Ao35 t310.length co35] 28 (0, 0)) (by (with_reducible repeat (first | refine blk_drewN ?_ _ | refine blk_drew ?_ | refine blk_alloc ?_ _)); exact BK314.out) hb)
      have n10_ := Aside0.mk (blk_below (g := gb321) (o := .cells #[.int .i64 t315, .int .i64 t316, .slice Ao42 t317.length co42] 28 (0, 0)) (by (with_reducible repeat (first | refine blk_drewN ?_ _ | refine blk_drew ?_ | refine blk_alloc ?_ _)); exact BK321.out) hb)
      have n11_ := Aside0.mk (blk_below (g := gb338) (o := .cells #[.int .i64 t332, .int .i64 t333, .slice Ao85 t334.length co85] 28 (0, 0)) (by (with_reducible repeat (first | refine blk_drewN ?_ _ | refine blk_drew ?_ | refine blk_alloc ?_ _)); exact BK338.out) hb)
      have n12_ := Aside0.mk (below_step (by repeat (first | (with_reducible first | exact HB.out | apply below_alloc | apply pw_below_drewN | apply below_drew1 | refine below_set ?_ GE300.out | refine below_set ?_ GE307.out | refine below_set ?_ GE314.out | refine below_set ?_ GE321.out | refine below_set ?_ GE338.out) | exact HB.out)) hb)
      clear HO_11
      clear HO_301002
      clear HO_308002
      clear HO_315002
      clear HO_322002
      clear HO336
      clear HO341
      clear BK300
      clear BK307
      clear BK314
      clear BK321
      clear BK338
      clear HB
      have HO_11 := n0_
      have HO_301002 := n1_
      have HO_308002 := n2_
      have HO_315002 := n3_
      have HO_322002 := n4_
      have HO336 := n5_
      have HO341 := n6_
      have BK300 := n7_
      have BK307 := n8_
      have BK314 := n9_
      have BK321 := n10_
      have BK338 := n11_
      have HB := n12_
      clear n0_ n1_ n2_ n3_ n4_ n5_ n6_ n7_ n8_ n9_ n10_ n11_ n12_
      (try clear hb)
      (try clear hb2)
      (try clear hk)
      (try clear hi)
      refine hK.out _ _ ⟨(blk_cell BK338.out 0).trans rfl, (blk_cell BK338.out 1).trans rfl, (blk_cell BK338.out 2).trans rfl, (blk_cell BK314.out 0).trans rfl, (blk_cell BK314.out 1).trans rfl, (blk_cell BK314.out 2).trans rfl, (blk_cell BK321.out 0).trans rfl, (blk_cell BK321.out 1).trans rfl, (blk_cell BK321.out 2).trans rfl, (blk_cell BK300.out 0).trans rfl, (blk_cell BK300.out 1).trans rfl, (blk_cell BK300.out 2).trans rfl⟩ (fun hHeld => ?_)
      clear hK K
      refine norm_ (a' := ?_) ?_ ?_
      rotate_left
      ·
       show Act.put _ (some 122) _ = _
       simp only [Act.put, List.setIfInBounds_toArray, List.set_cons_zero, List.set_cons_succ, i64_w, i32_w]
       rfl
      refine pure_ (i := 20) (N := some 123) (v := ?_) (a' := ?_) b_44 rfl rfl (any_of HT_.out (by kernel_rfl)) (fun _ _ _ h => h) (Or.inl ⟨by rfl, ?_⟩) ?_ ?_
      rotate_left
      ·
       intro w'
       go_simp
       with_reducible rfl
      rotate_left
      ·
       simp only [Act.put, List.setIfInBounds_toArray, List.set_cons_zero, List.set_cons_succ, i64_w, i32_w]
       rfl
      refine pure_ (i := 21) (N := some 124) (v := undef) (a' := ?_) b_45 rfl rfl (any_of HT_.out (by kernel_rfl)) (fun _ _ _ h => h) (Or.inr ⟨by rfl, rfl⟩) ?_ ?_
      rotate_left
      ·
       simp only [Act.put, List.setIfInBounds_toArray, List.set_cons_zero, List.set_cons_succ, i64_w, i32_w]
       rfl
      refine pure_ (i := 22) (N := some 125) (v := undef) (a' := ?_) b_46 rfl rfl (any_of HT_.out (by kernel_rfl)) (fun _ _ _ h => h) (Or.inr ⟨by rfl, rfl⟩) ?_ ?_
      rotate_left
      ·
       simp only [Act.put, List.setIfInBounds_toArray, List.set_cons_zero, List.set_cons_succ, i64_w, i32_w]
       rfl
      refine pure_ (i := 23) (N := some 126) (v := undef) (a' := ?_) b_47 rfl rfl (any_of HT_.out (by kernel_rfl)) (fun _ _ _ h => h) (Or.inr ⟨by rfl, rfl⟩) ?_ ?_
      rotate_left
      ·
       simp only [Act.put, List.setIfInBounds_toArray, List.set_cons_zero, List.set_cons_succ, i64_w, i32_w]
       rfl
      refine pure_ (i := 24) (N := some 127) (v := ?_) (a' := ?_) b_48 rfl rfl (any_of HT_.out (by kernel_rfl)) (fun _ _ _ h => h) (Or.inl ⟨by rfl, ?_⟩) ?_ ?_
      rotate_left
      ·
       intro w'
       go_simp
       with_reducible rfl
      rotate_left
      ·
       simp only [Act.put, List.setIfInBounds_toArray, List.set_cons_zero, List.set_cons_succ, i64_w, i32_w]
       rfl
      refine pure_ (i := 25) (N := some 128) (v := ?_) (a' := ?_) b_49 rfl rfl (any_of HT_.out (by kernel_rfl)) (fun _ _ _ h => h) (Or.inl ⟨by rfl, ?_⟩) ?_ ?_
      rotate_left
      ·
       intro w'
       go_simp
       with_reducible rfl
      rotate_left
      ·
       simp only [Act.put, List.setIfInBounds_toArray, List.set_cons_zero, List.set_cons_succ, i64_w, i32_w]
       rfl
      refine pure_ (i := 26) (N := some 129) (v := ?_) (a' := ?_) b_50 rfl rfl (any_of HT_.out (by kernel_rfl)) (fun _ _ _ h => h) (Or.inl ⟨by rfl, ?_⟩) ?_ ?_
      rotate_left
      ·
       intro w'
       go_simp
       with_reducible rfl
      rotate_left
      ·
       simp only [Act.put, List.setIfInBounds_toArray, List.set_cons_zero, List.set_cons_succ, i64_w, i32_w]
       rfl
      refine pure_ (i := 27) (N := some 6) (v := ?_) (a' := ?_) b_51 rfl rfl (any_of HT_.out (by kernel_rfl)) (fun _ _ _ h => h) (Or.inl ⟨by rfl, ?_⟩) ?_ ?_
      rotate_left
      ·
       intro w'
       go_simp
       with_reducible rfl
      rotate_left
      ·
       simp only [Act.put, List.setIfInBounds_toArray, List.set_cons_zero, List.set_cons_succ, i64_w, i32_w]
       rfl
      refine done_ (done_of HT_.out (by kernel_rfl)) ?_
      try go_wp2
      go_ret
      exact ⟨by first | rfl | (simp [errW_none, errW_some] <;> rfl) | (simp [*, errW_none, errW_some] <;> rfl), by repeat (first | (with_reducible first | exact HB.out | apply below_alloc | apply pw_below_drewN | apply below_drew1 | refine below_set ?_ GE300.out | refine below_set ?_ GE307.out | refine below_set ?_ GE314.out | refine below_set ?_ GE321.out | refine below_set ?_ GE338.out) | exact HB.out)⟩
     replace c76 := Bool.eq_false_iff.mpr c76
     subst c76
     rw [if_neg (show ¬ (false = true) by decide)] at H
     replace H := Option.bind_eq_some_iff.mp H
     obtain ⟨t346, A950, H⟩ := H
     (try dsimp only at H)
     have A95 := Aside0.mk A950
     clear A950
     obtain rfl := Option.some.inj H
     obtain ⟨Ao96, co96, eo96⟩ := Kd.R_slice HO_11.out
     subst eo96
     try go_wp2_with (first | ((with_reducible refine gate_callee (f := 11) rfl ?_); refine goesL_ (some 100) rfl rfl Try.func11 (by kernel_rfl) rfl #[.string (⟨#[97]⟩ : ByteArray)] rfl (by (try simp only [List.map_toArray, List.map_cons, List.map_nil]); first | done | rfl | (simp only [List.length_drop, List.length_take]; rfl)) ?_; (with_reducible refine (bobbinetkeep_exprOf.calls k2 (⟨#[97]⟩ : ByteArray) t332 t333 t334 true _ A68.out).mono ?_); rintro e w97 ⟨v335, rfl, ho0, hb⟩; refine ⟨_, rfl, ?_⟩; have n0_ := Aside0.mk (Kd.R_below (R_st <| HO_11.out) hb); have n1_ := Aside0.mk (Kd.V_below (V_st <| HO_301002.out) hb); have n2_ := Aside0.mk (Kd.V_below (V_st <| HO_308002.out) hb); have n3_ := Aside0.mk (Kd.V_below (V_st <| HO_315002.out) hb); have n4_ := Aside0.mk (Kd.V_below (V_st <| HO_322002.out) hb); have n5_ := Aside0.mk (Kd.V_lower (Kd.V_mono (ok' := fun k_ => some k_ ≠ (.slice Ao96 t291.length co96 : Value).ownBlock ∧ k_ ≠ gb300 ∧ k_ ≠ gb307 ∧ k_ ≠ gb314 ∧ k_ ≠ gb321) ho0 (fun k_ hk_ => ⟨(Kd.fresh' (Kd.R_lt (R_st <| HO_11.out)) k_ hk_), (Kd.freshB (g := gb300) (o := .cells #[.int .i64 t294, .int .i64 t295, .slice Ao24 t296.length co24] 28 (0, 0)) (by (with_reducible repeat (first | refine blk_drewN ?_ _ | refine blk_drew ?_ | refine blk_alloc ?_ _)); exact BK300.out) k_ hk_), (Kd.freshB (g := gb307) (o := .cells #[.int .i64 t301, .int .i64 t302, .slice Ao29 t303.length co29] 28 (0, 0)) (by (with_reducible repeat (first | refine blk_drewN ?_ _ | refine blk_drew ?_ | refine blk_alloc ?_ _)); exact BK307.out) k_ hk_), (Kd.freshB (g := gb314) (o := .cells #[.int .i64 t308, .int .i64 t309, .slice Ao35 t310.length co35] 28 (0, 0)) (by (with_reducible repeat (first | refine blk_drewN ?_ _ | refine blk_drew ?_ | refine blk_alloc ?_ _)); exact BK314.out) k_ hk_), (Kd.freshB (g := gb321) (o := .cells #[.int .i64 t315, .int .i64 t316, .slice Ao42 t317.length co42] 28 (0, 0)) (by (with_reducible repeat (first | refine blk_drewN ?_ _ | refine blk_drew ?_ | refine blk_alloc ?_ _)); exact BK321.out) k_ hk_)⟩)) (below_size (by repeat (first | (with_reducible first | exact HB.out | apply below_alloc | apply pw_below_drewN | apply below_drew1 | refine below_set ?_ GE300.out | refine below_set ?_ GE307.out | refine below_set ?_ GE314.out | refine below_set ?_ GE321.out) | exact HB.out)))); have n6_ := Aside0.mk (blk_below (g := gb300) (o := .cells #[.int .i64 t294, .int .i64 t295, .slice Ao24 t296.length co24] 28 (0, 0)) (by (with_reducible repeat (first | refine blk_drewN ?_ _ | refine blk_drew ?_ | refine blk_alloc ?_ _)); exact BK300.out) hb); have n7_ := Aside0.mk (blk_below (g := gb307) (o := .cells #[.int .i64 t301, .int .i64 t302, .slice Ao29 t303.length co29] 28 (0, 0)) (by (with_reducible repeat (first | refine blk_drewN ?_ _ | refine blk_drew ?_ | refine blk_alloc ?_ _)); exact BK307.out) hb); have n8_ := Aside0.mk (blk_below (g := gb314) (o := .cells #[.int .i64 t308, .int .i64 t309, .slice Ao35 t310.length co35] 28 (0, 0)) (by (with_reducible repeat (first | refine blk_drewN ?_ _ | refine blk_drew ?_ | refine blk_alloc ?_ _)); exact BK314.out) hb); have n9_ := Aside0.mk (blk_below (g := gb321) (o := .cells #[.int .i64 t315, .int .i64 t316, .slice Ao42 t317.length co42] 28 (0, 0)) (by (with_reducible repeat (first | refine blk_drewN ?_ _ | refine blk_drew ?_ | refine blk_alloc ?_ _)); exact BK321.out) hb); have n10_ := Aside0.mk (below_step (by repeat (first | (with_reducible first | exact HB.out | apply below_alloc | apply pw_below_drewN | apply below_drew1 | refine below_set ?_ GE300.out | refine below_set ?_ GE307.out | refine below_set ?_ GE314.out | refine below_set ?_ GE321.out) | exact HB.out)) hb); clear HO_11; clear HO_301002; clear HO_308002; clear HO_315002; clear HO_322002; clear BK300; clear BK307; clear BK314; clear BK321; clear HB; have HO_11 := n0_; have HO_301002 := n1_; have HO_308002 := n2_; have HO_315002 := n3_; have HO_322002 := n4_; have HO336 := n5_; have BK300 := n6_; have BK307 := n7_; have BK314 := n8_; have BK321 := n9_; have HB := n10_; clear n0_ n1_ n2_ n3_ n4_ n5_ n6_ n7_ n8_ n9_ n10_; (try clear hb); (try clear hb2); (try clear hk); (try clear hi); (try clear ho0)) | ((with_reducible refine gate_dst (N := 22) rfl ?_); (try (refine gate_guard (by rfl) ?_; dsimp only)); refine box_event ?hg (N := 22) ?hd (cs := #[.int .i64 0, .int .i64 0, .slice none 0 0]) (t := 28) ?hr ?_; (case hd => rfl); (case hg => rfl); (case hr => first | (go_simp; done) | (go_simp; rfl)); intro gb338 hg w98 hbox hb; have n0_ := Aside0.mk (Kd.R_below (R_st <| HO_11.out) hb); have n1_ := Aside0.mk (Kd.V_below (Kd.V_elderB (V_st <| HO_301002.out) gb338 (Nat.le_of_eq hg.symm)) hb); have n2_ := Aside0.mk (Kd.V_below (Kd.V_elderB (V_st <| HO_308002.out) gb338 (Nat.le_of_eq hg.symm)) hb); have n3_ := Aside0.mk (Kd.V_below (Kd.V_elderB (V_st <| HO_315002.out) gb338 (Nat.le_of_eq hg.symm)) hb); have n4_ := Aside0.mk (Kd.V_below (Kd.V_elderB (V_st <| HO_322002.out) gb338 (Nat.le_of_eq hg.symm)) hb); have n5_ := Aside0.mk (Kd.V_below (Kd.V_elderB (V_st <| HO336.out) gb338 (Nat.le_of_eq hg.symm)) hb); have n6_ := Aside0.mk (blk_below (g := gb300) (o := .cells #[.int .i64 t294, .int .i64 t295, .slice Ao24 t296.length co24] 28 (0, 0)) (by (with_reducible repeat (first | refine blk_drewN ?_ _ | refine blk_drew ?_ | refine blk_alloc ?_ _)); exact BK300.out) hb); have n7_ := Aside0.mk (blk_below (g := gb307) (o := .cells #[.int .i64 t301, .int .i64 t302, .slice Ao29 t303.length co29] 28 (0, 0)) (by (with_reducible repeat (first | refine blk_drewN ?_ _ | refine blk_drew ?_ | refine blk_alloc ?_ _)); exact BK307.out) hb); have n8_ := Aside0.mk (blk_below (g := gb314) (o := .cells #[.int .i64 t308, .int .i64 t309, .slice Ao35 t310.length co35] 28 (0, 0)) (by (with_reducible repeat (first | refine blk_drewN ?_ _ | refine blk_drew ?_ | refine blk_alloc ?_ _)); exact BK314.out) hb); have n9_ := Aside0.mk (blk_below (g := gb321) (o := .cells #[.int .i64 t315, .int .i64 t316, .slice Ao42 t317.length co42] 28 (0, 0)) (by (with_reducible repeat (first | refine blk_drewN ?_ _ | refine blk_drew ?_ | refine blk_alloc ?_ _)); exact BK321.out) hb); have n10_ := Aside0.mk (below_step (by repeat (first | (with_reducible first | exact HB.out | apply below_alloc | apply pw_below_drewN | apply below_drew1 | refine below_set ?_ GE300.out | refine below_set ?_ GE307.out | refine below_set ?_ GE314.out | refine below_set ?_ GE321.out) | exact HB.out)) hb); have n11_ := Aside0.mk (hbox); have n12_ := Aside0.mk ((by rw [hg]; exact (below_size (by repeat (first | (with_reducible first | exact HB.out | apply below_alloc | apply pw_below_drewN | apply below_drew1 | refine below_set ?_ GE300.out | refine below_set ?_ GE307.out | refine below_set ?_ GE314.out | refine below_set ?_ GE321.out) | exact HB.out))) : w.heap.size ≤ gb338)); have n13_ := Aside0.mk ((by rw [hg]; exact (below_size (by repeat (first | (with_reducible first | exact HB.out | apply below_alloc | apply pw_below_drewN | apply below_drew1 | refine below_set ?_ GE300.out | refine below_set ?_ GE307.out | refine below_set ?_ GE314.out | refine below_set ?_ GE321.out) | exact HB.out))) : w.heap.size ≤ gb338)); have n14_ := Aside0.mk ((by rw [hg]; exact Nat.ne_of_lt (blk_lt (g := gb300) (o := .cells #[.int .i64 t294, .int .i64 t295, .slice Ao24 t296.length co24] 28 (0, 0)) (by (with_reducible repeat (first | refine blk_drewN ?_ _ | refine blk_drew ?_ | refine blk_alloc ?_ _)); exact BK300.out)) : gb300 ≠ gb338)); have n15_ := Aside0.mk ((by rw [hg]; exact Nat.ne_of_gt (blk_lt (g := gb300) (o := .cells #[.int .i64 t294, .int .i64 t295, .slice Ao24 t296.length co24] 28 (0, 0)) (by (with_reducible repeat (first | refine blk_drewN ?_ _ | refine blk_drew ?_ | refine blk_alloc ?_ _)); exact BK300.out)) : gb338 ≠ gb300)); have n16_ := Aside0.mk ((by rw [hg]; exact Nat.ne_of_lt (blk_lt (g := gb307) (o := .cells #[.int .i64 t301, .int .i64 t302, .slice Ao29 t303.length co29] 28 (0, 0)) (by (with_reducible repeat (first | refine blk_drewN ?_ _ | refine blk_drew ?_ | refine blk_alloc ?_ _)); exact BK307.out)) : gb307 ≠ gb338)); have n17_ := Aside0.mk ((by rw [hg]; exact Nat.ne_of_gt (blk_lt (g := gb307) (o := .cells #[.int .i64 t301, .int .i64 t302, .slice Ao29 t303.length co29] 28 (0, 0)) (by (with_reducible repeat (first | refine blk_drewN ?_ _ | refine blk_drew ?_ | refine blk_alloc ?_ _)); exact BK307.out)) : gb338 ≠ gb307)); have n18_ := Aside0.mk ((by rw [hg]; exact Nat.ne_of_lt (blk_lt (g := gb314) (o := .cells #[.int .i64 t308, .int .i64 t309, .slice Ao35 t310.length co35] 28 (0, 0)) (by (with_reducible repeat (first | refine blk_drewN ?_ _ | refine blk_drew ?_ | refine blk_alloc ?_ _)); exact BK314.out)) : gb314 ≠ gb338)); have n19_ := Aside0.mk ((by rw [hg]; exact Nat.ne_of_gt (blk_lt (g := gb314) (o := .cells #[.int .i64 t308, .int .i64 t309, .slice Ao35 t310.length co35] 28 (0, 0)) (by (with_reducible repeat (first | refine blk_drewN ?_ _ | refine blk_drew ?_ | refine blk_alloc ?_ _)); exact BK314.out)) : gb338 ≠ gb314)); have n20_ := Aside0.mk ((by rw [hg]; exact Nat.ne_of_lt (blk_lt (g := gb321) (o := .cells #[.int .i64 t315, .int .i64 t316, .slice Ao42 t317.length co42] 28 (0, 0)) (by (with_reducible repeat (first | refine blk_drewN ?_ _ | refine blk_drew ?_ | refine blk_alloc ?_ _)); exact BK321.out)) : gb321 ≠ gb338)); have n21_ := Aside0.mk ((by rw [hg]; exact Nat.ne_of_gt (blk_lt (g := gb321) (o := .cells #[.int .i64 t315, .int .i64 t316, .slice Ao42 t317.length co42] 28 (0, 0)) (by (with_reducible repeat (first | refine blk_drewN ?_ _ | refine blk_drew ?_ | refine blk_alloc ?_ _)); exact BK321.out)) : gb338 ≠ gb321)); clear HO_11; clear HO_301002; clear HO_308002; clear HO_315002; clear HO_322002; clear HO336; clear BK300; clear BK307; clear BK314; clear BK321; clear HB; have HO_11 := n0_; have HO_301002 := n1_; have HO_308002 := n2_; have HO_315002 := n3_; have HO_322002 := n4_; have HO336 := n5_; have BK300 := n6_; have BK307 := n7_; have BK314 := n8_; have BK321 := n9_; have HB := n10_; have BK338 := n11_; have GW338 := n12_; have GE338 := n13_; have NB300_338 := n14_; have NB338_300 := n15_; have NB307_338 := n16_; have NB338_307 := n17_; have NB314_338 := n18_; have NB338_314 := n19_; have NB321_338 := n20_; have NB338_321 := n21_; clear n0_ n1_ n2_ n3_ n4_ n5_ n6_ n7_ n8_ n9_ n10_ n11_ n12_ n13_ n14_ n15_ n16_ n17_ n18_ n19_ n20_ n21_; clear hb hbox hg; have hnb99 := NB338_300.out; have hnc99 := NB300_338.out; have hnb100 := NB338_307.out; have hnc100 := NB307_338.out; have hnb101 := NB338_314.out; have hnc101 := NB314_338.out; have hnb102 := NB338_321.out; have hnc102 := NB321_338.out; have hcz103_0 : w98.cell? ⟨gb338, 0, none⟩ = some (.int .i64 0) := (blk_cell BK338.out 0).trans rfl; have hcz103_1 : w98.cell? ⟨gb338, 1, none⟩ = some (.int .i64 0) := (blk_cell BK338.out 1).trans rfl; have hcz103_2 : w98.cell? ⟨gb338, 2, none⟩ = some (.slice none 0 0) := (blk_cell BK338.out 2).trans rfl; have hfz103_0 := blk_frozen BK338.out 0; have hfz103_1 := blk_frozen BK338.out 1; have hfz103_2 := blk_frozen BK338.out 2; obtain ⟨Ao104, co104, eo104⟩ := Kd.V_slice HO336.out; subst eo104))
     have n0_ : Aside0 (Kd.R (Kd.int .i64) 3 (((w98.setCell ⟨gb338, 0, none⟩ (.int .i64 t332)).setCell ⟨gb338, 1, none⟩ (.int .i64 t333)).setCell ⟨gb338, 2, none⟩ (.slice Ao104 t334.length co104)) w.heap.size (fun _ => True) (.slice Ao96 t291.length co96) t291) := ⟨by (with_reducible repeat (first | apply Kd.R_alloc | apply Kd.R_drewN | apply Kd.R_drew)); exact Kd.R_mono (Kd.R_far (p := ⟨gb338, 2, none⟩) (Kd.R_far (p := ⟨gb338, 1, none⟩) (Kd.R_far (p := ⟨gb338, 0, none⟩) (Kd.R_types HO_11.out BK338.out (by decide)) (fun _ hk => hk.2) (.int .i64 t332)) (fun _ hk => hk.2) (.int .i64 t333)) (fun _ hk => hk.2) (.slice Ao104 t334.length co104)) (fun _ hk => trivial)⟩
     have n1_ : Aside0 (Kd.V k28 28 (((w98.setCell ⟨gb338, 0, none⟩ (.int .i64 t332)).setCell ⟨gb338, 1, none⟩ (.int .i64 t333)).setCell ⟨gb338, 2, none⟩ (.slice Ao104 t334.length co104)) w.heap.size (fun k_ => some k_ ≠ (.slice Ao96 t291.length co96 : Value).ownBlock ∧ k_ ≠ gb300 ∧ k_ ≠ gb307 ∧ k_ ≠ gb314 ∧ k_ ≠ gb321 ∧ k_ ≠ gb338) (.slice Ao24 t296.length co24) t296) := ⟨by (with_reducible repeat (first | apply Kd.V_alloc | apply Kd.V_drewN | apply Kd.V_drew)); exact Kd.V_mono (Kd.V_far (p := ⟨gb338, 2, none⟩) (Kd.V_far (p := ⟨gb338, 1, none⟩) (Kd.V_far (p := ⟨gb338, 0, none⟩) (Kd.V_mono HO_301002.out (fun k_ hk => (⟨hk, hk.2⟩ : _ ∧ k_ ≠ gb338))) (fun _ hk => hk.2) (.int .i64 t332)) (fun _ hk => hk.2) (.int .i64 t333)) (fun _ hk => hk.2) (.slice Ao104 t334.length co104)) (fun _ hk => ⟨hk.1.1.1, ⟨hk.1.1.2.1, ⟨hk.1.1.2.2.1, ⟨hk.1.1.2.2.2.1, ⟨hk.1.1.2.2.2.2, hk.1.2⟩⟩⟩⟩⟩)⟩
     have n2_ : Aside0 (Kd.V k28 28 (((w98.setCell ⟨gb338, 0, none⟩ (.int .i64 t332)).setCell ⟨gb338, 1, none⟩ (.int .i64 t333)).setCell ⟨gb338, 2, none⟩ (.slice Ao104 t334.length co104)) w.heap.size (fun k_ => some k_ ≠ (.slice Ao96 t291.length co96 : Value).ownBlock ∧ k_ ≠ gb300 ∧ k_ ≠ gb307 ∧ k_ ≠ gb314 ∧ k_ ≠ gb321 ∧ k_ ≠ gb338) (.slice Ao29 t303.length co29) t303) := ⟨by (with_reducible repeat (first | apply Kd.V_alloc | apply Kd.V_drewN | apply Kd.V_drew)); exact Kd.V_mono (Kd.V_far (p := ⟨gb338, 2, none⟩) (Kd.V_far (p := ⟨gb338, 1, none⟩) (Kd.V_far (p := ⟨gb338, 0, none⟩) (Kd.V_mono HO_308002.out (fun k_ hk => (⟨hk, hk.2⟩ : _ ∧ k_ ≠ gb338))) (fun _ hk => hk.2) (.int .i64 t332)) (fun _ hk => hk.2) (.int .i64 t333)) (fun _ hk => hk.2) (.slice Ao104 t334.length co104)) (fun _ hk => ⟨hk.1.1.1, ⟨hk.1.1.2.1, ⟨hk.1.1.2.2.1, ⟨hk.1.1.2.2.2.1, ⟨hk.1.1.2.2.2.2, hk.1.2⟩⟩⟩⟩⟩)⟩
     have n3_ : Aside0 (Kd.V k28 28 (((w98.setCell ⟨gb338, 0, none⟩ (.int .i64 t332)).setCell ⟨gb338, 1, none⟩ (.int .i64 t333)).setCell ⟨gb338, 2, none⟩ (.slice Ao104 t334.length co104)) w.heap.size (fun k_ => some k_ ≠ (.slice Ao96 t291.length co96 : Value).ownBlock ∧ k_ ≠ gb300 ∧ k_ ≠ gb307 ∧ k_ ≠ gb314 ∧ k_ ≠ gb321 ∧ k_ ≠ gb338) (.slice Ao35 t310.length co35) t310) := ⟨by (with_reducible repeat (first | apply Kd.V_alloc | apply Kd.V_drewN | apply Kd.V_drew)); exact Kd.V_mono (Kd.V_far (p := ⟨gb338, 2, none⟩) (Kd.V_far (p := ⟨gb338, 1, none⟩) (Kd.V_far (p := ⟨gb338, 0, none⟩) (Kd.V_mono HO_315002.out (fun k_ hk => (⟨hk, hk.2⟩ : _ ∧ k_ ≠ gb338))) (fun _ hk => hk.2) (.int .i64 t332)) (fun _ hk => hk.2) (.int .i64 t333)) (fun _ hk => hk.2) (.slice Ao104 t334.length co104)) (fun _ hk => ⟨hk.1.1.1, ⟨hk.1.1.2.1, ⟨hk.1.1.2.2.1, ⟨hk.1.1.2.2.2.1, ⟨hk.1.1.2.2.2.2, hk.1.2⟩⟩⟩⟩⟩)⟩
     have n4_ : Aside0 (Kd.V k28 28 (((w98.setCell ⟨gb338, 0, none⟩ (.int .i64 t332)).setCell ⟨gb338, 1, none⟩ (.int .i64 t333)).setCell ⟨gb338, 2, none⟩ (.slice Ao104 t334.length co104)) w.heap.size (fun k_ => some k_ ≠ (.slice Ao96 t291.length co96 : Value).ownBlock ∧ k_ ≠ gb300 ∧ k_ ≠ gb307 ∧ k_ ≠ gb314 ∧ k_ ≠ gb321 ∧ k_ ≠ gb338) (.slice Ao42 t317.length co42) t317) := ⟨by (with_reducible repeat (first | apply Kd.V_alloc | apply Kd.V_drewN | apply Kd.V_drew)); exact Kd.V_mono (Kd.V_far (p := ⟨gb338, 2, none⟩) (Kd.V_far (p := ⟨gb338, 1, none⟩) (Kd.V_far (p := ⟨gb338, 0, none⟩) (Kd.V_mono HO_322002.out (fun k_ hk => (⟨hk, hk.2⟩ : _ ∧ k_ ≠ gb338))) (fun _ hk => hk.2) (.int .i64 t332)) (fun _ hk => hk.2) (.int .i64 t333)) (fun _ hk => hk.2) (.slice Ao104 t334.length co104)) (fun _ hk => ⟨hk.1.1.1, ⟨hk.1.1.2.1, ⟨hk.1.1.2.2.1, ⟨hk.1.1.2.2.2.1, ⟨hk.1.1.2.2.2.2, hk.1.2⟩⟩⟩⟩⟩)⟩
     have n5_ : Aside0 (Kd.V k28 28 (((w98.setCell ⟨gb338, 0, none⟩ (.int .i64 t332)).setCell ⟨gb338, 1, none⟩ (.int .i64 t333)).setCell ⟨gb338, 2, none⟩ (.slice Ao104 t334.length co104)) w.heap.size (fun k_ => some k_ ≠ (.slice Ao96 t291.length co96 : Value).ownBlock ∧ k_ ≠ gb300 ∧ k_ ≠ gb307 ∧ k_ ≠ gb314 ∧ k_ ≠ gb321 ∧ k_ ≠ gb338) (.slice Ao104 t334.length co104) t334) := ⟨by (with_reducible repeat (first | apply Kd.V_alloc | apply Kd.V_drewN | apply Kd.V_drew)); exact Kd.V_mono (Kd.V_far (p := ⟨gb338, 2, none⟩) (Kd.V_far (p := ⟨gb338, 1, none⟩) (Kd.V_far (p := ⟨gb338, 0, none⟩) (Kd.V_mono HO336.out (fun k_ hk => (⟨hk, hk.2⟩ : _ ∧ k_ ≠ gb338))) (fun _ hk => hk.2) (.int .i64 t332)) (fun _ hk => hk.2) (.int .i64 t333)) (fun _ hk => hk.2) (.slice Ao104 t334.length co104)) (fun _ hk => ⟨hk.1.1.1, ⟨hk.1.1.2.1, ⟨hk.1.1.2.2.1, ⟨hk.1.1.2.2.2.1, ⟨hk.1.1.2.2.2.2, hk.1.2⟩⟩⟩⟩⟩)⟩
     have n6_ : Aside0 ((((w98.setCell ⟨gb338, 0, none⟩ (.int .i64 t332)).setCell ⟨gb338, 1, none⟩ (.int .i64 t333)).setCell ⟨gb338, 2, none⟩ (.slice Ao104 t334.length co104)).heap[gb300]? = some (.cells #[.int .i64 t294, .int .i64 t295, .slice Ao24 t296.length co24] 28 (0, 0))) := ⟨by (with_reducible repeat (first | refine blk_drewN ?_ _ | refine blk_drew ?_ | refine blk_alloc ?_ _)); refine blk_far ?_ NB300_338.out _; (with_reducible repeat (first | refine blk_drewN ?_ _ | refine blk_drew ?_ | refine blk_alloc ?_ _)); refine blk_far ?_ NB300_338.out _; (with_reducible repeat (first | refine blk_drewN ?_ _ | refine blk_drew ?_ | refine blk_alloc ?_ _)); refine blk_far ?_ NB300_338.out _; (with_reducible repeat (first | refine blk_drewN ?_ _ | refine blk_drew ?_ | refine blk_alloc ?_ _)); exact BK300.out⟩
     have n7_ : Aside0 ((((w98.setCell ⟨gb338, 0, none⟩ (.int .i64 t332)).setCell ⟨gb338, 1, none⟩ (.int .i64 t333)).setCell ⟨gb338, 2, none⟩ (.slice Ao104 t334.length co104)).heap[gb307]? = some (.cells #[.int .i64 t301, .int .i64 t302, .slice Ao29 t303.length co29] 28 (0, 0))) := ⟨by (with_reducible repeat (first | refine blk_drewN ?_ _ | refine blk_drew ?_ | refine blk_alloc ?_ _)); refine blk_far ?_ NB307_338.out _; (with_reducible repeat (first | refine blk_drewN ?_ _ | refine blk_drew ?_ | refine blk_alloc ?_ _)); refine blk_far ?_ NB307_338.out _; (with_reducible repeat (first | refine blk_drewN ?_ _ | refine blk_drew ?_ | refine blk_alloc ?_ _)); refine blk_far ?_ NB307_338.out _; (with_reducible repeat (first | refine blk_drewN ?_ _ | refine blk_drew ?_ | refine blk_alloc ?_ _)); exact BK307.out⟩
     have n8_ : Aside0 ((((w98.setCell ⟨gb338, 0, none⟩ (.int .i64 t332)).setCell ⟨gb338, 1, none⟩ (.int .i64 t333)).setCell ⟨gb338, 2, none⟩ (.slice Ao104 t334.length co104)).heap[gb314]? = some (.cells #[.int .i64 t308, .int .i64 t309, .slice Ao35 t310.length co35] 28 (0, 0))) := ⟨by (with_reducible repeat (first | refine blk_drewN ?_ _ | refine blk_drew ?_ | refine blk_alloc ?_ _)); refine blk_far ?_ NB314_338.out _; (with_reducible repeat (first | refine blk_drewN ?_ _ | refine blk_drew ?_ | refine blk_alloc ?_ _)); refine blk_far ?_ NB314_338.out _; (with_reducible repeat (first | refine blk_drewN ?_ _ | refine blk_drew ?_ | refine blk_alloc ?_ _)); refine blk_far ?_ NB314_338.out _; (with_reducible repeat (first | refine blk_drewN ?_ _ | refine blk_drew ?_ | refine blk_alloc ?_ _)); exact BK314.out⟩
     have n9_ : Aside0 ((((w98.setCell ⟨gb338, 0, none⟩ (.int .i64 t332)).setCell ⟨gb338, 1, none⟩ (.int .i64 t333)).setCell ⟨gb338, 2, none⟩ (.slice Ao104 t334.length co104)).heap[gb321]? = some (.cells #[.int .i64 t315, .int .i64 t316, .slice Ao42 t317.length co42] 28 (0, 0))) := ⟨by (with_reducible repeat (first | refine blk_drewN ?_ _ | refine blk_drew ?_ | refine blk_alloc ?_ _)); refine blk_far ?_ NB321_338.out _; (with_reducible repeat (first | refine blk_drewN ?_ _ | refine blk_drew ?_ | refine blk_alloc ?_ _)); refine blk_far ?_ NB321_338.out _; (with_reducible repeat (first | refine blk_drewN ?_ _ | refine blk_drew ?_ | refine blk_alloc ?_ _)); refine blk_far ?_ NB321_338.out _; (with_reducible repeat (first | refine blk_drewN ?_ _ | refine blk_drew ?_ | refine blk_alloc ?_ _)); exact BK321.out⟩
     have n10_ : Aside0 ((((w98.setCell ⟨gb338, 0, none⟩ (.int .i64 t332)).setCell ⟨gb338, 1, none⟩ (.int .i64 t333)).setCell ⟨gb338, 2, none⟩ (.slice Ao104 t334.length co104)).heap[gb338]? = some (.cells #[.int .i64 t332, .int .i64 t333, .slice Ao104 t334.length co104] 28 (0, 0))) := ⟨by (with_reducible repeat (first | refine blk_drewN ?_ _ | refine blk_drew ?_ | refine blk_alloc ?_ _)); refine blk_put (cs := #[.int .i64 t332, .int .i64 t333, .slice none 0 0]) ?_ 2 _ rfl; (with_reducible repeat (first | refine blk_drewN ?_ _ | refine blk_drew ?_ | refine blk_alloc ?_ _)); refine blk_put (cs := #[.int .i64 t332, .int .i64 0, .slice none 0 0]) ?_ 1 _ rfl; (with_reducible repeat (first | refine blk_drewN ?_ _ | refine blk_drew ?_ | refine blk_alloc ?_ _)); refine blk_put (cs := #[.int .i64 0, .int .i64 0, .slice none 0 0]) ?_ 0 _ rfl; (with_reducible repeat (first | refine blk_drewN ?_ _ | refine blk_drew ?_ | refine blk_alloc ?_ _)); exact BK338.out⟩
     have n11_ : Aside0 (Below w.heap.size w (((w98.setCell ⟨gb338, 0, none⟩ (.int .i64 t332)).setCell ⟨gb338, 1, none⟩ (.int .i64 t333)).setCell ⟨gb338, 2, none⟩ (.slice Ao104 t334.length co104))) := ⟨by repeat (first | (with_reducible first | exact HB.out | apply below_alloc | apply pw_below_drewN | apply below_drew1 | refine below_set ?_ GE300.out | refine below_set ?_ GE307.out | refine below_set ?_ GE314.out | refine below_set ?_ GE321.out | refine below_set ?_ GE338.out) | exact HB.out)⟩
     (try clear HO_11)
     (try clear HO_301002)
     (try clear HO_308002)
     (try clear HO_315002)
     (try clear HO_322002)
     (try clear HO336)
     (try clear BK300)
     (try clear BK307)
     (try clear BK314)
     (try clear BK321)
     (try clear BK338)
     (try clear HB)
     generalize (((w98.setCell ⟨gb338, 0, none⟩ (.int .i64 t332)).setCell ⟨gb338, 1, none⟩ (.int .i64 t333)).setCell ⟨gb338, 2, none⟩ (.slice Ao104 t334.length co104)) = w105 at n0_ n1_ n2_ n3_ n4_ n5_ n6_ n7_ n8_ n9_ n10_ n11_ ⊢
     have HO_11 := n0_
     have HO_301002 := n1_
     have HO_308002 := n2_
     have HO_315002 := n3_
     have HO_322002 := n4_
     have HO336 := n5_
     have BK300 := n6_
     have BK307 := n7_
     have BK314 := n8_
     have BK321 := n9_
     have BK338 := n10_
     have HB := n11_
     clear n0_ n1_ n2_ n3_ n4_ n5_ n6_ n7_ n8_ n9_ n10_ n11_
     have n0_ := Aside0.mk (Kd.R_drew HO_11.out)
     have n1_ := Aside0.mk (Kd.V_drew HO_301002.out)
     have n2_ := Aside0.mk (Kd.V_drew HO_308002.out)
     have n3_ := Aside0.mk (Kd.V_drew HO_315002.out)
     have n4_ := Aside0.mk (Kd.V_drew HO_322002.out)
     have n5_ := Aside0.mk (Kd.V_drew HO336.out)
     have n6_ := Aside0.mk (blk_drew BK300.out)
     have n7_ := Aside0.mk (blk_drew BK307.out)
     have n8_ := Aside0.mk (blk_drew BK314.out)
     have n9_ := Aside0.mk (blk_drew BK321.out)
     have n10_ := Aside0.mk (blk_drew BK338.out)
     have n11_ := Aside0.mk (below_drew1 HB.out)
     clear HO_11
     clear HO_301002
     clear HO_308002
     clear HO_315002
     clear HO_322002
     clear HO336
     clear BK300
     clear BK307
     clear BK314
     clear BK321
     clear BK338
     clear HB
     have HO_11 := n0_
     have HO_301002 := n1_
     have HO_308002 := n2_
     have HO_315002 := n3_
     have HO_322002 := n4_
     have HO336 := n5_
     have BK300 := n6_
     have BK307 := n7_
     have BK314 := n8_
     have BK321 := n9_
     have BK338 := n10_
     have HB := n11_
     clear n0_ n1_ n2_ n3_ n4_ n5_ n6_ n7_ n8_ n9_ n10_ n11_
     refine start_ (n := 28) (S := fun w' => w'.cell? ⟨gb338, 0, none⟩ = some (.int .i64 t332) ∧ w'.cell? ⟨gb338, 1, none⟩ = some (.int .i64 t333) ∧ w'.cell? ⟨gb338, 2, none⟩ = some (.slice Ao104 t334.length co104) ∧ w'.cell? ⟨gb314, 0, none⟩ = some (.int .i64 t308) ∧ w'.cell? ⟨gb314, 1, none⟩ = some (.int .i64 t309) ∧ w'.cell? ⟨gb314, 2, none⟩ = some (.slice Ao35 t310.length co35) ∧ w'.cell? ⟨gb321, 0, none⟩ = some (.int .i64 t315) ∧ w'.cell? ⟨gb321, 1, none⟩ = some (.int .i64 t316) ∧ w'.cell? ⟨gb321, 2, none⟩ = some (.slice Ao42 t317.length co42) ∧ w'.cell? ⟨gb300, 0, none⟩ = some (.int .i64 t294) ∧ w'.cell? ⟨gb300, 1, none⟩ = some (.int .i64 t295) ∧ w'.cell? ⟨gb300, 2, none⟩ = some (.slice Ao24 t296.length co24) ∧ w'.cell? ⟨gb307, 0, none⟩ = some (.int .i64 t301) ∧ w'.cell? ⟨gb307, 1, none⟩ = some (.int .i64 t302) ∧ w'.cell? ⟨gb307, 2, none⟩ = some (.slice Ao29 t303.length co29)) (ds := []) b_23 (by kernel_rfl) rfl rfl ⟨(blk_cell BK338.out 0).trans rfl, (blk_cell BK338.out 1).trans rfl, (blk_cell BK338.out 2).trans rfl, (blk_cell BK314.out 0).trans rfl, (blk_cell BK314.out 1).trans rfl, (blk_cell BK314.out 2).trans rfl, (blk_cell BK321.out 0).trans rfl, (blk_cell BK321.out 1).trans rfl, (blk_cell BK321.out 2).trans rfl, (blk_cell BK300.out 0).trans rfl, (blk_cell BK300.out 1).trans rfl, (blk_cell BK300.out 2).trans rfl, (blk_cell BK307.out 0).trans rfl, (blk_cell BK307.out 1).trans rfl, (blk_cell BK307.out 2).trans rfl⟩ (fun hHeld => ?_); refine with_tabW bobbinetkeep_ExprParts.tab16 bobbinetkeep_ExprParts.bits16 (fun HT_ HW_ => ?_)
     generalize w105.drew = w106 at HO_11 HO_301002 HO_308002 HO_315002 HO_322002 HO336 BK300 BK307 BK314 BK321 BK338 HB hHeld ⊢
     refine pure_ (i := 0) (N := some 103) (v := ?_) (a' := ?_) b_24 rfl rfl (any_of HT_.out (by kernel_rfl)) (fun _ _ _ h => h) (Or.inl ⟨by rfl, ?_⟩) ?_ ?_
     rotate_left
     ·
      intro w'
      go_simp
      with_reducible rfl
     rotate_left
     ·
      simp only [Act.put, List.setIfInBounds_toArray, List.set_cons_zero, List.set_cons_succ, i64_w, i32_w]
      rfl
     refine pure_ (i := 1) (N := some 104) (v := ?_) (a' := ?_) b_25 rfl rfl (any_of HT_.out (by kernel_rfl)) (fun _ _ _ h => h) (Or.inl ⟨by rfl, ?_⟩) ?_ ?_
     rotate_left
     ·
      intro w'
      go_simp
      with_reducible rfl
     rotate_left
     ·
      simp only [Act.put, List.setIfInBounds_toArray, List.set_cons_zero, List.set_cons_succ, i64_w, i32_w]
      rfl
     refine take_ (i := 2) (N := some 105) (v := ?_) (a' := ?_) b_26 rfl rfl (take_ofW HT_.out HW_.out (by kernel_rfl)) (fun _ _ _ h => h) (Or.inl ⟨by rfl, ?_⟩) hHeld ?_ ?_
     rotate_left
     ·
      rintro w' ⟨s0, s1, s2, s3, s4, s5, s6, s7, s8, s9, s10, s11, s12, s13, s14⟩
      go_simp
      with_reducible rfl
     rotate_left
     ·
      simp only [Act.put, List.setIfInBounds_toArray, List.set_cons_zero, List.set_cons_succ, i64_w, i32_w]
      rfl
     refine one_ (i := 3) (N := some 106) b_27 rfl rfl (one_of HT_.out (by kernel_rfl)) (by decide) (fun K hK => ?_)
     refine Kd.R_lit_step (Kd.int .i64) _ 3 ?hg (N := 106) ?hd (xs := ([0] : List Int)) (inner := [.int .i64 0]) (ok := fun _ => True) (okp := fun _ => True) ?hr ?hp (fun _ hk => hk) trivial (Below.refl _ _) (Nat.le_refl _) (by simp) ?_; (case hd => rfl); (case hg => rfl); (case hr => first | (go_simp; done) | (go_simp; rfl)); (case hp => exact (Reps.one (show Kd.M (Kd.int .i64) _ _ _ 0 [.int .i64 0] from rfl) (Reps.none _ _)))
     intro v340 w107 ho108 hb hg_ hnew_
     clear hg_ hnew_
     (first | rw [← Ny339.out] at ho108 | (simp only [Int.reduceToNat] at ho108; rw [← Ny339.out] at ho108))
     have n0_ := Aside0.mk (Kd.R_elder' (R_st <| HO_11.out) (Kd.R_base ho108) hb)
     have n1_ := Aside0.mk (Kd.V_elder' (V_st <| HO_301002.out) (Kd.R_base ho108) hb)
     have n2_ := Aside0.mk (Kd.V_elder' (V_st <| HO_308002.out) (Kd.R_base ho108) hb)
     have n3_ := Aside0.mk (Kd.V_elder' (V_st <| HO_315002.out) (Kd.R_base ho108) hb)
     have n4_ := Aside0.mk (Kd.V_elder' (V_st <| HO_322002.out) (Kd.R_base ho108) hb)
     have n5_ := Aside0.mk (Kd.V_elder' (V_st <| HO336.out) (Kd.R_base ho108) hb)
     have n6_ := Aside0.mk (Kd.R_lower (Kd.R_new' ho108 (Kd.R_lt (R_st <| HO_11.out))) (below_size (by repeat (first | (with_reducible first | exact HB.out | apply below_alloc | apply pw_below_drewN | apply below_drew1 | refine below_set ?_ GE300.out | refine below_set ?_ GE307.out | refine below_set ?_ GE314.out | refine below_set ?_ GE321.out | refine below_set ?_ GE338.out) | exact HB.out))))
     have n7_ := Aside0.mk (blk_below (g := gb300) (o := .cells #[.int .i64 t294, .int .i64 t295, .slice Ao24 t296.length co24] 28 (0, 0)) (by (with_reducible repeat (first | refine blk_drewN ?_ _ | refine blk_drew ?_ | refine blk_alloc ?_ _)); exact BK300.out) hb)
     have n8_ := Aside0.mk (blk_below (g := gb307) (o := .cells #[.int .i64 t301, .int .i64 t302, .slice Ao29 t303.length co29] 28 (0, 0)) (by (with_reducible repeat (first | refine blk_drewN ?_ _ | refine blk_drew ?_ | refine blk_alloc ?_ _)); exact BK307.out) hb)
     have n9_ := Aside0.mk (blk_below (g := gb314) (o := .cells #[.int .i64 t308, .int .i64 t309, .slice Ao35 t310.length co35] 28 (0, 0)) (by (with_reducible repeat (first | refine blk_drewN ?_ _ | refine blk_drew ?_ | refine blk_alloc ?_ _)); exact BK314.out) hb)
     have n10_ := Aside0.mk (blk_below (g := gb321) (o := .cells #[.int .i64 t315, .int .i64 t316, .slice Ao42 t317.length co42] 28 (0, 0)) (by (with_reducible repeat (first | refine blk_drewN ?_ _ | refine blk_drew ?_ | refine blk_alloc ?_ _)); exact BK321.out) hb)
     have n11_ := Aside0.mk (blk_below (g := gb338) (o := .cells #[.int .i64 t332, .int .i64 t333, .slice Ao104 t334.length co104] 28 (0, 0)) (by (with_reducible repeat (first | refine blk_drewN ?_ _ | refine blk_drew ?_ | refine blk_alloc ?_ _)); exact BK338.out) hb)
     have n12_ := Aside0.mk (below_step (by repeat (first | (with_reducible first | exact HB.out | apply below_alloc | apply pw_below_drewN | apply below_drew1 | refine below_set ?_ GE300.out | refine below_set ?_ GE307.out | refine below_set ?_ GE314.out | refine below_set ?_ GE321.out | refine below_set ?_ GE338.out) | exact HB.out)) hb)
     clear HO_11
     clear HO_301002
     clear HO_308002
     clear HO_315002
     clear HO_322002
     clear HO336
     clear BK300
     clear BK307
     clear BK314
     clear BK321
     clear BK338
     clear HB
     have HO_11 := n0_
     have HO_301002 := n1_
     have HO_308002 := n2_
     have HO_315002 := n3_
     have HO_322002 := n4_
     have HO336 := n5_
     have HO341 := n6_
     have BK300 := n7_
     have BK307 := n8_
     have BK314 := n9_
     have BK321 := n10_
     have BK338 := n11_
     have HB := n12_
     clear n0_ n1_ n2_ n3_ n4_ n5_ n6_ n7_ n8_ n9_ n10_ n11_ n12_
     clear hb ho108
     obtain ⟨Ao109, co109, eo109⟩ := Kd.R_slice HO341.out
     (first | subst eo109 | (injection eo109 with f1_ f2_ f3_; have f4_ := f1_.symm; have f5_ := f3_.symm; clear f1_ f2_ f3_; subst f4_; subst f5_))
     refine hK.out _ _ ⟨(blk_cell BK338.out 0).trans rfl, (blk_cell BK338.out 1).trans rfl, (blk_cell BK338.out 2).trans rfl, (blk_cell BK314.out 0).trans rfl, (blk_cell BK314.out 1).trans rfl, (blk_cell BK314.out 2).trans rfl, (blk_cell BK321.out 0).trans rfl, (blk_cell BK321.out 1).trans rfl, (blk_cell BK321.out 2).trans rfl, (blk_cell BK300.out 0).trans rfl, (blk_cell BK300.out 1).trans rfl, (blk_cell BK300.out 2).trans rfl, (blk_cell BK307.out 0).trans rfl, (blk_cell BK307.out 1).trans rfl, (blk_cell BK307.out 2).trans rfl⟩ (fun hHeld => ?_)
     clear hK K
     refine norm_ (a' := ?_) ?_ ?_
     rotate_left
     ·
      show Act.put _ (some 106) _ = _
      simp only [Act.put, List.setIfInBounds_toArray, List.set_cons_zero, List.set_cons_succ, i64_w, i32_w]
      rfl
     refine one_ (i := 4) (N := some 107) b_28 rfl rfl (one_of HT_.out (by kernel_rfl)) (by decide) (fun K hK => ?_)
     refine goes_ Try.func16 (by kernel_rfl) rfl #[.agg #[.int .i64 t332, .int .i64 t333, .slice Ao104 t334.length co104], .slice Ao109 y339.length co109] (by rfl) rfl rfl (by (try simp only [List.map_toArray, List.map_cons, List.map_nil]); first | done | rfl | (simp only [List.length_drop, List.length_take]; rfl)) ?_
     with_reducible refine (bobbinetkeep_matches.calls k2 t332 t333 _ _ t334 _ _ y339 true _ ?side1 ?side2 ?side3 ?side4 A70.out).mono ?_
     (case side1 => repeat (first | exact (Kd.V_reads' HO336.out).2.2 | (with_reducible refine Kd.C_alloc ?_ _) | (with_reducible refine Kd.C_drewN ?_ _) | (with_reducible refine Kd.C_drew ?_)))
     (case side2 => exact (Kd.V_reads' HO336.out).2.1)
     (case side3 => repeat (first | exact (Kd.R_reads' HO341.out).2.2 | (with_reducible refine Kd.C_alloc ?_ _) | (with_reducible refine Kd.C_drewN ?_ _) | (with_reducible refine Kd.C_drew ?_)))
     (case side4 => exact (Kd.R_reads' HO341.out).2.1)
     rintro e w110 ⟨rfl, hb⟩
     refine ⟨_, rfl, ?_⟩
     have n0_ := Aside0.mk (Kd.R_below (R_st <| HO_11.out) hb)
     have n1_ := Aside0.mk (Kd.V_below (V_st <| HO_301002.out) hb)
     have n2_ := Aside0.mk (Kd.V_below (V_st <| HO_308002.out) hb)
     have n3_ := Aside0.mk (Kd.V_below (V_st <| HO_315002.out) hb)
     have n4_ := Aside0.mk (Kd.V_below (V_st <| HO_322002.out) hb)
     have n5_ := Aside0.mk (Kd.V_below (V_st <| HO336.out) hb)
     have n6_ := Aside0.mk (Kd.R_below (R_st <| HO341.out) hb)
     have n7_ := Aside0.mk (blk_below (g := gb300) (o := .cells #[.int .i64 t294, .int .i64 t295, .slice Ao24 t296.length co24] 28 (0, 0)) (by (with_reducible repeat (first | refine blk_drewN ?_ _ | refine blk_drew ?_ | refine blk_alloc ?_ _)); exact BK300.out) hb)
     have n8_ := Aside0.mk (blk_below (g := gb307) (o := .cells #[.int .i64 t301, .int .i64 t302, .slice Ao29 t303.length co29] 28 (0, 0)) (by (with_reducible repeat (first | refine blk_drewN ?_ _ | refine blk_drew ?_ | refine blk_alloc ?_ _)); exact BK307.out) hb)
     have n9_ := Aside0.mk (blk_below (g := gb314) (o := .cells #[.int .i64 t308, .int .i64 t309, .slice Ao35 t310.length co35] 28 (0, 0)) (by (with_reducible repeat (first | refine blk_drewN ?_ _ | refine blk_drew ?_ | refine blk_alloc ?_ _)); exact BK314.out) hb)
     have n10_ := Aside0.mk (blk_below (g := gb321) (o := .cells #[.int .i64 t315, .int .i64 t316, .slice Ao42 t317.length co42] 28 (0, 0)) (by (with_reducible repeat (first | refine blk_drewN ?_ _ | refine blk_drew ?_ | refine blk_alloc ?_ _)); exact BK321.out) hb)
     have n11_ := Aside0.mk (blk_below (g := gb338) (o := .cells #[.int .i64 t332, .int .i64 t333, .slice Ao104 t334.length co104] 28 (0, 0)) (by (with_reducible repeat (first | refine blk_drewN ?_ _ | refine blk_drew ?_ | refine blk_alloc ?_ _)); exact BK338.out) hb)
     have n12_ := Aside0.mk (below_step (by repeat (first | (with_reducible first | exact HB.out | apply below_alloc | apply pw_below_drewN | apply below_drew1 | refine below_set ?_ GE300.out | refine below_set ?_ GE307.out | refine below_set ?_ GE314.out | refine below_set ?_ GE321.out | refine below_set ?_ GE338.out) | exact HB.out)) hb)
     clear HO_11
     clear HO_301002
     clear HO_308002
     clear HO_315002
     clear HO_322002
     clear HO336
     clear HO341
     clear BK300
     clear BK307
     clear BK314
     clear BK321
     clear BK338
     clear HB
     have HO_11 := n0_
     have HO_301002 := n1_
     have HO_308002 := n2_
     have HO_315002 := n3_
     have HO_322002 := n4_
     have HO336 := n5_
     have HO341 := n6_
     have BK300 := n7_
     have BK307 := n8_
     have BK314 := n9_
     have BK321 := n10_
     have BK338 := n11_
     have HB := n12_
     clear n0_ n1_ n2_ n3_ n4_ n5_ n6_ n7_ n8_ n9_ n10_ n11_ n12_
     (try clear hb)
     (try clear hb2)
     (try clear hk)
     (try clear hi)
     refine hK.out _ _ ⟨(blk_cell BK338.out 0).trans rfl, (blk_cell BK338.out 1).trans rfl, (blk_cell BK338.out 2).trans rfl, (blk_cell BK314.out 0).trans rfl, (blk_cell BK314.out 1).trans rfl, (blk_cell BK314.out 2).trans rfl, (blk_cell BK321.out 0).trans rfl, (blk_cell BK321.out 1).trans rfl, (blk_cell BK321.out 2).trans rfl, (blk_cell BK300.out 0).trans rfl, (blk_cell BK300.out 1).trans rfl, (blk_cell BK300.out 2).trans rfl, (blk_cell BK307.out 0).trans rfl, (blk_cell BK307.out 1).trans rfl, (blk_cell BK307.out 2).trans rfl⟩ (fun hHeld => ?_)
     clear hK K
     refine norm_ (a' := ?_) ?_ ?_
     rotate_left
     ·
      show Act.put _ (some 107) _ = _
      simp only [Act.put, List.setIfInBounds_toArray, List.set_cons_zero, List.set_cons_succ, i64_w, i32_w]
      rfl
     refine pure_ (i := 5) (N := some 108) (v := ?_) (a' := ?_) b_29 rfl rfl (any_of HT_.out (by kernel_rfl)) (fun _ _ _ h => h) (Or.inl ⟨by rfl, ?_⟩) ?_ ?_
     rotate_left
     ·
      intro w'
      go_simp
      with_reducible rfl
     rotate_left
     ·
      simp only [Act.put, List.setIfInBounds_toArray, List.set_cons_zero, List.set_cons_succ, i64_w, i32_w]
      rfl
     refine pure_ (i := 6) (N := some 109) (v := ?_) (a' := ?_) b_30 rfl rfl (any_of HT_.out (by kernel_rfl)) (fun _ _ _ h => h) (Or.inl ⟨by rfl, ?_⟩) ?_ ?_
     rotate_left
     ·
      intro w'
      go_simp
      with_reducible rfl
     rotate_left
     ·
      simp only [Act.put, List.setIfInBounds_toArray, List.set_cons_zero, List.set_cons_succ, i64_w, i32_w]
      rfl
     refine pure_ (i := 8) (N := some 111) (v := ?_) (a' := ?_) b_31 rfl rfl (any_of HT_.out (by kernel_rfl)) (fun _ _ _ h => h) (Or.inl ⟨by rfl, ?_⟩) ?_ ?_
     rotate_left
     ·
      intro w'
      go_simp
      with_reducible rfl
     rotate_left
     ·
      simp only [Act.put, List.setIfInBounds_toArray, List.set_cons_zero, List.set_cons_succ, i64_w, i32_w]
      rfl
     refine pure_ (i := 10) (N := some 113) (v := ?_) (a' := ?_) b_32 rfl rfl (any_of HT_.out (by kernel_rfl)) (fun _ _ _ h => h) (Or.inl ⟨by rfl, ?_⟩) ?_ ?_
     rotate_left
     ·
      intro w'
      go_simp
      with_reducible rfl
     rotate_left
     ·
      simp only [Act.put, List.setIfInBounds_toArray, List.set_cons_zero, List.set_cons_succ, i64_w, i32_w]
      rfl
     refine take_ (i := 7) (N := some 110) (v := ?_) (a' := ?_) b_33 rfl rfl (take_ofW HT_.out HW_.out (by kernel_rfl)) (fun _ _ _ h => h) (Or.inl ⟨by rfl, ?_⟩) hHeld ?_ ?_
     rotate_left
     ·
      rintro w' ⟨s0, s1, s2, s3, s4, s5, s6, s7, s8, s9, s10, s11, s12, s13, s14⟩
      go_simp
      with_reducible rfl
     rotate_left
     ·
      simp only [Act.put, List.setIfInBounds_toArray, List.set_cons_zero, List.set_cons_succ, i64_w, i32_w]
      rfl
     refine one_ (i := 9) (N := some 112) b_34 rfl rfl (one_of HT_.out (by kernel_rfl)) (by decide) (fun K hK => ?_)
     refine goes_ Try.func16 (by kernel_rfl) rfl #[.agg #[.int .i64 t308, .int .i64 t309, .slice Ao35 t310.length co35], .slice Ao96 t291.length co96] (by rfl) rfl rfl (by (try simp only [List.map_toArray, List.map_cons, List.map_nil]); first | done | rfl | (simp only [List.length_drop, List.length_take]; rfl)) ?_
     with_reducible refine (bobbinetkeep_matches.calls k2 t308 t309 _ _ t310 _ _ t291 t343 _ ?side1 ?side2 ?side3 ?side4 A72.out).mono ?_
     (case side1 => repeat (first | exact (Kd.V_reads' HO_315002.out).2.2 | (with_reducible refine Kd.C_alloc ?_ _) | (with_reducible refine Kd.C_drewN ?_ _) | (with_reducible refine Kd.C_drew ?_)))
     (case side2 => exact (Kd.V_reads' HO_315002.out).2.1)
     (case side3 => repeat (first | exact (Kd.R_reads' HO_11.out).2.2 | (with_reducible refine Kd.C_alloc ?_ _) | (with_reducible refine Kd.C_drewN ?_ _) | (with_reducible refine Kd.C_drew ?_)))
     (case side4 => exact (Kd.R_reads' HO_11.out).2.1)
     rintro e w111 ⟨rfl, hb⟩
     refine ⟨_, rfl, ?_⟩
     have n0_ := Aside0.mk (Kd.R_below (R_st <| HO_11.out) hb)
     have n1_ := Aside0.mk (Kd.V_below (V_st <| HO_301002.out) hb)
     have n2_ := Aside0.mk (Kd.V_below (V_st <| HO_308002.out) hb)
     have n3_ := Aside0.mk (Kd.V_below (V_st <| HO_315002.out) hb)
     have n4_ := Aside0.mk (Kd.V_below (V_st <| HO_322002.out) hb)
     have n5_ := Aside0.mk (Kd.V_below (V_st <| HO336.out) hb)
     have n6_ := Aside0.mk (Kd.R_below (R_st <| HO341.out) hb)
     have n7_ := Aside0.mk (blk_below (g := gb300) (o := .cells #[.int .i64 t294, .int .i64 t295, .slice Ao24 t296.length co24] 28 (0, 0)) (by (with_reducible repeat (first | refine blk_drewN ?_ _ | refine blk_drew ?_ | refine blk_alloc ?_ _)); exact BK300.out) hb)
     have n8_ := Aside0.mk (blk_below (g := gb307) (o := .cells #[.int .i64 t301, .int .i64 t302, .slice Ao29 t303.length co29] 28 (0, 0)) (by (with_reducible repeat (first | refine blk_drewN ?_ _ | refine blk_drew ?_ | refine blk_alloc ?_ _)); exact BK307.out) hb)
     have n9_ := Aside0.mk (blk_below (g := gb314) (o := .cells #[.int .i64 t308, .int .i64 t309, .slice Ao35 t310.length co35] 28 (0, 0)) (by (with_reducible repeat (first | refine blk_drewN ?_ _ | refine blk_drew ?_ | refine blk_alloc ?_ _)); exact BK314.out) hb)
     have n10_ := Aside0.mk (blk_below (g := gb321) (o := .cells #[.int .i64 t315, .int .i64 t316, .slice Ao42 t317.length co42] 28 (0, 0)) (by (with_reducible repeat (first | refine blk_drewN ?_ _ | refine blk_drew ?_ | refine blk_alloc ?_ _)); exact BK321.out) hb)
     have n11_ := Aside0.mk (blk_below (g := gb338) (o := .cells #[.int .i64 t332, .int .i64 t333, .slice Ao104 t334.length co104] 28 (0, 0)) (by (with_reducible repeat (first | refine blk_drewN ?_ _ | refine blk_drew ?_ | refine blk_alloc ?_ _)); exact BK338.out) hb)
     have n12_ := Aside0.mk (below_step (by repeat (first | (with_reducible first | exact HB.out | apply below_alloc | apply pw_below_drewN | apply below_drew1 | refine below_set ?_ GE300.out | refine below_set ?_ GE307.out | refine below_set ?_ GE314.out | refine below_set ?_ GE321.out | refine below_set ?_ GE338.out) | exact HB.out)) hb)
     clear HO_11
     clear HO_301002
     clear HO_308002
     clear HO_315002
     clear HO_322002
     clear HO336
     clear HO341
     clear BK300
     clear BK307
     clear BK314
     clear BK321
     clear BK338
     clear HB
     have HO_11 := n0_
     have HO_301002 := n1_
     have HO_308002 := n2_
     have HO_315002 := n3_
     have HO_322002 := n4_
     have HO336 := n5_
     have HO341 := n6_
     have BK300 := n7_
     have BK307 := n8_
     have BK314 := n9_
     have BK321 := n10_
     have BK338 := n11_
     have HB := n12_
     clear n0_ n1_ n2_ n3_ n4_ n5_ n6_ n7_ n8_ n9_ n10_ n11_ n12_
     (try clear hb)
     (try clear hb2)
     (try clear hk)
     (try clear hi)
     refine hK.out _ _ ⟨(blk_cell BK338.out 0).trans rfl, (blk_cell BK338.out 1).trans rfl, (blk_cell BK338.out 2).trans rfl, (blk_cell BK314.out 0).trans rfl, (blk_cell BK314.out 1).trans rfl, (blk_cell BK314.out 2).trans rfl, (blk_cell BK321.out 0).trans rfl, (blk_cell BK321.out 1).trans rfl, (blk_cell BK321.out 2).trans rfl, (blk_cell BK300.out 0).trans rfl, (blk_cell BK300.out 1).trans rfl, (blk_cell BK300.out 2).trans rfl, (blk_cell BK307.out 0).trans rfl, (blk_cell BK307.out 1).trans rfl, (blk_cell BK307.out 2).trans rfl⟩ (fun hHeld => ?_)
     clear hK K
     refine norm_ (a' := ?_) ?_ ?_
     rotate_left
     ·
      show Act.put _ (some 112) _ = _
      simp only [Act.put, List.setIfInBounds_toArray, List.set_cons_zero, List.set_cons_succ, i64_w, i32_w]
      rfl
     refine pure_ (i := 11) (N := some 114) (v := ?_) (a' := ?_) b_35 rfl rfl (any_of HT_.out (by kernel_rfl)) (fun _ _ _ h => h) (Or.inl ⟨by rfl, ?_⟩) ?_ ?_
     rotate_left
     ·
      intro w'
      go_simp
      with_reducible rfl
     rotate_left
     ·
      simp only [Act.put, List.setIfInBounds_toArray, List.set_cons_zero, List.set_cons_succ, i64_w, i32_w]
      rfl
     refine pure_ (i := 12) (N := some 115) (v := ?_) (a' := ?_) b_36 rfl rfl (any_of HT_.out (by kernel_rfl)) (fun _ _ _ h => h) (Or.inl ⟨by rfl, ?_⟩) ?_ ?_
     rotate_left
     ·
      intro w'
      go_simp
      with_reducible rfl
     rotate_left
     ·
      simp only [Act.put, List.setIfInBounds_toArray, List.set_cons_zero, List.set_cons_succ, i64_w, i32_w]
      rfl
     refine pure_ (i := 13) (N := some 116) (v := ?_) (a' := ?_) b_37 rfl rfl (any_of HT_.out (by kernel_rfl)) (fun _ _ _ h => h) (Or.inl ⟨by rfl, ?_⟩) ?_ ?_
     rotate_left
     ·
      intro w'
      go_simp
      with_reducible rfl
     rotate_left
     ·
      simp only [Act.put, List.setIfInBounds_toArray, List.set_cons_zero, List.set_cons_succ, i64_w, i32_w]
      rfl
     refine pure_ (i := 15) (N := some 118) (v := ?_) (a' := ?_) b_38 rfl rfl (any_of HT_.out (by kernel_rfl)) (fun _ _ _ h => h) (Or.inl ⟨by rfl, ?_⟩) ?_ ?_
     rotate_left
     ·
      intro w'
      go_simp
      with_reducible rfl
     rotate_left
     ·
      simp only [Act.put, List.setIfInBounds_toArray, List.set_cons_zero, List.set_cons_succ, i64_w, i32_w]
      rfl
     refine pure_ (i := 18) (N := some 121) (v := ?_) (a' := ?_) b_39 rfl rfl (any_of HT_.out (by kernel_rfl)) (fun _ _ _ h => h) (Or.inl ⟨by rfl, ?_⟩) ?_ ?_
     rotate_left
     ·
      intro w'
      go_simp
      with_reducible rfl
     rotate_left
     ·
      simp only [Act.put, List.setIfInBounds_toArray, List.set_cons_zero, List.set_cons_succ, i64_w, i32_w]
      rfl
     refine take_ (i := 14) (N := some 117) (v := ?_) (a' := ?_) b_40 rfl rfl (take_ofW HT_.out HW_.out (by kernel_rfl)) (fun _ _ _ h => h) (Or.inl ⟨by rfl, ?_⟩) hHeld ?_ ?_
     rotate_left
     ·
      rintro w' ⟨s0, s1, s2, s3, s4, s5, s6, s7, s8, s9, s10, s11, s12, s13, s14⟩
      go_simp
      with_reducible rfl
     rotate_left
     ·
      simp only [Act.put, List.setIfInBounds_toArray, List.set_cons_zero, List.set_cons_succ, i64_w, i32_w]
      rfl
     refine take_ (i := 17) (N := some 120) (v := ?_) (a' := ?_) b_41 rfl rfl (take_ofW HT_.out HW_.out (by kernel_rfl)) (fun _ _ _ h => h) (Or.inl ⟨by rfl, ?_⟩) hHeld ?_ ?_
     rotate_left
     ·
      rintro w' ⟨s0, s1, s2, s3, s4, s5, s6, s7, s8, s9, s10, s11, s12, s13, s14⟩
      go_simp
      with_reducible rfl
     rotate_left
     ·
      simp only [Act.put, List.setIfInBounds_toArray, List.set_cons_zero, List.set_cons_succ, i64_w, i32_w]
      rfl
     refine one_ (i := 16) (N := some 119) b_42 rfl rfl (one_of HT_.out (by kernel_rfl)) (by decide) (fun K hK => ?_)
     refine goes_ Try.func16 (by kernel_rfl) rfl #[.agg #[.int .i64 t315, .int .i64 t316, .slice Ao42 t317.length co42], .slice Ao96 t291.length co96] (by rfl) rfl rfl (by (try simp only [List.map_toArray, List.map_cons, List.map_nil]); first | done | rfl | (simp only [List.length_drop, List.length_take]; rfl)) ?_
     with_reducible refine (bobbinetkeep_matches.calls k2 t315 t316 _ _ t317 _ _ t291 t344 _ ?side1 ?side2 ?side3 ?side4 A74.out).mono ?_
     (case side1 => repeat (first | exact (Kd.V_reads' HO_322002.out).2.2 | (with_reducible refine Kd.C_alloc ?_ _) | (with_reducible refine Kd.C_drewN ?_ _) | (with_reducible refine Kd.C_drew ?_)))
     (case side2 => exact (Kd.V_reads' HO_322002.out).2.1)
     (case side3 => repeat (first | exact (Kd.R_reads' HO_11.out).2.2 | (with_reducible refine Kd.C_alloc ?_ _) | (with_reducible refine Kd.C_drewN ?_ _) | (with_reducible refine Kd.C_drew ?_)))
     (case side4 => exact (Kd.R_reads' HO_11.out).2.1)
     rintro e w112 ⟨rfl, hb⟩
     refine ⟨_, rfl, ?_⟩
     have n0_ := Aside0.mk (Kd.R_below (R_st <| HO_11.out) hb)
     have n1_ := Aside0.mk (Kd.V_below (V_st <| HO_301002.out) hb)
     have n2_ := Aside0.mk (Kd.V_below (V_st <| HO_308002.out) hb)
     have n3_ := Aside0.mk (Kd.V_below (V_st <| HO_315002.out) hb)
     have n4_ := Aside0.mk (Kd.V_below (V_st <| HO_322002.out) hb)
     have n5_ := Aside0.mk (Kd.V_below (V_st <| HO336.out) hb)
     have n6_ := Aside0.mk (Kd.R_below (R_st <| HO341.out) hb)
     have n7_ := Aside0.mk (blk_below (g := gb300) (o := .cells #[.int .i64 t294, .int .i64 t295, .slice Ao24 t296.length co24] 28 (0, 0)) (by (with_reducible repeat (first | refine blk_drewN ?_ _ | refine blk_drew ?_ | refine blk_alloc ?_ _)); exact BK300.out) hb)
     have n8_ := Aside0.mk (blk_below (g := gb307) (o := .cells #[.int .i64 t301, .int .i64 t302, .slice Ao29 t303.length co29] 28 (0, 0)) (by (with_reducible repeat (first | refine blk_drewN ?_ _ | refine blk_drew ?_ | refine blk_alloc ?_ _)); exact BK307.out) hb)
     have n9_ := Aside0.mk (blk_below (g := gb314) (o := .cells #[.int .i64 t308, .int .i64 t309, .slice Ao35 t310.length co35] 28 (0, 0)) (by (with_reducible repeat (first | refine blk_drewN ?_ _ | refine blk_drew ?_ | refine blk_alloc ?_ _)); exact BK314.out) hb)
     have n10_ := Aside0.mk (blk_below (g := gb321) (o := .cells #[.int .i64 t315, .int .i64 t316, .slice Ao42 t317.length co42] 28 (0, 0)) (by (with_reducible repeat (first | refine blk_drewN ?_ _ | refine blk_drew ?_ | refine blk_alloc ?_ _)); exact BK321.out) hb)
     have n11_ := Aside0.mk (blk_below (g := gb338) (o := .cells #[.int .i64 t332, .int .i64 t333, .slice Ao104 t334.length co104] 28 (0, 0)) (by (with_reducible repeat (first | refine blk_drewN ?_ _ | refine blk_drew ?_ | refine blk_alloc ?_ _)); exact BK338.out) hb)
     have n12_ := Aside0.mk (below_step (by repeat (first | (with_reducible first | exact HB.out | apply below_alloc | apply pw_below_drewN | apply below_drew1 | refine below_set ?_ GE300.out | refine below_set ?_ GE307.out | refine below_set ?_ GE314.out | refine below_set ?_ GE321.out | refine below_set ?_ GE338.out) | exact HB.out)) hb)
     clear HO_11
     clear HO_301002
     clear HO_308002
     clear HO_315002
     clear HO_322002
     clear HO336
     clear HO341
     clear BK300
     clear BK307
     clear BK314
     clear BK321
     clear BK338
     clear HB
     have HO_11 := n0_
     have HO_301002 := n1_
     have HO_308002 := n2_
     have HO_315002 := n3_
     have HO_322002 := n4_
     have HO336 := n5_
     have HO341 := n6_
     have BK300 := n7_
     have BK307 := n8_
     have BK314 := n9_
     have BK321 := n10_
     have BK338 := n11_
     have HB := n12_
     clear n0_ n1_ n2_ n3_ n4_ n5_ n6_ n7_ n8_ n9_ n10_ n11_ n12_
     (try clear hb)
     (try clear hb2)
     (try clear hk)
     (try clear hi)
     refine hK.out _ _ ⟨(blk_cell BK338.out 0).trans rfl, (blk_cell BK338.out 1).trans rfl, (blk_cell BK338.out 2).trans rfl, (blk_cell BK314.out 0).trans rfl, (blk_cell BK314.out 1).trans rfl, (blk_cell BK314.out 2).trans rfl, (blk_cell BK321.out 0).trans rfl, (blk_cell BK321.out 1).trans rfl, (blk_cell BK321.out 2).trans rfl, (blk_cell BK300.out 0).trans rfl, (blk_cell BK300.out 1).trans rfl, (blk_cell BK300.out 2).trans rfl, (blk_cell BK307.out 0).trans rfl, (blk_cell BK307.out 1).trans rfl, (blk_cell BK307.out 2).trans rfl⟩ (fun hHeld => ?_)
     clear hK K
     refine norm_ (a' := ?_) ?_ ?_
     rotate_left
     ·
      show Act.put _ (some 119) _ = _
      simp only [Act.put, List.setIfInBounds_toArray, List.set_cons_zero, List.set_cons_succ, i64_w, i32_w]
      rfl
     refine one_ (i := 19) (N := some 122) b_43 rfl rfl (one_of HT_.out (by kernel_rfl)) (by decide) (fun K hK => ?_)
     refine goes_ Try.func16 (by kernel_rfl) rfl #[.agg #[.int .i64 t294, .int .i64 t295, .slice Ao24 t296.length co24], .slice Ao96 t291.length co96] (by rfl) rfl rfl (by (try simp only [List.map_toArray, List.map_cons, List.map_nil]); first | done | rfl | (simp only [List.length_drop, List.length_take]; rfl)) ?_
     with_reducible refine (bobbinetkeep_matches.calls k2 t294 t295 _ _ t296 _ _ t291 false _ ?side1 ?side2 ?side3 ?side4 A75.out).mono ?_
     (case side1 => repeat (first | exact (Kd.V_reads' HO_301002.out).2.2 | (with_reducible refine Kd.C_alloc ?_ _) | (with_reducible refine Kd.C_drewN ?_ _) | (with_reducible refine Kd.C_drew ?_)))
     (case side2 => exact (Kd.V_reads' HO_301002.out).2.1)
     (case side3 => repeat (first | exact (Kd.R_reads' HO_11.out).2.2 | (with_reducible refine Kd.C_alloc ?_ _) | (with_reducible refine Kd.C_drewN ?_ _) | (with_reducible refine Kd.C_drew ?_)))
     (case side4 => exact (Kd.R_reads' HO_11.out).2.1)
     rintro e w113 ⟨rfl, hb⟩
     refine ⟨_, rfl, ?_⟩
     have n0_ := Aside0.mk (Kd.R_below (R_st <| HO_11.out) hb)
     have n1_ := Aside0.mk (Kd.V_below (V_st <| HO_301002.out) hb)
     have n2_ := Aside0.mk (Kd.V_below (V_st <| HO_308002.out) hb)
     have n3_ := Aside0.mk (Kd.V_below (V_st <| HO_315002.out) hb)
     have n4_ := Aside0.mk (Kd.V_below (V_st <| HO_322002.out) hb)
     have n5_ := Aside0.mk (Kd.V_below (V_st <| HO336.out) hb)
     have n6_ := Aside0.mk (Kd.R_below (R_st <| HO341.out) hb)
     have n7_ := Aside0.mk (blk_below (g := gb300) (o := .cells #[.int .i64 t294, .int .i64 t295, .slice Ao24 t296.length co24] 28 (0, 0)) (by (with_reducible repeat (first | refine blk_drewN ?_ _ | refine blk_drew ?_ | refine blk_alloc ?_ _)); exact BK300.out) hb)
     have n8_ := Aside0.mk (blk_below (g := gb307) (o := .cells #[.int .i64 t301, .int .i64 t302, .slice Ao29 t303.length co29] 28 (0, 0)) (by (with_reducible repeat (first | refine blk_drewN ?_ _ | refine blk_drew ?_ | refine blk_alloc ?_ _)); exact BK307.out) hb)
     have n9_ := Aside0.mk (blk_below (g := gb314) (o := .cells #[.int .i64 t308, .int .i64 t309, .slice Ao35 t310.length co35] 28 (0, 0)) (by (with_reducible repeat (first | refine blk_drewN ?_ _ | refine blk_drew ?_ | refine blk_alloc ?_ _)); exact BK314.out) hb)
     have n10_ := Aside0.mk (blk_below (g := gb321) (o := .cells #[.int .i64 t315, .int .i64 t316, .slice Ao42 t317.length co42] 28 (0, 0)) (by (with_reducible repeat (first | refine blk_drewN ?_ _ | refine blk_drew ?_ | refine blk_alloc ?_ _)); exact BK321.out) hb)
     have n11_ := Aside0.mk (blk_below (g := gb338) (o := .cells #[.int .i64 t332, .int .i64 t333, .slice Ao104 t334.length co104] 28 (0, 0)) (by (with_reducible repeat (first | refine blk_drewN ?_ _ | refine blk_drew ?_ | refine blk_alloc ?_ _)); exact BK338.out) hb)
     have n12_ := Aside0.mk (below_step (by repeat (first | (with_reducible first | exact HB.out | apply below_alloc | apply pw_below_drewN | apply below_drew1 | refine below_set ?_ GE300.out | refine below_set ?_ GE307.out | refine below_set ?_ GE314.out | refine below_set ?_ GE321.out | refine below_set ?_ GE338.out) | exact HB.out)) hb)
     clear HO_11
     clear HO_301002
     clear HO_308002
     clear HO_315002
     clear HO_322002
     clear HO336
     clear HO341
     clear BK300
     clear BK307
     clear BK314
     clear BK321
     clear BK338
     clear HB
     have HO_11 := n0_
     have HO_301002 := n1_
     have HO_308002 := n2_
     have HO_315002 := n3_
     have HO_322002 := n4_
     have HO336 := n5_
     have HO341 := n6_
     have BK300 := n7_
     have BK307 := n8_
     have BK314 := n9_
     have BK321 := n10_
     have BK338 := n11_
     have HB := n12_
     clear n0_ n1_ n2_ n3_ n4_ n5_ n6_ n7_ n8_ n9_ n10_ n11_ n12_
     (try clear hb)
     (try clear hb2)
     (try clear hk)
     (try clear hi)
     refine hK.out _ _ ⟨(blk_cell BK338.out 0).trans rfl, (blk_cell BK338.out 1).trans rfl, (blk_cell BK338.out 2).trans rfl, (blk_cell BK314.out 0).trans rfl, (blk_cell BK314.out 1).trans rfl, (blk_cell BK314.out 2).trans rfl, (blk_cell BK321.out 0).trans rfl, (blk_cell BK321.out 1).trans rfl, (blk_cell BK321.out 2).trans rfl, (blk_cell BK300.out 0).trans rfl, (blk_cell BK300.out 1).trans rfl, (blk_cell BK300.out 2).trans rfl, (blk_cell BK307.out 0).trans rfl, (blk_cell BK307.out 1).trans rfl, (blk_cell BK307.out 2).trans rfl⟩ (fun hHeld => ?_)
     clear hK K
     refine norm_ (a' := ?_) ?_ ?_
     rotate_left
     ·
      show Act.put _ (some 122) _ = _
      simp only [Act.put, List.setIfInBounds_toArray, List.set_cons_zero, List.set_cons_succ, i64_w, i32_w]
      rfl
     refine pure_ (i := 20) (N := some 123) (v := ?_) (a' := ?_) b_44 rfl rfl (any_of HT_.out (by kernel_rfl)) (fun _ _ _ h => h) (Or.inl ⟨by rfl, ?_⟩) ?_ ?_
     rotate_left
     ·
      intro w'
      go_simp
      with_reducible rfl
     rotate_left
     ·
      simp only [Act.put, List.setIfInBounds_toArray, List.set_cons_zero, List.set_cons_succ, i64_w, i32_w]
      rfl
     refine pure_ (i := 22) (N := some 125) (v := ?_) (a' := ?_) b_52 rfl rfl (any_of HT_.out (by kernel_rfl)) (fun _ _ _ h => h) (Or.inl ⟨by rfl, ?_⟩) ?_ ?_
     rotate_left
     ·
      intro w'
      go_simp
      with_reducible rfl
     rotate_left
     ·
      simp only [Act.put, List.setIfInBounds_toArray, List.set_cons_zero, List.set_cons_succ, i64_w, i32_w]
      rfl
     refine take_ (i := 21) (N := some 124) (v := ?_) (a' := ?_) b_46 rfl rfl (take_ofW HT_.out HW_.out (by kernel_rfl)) (fun _ _ _ h => h) (Or.inl ⟨by rfl, ?_⟩) hHeld ?_ ?_
     rotate_left
     ·
      rintro w' ⟨s0, s1, s2, s3, s4, s5, s6, s7, s8, s9, s10, s11, s12, s13, s14⟩
      go_simp
      with_reducible rfl
     rotate_left
     ·
      simp only [Act.put, List.setIfInBounds_toArray, List.set_cons_zero, List.set_cons_succ, i64_w, i32_w]
      rfl
     refine one_ (i := 23) (N := some 126) b_47 rfl rfl (one_of HT_.out (by kernel_rfl)) (by decide) (fun K hK => ?_)
     refine goes_ Try.func16 (by kernel_rfl) rfl #[.agg #[.int .i64 t301, .int .i64 t302, .slice Ao29 t303.length co29], .slice Ao96 t291.length co96] (by rfl) rfl rfl (by (try simp only [List.map_toArray, List.map_cons, List.map_nil]); first | done | rfl | (simp only [List.length_drop, List.length_take]; rfl)) ?_
     with_reducible refine (bobbinetkeep_matches.calls k2 t301 t302 _ _ t303 _ _ t291 t346 _ ?side1 ?side2 ?side3 ?side4 A95.out).mono ?_
     (case side1 => repeat (first | exact (Kd.V_reads' HO_308002.out).2.2 | (with_reducible refine Kd.C_alloc ?_ _) | (with_reducible refine Kd.C_drewN ?_ _) | (with_reducible refine Kd.C_drew ?_)))
     (case side2 => exact (Kd.V_reads' HO_308002.out).2.1)
     (case side3 => repeat (first | exact (Kd.R_reads' HO_11.out).2.2 | (with_reducible refine Kd.C_alloc ?_ _) | (with_reducible refine Kd.C_drewN ?_ _) | (with_reducible refine Kd.C_drew ?_)))
     (case side4 => exact (Kd.R_reads' HO_11.out).2.1)
     rintro e w114 ⟨rfl, hb⟩
     refine ⟨_, rfl, ?_⟩
     have n0_ := Aside0.mk (Kd.R_below (R_st <| HO_11.out) hb)
     have n1_ := Aside0.mk (Kd.V_below (V_st <| HO_301002.out) hb)
     have n2_ := Aside0.mk (Kd.V_below (V_st <| HO_308002.out) hb)
     have n3_ := Aside0.mk (Kd.V_below (V_st <| HO_315002.out) hb)
     have n4_ := Aside0.mk (Kd.V_below (V_st <| HO_322002.out) hb)
     have n5_ := Aside0.mk (Kd.V_below (V_st <| HO336.out) hb)
     have n6_ := Aside0.mk (Kd.R_below (R_st <| HO341.out) hb)
     have n7_ := Aside0.mk (blk_below (g := gb300) (o := .cells #[.int .i64 t294, .int .i64 t295, .slice Ao24 t296.length co24] 28 (0, 0)) (by (with_reducible repeat (first | refine blk_drewN ?_ _ | refine blk_drew ?_ | refine blk_alloc ?_ _)); exact BK300.out) hb)
     have n8_ := Aside0.mk (blk_below (g := gb307) (o := .cells #[.int .i64 t301, .int .i64 t302, .slice Ao29 t303.length co29] 28 (0, 0)) (by (with_reducible repeat (first | refine blk_drewN ?_ _ | refine blk_drew ?_ | refine blk_alloc ?_ _)); exact BK307.out) hb)
     have n9_ := Aside0.mk (blk_below (g := gb314) (o := .cells #[.int .i64 t308, .int .i64 t309, .slice Ao35 t310.length co35] 28 (0, 0)) (by (with_reducible repeat (first | refine blk_drewN ?_ _ | refine blk_drew ?_ | refine blk_alloc ?_ _)); exact BK314.out) hb)
     have n10_ := Aside0.mk (blk_below (g := gb321) (o := .cells #[.int .i64 t315, .int .i64 t316, .slice Ao42 t317.length co42] 28 (0, 0)) (by (with_reducible repeat (first | refine blk_drewN ?_ _ | refine blk_drew ?_ | refine blk_alloc ?_ _)); exact BK321.out) hb)
     have n11_ := Aside0.mk (blk_below (g := gb338) (o := .cells #[.int .i64 t332, .int .i64 t333, .slice Ao104 t334.length co104] 28 (0, 0)) (by (with_reducible repeat (first | refine blk_drewN ?_ _ | refine blk_drew ?_ | refine blk_alloc ?_ _)); exact BK338.out) hb)
     have n12_ := Aside0.mk (below_step (by repeat (first | (with_reducible first | exact HB.out | apply below_alloc | apply pw_below_drewN | apply below_drew1 | refine below_set ?_ GE300.out | refine below_set ?_ GE307.out | refine below_set ?_ GE314.out | refine below_set ?_ GE321.out | refine below_set ?_ GE338.out) | exact HB.out)) hb)
     clear HO_11
     clear HO_301002
     clear HO_308002
     clear HO_315002
     clear HO_322002
     clear HO336
     clear HO341
     clear BK300
     clear BK307
     clear BK314
     clear BK321
     clear BK338
     clear HB
     have HO_11 := n0_
     have HO_301002 := n1_
     have HO_308002 := n2_
     have HO_315002 := n3_
     have HO_322002 := n4_
     have HO336 := n5_
     have HO341 := n6_
     have BK300 := n7_
     have BK307 := n8_
     have BK314 := n9_
     have BK321 := n10_
     have BK338 := n11_
     have HB := n12_
     clear n0_ n1_ n2_ n3_ n4_ n5_ n6_ n7_ n8_ n9_ n10_ n11_ n12_
     (try clear hb)
     (try clear hb2)
     (try clear hk)
     (try clear hi)
     refine hK.out _ _ ⟨(blk_cell BK338.out 0).trans rfl, (blk_cell BK338.out 1).trans rfl, (blk_cell BK338.out 2).trans rfl, (blk_cell BK314.out 0).trans rfl, (blk_cell BK314.out 1).trans rfl, (blk_cell BK314.out 2).trans rfl, (blk_cell BK321.out 0).trans rfl, (blk_cell BK321.out 1).trans rfl, (blk_cell BK321.out 2).trans rfl, (blk_cell BK300.out 0).trans rfl, (blk_cell BK300.out 1).trans rfl, (blk_cell BK300.out 2).trans rfl, (blk_cell BK307.out 0).trans rfl, (blk_cell BK307.out 1).trans rfl, (blk_cell BK307.out 2).trans rfl⟩ (fun hHeld => ?_)
     clear hK K
     refine norm_ (a' := ?_) ?_ ?_
     rotate_left
     ·
      show Act.put _ (some 126) _ = _
      simp only [Act.put, List.setIfInBounds_toArray, List.set_cons_zero, List.set_cons_succ, i64_w, i32_w]
      rfl
     refine pure_ (i := 24) (N := some 127) (v := ?_) (a' := ?_) b_48 rfl rfl (any_of HT_.out (by kernel_rfl)) (fun _ _ _ h => h) (Or.inl ⟨by rfl, ?_⟩) ?_ ?_
     rotate_left
     ·
      intro w'
      go_simp
      with_reducible rfl
     rotate_left
     ·
      simp only [Act.put, List.setIfInBounds_toArray, List.set_cons_zero, List.set_cons_succ, i64_w, i32_w]
      rfl
     refine pure_ (i := 25) (N := some 128) (v := ?_) (a' := ?_) b_49 rfl rfl (any_of HT_.out (by kernel_rfl)) (fun _ _ _ h => h) (Or.inl ⟨by rfl, ?_⟩) ?_ ?_
     rotate_left
     ·
      intro w'
      go_simp
      with_reducible rfl
     rotate_left
     ·
      simp only [Act.put, List.setIfInBounds_toArray, List.set_cons_zero, List.set_cons_succ, i64_w, i32_w]
      rfl
     refine pure_ (i := 26) (N := some 129) (v := ?_) (a' := ?_) b_50 rfl rfl (any_of HT_.out (by kernel_rfl)) (fun _ _ _ h => h) (Or.inl ⟨by rfl, ?_⟩) ?_ ?_
     rotate_left
     ·
      intro w'
      go_simp
      with_reducible rfl
     rotate_left
     ·
      simp only [Act.put, List.setIfInBounds_toArray, List.set_cons_zero, List.set_cons_succ, i64_w, i32_w]
      rfl
     refine pure_ (i := 27) (N := some 6) (v := ?_) (a' := ?_) b_51 rfl rfl (any_of HT_.out (by kernel_rfl)) (fun _ _ _ h => h) (Or.inl ⟨by rfl, ?_⟩) ?_ ?_
     rotate_left
     ·
      intro w'
      go_simp
      with_reducible rfl
     rotate_left
     ·
      simp only [Act.put, List.setIfInBounds_toArray, List.set_cons_zero, List.set_cons_succ, i64_w, i32_w]
      rfl
     refine done_ (done_of HT_.out (by kernel_rfl)) ?_
     try go_wp2
     go_ret
     exact ⟨by first | rfl | (simp [errW_none, errW_some] <;> rfl) | (simp [*, errW_none, errW_some] <;> rfl), by repeat (first | (with_reducible first | exact HB.out | apply below_alloc | apply pw_below_drewN | apply below_drew1 | refine below_set ?_ GE300.out | refine below_set ?_ GE307.out | refine below_set ?_ GE314.out | refine below_set ?_ GE321.out | refine below_set ?_ GE338.out) | exact HB.out)⟩
/-- THE ONE PURE STATEMENT of bobbinetkeep_ExprParts: yours. -/
def bobbinetkeep_ExprParts.Pure : Prop := ∀ (l0 : List Int) (l1 : List Int) (l2 : List Int), l0.length ≤ maxLen → l0.length * 8 ≤ 140737488351232 → (∀ x ∈ l0, (Lit.int .i64 x).wf = true) → l1.length ≤ maxLen → l1.length * 8 ≤ 140737488351232 → (∀ x ∈ l1, (Lit.int .i64 x).wf = true) → l2.length ≤ maxLen → l2.length * 8 ≤ 140737488351232 → (∀ x ∈ l2, (Lit.int .i64 x).wf = true) → ∃ k, bobbinetkeep_ExprParts.f k l0 l1 l2 = some true
theorem bobbinetkeep_ExprParts.walk (P : bobbinetkeep_ExprParts.Pure) (a0 : Option Addr) (len0 cap0 : Nat) (z0 : List Int) (a1 : Option Addr) (len1 cap1 : Nat) (z1 : List Int) (a2 : Option Addr) (len2 cap2 : Nat) (z2 : List Int) (w : World) (w0 : (a0 = none ∧ len0 = 0 ∧ cap0 = 0 ∧ z0 = []) ∨ ∃ x, a0 = some x ∧ len0 ≤ cap0 ∧ cap0 ≤ maxLen ∧ z0.length = cap0 ∧ (∀ i, i < z0.length → w.cell? (x.add i) = some (.int .i64 (z0.getD i 0))) ∧ ∀ n ∈ z0, (Lit.int .i64 n).wf = true) (y0 : len0 * 8 ≤ 140737488351232) (w1 : (a1 = none ∧ len1 = 0 ∧ cap1 = 0 ∧ z1 = []) ∨ ∃ x, a1 = some x ∧ len1 ≤ cap1 ∧ cap1 ≤ maxLen ∧ z1.length = cap1 ∧ (∀ i, i < z1.length → w.cell? (x.add i) = some (.int .i64 (z1.getD i 0))) ∧ ∀ n ∈ z1, (Lit.int .i64 n).wf = true) (y1 : len1 * 8 ≤ 140737488351232) (w2 : (a2 = none ∧ len2 = 0 ∧ cap2 = 0 ∧ z2 = []) ∨ ∃ x, a2 = some x ∧ len2 ≤ cap2 ∧ cap2 ≤ maxLen ∧ z2.length = cap2 ∧ (∀ i, i < z2.length → w.cell? (x.add i) = some (.int .i64 (z2.getD i 0))) ∧ ∀ n ∈ z2, (Lit.int .i64 n).wf = true) (y2 : len2 * 8 ≤ 140737488351232) :
  Calls Try.prog 5 #[.slice a0 len0 cap0, .slice a1 len1 cap1, .slice a2 len2 cap2] w fun e w' => e = .returned (.bool true) ∧ Below w.heap.size w w' := by
 obtain ⟨l0, rfl, hr0, hm0, hw0, hc0⟩ := ReadsInt.ofRowC w0
 obtain ⟨l1, rfl, hr1, hm1, hw1, hc1⟩ := ReadsInt.ofRowC w1
 obtain ⟨l2, rfl, hr2, hm2, hw2, hc2⟩ := ReadsInt.ofRowC w2
 obtain ⟨k, h⟩ := P l0 l1 l2 hm0 y0 hw0 hm1 y1 hw1 hm2 y2 hw2
 refine (bobbinetkeep_ExprParts.calls k _ _ l0 _ _ l1 _ _ l2 true w (Kd.C_of_reads (d := (0 : Int)) (h1 := fun _ => rfl) hr0) hc0 (Kd.C_of_reads (d := (0 : Int)) (h1 := fun _ => rfl) hr1) hc1 (Kd.C_of_reads (d := (0 : Int)) (h1 := fun _ => rfl) hr2) hc2 h).mono ?_
 rintro e w' ⟨rfl, hd⟩
 exact ⟨rfl, hd⟩
end Go.Proofs.Ytjmhihadgpdiaaa.X
end
section
namespace Go.Proofs.Ytjmhihadgpdiaaa.X
open Go.RowKit Go.Proofs.YtjmhihadgpdiaaaW.PrintWords Go.Proofs.YtjmhihadgpdiaaaW.PrintLast Go.Proofs.YtjmhihadgpdiaaaW.PrintMore
attribute [local go_sem] max2_int min2_int max_two min_two max_three min_three max_four min_four   -- for this text's walks alone
set_option linter.unusedVariables false
set_option linter.unusedSimpArgs false
end Go.Proofs.Ytjmhihadgpdiaaa.X
end
