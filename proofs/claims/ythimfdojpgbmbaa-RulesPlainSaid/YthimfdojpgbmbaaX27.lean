-- Written by xprint.py (a program of this repo) for seat Ythimfdojpgbmbaa.
import Derived.Test.YthimfdojpgbmbaaX0
import Derived.Test.YthimfdojpgbmbaaX4
import Derived.Test.YthimfdojpgbmbaaX20
import Derived.Test.YthimfdojpgbmbaaX23
namespace Go.Proofs.Ythimfdojpgbmbaa.X
open Go.RowKit Go.Proofs.YthimfdojpgbmbaaW.PrintWords Go.Proofs.YthimfdojpgbmbaaW.PrintLast Go.Proofs.YthimfdojpgbmbaaW.PrintMore
attribute [local go_sem] max2_int min2_int max_two min_two max_three min_three max_four min_four   -- for this text's walks alone
set_option linter.unusedVariables false
set_option linter.unusedSimpArgs false

/-! ### bobbinetkeep_RulesPlain: function 13 -/
mutual
def bobbinetkeep_RulesPlain.l0 : Nat → List (S60) → List (S60) → Bool → ByteArray → List (S53) → List ByteArray → Int → Option (Bool)
 | 0, _, _, _, _, _, _, _ => none
 | k + 1, x3, x5, x6, x7, x8, x9, x10 => if x10 < (x9.length : Int) then (if 0 ≤ x10 then (if x8.length < 3518437208883 then (bobbinetkeep_RulesPlain.l0 k x3 x5 x6 x7 (x8 ++ [(⟨rdOf ByteArray.empty x9 x10, 3, (⟨#[]⟩ : ByteArray)⟩ : S53)]) x9 (wrap64 (x10 + 1))) else (none)) else (none)) else ((bobbinetkeep_ruledBy.f k x8 x3).bind fun bt354 => (bobbinetkeep_RulesPlain.l1 k x3 x5 x6 x7 bt354.1 bt354.2 (⟨#[]⟩ : ByteArray) 0))
def bobbinetkeep_RulesPlain.l1 : Nat → List (S60) → List (S60) → Bool → ByteArray → List (S60) → Bool → ByteArray → Int → Option (Bool)
 | 0, _, _, _, _, _, _, _, _ => none
 | k + 1, x3, x5, x6, x7, x11, x12, x13, x14 => if x14 < (x3.length : Int) then (if 0 ≤ x14 then (if x13.size + ((rd_T60 x3 x14).f2).size ≤ 9223372036854775807 then (bobbinetkeep_RulesPlain.l1 k x3 x5 x6 x7 x11 x12 (x13 ++ ((rd_T60 x3 x14).f2)) (wrap64 (x14 + 1))) else (none)) else (none)) else (if x6 = true then (if x12 = true then ((bobbinetkeep_words.f k x11).bind fun t359 => (if t359.toList = x13.toList then (if (x11.length : Int) > 1 then (some false) else (if x7.toList = ([] : List UInt8) then (if (x5.length : Int) = 0 then (some true) else (if (x5.length : Int) = 1 then (if 0 < (x5.length : Int) then (if ((rd_T60 x5 0).f0).toList = ([] : List UInt8) then (some (((rd_T60 x5 0).f2).toList == x7.toList)) else (some false)) else (none)) else (some false))) else (if (x5.length : Int) = 1 then (if 0 < (x5.length : Int) then (if ((rd_T60 x5 0).f0).toList = ([] : List UInt8) then (some (((rd_T60 x5 0).f2).toList == x7.toList)) else (some false)) else (none)) else (some false)))) else (some false))) else (some false)) else (some false))
end
def bobbinetkeep_RulesPlain.f (k : Nat) (l0 : List Int) : Option (Bool) := (bobbinetkeep_Nodes.f k l0 4 6).bind fun bt336 => ((bobbinetkeep_ruledBy.f k ([] : List (S53)) bt336.1).bind fun bt342 => ((bobbinetkeep_words.f k bt336.1).bind fun t346 => (bobbinetkeep_RulesPlain.l0 k bt336.1 bt342.1 bt342.2 t346 ([] : List (S53)) (([(⟨#[100, 105, 118]⟩ : ByteArray), (⟨#[98]⟩ : ByteArray), (⟨#[101, 109]⟩ : ByteArray), (⟨#[112]⟩ : ByteArray), (⟨#[97]⟩ : ByteArray), (⟨#[117, 108]⟩ : ByteArray), (⟨#[98, 114]⟩ : ByteArray), (⟨#[105, 109, 103]⟩ : ByteArray)] : List ByteArray)) 0)))
theorem bobbinetkeep_RulesPlain.mono_l : ∀ k, (∀ y0 y1 y2 y3 y4 y5 y6, LeO (bobbinetkeep_RulesPlain.l0 k y0 y1 y2 y3 y4 y5 y6) (bobbinetkeep_RulesPlain.l0 (k + 1) y0 y1 y2 y3 y4 y5 y6)) ∧ (∀ y0 y1 y2 y3 y4 y5 y6 y7, LeO (bobbinetkeep_RulesPlain.l1 k y0 y1 y2 y3 y4 y5 y6 y7) (bobbinetkeep_RulesPlain.l1 (k + 1) y0 y1 y2 y3 y4 y5 y6 y7))
 | 0 => ⟨fun _ _ _ _ _ _ _ r h => by simp [bobbinetkeep_RulesPlain.l0] at h, fun _ _ _ _ _ _ _ _ r h => by simp [bobbinetkeep_RulesPlain.l1] at h⟩
 | k + 1 => by
  obtain ⟨ih0, ih1⟩ := bobbinetkeep_RulesPlain.mono_l k
  refine ⟨?_, ?_⟩
  ·
   intro y0 y1 y2 y3 y4 y5 y6
   unfold bobbinetkeep_RulesPlain.l0
   repeat' first
   | (with_reducible exact ih0 _ _ _ _ _ _ _)
   | (with_reducible exact ih1 _ _ _ _ _ _ _ _)
   | (with_reducible exact bobbinetkeep_Nodes.mono _ _ _ _)
   | (with_reducible exact bobbinetkeep_ruledBy.mono _ _ _)
   | (with_reducible exact bobbinetkeep_words.mono _ _)
   | (with_reducible exact LeO.refl _)
   | (with_reducible exact LeO.none _)
   | (with_reducible refine LeO.ite ?_ ?_)
   | (with_reducible refine LeO.bind ?_ (fun _ => ?_))
   | exact ih0 _ _ _ _ _ _ _
   | exact ih1 _ _ _ _ _ _ _ _
   | exact bobbinetkeep_Nodes.mono _ _ _ _
   | exact bobbinetkeep_ruledBy.mono _ _ _
   | exact bobbinetkeep_words.mono _ _
   | exact LeO.none _
   | refine LeO.ite ?_ ?_
   | refine LeO.bind ?_ (fun _ => ?_)
  ·
   intro y0 y1 y2 y3 y4 y5 y6 y7
   unfold bobbinetkeep_RulesPlain.l1
   repeat' first
   | (with_reducible exact ih0 _ _ _ _ _ _ _)
   | (with_reducible exact ih1 _ _ _ _ _ _ _ _)
   | (with_reducible exact bobbinetkeep_Nodes.mono _ _ _ _)
   | (with_reducible exact bobbinetkeep_ruledBy.mono _ _ _)
   | (with_reducible exact bobbinetkeep_words.mono _ _)
   | (with_reducible exact LeO.refl _)
   | (with_reducible exact LeO.none _)
   | (with_reducible refine LeO.ite ?_ ?_)
   | (with_reducible refine LeO.bind ?_ (fun _ => ?_))
   | exact ih0 _ _ _ _ _ _ _
   | exact ih1 _ _ _ _ _ _ _ _
   | exact bobbinetkeep_Nodes.mono _ _ _ _
   | exact bobbinetkeep_ruledBy.mono _ _ _
   | exact bobbinetkeep_words.mono _ _
   | exact LeO.none _
   | refine LeO.ite ?_ ?_
   | refine LeO.bind ?_ (fun _ => ?_)
theorem bobbinetkeep_RulesPlain.mono : ∀ a0 k, LeO (bobbinetkeep_RulesPlain.f k a0) (bobbinetkeep_RulesPlain.f (k + 1) a0) := by
 intro a0 k
 obtain ⟨ih0, ih1⟩ := bobbinetkeep_RulesPlain.mono_l k
 unfold bobbinetkeep_RulesPlain.f
 repeat' first
   | (with_reducible exact ih0 _ _ _ _ _ _ _)
   | (with_reducible exact ih1 _ _ _ _ _ _ _ _)
   | (with_reducible exact bobbinetkeep_Nodes.mono _ _ _ _)
   | (with_reducible exact bobbinetkeep_ruledBy.mono _ _ _)
   | (with_reducible exact bobbinetkeep_words.mono _ _)
   | (with_reducible exact LeO.refl _)
   | (with_reducible exact LeO.none _)
   | (with_reducible refine LeO.ite ?_ ?_)
   | (with_reducible refine LeO.bind ?_ (fun _ => ?_))
   | exact ih0 _ _ _ _ _ _ _
   | exact ih1 _ _ _ _ _ _ _ _
   | exact bobbinetkeep_Nodes.mono _ _ _ _
   | exact bobbinetkeep_ruledBy.mono _ _ _
   | exact bobbinetkeep_words.mono _ _
   | exact LeO.none _
   | refine LeO.ite ?_ ?_
   | refine LeO.bind ?_ (fun _ => ?_)
set_option maxHeartbeats 8000000 in
set_option maxRecDepth 100000 in
theorem bobbinetkeep_RulesPlain.calls (k : Nat) (A0 : Option Addr) (c0 : Nat) (l0 : List Int) (r : Bool) (w : World) (hr0 : Kd.C (Kd.int .i64) w A0 l0.length l0) (hc0 : l0.length ≤ c0) (h : bobbinetkeep_RulesPlain.f k l0 = some r) :
  Calls Try.prog 13 #[.slice A0 l0.length c0] w fun e w' => e = .returned (.bool r) ∧ Below w.heap.size w w' := by
 have hu53 := Try.underlying53
 have HR0 := Aside0.mk hr0
 have HC0 := Aside0.mk hc0
 clear hr0 hc0
 have HB := Aside0.mk (Below.refl w.heap.size w)
 have H : ((bobbinetkeep_Nodes.f k l0 4 6).bind fun bt336 => ((bobbinetkeep_ruledBy.f k ([] : List (S53)) bt336.1).bind fun bt342 => ((bobbinetkeep_words.f k bt336.1).bind fun t346 => (bobbinetkeep_RulesPlain.l0 k bt336.1 bt342.1 bt342.2 t346 ([] : List (S53)) (([(⟨#[100, 105, 118]⟩ : ByteArray), (⟨#[98]⟩ : ByteArray), (⟨#[101, 109]⟩ : ByteArray), (⟨#[112]⟩ : ByteArray), (⟨#[97]⟩ : ByteArray), (⟨#[117, 108]⟩ : ByteArray), (⟨#[98, 114]⟩ : ByteArray), (⟨#[105, 109, 103]⟩ : ByteArray)] : List ByteArray)) 0)))) = some r := h
 clear h
 replace H := Option.bind_eq_some_iff.mp H
 obtain ⟨⟨t336, t339⟩, A20, H⟩ := H
 replace H : ((bobbinetkeep_ruledBy.f k ([] : List (S53)) t336).bind fun bt342 => ((bobbinetkeep_words.f k t336).bind fun t346 => (bobbinetkeep_RulesPlain.l0 k t336 bt342.1 bt342.2 t346 ([] : List (S53)) (([(⟨#[100, 105, 118]⟩ : ByteArray), (⟨#[98]⟩ : ByteArray), (⟨#[101, 109]⟩ : ByteArray), (⟨#[112]⟩ : ByteArray), (⟨#[97]⟩ : ByteArray), (⟨#[117, 108]⟩ : ByteArray), (⟨#[98, 114]⟩ : ByteArray), (⟨#[105, 109, 103]⟩ : ByteArray)] : List ByteArray)) 0))) = some r := H
 have A2 := Aside0.mk A20
 clear A20
 replace H := Option.bind_eq_some_iff.mp H
 obtain ⟨⟨t342, t345⟩, A30, H⟩ := H
 replace H : ((bobbinetkeep_words.f k t336).bind fun t346 => (bobbinetkeep_RulesPlain.l0 k t336 t342 t345 t346 ([] : List (S53)) (([(⟨#[100, 105, 118]⟩ : ByteArray), (⟨#[98]⟩ : ByteArray), (⟨#[101, 109]⟩ : ByteArray), (⟨#[112]⟩ : ByteArray), (⟨#[97]⟩ : ByteArray), (⟨#[117, 108]⟩ : ByteArray), (⟨#[98, 114]⟩ : ByteArray), (⟨#[105, 109, 103]⟩ : ByteArray)] : List ByteArray)) 0)) = some r := H
 have A3 := Aside0.mk A30
 clear A30
 replace H := Option.bind_eq_some_iff.mp H
 obtain ⟨t346, A40, H⟩ := H
 replace H : (bobbinetkeep_RulesPlain.l0 k t336 t342 t345 t346 ([] : List (S53)) (([(⟨#[100, 105, 118]⟩ : ByteArray), (⟨#[98]⟩ : ByteArray), (⟨#[101, 109]⟩ : ByteArray), (⟨#[112]⟩ : ByteArray), (⟨#[97]⟩ : ByteArray), (⟨#[117, 108]⟩ : ByteArray), (⟨#[98, 114]⟩ : ByteArray), (⟨#[105, 109, 103]⟩ : ByteArray)] : List ByteArray)) 0) = some r := H
 have A4 := Aside0.mk A40
 clear A40
 obtain ⟨y347, hy347⟩ : ∃ y_ : List ByteArray, y_ = (([(⟨#[100, 105, 118]⟩ : ByteArray), (⟨#[98]⟩ : ByteArray), (⟨#[101, 109]⟩ : ByteArray), (⟨#[112]⟩ : ByteArray), (⟨#[97]⟩ : ByteArray), (⟨#[117, 108]⟩ : ByteArray), (⟨#[98, 114]⟩ : ByteArray), (⟨#[105, 109, 103]⟩ : ByteArray)] : List ByteArray)) := ⟨_, rfl⟩
 replace H : (bobbinetkeep_RulesPlain.l0 k t336 t342 t345 t346 ([] : List (S53)) y347 0) = some r := by first | (rw [hy347]; with_reducible exact H) | (have H2_ := (Option.bind_some _ _).symm.trans H; rw [hy347]; with_reducible exact H2_) | (have H2_ := (Option.bind_some _ _).symm.trans H; with_reducible exact H2_) | with_reducible exact H | (rw [hy347]; exact H) | exact H
 have Ny347 := Aside0.mk hy347
 clear hy347
 have H' := Aside0.mk H
 clear H
 go_enter Try.func13, Try.ntmps13
 go_wp2_with (first | ((with_reducible refine gate_callee (f := 27) rfl ?_); refine goesL_ (some 17) rfl rfl Try.func27 (by kernel_rfl) rfl #[.slice A0 l0.length c0, .int .i64 4, .int .i64 6] rfl (by (try simp only [List.map_toArray, List.map_cons, List.map_nil]); first | done | rfl | (simp only [List.length_drop, List.length_take]; rfl)) ?_; (with_reducible refine (bobbinetkeep_Nodes.calls k (fun k_ => k_ < w.heap.size) _ _ l0 4 6 t336 t339 _ ?side1 A2.out).mono ?_); (case side1 => exact Kd.V_mk HC0.out (Kd.F_below (Kd.C_F (Kd.heap_int .i64) HR0.out) (by repeat (first | (with_reducible first | exact HB.out | apply below_alloc | apply pw_below_drewN | apply below_drew1) | exact HB.out)))); rintro e w5 ⟨v337, v340, rfl, ho0, ho1, hb⟩; (try replace ho0 := Kd.R_N ho0); refine ⟨_, rfl, ?_⟩; have n0_ := Aside0.mk (Kd.N_lower (Kd.N_mono (ok' := fun k_ => True) ho0 (fun k_ hk_ => trivial)) (below_size (by repeat (first | (with_reducible first | exact HB.out | apply below_alloc | apply pw_below_drewN | apply below_drew1) | exact HB.out)))); have n1_ := Aside0.mk (Kd.V_lower (Kd.V_mono (ok' := fun k_ => some k_ ≠ (v337 : Value).ownBlock) ho1 (fun k_ hk_ => hk_.2)) (below_size (by repeat (first | (with_reducible first | exact HB.out | apply below_alloc | apply pw_below_drewN | apply below_drew1) | exact HB.out)))); have n2_ := Aside0.mk (below_step (by repeat (first | (with_reducible first | exact HB.out | apply below_alloc | apply pw_below_drewN | apply below_drew1) | exact HB.out)) hb); clear HB; have HO338 := n0_; have HO341 := n1_; have HB := n2_; clear n0_ n1_ n2_; (try clear hb); (try clear hb2); (try clear hk); (try clear hi); (try clear ho0); (try clear ho1); obtain ⟨Ao6, co6, eo6⟩ := Kd.N_slice HO338.out; subst eo6) | ((with_reducible refine gate_callee (f := 28) rfl ?_); refine goesL_ (some 22) rfl rfl Try.func28 (by kernel_rfl) rfl #[.slice none 0 0, .slice Ao6 t336.length co6] rfl (by (try simp only [List.map_toArray, List.map_cons, List.map_nil]); first | done | rfl | (simp only [List.length_drop, List.length_take]; rfl)) ?_; (refine (bobbinetkeep_ruledBy.calls k _ _ ([] : List (S53)) _ _ t336 t342 t345 _ ?side1 ?side2 ?side3 ?side4 A3.out).mono ?_); (case side1 => exact Kd.C_nil _ _); (case side2 => exact Nat.le_refl _); (case side3 => repeat (first | exact (Kd.N_reads' HO338.out).2.2 | (with_reducible refine Kd.C_alloc ?_ _) | (with_reducible refine Kd.C_drewN ?_ _) | (with_reducible refine Kd.C_drew ?_))); (case side4 => exact (Kd.N_reads' HO338.out).2.1); rintro e w7 ⟨v343, rfl, ho0, hb⟩; (try replace ho0 := Kd.R_N ho0); refine ⟨_, rfl, ?_⟩; have n0_ := Aside0.mk (Kd.N_elder' (by (with_reducible repeat (first | apply Kd.N_alloc | apply Kd.N_drewN | apply Kd.N_drew)); exact HO338.out) (Kd.N_base ho0) hb); have n1_ := Aside0.mk (Kd.V_elder' (by (with_reducible repeat (first | apply Kd.V_alloc | apply Kd.V_drewN | apply Kd.V_drew)); exact HO341.out) (Kd.N_base ho0) hb); have n2_ := Aside0.mk (Kd.N_lower (Kd.N_mono (ok' := fun k_ => some k_ ≠ (.slice Ao6 t336.length co6 : Value).ownBlock) ho0 (fun k_ hk_ => (Kd.fresh' (Kd.N_lt (by (with_reducible repeat (first | apply Kd.N_alloc | apply Kd.N_drewN | apply Kd.N_drew)); exact HO338.out)) k_ hk_))) (below_size (by repeat (first | (with_reducible first | exact HB.out | apply below_alloc | apply pw_below_drewN | apply below_drew1) | exact HB.out)))); have n3_ := Aside0.mk (below_step (by repeat (first | (with_reducible first | exact HB.out | apply below_alloc | apply pw_below_drewN | apply below_drew1) | exact HB.out)) hb); clear HO338; clear HO341; clear HB; have HO338 := n0_; have HO341 := n1_; have HO344 := n2_; have HB := n3_; clear n0_ n1_ n2_ n3_; (try clear hb); (try clear hb2); (try clear hk); (try clear hi); (try clear ho0)) | ((with_reducible refine gate_callee (f := 31) rfl ?_); refine goesL_ (some 26) rfl rfl Try.func31 (by kernel_rfl) rfl #[.slice Ao6 t336.length co6] rfl (by (try simp only [List.map_toArray, List.map_cons, List.map_nil]); first | done | rfl | (simp only [List.length_drop, List.length_take]; rfl)) ?_; (with_reducible refine (bobbinetkeep_words.calls k _ _ t336 t346 _ ?side1 ?side2 A4.out).mono ?_); (case side1 => repeat (first | exact (Kd.N_reads' HO338.out).2.2 | (with_reducible refine Kd.C_alloc ?_ _) | (with_reducible refine Kd.C_drewN ?_ _) | (with_reducible refine Kd.C_drew ?_))); (case side2 => exact (Kd.N_reads' HO338.out).2.1); rintro e w8 ⟨rfl, hb⟩; refine ⟨_, rfl, ?_⟩; have n0_ := Aside0.mk (Kd.N_below (by (with_reducible repeat (first | apply Kd.N_alloc | apply Kd.N_drewN | apply Kd.N_drew)); exact HO338.out) hb); have n1_ := Aside0.mk (Kd.V_below (by (with_reducible repeat (first | apply Kd.V_alloc | apply Kd.V_drewN | apply Kd.V_drew)); exact HO341.out) hb); have n2_ := Aside0.mk (Kd.N_below (by (with_reducible repeat (first | apply Kd.N_alloc | apply Kd.N_drewN | apply Kd.N_drew)); exact HO344.out) hb); have n3_ := Aside0.mk (below_step (by repeat (first | (with_reducible first | exact HB.out | apply below_alloc | apply pw_below_drewN | apply below_drew1) | exact HB.out)) hb); clear HO338; clear HO341; clear HO344; clear HB; have HO338 := n0_; have HO341 := n1_; have HO344 := n2_; have HB := n3_; clear n0_ n1_ n2_ n3_; (try clear hb); (try clear hb2); (try clear hk); (try clear hi)) | ((with_reducible refine gate_dst (N := 27) rfl ?_); (try (refine gate_guard (by rfl) ?_; dsimp only)); refine Kd.R_lit Kd.string _ 9 ?hg (N := 27) ?hd (xs := ([(⟨#[100, 105, 118]⟩ : ByteArray), (⟨#[98]⟩ : ByteArray), (⟨#[101, 109]⟩ : ByteArray), (⟨#[112]⟩ : ByteArray), (⟨#[97]⟩ : ByteArray), (⟨#[117, 108]⟩ : ByteArray), (⟨#[98, 114]⟩ : ByteArray), (⟨#[105, 109, 103]⟩ : ByteArray)] : List ByteArray)) (inner := [.string (⟨#[100, 105, 118]⟩ : ByteArray), .string (⟨#[98]⟩ : ByteArray), .string (⟨#[101, 109]⟩ : ByteArray), .string (⟨#[112]⟩ : ByteArray), .string (⟨#[97]⟩ : ByteArray), .string (⟨#[117, 108]⟩ : ByteArray), .string (⟨#[98, 114]⟩ : ByteArray), .string (⟨#[105, 109, 103]⟩ : ByteArray)]) (ok := fun _ => True) (okp := fun _ => True) ?hr ?hp (fun _ hk => hk) trivial (Below.refl _ _) (Nat.le_refl _) (by simp) ?_; (case hd => rfl); (case hg => rfl); (case hr => first | (go_simp; done) | (go_simp; rfl)); (case hp => exact (Reps.one (show Kd.M Kd.string _ _ _ (⟨#[100, 105, 118]⟩ : ByteArray) [.string (⟨#[100, 105, 118]⟩ : ByteArray)] from rfl) (Reps.one (show Kd.M Kd.string _ _ _ (⟨#[98]⟩ : ByteArray) [.string (⟨#[98]⟩ : ByteArray)] from rfl) (Reps.one (show Kd.M Kd.string _ _ _ (⟨#[101, 109]⟩ : ByteArray) [.string (⟨#[101, 109]⟩ : ByteArray)] from rfl) (Reps.one (show Kd.M Kd.string _ _ _ (⟨#[112]⟩ : ByteArray) [.string (⟨#[112]⟩ : ByteArray)] from rfl) (Reps.one (show Kd.M Kd.string _ _ _ (⟨#[97]⟩ : ByteArray) [.string (⟨#[97]⟩ : ByteArray)] from rfl) (Reps.one (show Kd.M Kd.string _ _ _ (⟨#[117, 108]⟩ : ByteArray) [.string (⟨#[117, 108]⟩ : ByteArray)] from rfl) (Reps.one (show Kd.M Kd.string _ _ _ (⟨#[98, 114]⟩ : ByteArray) [.string (⟨#[98, 114]⟩ : ByteArray)] from rfl) (Reps.one (show Kd.M Kd.string _ _ _ (⟨#[105, 109, 103]⟩ : ByteArray) [.string (⟨#[105, 109, 103]⟩ : ByteArray)] from rfl) (Reps.none _ _)))))))))); intro v348 w9 ho10 hb hg_ hnew_; clear hg_ hnew_; (first | rw [← Ny347.out] at ho10 | (simp only [Int.reduceToNat] at ho10; rw [← Ny347.out] at ho10)); have n0_ := Aside0.mk (Kd.N_elder' (by (with_reducible repeat (first | apply Kd.N_alloc | apply Kd.N_drewN | apply Kd.N_drew)); exact HO338.out) (Kd.R_base ho10) hb); have n1_ := Aside0.mk (Kd.V_elder' (by (with_reducible repeat (first | apply Kd.V_alloc | apply Kd.V_drewN | apply Kd.V_drew)); exact HO341.out) (Kd.R_base ho10) hb); have n2_ := Aside0.mk (Kd.N_elder' (by (with_reducible repeat (first | apply Kd.N_alloc | apply Kd.N_drewN | apply Kd.N_drew)); exact HO344.out) (Kd.R_base ho10) hb); have n3_ := Aside0.mk (Kd.R_lower ho10 (below_size (by repeat (first | (with_reducible first | exact HB.out | apply below_alloc | apply pw_below_drewN | apply below_drew1) | exact HB.out)))); have n4_ := Aside0.mk (below_step (by repeat (first | (with_reducible first | exact HB.out | apply below_alloc | apply pw_below_drewN | apply below_drew1) | exact HB.out)) hb); clear HO338; clear HO341; clear HO344; clear HB; have HO338 := n0_; have HO341 := n1_; have HO344 := n2_; have HO349 := n3_; have HB := n4_; clear n0_ n1_ n2_ n3_ n4_; clear hb ho10))
 go_loopg [8, 10] k (fun kq v8 v10 w' => ∃ (x8_1 : List (S53)) (x10_1 : Int), v10 = .int .i64 x10_1 ∧ Aside0 (bobbinetkeep_RulesPlain.l0 kq t336 t342 t345 t346 x8_1 y347 x10_1 = some r) ∧ Aside0 (kq ≤ k) ∧ Aside0 (Kd.N k60 60 w' w.heap.size (fun k_ => some k_ ≠ (v343 : Value).ownBlock ∧ some k_ ≠ (v8 : Value).ownBlock ∧ some k_ ≠ (v348 : Value).ownBlock) (.slice Ao6 t336.length co6) t336) ∧ Aside0 (Kd.N k60 60 w' w.heap.size (fun k_ => some k_ ≠ ((.slice Ao6 t336.length co6) : Value).ownBlock ∧ some k_ ≠ (v8 : Value).ownBlock ∧ some k_ ≠ (v348 : Value).ownBlock) v343 t342) ∧ Aside0 (Kd.R k53 53 w' w.heap.size (fun _ => True) v8 x8_1) ∧ Aside0 (Kd.R Kd.string 9 w' w.heap.size (fun _ => True) v348 y347) ∧ Aside0 (Below w.heap.size w w'))
 case atStart => exact ⟨(([] : List (S53))), (0), (by first | rfl | (simp; done) | (simp [*]; done) | (simp [bne]; done)), H', ⟨Nat.le_refl _⟩, ⟨by (with_reducible repeat (first | apply Kd.N_alloc | apply Kd.N_drewN | apply Kd.N_drew)); exact Kd.N_mono HO338.out (fun _ hk => (by first | exact ⟨hk.1.2, ⟨(by simp [Value.ownBlock]), hk.2⟩⟩ | grind))⟩, ⟨by (with_reducible repeat (first | apply Kd.N_alloc | apply Kd.N_drewN | apply Kd.N_drew)); exact Kd.N_mono HO344.out (fun _ hk => (by first | exact ⟨hk.1, ⟨(by simp [Value.ownBlock]), hk.2⟩⟩ | grind))⟩, ⟨by first | exact Kd.R_nil _ _ _ _ _ | exact Kd.N_nil _ _ _ _ _ | exact Kd.V_nil _ _ _ _ _ | exact Kd.Q_nil _ _ _ _ _ | exact Kd.S_nil _ _ _ _ _⟩, ⟨by (with_reducible repeat (first | apply Kd.R_alloc | apply Kd.R_drewN | apply Kd.R_drew)); exact HO349.out⟩, ⟨by repeat (first | (with_reducible first | exact HB.out | apply below_alloc | apply pw_below_drewN | apply below_drew1) | exact HB.out)⟩⟩
 case round =>
  clear H'
  try clear c1
  try clear c2
  try clear p2
  try clear c3
  obtain ⟨x8_1, x10_1, rfl, HA, HK1, HO_3, HO_5, HO_8, HO_9, HB⟩ := hrel
  cases gk with
  | zero => exact absurd HA.out (by simp [bobbinetkeep_RulesPlain.l0])
  | succ k1 =>
   have H := HA.out
   clear HA
   simp only [bobbinetkeep_RulesPlain.l0] at H
   by_cases c11 : x10_1 < (y347.length : Int)
   ·
    rw [if_pos c11] at H
    have c11b0 : decide (x10_1 < (y347.length : Int)) = true := decide_eq_true c11
    clear c11
    by_cases c12 : 0 ≤ x10_1
    ·
     rw [if_pos c12] at H
     have c12b0 : decide (0 ≤ x10_1) = true := decide_eq_true c12
     clear c12
     by_cases c13 : x8_1.length < 3518437208883
     ·
      rw [if_pos c13] at H
      have LMc13 := Aside0.mk c13
      clear c13
      obtain ⟨y351, hy351⟩ : ∃ y_ : List (S53), y_ = (x8_1 ++ [(⟨rdOf ByteArray.empty y347 x10_1, 3, (⟨#[]⟩ : ByteArray)⟩ : S53)]) := ⟨_, rfl⟩
      replace H : (bobbinetkeep_RulesPlain.l0 k1 t336 t342 t345 t346 y351 y347 (wrap64 (x10_1 + 1))) = some r := by first | (rw [hy351]; with_reducible exact H) | (have H2_ := (Option.bind_some _ _).symm.trans H; rw [hy351]; with_reducible exact H2_) | (have H2_ := (Option.bind_some _ _).symm.trans H; with_reducible exact H2_) | with_reducible exact H | (rw [hy351]; exact H) | exact H
      have Ny351 := Aside0.mk hy351
      clear hy351
      have H' := Aside0.mk H
      clear H
      obtain ⟨Ao14, co14, eo14⟩ := Kd.R_slice HO_9.out
      subst eo14
      have p350 : 0 ≤ (x10_1 : Int) := of_decide_eq_true (by first | (with_reducible assumption) | assumption)
      have q350 : x10_1 < (y347.length : Int) := of_decide_eq_true (by first | (with_reducible assumption) | assumption)
      obtain ⟨ad350, e350, hx350_0⟩ := Kd.at_string (Kd.R_reads' HO_9.out).2.2 x10_1 p350 q350
      cases e350
      replace p350 := eq_true p350
      replace q350 := eq_true q350
      go_wp2_with (first | ((with_reducible refine gate_builtin (b := .append) (xs := #[.tmp 34, .tmp 40]) rfl ?_); (try (refine gate_guard (by rfl) ?_; dsimp only)); at_builtin; refine Kd.R_append k53 (w0 := w) w.heap.size rfl (.tmp 34) (.tmp 40) 45 53 (.agg #[(.string ⟨#[]⟩), (.int .i64 0), (.string ⟨#[]⟩)]) 40 rfl Try.underlying45 info53 rfl (by decide) (by omega) u8 x8_1 (⟨rdOf ByteArray.empty y347 x10_1, 3, (⟨#[]⟩ : ByteArray)⟩ : S53) [.string (rdOf ByteArray.empty y347 x10_1), .int .i64 3, .string (⟨#[]⟩ : ByteArray)] (fun _ => True) (fun _ => False) rfl rfl ?aP (fun _ hk => hk.elim) ?aF ?aO ?aB ?aS ?aL ?_; (case aP => exact k53_mkM _ _ _ (⟨rdOf ByteArray.empty y347 x10_1, 3, (⟨#[]⟩ : ByteArray)⟩ : S53)); (case aB => exact (by repeat (first | (with_reducible first | exact HB.out | apply below_alloc | apply pw_below_drewN | apply below_drew1) | exact HB.out))); (case aF => exact (fun _ _ => trivial)); (case aO => exact (by (with_reducible repeat (first | apply Kd.R_alloc | apply Kd.R_drewN | apply Kd.R_drew)); exact HO_8.out)); (case aS => exact (below_size (by repeat (first | (with_reducible first | exact HB.out | apply below_alloc | apply pw_below_drewN | apply below_drew1) | exact HB.out)))); (case aL => have := LMc13.out; omega); intro v352 w15 ho hb hg hat; rw [← Ny351.out] at ho; have n0_ := Aside0.mk (Kd.N_afterv (ok := (fun k_ => some k_ ≠ (v343 : Value).ownBlock ∧ some k_ ≠ (.slice (some ad350) y347.length co14 : Value).ownBlock)) (by (with_reducible repeat (first | apply Kd.N_alloc | apply Kd.N_drewN | apply Kd.N_drew)); exact Kd.N_mono HO_3.out (fun _ hk => (by first | exact ⟨⟨hk.1, hk.2.2⟩, hk.2.1⟩ | grind))) hg hat); have n1_ := Aside0.mk (Kd.N_afterv (ok := (fun k_ => some k_ ≠ (.slice Ao6 t336.length co6 : Value).ownBlock ∧ some k_ ≠ (.slice (some ad350) y347.length co14 : Value).ownBlock)) (by (with_reducible repeat (first | apply Kd.N_alloc | apply Kd.N_drewN | apply Kd.N_drew)); exact Kd.N_mono HO_5.out (fun _ hk => (by first | exact ⟨⟨hk.1, hk.2.2⟩, hk.2.1⟩ | grind))) hg hat); have n2_ := Aside0.mk (Kd.R_over' (by (with_reducible repeat (first | apply Kd.R_alloc | apply Kd.R_drewN | apply Kd.R_drew)); exact HO_9.out) (Kd.R_typed (by (with_reducible repeat (first | apply Kd.R_alloc | apply Kd.R_drewN | apply Kd.R_drew)); exact HO_8.out)) (by decide) hg); have n3_ := Aside0.mk (hb); have n4_ := Aside0.mk (ho); clear HO_3; clear HO_5; clear HO_9; clear HB; clear HO_8; have HO_3 := n0_; have HO_5 := n1_; have HO_9 := n2_; have HB := n3_; have HO353 := n4_; clear n0_ n1_ n2_ n3_ n4_; clear ho hb hg hat))
      go_roundg k1
      case measure => have := HK1.out; omega
      case rel => exact ⟨(y351), (wrap64 (x10_1 + 1)), (by first | rfl | (simp; done) | (simp [*]; done) | (simp [bne]; done)), H', ⟨by have := HK1.out; omega⟩, ⟨by (with_reducible repeat (first | apply Kd.N_alloc | apply Kd.N_drewN | apply Kd.N_drew)); exact Kd.N_mono HO_3.out (fun _ hk => (by first | exact ⟨hk.1.1, ⟨hk.2, hk.1.2⟩⟩ | grind))⟩, ⟨by (with_reducible repeat (first | apply Kd.N_alloc | apply Kd.N_drewN | apply Kd.N_drew)); exact Kd.N_mono HO_5.out (fun _ hk => (by first | exact ⟨hk.1.1, ⟨hk.2, hk.1.2⟩⟩ | grind))⟩, ⟨by (with_reducible repeat (first | apply Kd.R_alloc | apply Kd.R_drewN | apply Kd.R_drew)); exact HO353.out⟩, ⟨by (with_reducible repeat (first | apply Kd.R_alloc | apply Kd.R_drewN | apply Kd.R_drew)); exact HO_9.out⟩, ⟨by repeat (first | (with_reducible first | exact HB.out | apply below_alloc | apply pw_below_drewN | apply below_drew1) | exact HB.out)⟩⟩
     ·
      rw [if_neg c13] at H
      exact absurd H (by simp)
    ·
     rw [if_neg c12] at H
     exact absurd H (by simp)
   ·
    rw [if_neg c11] at H
    have c11b0 : decide (x10_1 < (y347.length : Int)) = false := decide_eq_false c11
    clear c11
    replace H := Option.bind_eq_some_iff.mp H
    obtain ⟨⟨t354, t357⟩, A160, H⟩ := H
    replace H : (bobbinetkeep_RulesPlain.l1 k1 t336 t342 t345 t346 t354 t357 (⟨#[]⟩ : ByteArray) 0) = some r := H
    have A16 := Aside0.mk A160
    clear A160
    have H' := Aside0.mk H
    clear H
    obtain ⟨Ao17, co17, eo17⟩ := Kd.R_slice HO_9.out
    subst eo17
    obtain ⟨Ao18, co18, eo18⟩ := Kd.R_slice HO_8.out
    subst eo18
    go_wp2_with (first | ((with_reducible refine gate_callee (f := 28) rfl ?_); refine goesL_ (some 45) rfl rfl Try.func28 (by kernel_rfl) rfl #[.slice Ao18 x8_1.length co18, .slice Ao6 t336.length co6] rfl (by (try simp only [List.map_toArray, List.map_cons, List.map_nil]); first | done | rfl | (simp only [List.length_drop, List.length_take]; rfl)) ?_; (with_reducible refine (bobbinetkeep_ruledBy.calls k1 _ _ x8_1 _ _ t336 t354 t357 _ ?side1 ?side2 ?side3 ?side4 A16.out).mono ?_); (case side1 => repeat (first | exact (Kd.R_reads' HO_8.out).2.2 | (with_reducible refine Kd.C_alloc ?_ _) | (with_reducible refine Kd.C_drewN ?_ _) | (with_reducible refine Kd.C_drew ?_))); (case side2 => exact (Kd.R_reads' HO_8.out).2.1); (case side3 => repeat (first | exact (Kd.N_reads' HO_3.out).2.2 | (with_reducible refine Kd.C_alloc ?_ _) | (with_reducible refine Kd.C_drewN ?_ _) | (with_reducible refine Kd.C_drew ?_))); (case side4 => exact (Kd.N_reads' HO_3.out).2.1); rintro e w19 ⟨v355, rfl, ho0, hb⟩; (try replace ho0 := Kd.R_N ho0); refine ⟨_, rfl, ?_⟩; have n0_ := Aside0.mk (Kd.N_elder' (by (with_reducible repeat (first | apply Kd.N_alloc | apply Kd.N_drewN | apply Kd.N_drew)); exact HO_3.out) (Kd.N_base ho0) hb); have n1_ := Aside0.mk (Kd.N_elder' (by (with_reducible repeat (first | apply Kd.N_alloc | apply Kd.N_drewN | apply Kd.N_drew)); exact HO_5.out) (Kd.N_base ho0) hb); have n2_ := Aside0.mk (Kd.R_below (by (with_reducible repeat (first | apply Kd.R_alloc | apply Kd.R_drewN | apply Kd.R_drew)); exact HO_8.out) hb); have n3_ := Aside0.mk (Kd.R_below (by (with_reducible repeat (first | apply Kd.R_alloc | apply Kd.R_drewN | apply Kd.R_drew)); exact HO_9.out) hb); have n4_ := Aside0.mk (Kd.N_lower (Kd.N_mono (ok' := fun k_ => some k_ ≠ (.slice Ao6 t336.length co6 : Value).ownBlock ∧ some k_ ≠ (v343 : Value).ownBlock ∧ some k_ ≠ (.slice Ao18 x8_1.length co18 : Value).ownBlock ∧ some k_ ≠ (.slice Ao17 y347.length co17 : Value).ownBlock) ho0 (fun k_ hk_ => ⟨(Kd.fresh' (Kd.N_lt (by (with_reducible repeat (first | apply Kd.N_alloc | apply Kd.N_drewN | apply Kd.N_drew)); exact HO_3.out)) k_ hk_), (Kd.fresh' (Kd.N_lt (by (with_reducible repeat (first | apply Kd.N_alloc | apply Kd.N_drewN | apply Kd.N_drew)); exact HO_5.out)) k_ hk_), (Kd.fresh' (Kd.R_lt (by (with_reducible repeat (first | apply Kd.R_alloc | apply Kd.R_drewN | apply Kd.R_drew)); exact HO_8.out)) k_ hk_), (Kd.fresh' (Kd.R_lt (by (with_reducible repeat (first | apply Kd.R_alloc | apply Kd.R_drewN | apply Kd.R_drew)); exact HO_9.out)) k_ hk_)⟩)) (below_size (by repeat (first | (with_reducible first | exact HB.out | apply below_alloc | apply pw_below_drewN | apply below_drew1) | exact HB.out)))); have n5_ := Aside0.mk (below_step (by repeat (first | (with_reducible first | exact HB.out | apply below_alloc | apply pw_below_drewN | apply below_drew1) | exact HB.out)) hb); clear HO_3; clear HO_5; clear HO_8; clear HO_9; clear HB; have HO_3 := n0_; have HO_5 := n1_; have HO_8 := n2_; have HO_9 := n3_; have HO356 := n4_; have HB := n5_; clear n0_ n1_ n2_ n3_ n4_ n5_; (try clear hb); (try clear hb2); (try clear hk); (try clear hi); (try clear ho0)))
    go_loopg [13, 14] k1 (fun kq v13 v14 w' => ∃ (x13_2 : ByteArray) (x14_2 : Int), v13 = .string x13_2 ∧ v14 = .int .i64 x14_2 ∧ Aside0 (bobbinetkeep_RulesPlain.l1 kq t336 t342 t345 t346 t354 t357 x13_2 x14_2 = some r) ∧ Aside0 (kq ≤ k1) ∧ Aside0 (Kd.N k60 60 w' w.heap.size (fun k_ => some k_ ≠ (v343 : Value).ownBlock ∧ some k_ ≠ (v355 : Value).ownBlock) (.slice Ao6 t336.length co6) t336) ∧ Aside0 (Kd.N k60 60 w' w.heap.size (fun k_ => some k_ ≠ ((.slice Ao6 t336.length co6) : Value).ownBlock ∧ some k_ ≠ (v355 : Value).ownBlock) v343 t342) ∧ Aside0 (Kd.N k60 60 w' w.heap.size (fun k_ => some k_ ≠ ((.slice Ao6 t336.length co6) : Value).ownBlock ∧ some k_ ≠ (v343 : Value).ownBlock) v355 t354) ∧ Aside0 (Below w.heap.size w w'))
    case atStart => exact ⟨((⟨#[]⟩ : ByteArray)), (0), (by first | rfl | (simp; done) | (simp [*]; done) | (simp [bne]; done)), (by first | rfl | (simp; done) | (simp [*]; done) | (simp [bne]; done)), H', ⟨Nat.le_refl _⟩, ⟨by (with_reducible repeat (first | apply Kd.N_alloc | apply Kd.N_drewN | apply Kd.N_drew)); exact Kd.N_mono HO_3.out (fun _ hk => (by first | exact ⟨hk.1.1, hk.2⟩ | grind))⟩, ⟨by (with_reducible repeat (first | apply Kd.N_alloc | apply Kd.N_drewN | apply Kd.N_drew)); exact Kd.N_mono HO_5.out (fun _ hk => (by first | exact ⟨hk.1.1, hk.2⟩ | grind))⟩, ⟨by (with_reducible repeat (first | apply Kd.N_alloc | apply Kd.N_drewN | apply Kd.N_drew)); exact Kd.N_mono HO356.out (fun _ hk => (by first | exact ⟨hk.1, hk.2.1⟩ | grind))⟩, ⟨by repeat (first | (with_reducible first | exact HB.out | apply below_alloc | apply pw_below_drewN | apply below_drew1) | exact HB.out)⟩⟩
    case round =>
     clear H'
     try clear c1
     try clear c2
     try clear p2
     try clear c3
     try clear p3
     try clear q3
     try clear hx3
     try clear p6
     try clear c11
     try clear c11b0
     try clear c12
     try clear c12b0
     try clear c13
     try clear hx350_0
     try clear p2
     try clear p350
     try clear q350
     obtain ⟨x13_2, x14_2, rfl, rfl, HA, HK2, HO_3, HO_5, HO_11, HB⟩ := hrel
     cases gk with
     | zero => exact absurd HA.out (by simp [bobbinetkeep_RulesPlain.l1])
     | succ k2 =>
      have H := HA.out
      clear HA
      simp only [bobbinetkeep_RulesPlain.l1] at H
      by_cases c20 : x14_2 < (t336.length : Int)
      ·
       rw [if_pos c20] at H
       have c20b0 : decide (x14_2 < (t336.length : Int)) = true := decide_eq_true c20
       clear c20
       by_cases c21 : 0 ≤ x14_2
       ·
        rw [if_pos c21] at H
        have c21b0 : decide (0 ≤ x14_2) = true := decide_eq_true c21
        clear c21
        by_cases c22 : x13_2.size + ((rd_T60 t336 x14_2).f2).size ≤ 9223372036854775807
        ·
         rw [if_pos c22] at H
         have c22b0 := eq_true c22
         have c22b1 : decide (x13_2.size + ((rd_T60 t336 x14_2).f2).size ≤ 9223372036854775807) = true := decide_eq_true c22
         try have c22b2 : (9223372036854775807 < x13_2.size + ((rd_T60 t336 x14_2).f2).size) = False := eq_false (Nat.not_lt.2 c22)
         have H' := Aside0.mk H
         clear H
         have p358 : 0 ≤ (x14_2 : Int) := of_decide_eq_true (by first | (with_reducible assumption) | assumption)
         have q358 : x14_2 < (t336.length : Int) := of_decide_eq_true (by first | (with_reducible assumption) | assumption)
         obtain ⟨ad358, A358_1, c358_1, A358_3, c358_3, e358, hx358_0, hx358_1, hx358_2, hx358_3, hl358_1, hi358_1, hl358_3, hi358_3⟩ := at_T60 (Kd.N_reads' HO_3.out).2.2 x14_2 p358 q358
         cases e358
         obtain ⟨ce358, hce358, hMe358, hcc358⟩ := Kd.N_get HO_3.out z60 x14_2 p358 (by first | exact q358 | exact of_decide_eq_true (by first | (with_reducible assumption) | assumption) | (have e_ := (Kd.N_reads' HO_3.out).1; omega))
         obtain ⟨ua358_1, uc358_1, ua358_3, uc358_3, rfl, ul358_1, ge358_1, ul358_3, ge358_3⟩ := k60_openF hMe358
         have hv358_1 := hcc358 1 _ rfl
         rw [add_field _ _ 1 (by omega)] at hv358_1
         replace hv358_1 := Option.some.inj (hv358_1.symm.trans hx358_1)
         injection hv358_1 with hva_ hvn_ hvc_
         rw [hva_] at ge358_1
         rw [hvc_] at ul358_1
         have HL358_1 := Aside0.mk (show Kd.V k75 75 _ w.heap.size _ _ ((rd_T60 t336 x14_2).f1) from Kd.V_mk ul358_1 ge358_1)
         clear hva_ hvn_ hvc_ ge358_1 ul358_1
         have hv358_3 := hcc358 3 _ rfl
         rw [add_field _ _ 3 (by omega)] at hv358_3
         replace hv358_3 := Option.some.inj (hv358_3.symm.trans hx358_3)
         injection hv358_3 with hva_ hvn_ hvc_
         rw [hva_] at ge358_3
         rw [hvc_] at ul358_3
         have HL358_3 := Aside0.mk (show Kd.V k60 60 _ w.heap.size _ _ ((rd_T60 t336 x14_2).f3) from Kd.V_mk ul358_3 ge358_3)
         clear hva_ hvn_ hvc_ ge358_3 ul358_3
         clear hcc358 hce358
         have HR358_1 := Aside0.mk hi358_1
         have HC358_1 := Aside0.mk hl358_1
         clear hi358_1 hl358_1
         have HR358_3 := Aside0.mk hi358_3
         have HC358_3 := Aside0.mk hl358_3
         clear hi358_3 hl358_3
         replace p358 := eq_true p358
         replace q358 := eq_true q358
         go_wp2
         go_roundg k2
         case measure => have := HK1.out; have := HK2.out; omega
         case rel => exact ⟨(x13_2 ++ ((rd_T60 t336 x14_2).f2)), (wrap64 (x14_2 + 1)), (by first | rfl | (simp; done) | (simp [*]; done) | (simp [bne]; done)), (by first | rfl | (simp; done) | (simp [*]; done) | (simp [bne]; done)), H', ⟨by have := HK1.out; have := HK2.out; omega⟩, ⟨by (with_reducible repeat (first | apply Kd.N_alloc | apply Kd.N_drewN | apply Kd.N_drew)); exact HO_3.out⟩, ⟨by (with_reducible repeat (first | apply Kd.N_alloc | apply Kd.N_drewN | apply Kd.N_drew)); exact HO_5.out⟩, ⟨by (with_reducible repeat (first | apply Kd.N_alloc | apply Kd.N_drewN | apply Kd.N_drew)); exact HO_11.out⟩, ⟨by repeat (first | (with_reducible first | exact HB.out | apply below_alloc | apply pw_below_drewN | apply below_drew1) | exact HB.out)⟩⟩
        ·
         rw [if_neg c22] at H
         exact absurd H (by simp)
       ·
        rw [if_neg c21] at H
        exact absurd H (by simp)
      ·
       rw [if_neg c20] at H
       have c20b0 : decide (x14_2 < (t336.length : Int)) = false := decide_eq_false c20
       clear c20
       by_cases c23 : t345 = true
       ·
        subst c23
        have H1 : (if t357 = true then ((bobbinetkeep_words.f k2 t354).bind fun t359 => (if t359.toList = x13_2.toList then (if (t354.length : Int) > 1 then (some false) else (if t346.toList = ([] : List UInt8) then (if (t342.length : Int) = 0 then (some true) else (if (t342.length : Int) = 1 then (if 0 < (t342.length : Int) then (if ((rd_T60 t342 0).f0).toList = ([] : List UInt8) then (some (((rd_T60 t342 0).f2).toList == t346.toList)) else (some false)) else (none)) else (some false))) else (if (t342.length : Int) = 1 then (if 0 < (t342.length : Int) then (if ((rd_T60 t342 0).f0).toList = ([] : List UInt8) then (some (((rd_T60 t342 0).f2).toList == t346.toList)) else (some false)) else (none)) else (some false)))) else (some false))) else (some false)) = some r := by rw [if_pos rfl] at H; exact H
        clear H
        have H := H1
        clear H1
        by_cases c24 : t357 = true
        ·
         subst c24
         have H1 : ((bobbinetkeep_words.f k2 t354).bind fun t359 => (if t359.toList = x13_2.toList then (if (t354.length : Int) > 1 then (some false) else (if t346.toList = ([] : List UInt8) then (if (t342.length : Int) = 0 then (some true) else (if (t342.length : Int) = 1 then (if 0 < (t342.length : Int) then (if ((rd_T60 t342 0).f0).toList = ([] : List UInt8) then (some (((rd_T60 t342 0).f2).toList == t346.toList)) else (some false)) else (none)) else (some false))) else (if (t342.length : Int) = 1 then (if 0 < (t342.length : Int) then (if ((rd_T60 t342 0).f0).toList = ([] : List UInt8) then (some (((rd_T60 t342 0).f2).toList == t346.toList)) else (some false)) else (none)) else (some false)))) else (some false))) = some r := by rw [if_pos rfl] at H; exact H
         clear H
         have H := H1
         clear H1
         replace H := Option.bind_eq_some_iff.mp H
         obtain ⟨t359, A250, H⟩ := H
         replace H : (if t359.toList = x13_2.toList then (if (t354.length : Int) > 1 then (some false) else (if t346.toList = ([] : List UInt8) then (if (t342.length : Int) = 0 then (some true) else (if (t342.length : Int) = 1 then (if 0 < (t342.length : Int) then (if ((rd_T60 t342 0).f0).toList = ([] : List UInt8) then (some (((rd_T60 t342 0).f2).toList == t346.toList)) else (some false)) else (none)) else (some false))) else (if (t342.length : Int) = 1 then (if 0 < (t342.length : Int) then (if ((rd_T60 t342 0).f0).toList = ([] : List UInt8) then (some (((rd_T60 t342 0).f2).toList == t346.toList)) else (some false)) else (none)) else (some false)))) else (some false)) = some r := H
         have A25 := Aside0.mk A250
         clear A250
         by_cases c26 : t359.toList = x13_2.toList
         ·
          rw [if_pos c26] at H
          have c26b0 : (t359.toList == x13_2.toList) = true := beq_iff_eq.mpr c26
          have c26b1 : (t359.toList != x13_2.toList) = false := bne_eq_false_iff_eq.mpr c26
          clear c26
          by_cases c27 : (t354.length : Int) > 1
          ·
           rw [if_pos c27] at H
           have c27b0 : decide (1 < (t354.length : Int)) = true := decide_eq_true c27
           have c27b1 : decide (1 < t354.length) = true := decide_eq_true (by omega)
           clear c27
           obtain rfl := Option.some.inj H
           obtain ⟨Ao28, co28, eo28⟩ := Kd.N_slice HO_11.out
           subst eo28
           go_wp2_with (first | (go_at_call 31; (with_reducible refine (bobbinetkeep_words.calls k2 _ _ t354 t359 _ ?side1 ?side2 A25.out).mono ?_); (case side1 => repeat (first | exact (Kd.N_reads' HO_11.out).2.2 | (with_reducible refine Kd.C_alloc ?_ _) | (with_reducible refine Kd.C_drewN ?_ _) | (with_reducible refine Kd.C_drew ?_))); (case side2 => exact (Kd.N_reads' HO_11.out).2.1); rintro e w29 ⟨rfl, hb⟩; have n0_ := Aside0.mk (Kd.N_below (by (with_reducible repeat (first | apply Kd.N_alloc | apply Kd.N_drewN | apply Kd.N_drew)); exact HO_3.out) hb); have n1_ := Aside0.mk (Kd.N_below (by (with_reducible repeat (first | apply Kd.N_alloc | apply Kd.N_drewN | apply Kd.N_drew)); exact HO_5.out) hb); have n2_ := Aside0.mk (Kd.N_below (by (with_reducible repeat (first | apply Kd.N_alloc | apply Kd.N_drewN | apply Kd.N_drew)); exact HO_11.out) hb); have n3_ := Aside0.mk (below_step (by repeat (first | (with_reducible first | exact HB.out | apply below_alloc | apply pw_below_drewN | apply below_drew1) | exact HB.out)) hb); clear HO_3; clear HO_5; clear HO_11; clear HB; have HO_3 := n0_; have HO_5 := n1_; have HO_11 := n2_; have HB := n3_; clear n0_ n1_ n2_ n3_; (try clear hb); (try clear hb2); (try clear hk); (try clear hi)))
           go_ret
           exact ⟨by first | rfl | (simp [errW_none, errW_some] <;> rfl) | (simp [*, errW_none, errW_some] <;> rfl), by repeat (first | (with_reducible first | exact HB.out | apply below_alloc | apply pw_below_drewN | apply below_drew1) | exact HB.out)⟩
          ·
           rw [if_neg c27] at H
           have c27b0 : decide (1 < (t354.length : Int)) = false := decide_eq_false c27
           have c27b1 : decide (1 < t354.length) = false := decide_eq_false (by omega)
           clear c27
           by_cases c30 : t346.toList = ([] : List UInt8)
           ·
            rw [if_pos c30] at H
            have c30b0 : (t346.toList == ([] : List UInt8)) = true := beq_iff_eq.mpr c30
            have c30b1 : (t346.toList != ([] : List UInt8)) = false := bne_eq_false_iff_eq.mpr c30
            clear c30
            by_cases c31 : (t342.length : Int) = 0
            ·
             rw [if_pos c31] at H
             have c31b0 : ((t342.length : Int) == 0) = true := beq_iff_eq.mpr c31
             have c31b1 : ((t342.length : Int) != 0) = false := bne_eq_false_iff_eq.mpr c31
             clear c31
             obtain rfl := Option.some.inj H
             obtain ⟨Ao32, co32, eo32⟩ := Kd.N_slice HO_11.out
             subst eo32
             go_wp2_with (first | (go_at_call 31; (with_reducible refine (bobbinetkeep_words.calls k2 _ _ t354 t359 _ ?side1 ?side2 A25.out).mono ?_); (case side1 => repeat (first | exact (Kd.N_reads' HO_11.out).2.2 | (with_reducible refine Kd.C_alloc ?_ _) | (with_reducible refine Kd.C_drewN ?_ _) | (with_reducible refine Kd.C_drew ?_))); (case side2 => exact (Kd.N_reads' HO_11.out).2.1); rintro e w33 ⟨rfl, hb⟩; have n0_ := Aside0.mk (Kd.N_below (by (with_reducible repeat (first | apply Kd.N_alloc | apply Kd.N_drewN | apply Kd.N_drew)); exact HO_3.out) hb); have n1_ := Aside0.mk (Kd.N_below (by (with_reducible repeat (first | apply Kd.N_alloc | apply Kd.N_drewN | apply Kd.N_drew)); exact HO_5.out) hb); have n2_ := Aside0.mk (Kd.N_below (by (with_reducible repeat (first | apply Kd.N_alloc | apply Kd.N_drewN | apply Kd.N_drew)); exact HO_11.out) hb); have n3_ := Aside0.mk (below_step (by repeat (first | (with_reducible first | exact HB.out | apply below_alloc | apply pw_below_drewN | apply below_drew1) | exact HB.out)) hb); clear HO_3; clear HO_5; clear HO_11; clear HB; have HO_3 := n0_; have HO_5 := n1_; have HO_11 := n2_; have HB := n3_; clear n0_ n1_ n2_ n3_; (try clear hb); (try clear hb2); (try clear hk); (try clear hi); obtain ⟨Ao34, co34, eo34⟩ := Kd.N_slice HO_5.out; subst eo34))
             go_ret
             exact ⟨by first | rfl | (simp [errW_none, errW_some] <;> rfl) | (simp [*, errW_none, errW_some] <;> rfl), by repeat (first | (with_reducible first | exact HB.out | apply below_alloc | apply pw_below_drewN | apply below_drew1) | exact HB.out)⟩
            ·
             rw [if_neg c31] at H
             have c31b0 : ((t342.length : Int) == 0) = false := beq_eq_false_iff_ne.mpr c31
             have c31b1 : ((t342.length : Int) != 0) = true := bne_iff_ne.mpr c31
             have c31b2 : ¬ (t342 = []) := fun h_ => c31 (by rw [h_]; rfl)
             by_cases c35 : (t342.length : Int) = 1
             ·
              rw [if_pos c35] at H
              have c35b0 : ((t342.length : Int) == 1) = true := beq_iff_eq.mpr c35
              have c35b1 : ((t342.length : Int) != 1) = false := bne_eq_false_iff_eq.mpr c35
              clear c35
              by_cases c36 : 0 < (t342.length : Int)
              ·
               rw [if_pos c36] at H
               have c36b0 : decide (0 < (t342.length : Int)) = true := decide_eq_true c36
               have c36b1 : decide (0 < t342.length) = true := decide_eq_true (by omega)
               clear c36
               by_cases c37 : ((rd_T60 t342 0).f0).toList = ([] : List UInt8)
               ·
                rw [if_pos c37] at H
                have c37b0 : (((rd_T60 t342 0).f0).toList == ([] : List UInt8)) = true := beq_iff_eq.mpr c37
                have c37b1 : (((rd_T60 t342 0).f0).toList != ([] : List UInt8)) = false := bne_eq_false_iff_eq.mpr c37
                clear c37
                obtain rfl := Option.some.inj H
                obtain ⟨Ao38, co38, eo38⟩ := Kd.N_slice HO_11.out
                subst eo38
                go_wp2_with (first | (go_at_call 31; (with_reducible refine (bobbinetkeep_words.calls k2 _ _ t354 t359 _ ?side1 ?side2 A25.out).mono ?_); (case side1 => repeat (first | exact (Kd.N_reads' HO_11.out).2.2 | (with_reducible refine Kd.C_alloc ?_ _) | (with_reducible refine Kd.C_drewN ?_ _) | (with_reducible refine Kd.C_drew ?_))); (case side2 => exact (Kd.N_reads' HO_11.out).2.1); rintro e w39 ⟨rfl, hb⟩; have n0_ := Aside0.mk (Kd.N_below (by (with_reducible repeat (first | apply Kd.N_alloc | apply Kd.N_drewN | apply Kd.N_drew)); exact HO_3.out) hb); have n1_ := Aside0.mk (Kd.N_below (by (with_reducible repeat (first | apply Kd.N_alloc | apply Kd.N_drewN | apply Kd.N_drew)); exact HO_5.out) hb); have n2_ := Aside0.mk (Kd.N_below (by (with_reducible repeat (first | apply Kd.N_alloc | apply Kd.N_drewN | apply Kd.N_drew)); exact HO_11.out) hb); have n3_ := Aside0.mk (below_step (by repeat (first | (with_reducible first | exact HB.out | apply below_alloc | apply pw_below_drewN | apply below_drew1) | exact HB.out)) hb); clear HO_3; clear HO_5; clear HO_11; clear HB; have HO_3 := n0_; have HO_5 := n1_; have HO_11 := n2_; have HB := n3_; clear n0_ n1_ n2_ n3_; (try clear hb); (try clear hb2); (try clear hk); (try clear hi); obtain ⟨Ao40, co40, eo40⟩ := Kd.N_slice HO_5.out; subst eo40; have p360 : 0 ≤ (0 : Int) := (by omega); have q360 : 0 < (t342.length : Int) := of_decide_eq_true (by first | (with_reducible assumption) | assumption); obtain ⟨ad360, A360_1, c360_1, A360_3, c360_3, e360, hx360_0, hx360_1, hx360_2, hx360_3, hl360_1, hi360_1, hl360_3, hi360_3⟩ := at_T60 (Kd.N_reads' HO_5.out).2.2 0 p360 q360; cases e360; obtain ⟨ce360, hce360, hMe360, hcc360⟩ := Kd.N_get HO_5.out z60 0 p360 (by first | exact q360 | exact of_decide_eq_true (by first | (with_reducible assumption) | assumption) | (have e_ := (Kd.N_reads' HO_5.out).1; omega)); obtain ⟨ua360_1, uc360_1, ua360_3, uc360_3, rfl, ul360_1, ge360_1, ul360_3, ge360_3⟩ := k60_openF hMe360; have hv360_1 := hcc360 1 _ rfl; rw [add_field _ _ 1 (by omega)] at hv360_1; replace hv360_1 := Option.some.inj (hv360_1.symm.trans hx360_1); injection hv360_1 with hva_ hvn_ hvc_; rw [hva_] at ge360_1; rw [hvc_] at ul360_1; have HL360_1 := Aside0.mk (show Kd.V k75 75 _ w.heap.size _ _ ((rd_T60 t342 0).f1) from Kd.V_mk ul360_1 ge360_1); clear hva_ hvn_ hvc_ ge360_1 ul360_1; have hv360_3 := hcc360 3 _ rfl; rw [add_field _ _ 3 (by omega)] at hv360_3; replace hv360_3 := Option.some.inj (hv360_3.symm.trans hx360_3); injection hv360_3 with hva_ hvn_ hvc_; rw [hva_] at ge360_3; rw [hvc_] at ul360_3; have HL360_3 := Aside0.mk (show Kd.V k60 60 _ w.heap.size _ _ ((rd_T60 t342 0).f3) from Kd.V_mk ul360_3 ge360_3); clear hva_ hvn_ hvc_ ge360_3 ul360_3; clear hcc360 hce360; have qi360 : (0 < t342.length) = True := eq_true (by omega); (try rw [show ((0 : Int)).toNat = 0 from rfl] at hx360_0); (try rw [show 0 * 4 = 0 from rfl] at hx360_0); (try rw [Addr.add_zero'] at hx360_0); (try rw [show ((0 : Int)).toNat = 0 from rfl] at hx360_1); (try rw [show 0 * 4 = 0 from rfl] at hx360_1); (try rw [Addr.add_zero'] at hx360_1); (try rw [show ((0 : Int)).toNat = 0 from rfl] at hx360_2); (try rw [show 0 * 4 = 0 from rfl] at hx360_2); (try rw [Addr.add_zero'] at hx360_2); (try rw [show ((0 : Int)).toNat = 0 from rfl] at hx360_3); (try rw [show 0 * 4 = 0 from rfl] at hx360_3); (try rw [Addr.add_zero'] at hx360_3); have HR360_1 := Aside0.mk hi360_1; have HC360_1 := Aside0.mk hl360_1; clear hi360_1 hl360_1; have HR360_3 := Aside0.mk hi360_3; have HC360_3 := Aside0.mk hl360_3; clear hi360_3 hl360_3; replace p360 := eq_true p360; replace q360 := eq_true q360; have p361 : 0 ≤ (0 : Int) := (by omega); have q361 : 0 < (t342.length : Int) := of_decide_eq_true (by first | (with_reducible assumption) | assumption); obtain ⟨ad361, A361_1, c361_1, A361_3, c361_3, e361, hx361_0, hx361_1, hx361_2, hx361_3, hl361_1, hi361_1, hl361_3, hi361_3⟩ := at_T60 (Kd.N_reads' HO_5.out).2.2 0 p361 q361; obtain rfl : ad360 = ad361 := (by injection e361); obtain ⟨ce361, hce361, hMe361, hcc361⟩ := Kd.N_get HO_5.out z60 0 p361 (by first | exact q361 | exact of_decide_eq_true (by first | (with_reducible assumption) | assumption) | (have e_ := (Kd.N_reads' HO_5.out).1; omega)); obtain ⟨ua361_1, uc361_1, ua361_3, uc361_3, rfl, ul361_1, ge361_1, ul361_3, ge361_3⟩ := k60_openF hMe361; have hv361_1 := hcc361 1 _ rfl; rw [add_field _ _ 1 (by omega)] at hv361_1; replace hv361_1 := Option.some.inj (hv361_1.symm.trans hx361_1); injection hv361_1 with hva_ hvn_ hvc_; rw [hva_] at ge361_1; rw [hvc_] at ul361_1; have HL361_1 := Aside0.mk (show Kd.V k75 75 _ w.heap.size _ _ ((rd_T60 t342 0).f1) from Kd.V_mk ul361_1 ge361_1); clear hva_ hvn_ hvc_ ge361_1 ul361_1; have hv361_3 := hcc361 3 _ rfl; rw [add_field _ _ 3 (by omega)] at hv361_3; replace hv361_3 := Option.some.inj (hv361_3.symm.trans hx361_3); injection hv361_3 with hva_ hvn_ hvc_; rw [hva_] at ge361_3; rw [hvc_] at ul361_3; have HL361_3 := Aside0.mk (show Kd.V k60 60 _ w.heap.size _ _ ((rd_T60 t342 0).f3) from Kd.V_mk ul361_3 ge361_3); clear hva_ hvn_ hvc_ ge361_3 ul361_3; clear hcc361 hce361; have qi361 : (0 < t342.length) = True := eq_true (by omega); (try rw [show ((0 : Int)).toNat = 0 from rfl] at hx361_0); (try rw [show 0 * 4 = 0 from rfl] at hx361_0); (try rw [Addr.add_zero'] at hx361_0); (try rw [show ((0 : Int)).toNat = 0 from rfl] at hx361_1); (try rw [show 0 * 4 = 0 from rfl] at hx361_1); (try rw [Addr.add_zero'] at hx361_1); (try rw [show ((0 : Int)).toNat = 0 from rfl] at hx361_2); (try rw [show 0 * 4 = 0 from rfl] at hx361_2); (try rw [Addr.add_zero'] at hx361_2); (try rw [show ((0 : Int)).toNat = 0 from rfl] at hx361_3); (try rw [show 0 * 4 = 0 from rfl] at hx361_3); (try rw [Addr.add_zero'] at hx361_3); have HR361_1 := Aside0.mk hi361_1; have HC361_1 := Aside0.mk hl361_1; clear hi361_1 hl361_1; have HR361_3 := Aside0.mk hi361_3; have HC361_3 := Aside0.mk hl361_3; clear hi361_3 hl361_3; replace p361 := eq_true p361; replace q361 := eq_true q361; have ea_ := Option.some.inj (hx360_1.symm.trans hx361_1); injection ea_ with ea_ en_ ec_; subst ea_; subst ec_; clear en_; have ea_ := Option.some.inj (hx360_3.symm.trans hx361_3); injection ea_ with ea_ en_ ec_; subst ea_; subst ec_; clear en_))
                go_ret
                exact ⟨by first | rfl | (simp [errW_none, errW_some] <;> rfl) | (simp [*, errW_none, errW_some] <;> rfl), by repeat (first | (with_reducible first | exact HB.out | apply below_alloc | apply pw_below_drewN | apply below_drew1) | exact HB.out)⟩
               ·
                rw [if_neg c37] at H
                have c37b0 : (((rd_T60 t342 0).f0).toList == ([] : List UInt8)) = false := beq_eq_false_iff_ne.mpr c37
                have c37b1 : (((rd_T60 t342 0).f0).toList != ([] : List UInt8)) = true := bne_iff_ne.mpr c37
                obtain rfl := Option.some.inj H
                obtain ⟨Ao41, co41, eo41⟩ := Kd.N_slice HO_11.out
                subst eo41
                go_wp2_with (first | (go_at_call 31; (with_reducible refine (bobbinetkeep_words.calls k2 _ _ t354 t359 _ ?side1 ?side2 A25.out).mono ?_); (case side1 => repeat (first | exact (Kd.N_reads' HO_11.out).2.2 | (with_reducible refine Kd.C_alloc ?_ _) | (with_reducible refine Kd.C_drewN ?_ _) | (with_reducible refine Kd.C_drew ?_))); (case side2 => exact (Kd.N_reads' HO_11.out).2.1); rintro e w42 ⟨rfl, hb⟩; have n0_ := Aside0.mk (Kd.N_below (by (with_reducible repeat (first | apply Kd.N_alloc | apply Kd.N_drewN | apply Kd.N_drew)); exact HO_3.out) hb); have n1_ := Aside0.mk (Kd.N_below (by (with_reducible repeat (first | apply Kd.N_alloc | apply Kd.N_drewN | apply Kd.N_drew)); exact HO_5.out) hb); have n2_ := Aside0.mk (Kd.N_below (by (with_reducible repeat (first | apply Kd.N_alloc | apply Kd.N_drewN | apply Kd.N_drew)); exact HO_11.out) hb); have n3_ := Aside0.mk (below_step (by repeat (first | (with_reducible first | exact HB.out | apply below_alloc | apply pw_below_drewN | apply below_drew1) | exact HB.out)) hb); clear HO_3; clear HO_5; clear HO_11; clear HB; have HO_3 := n0_; have HO_5 := n1_; have HO_11 := n2_; have HB := n3_; clear n0_ n1_ n2_ n3_; (try clear hb); (try clear hb2); (try clear hk); (try clear hi); obtain ⟨Ao43, co43, eo43⟩ := Kd.N_slice HO_5.out; subst eo43; have p360 : 0 ≤ (0 : Int) := (by omega); have q360 : 0 < (t342.length : Int) := of_decide_eq_true (by first | (with_reducible assumption) | assumption); obtain ⟨ad360, A360_1, c360_1, A360_3, c360_3, e360, hx360_0, hx360_1, hx360_2, hx360_3, hl360_1, hi360_1, hl360_3, hi360_3⟩ := at_T60 (Kd.N_reads' HO_5.out).2.2 0 p360 q360; cases e360; obtain ⟨ce360, hce360, hMe360, hcc360⟩ := Kd.N_get HO_5.out z60 0 p360 (by first | exact q360 | exact of_decide_eq_true (by first | (with_reducible assumption) | assumption) | (have e_ := (Kd.N_reads' HO_5.out).1; omega)); obtain ⟨ua360_1, uc360_1, ua360_3, uc360_3, rfl, ul360_1, ge360_1, ul360_3, ge360_3⟩ := k60_openF hMe360; have hv360_1 := hcc360 1 _ rfl; rw [add_field _ _ 1 (by omega)] at hv360_1; replace hv360_1 := Option.some.inj (hv360_1.symm.trans hx360_1); injection hv360_1 with hva_ hvn_ hvc_; rw [hva_] at ge360_1; rw [hvc_] at ul360_1; have HL360_1 := Aside0.mk (show Kd.V k75 75 _ w.heap.size _ _ ((rd_T60 t342 0).f1) from Kd.V_mk ul360_1 ge360_1); clear hva_ hvn_ hvc_ ge360_1 ul360_1; have hv360_3 := hcc360 3 _ rfl; rw [add_field _ _ 3 (by omega)] at hv360_3; replace hv360_3 := Option.some.inj (hv360_3.symm.trans hx360_3); injection hv360_3 with hva_ hvn_ hvc_; rw [hva_] at ge360_3; rw [hvc_] at ul360_3; have HL360_3 := Aside0.mk (show Kd.V k60 60 _ w.heap.size _ _ ((rd_T60 t342 0).f3) from Kd.V_mk ul360_3 ge360_3); clear hva_ hvn_ hvc_ ge360_3 ul360_3; clear hcc360 hce360; have qi360 : (0 < t342.length) = True := eq_true (by omega); (try rw [show ((0 : Int)).toNat = 0 from rfl] at hx360_0); (try rw [show 0 * 4 = 0 from rfl] at hx360_0); (try rw [Addr.add_zero'] at hx360_0); (try rw [show ((0 : Int)).toNat = 0 from rfl] at hx360_1); (try rw [show 0 * 4 = 0 from rfl] at hx360_1); (try rw [Addr.add_zero'] at hx360_1); (try rw [show ((0 : Int)).toNat = 0 from rfl] at hx360_2); (try rw [show 0 * 4 = 0 from rfl] at hx360_2); (try rw [Addr.add_zero'] at hx360_2); (try rw [show ((0 : Int)).toNat = 0 from rfl] at hx360_3); (try rw [show 0 * 4 = 0 from rfl] at hx360_3); (try rw [Addr.add_zero'] at hx360_3); have HR360_1 := Aside0.mk hi360_1; have HC360_1 := Aside0.mk hl360_1; clear hi360_1 hl360_1; have HR360_3 := Aside0.mk hi360_3; have HC360_3 := Aside0.mk hl360_3; clear hi360_3 hl360_3; replace p360 := eq_true p360; replace q360 := eq_true q360))
                go_ret
                exact ⟨by first | rfl | (simp [errW_none, errW_some] <;> rfl) | (simp [*, errW_none, errW_some] <;> rfl), by repeat (first | (with_reducible first | exact HB.out | apply below_alloc | apply pw_below_drewN | apply below_drew1) | exact HB.out)⟩
              ·
               rw [if_neg c36] at H
               exact absurd H (by simp)
             ·
              rw [if_neg c35] at H
              have c35b0 : ((t342.length : Int) == 1) = false := beq_eq_false_iff_ne.mpr c35
              have c35b1 : ((t342.length : Int) != 1) = true := bne_iff_ne.mpr c35
              obtain rfl := Option.some.inj H
              obtain ⟨Ao44, co44, eo44⟩ := Kd.N_slice HO_11.out
              subst eo44
              go_wp2_with (first | (go_at_call 31; (with_reducible refine (bobbinetkeep_words.calls k2 _ _ t354 t359 _ ?side1 ?side2 A25.out).mono ?_); (case side1 => repeat (first | exact (Kd.N_reads' HO_11.out).2.2 | (with_reducible refine Kd.C_alloc ?_ _) | (with_reducible refine Kd.C_drewN ?_ _) | (with_reducible refine Kd.C_drew ?_))); (case side2 => exact (Kd.N_reads' HO_11.out).2.1); rintro e w45 ⟨rfl, hb⟩; have n0_ := Aside0.mk (Kd.N_below (by (with_reducible repeat (first | apply Kd.N_alloc | apply Kd.N_drewN | apply Kd.N_drew)); exact HO_3.out) hb); have n1_ := Aside0.mk (Kd.N_below (by (with_reducible repeat (first | apply Kd.N_alloc | apply Kd.N_drewN | apply Kd.N_drew)); exact HO_5.out) hb); have n2_ := Aside0.mk (Kd.N_below (by (with_reducible repeat (first | apply Kd.N_alloc | apply Kd.N_drewN | apply Kd.N_drew)); exact HO_11.out) hb); have n3_ := Aside0.mk (below_step (by repeat (first | (with_reducible first | exact HB.out | apply below_alloc | apply pw_below_drewN | apply below_drew1) | exact HB.out)) hb); clear HO_3; clear HO_5; clear HO_11; clear HB; have HO_3 := n0_; have HO_5 := n1_; have HO_11 := n2_; have HB := n3_; clear n0_ n1_ n2_ n3_; (try clear hb); (try clear hb2); (try clear hk); (try clear hi); obtain ⟨Ao46, co46, eo46⟩ := Kd.N_slice HO_5.out; subst eo46))
              go_ret
              exact ⟨by first | rfl | (simp [errW_none, errW_some] <;> rfl) | (simp [*, errW_none, errW_some] <;> rfl), by repeat (first | (with_reducible first | exact HB.out | apply below_alloc | apply pw_below_drewN | apply below_drew1) | exact HB.out)⟩
           ·
            rw [if_neg c30] at H
            have c30b0 : (t346.toList == ([] : List UInt8)) = false := beq_eq_false_iff_ne.mpr c30
            have c30b1 : (t346.toList != ([] : List UInt8)) = true := bne_iff_ne.mpr c30
            by_cases c47 : (t342.length : Int) = 1
            ·
             rw [if_pos c47] at H
             have c47b0 : ((t342.length : Int) == 1) = true := beq_iff_eq.mpr c47
             have c47b1 : ((t342.length : Int) != 1) = false := bne_eq_false_iff_eq.mpr c47
             clear c47
             by_cases c48 : 0 < (t342.length : Int)
             ·
              rw [if_pos c48] at H
              have c48b0 : decide (0 < (t342.length : Int)) = true := decide_eq_true c48
              have c48b1 : decide (0 < t342.length) = true := decide_eq_true (by omega)
              clear c48
              by_cases c49 : ((rd_T60 t342 0).f0).toList = ([] : List UInt8)
              ·
               rw [if_pos c49] at H
               have c49b0 : (((rd_T60 t342 0).f0).toList == ([] : List UInt8)) = true := beq_iff_eq.mpr c49
               have c49b1 : (((rd_T60 t342 0).f0).toList != ([] : List UInt8)) = false := bne_eq_false_iff_eq.mpr c49
               clear c49
               obtain rfl := Option.some.inj H
               obtain ⟨Ao50, co50, eo50⟩ := Kd.N_slice HO_11.out
               subst eo50
               go_wp2_with (first | (go_at_call 31; (with_reducible refine (bobbinetkeep_words.calls k2 _ _ t354 t359 _ ?side1 ?side2 A25.out).mono ?_); (case side1 => repeat (first | exact (Kd.N_reads' HO_11.out).2.2 | (with_reducible refine Kd.C_alloc ?_ _) | (with_reducible refine Kd.C_drewN ?_ _) | (with_reducible refine Kd.C_drew ?_))); (case side2 => exact (Kd.N_reads' HO_11.out).2.1); rintro e w51 ⟨rfl, hb⟩; have n0_ := Aside0.mk (Kd.N_below (by (with_reducible repeat (first | apply Kd.N_alloc | apply Kd.N_drewN | apply Kd.N_drew)); exact HO_3.out) hb); have n1_ := Aside0.mk (Kd.N_below (by (with_reducible repeat (first | apply Kd.N_alloc | apply Kd.N_drewN | apply Kd.N_drew)); exact HO_5.out) hb); have n2_ := Aside0.mk (Kd.N_below (by (with_reducible repeat (first | apply Kd.N_alloc | apply Kd.N_drewN | apply Kd.N_drew)); exact HO_11.out) hb); have n3_ := Aside0.mk (below_step (by repeat (first | (with_reducible first | exact HB.out | apply below_alloc | apply pw_below_drewN | apply below_drew1) | exact HB.out)) hb); clear HO_3; clear HO_5; clear HO_11; clear HB; have HO_3 := n0_; have HO_5 := n1_; have HO_11 := n2_; have HB := n3_; clear n0_ n1_ n2_ n3_; (try clear hb); (try clear hb2); (try clear hk); (try clear hi); obtain ⟨Ao52, co52, eo52⟩ := Kd.N_slice HO_5.out; subst eo52; have p362 : 0 ≤ (0 : Int) := (by omega); have q362 : 0 < (t342.length : Int) := of_decide_eq_true (by first | (with_reducible assumption) | assumption); obtain ⟨ad362, A362_1, c362_1, A362_3, c362_3, e362, hx362_0, hx362_1, hx362_2, hx362_3, hl362_1, hi362_1, hl362_3, hi362_3⟩ := at_T60 (Kd.N_reads' HO_5.out).2.2 0 p362 q362; cases e362; obtain ⟨ce362, hce362, hMe362, hcc362⟩ := Kd.N_get HO_5.out z60 0 p362 (by first | exact q362 | exact of_decide_eq_true (by first | (with_reducible assumption) | assumption) | (have e_ := (Kd.N_reads' HO_5.out).1; omega)); obtain ⟨ua362_1, uc362_1, ua362_3, uc362_3, rfl, ul362_1, ge362_1, ul362_3, ge362_3⟩ := k60_openF hMe362; have hv362_1 := hcc362 1 _ rfl; rw [add_field _ _ 1 (by omega)] at hv362_1; replace hv362_1 := Option.some.inj (hv362_1.symm.trans hx362_1); injection hv362_1 with hva_ hvn_ hvc_; rw [hva_] at ge362_1; rw [hvc_] at ul362_1; have HL362_1 := Aside0.mk (show Kd.V k75 75 _ w.heap.size _ _ ((rd_T60 t342 0).f1) from Kd.V_mk ul362_1 ge362_1); clear hva_ hvn_ hvc_ ge362_1 ul362_1; have hv362_3 := hcc362 3 _ rfl; rw [add_field _ _ 3 (by omega)] at hv362_3; replace hv362_3 := Option.some.inj (hv362_3.symm.trans hx362_3); injection hv362_3 with hva_ hvn_ hvc_; rw [hva_] at ge362_3; rw [hvc_] at ul362_3; have HL362_3 := Aside0.mk (show Kd.V k60 60 _ w.heap.size _ _ ((rd_T60 t342 0).f3) from Kd.V_mk ul362_3 ge362_3); clear hva_ hvn_ hvc_ ge362_3 ul362_3; clear hcc362 hce362; have qi362 : (0 < t342.length) = True := eq_true (by omega); (try rw [show ((0 : Int)).toNat = 0 from rfl] at hx362_0); (try rw [show 0 * 4 = 0 from rfl] at hx362_0); (try rw [Addr.add_zero'] at hx362_0); (try rw [show ((0 : Int)).toNat = 0 from rfl] at hx362_1); (try rw [show 0 * 4 = 0 from rfl] at hx362_1); (try rw [Addr.add_zero'] at hx362_1); (try rw [show ((0 : Int)).toNat = 0 from rfl] at hx362_2); (try rw [show 0 * 4 = 0 from rfl] at hx362_2); (try rw [Addr.add_zero'] at hx362_2); (try rw [show ((0 : Int)).toNat = 0 from rfl] at hx362_3); (try rw [show 0 * 4 = 0 from rfl] at hx362_3); (try rw [Addr.add_zero'] at hx362_3); have HR362_1 := Aside0.mk hi362_1; have HC362_1 := Aside0.mk hl362_1; clear hi362_1 hl362_1; have HR362_3 := Aside0.mk hi362_3; have HC362_3 := Aside0.mk hl362_3; clear hi362_3 hl362_3; replace p362 := eq_true p362; replace q362 := eq_true q362; have p363 : 0 ≤ (0 : Int) := (by omega); have q363 : 0 < (t342.length : Int) := of_decide_eq_true (by first | (with_reducible assumption) | assumption); obtain ⟨ad363, A363_1, c363_1, A363_3, c363_3, e363, hx363_0, hx363_1, hx363_2, hx363_3, hl363_1, hi363_1, hl363_3, hi363_3⟩ := at_T60 (Kd.N_reads' HO_5.out).2.2 0 p363 q363; obtain rfl : ad362 = ad363 := (by injection e363); obtain ⟨ce363, hce363, hMe363, hcc363⟩ := Kd.N_get HO_5.out z60 0 p363 (by first | exact q363 | exact of_decide_eq_true (by first | (with_reducible assumption) | assumption) | (have e_ := (Kd.N_reads' HO_5.out).1; omega)); obtain ⟨ua363_1, uc363_1, ua363_3, uc363_3, rfl, ul363_1, ge363_1, ul363_3, ge363_3⟩ := k60_openF hMe363; have hv363_1 := hcc363 1 _ rfl; rw [add_field _ _ 1 (by omega)] at hv363_1; replace hv363_1 := Option.some.inj (hv363_1.symm.trans hx363_1); injection hv363_1 with hva_ hvn_ hvc_; rw [hva_] at ge363_1; rw [hvc_] at ul363_1; have HL363_1 := Aside0.mk (show Kd.V k75 75 _ w.heap.size _ _ ((rd_T60 t342 0).f1) from Kd.V_mk ul363_1 ge363_1); clear hva_ hvn_ hvc_ ge363_1 ul363_1; have hv363_3 := hcc363 3 _ rfl; rw [add_field _ _ 3 (by omega)] at hv363_3; replace hv363_3 := Option.some.inj (hv363_3.symm.trans hx363_3); injection hv363_3 with hva_ hvn_ hvc_; rw [hva_] at ge363_3; rw [hvc_] at ul363_3; have HL363_3 := Aside0.mk (show Kd.V k60 60 _ w.heap.size _ _ ((rd_T60 t342 0).f3) from Kd.V_mk ul363_3 ge363_3); clear hva_ hvn_ hvc_ ge363_3 ul363_3; clear hcc363 hce363; have qi363 : (0 < t342.length) = True := eq_true (by omega); (try rw [show ((0 : Int)).toNat = 0 from rfl] at hx363_0); (try rw [show 0 * 4 = 0 from rfl] at hx363_0); (try rw [Addr.add_zero'] at hx363_0); (try rw [show ((0 : Int)).toNat = 0 from rfl] at hx363_1); (try rw [show 0 * 4 = 0 from rfl] at hx363_1); (try rw [Addr.add_zero'] at hx363_1); (try rw [show ((0 : Int)).toNat = 0 from rfl] at hx363_2); (try rw [show 0 * 4 = 0 from rfl] at hx363_2); (try rw [Addr.add_zero'] at hx363_2); (try rw [show ((0 : Int)).toNat = 0 from rfl] at hx363_3); (try rw [show 0 * 4 = 0 from rfl] at hx363_3); (try rw [Addr.add_zero'] at hx363_3); have HR363_1 := Aside0.mk hi363_1; have HC363_1 := Aside0.mk hl363_1; clear hi363_1 hl363_1; have HR363_3 := Aside0.mk hi363_3; have HC363_3 := Aside0.mk hl363_3; clear hi363_3 hl363_3; replace p363 := eq_true p363; replace q363 := eq_true q363; have ea_ := Option.some.inj (hx362_1.symm.trans hx363_1); injection ea_ with ea_ en_ ec_; subst ea_; subst ec_; clear en_; have ea_ := Option.some.inj (hx362_3.symm.trans hx363_3); injection ea_ with ea_ en_ ec_; subst ea_; subst ec_; clear en_))
               go_ret
               exact ⟨by first | rfl | (simp [errW_none, errW_some] <;> rfl) | (simp [*, errW_none, errW_some] <;> rfl), by repeat (first | (with_reducible first | exact HB.out | apply below_alloc | apply pw_below_drewN | apply below_drew1) | exact HB.out)⟩
              ·
               rw [if_neg c49] at H
               have c49b0 : (((rd_T60 t342 0).f0).toList == ([] : List UInt8)) = false := beq_eq_false_iff_ne.mpr c49
               have c49b1 : (((rd_T60 t342 0).f0).toList != ([] : List UInt8)) = true := bne_iff_ne.mpr c49
               obtain rfl := Option.some.inj H
               obtain ⟨Ao53, co53, eo53⟩ := Kd.N_slice HO_11.out
               subst eo53
               go_wp2_with (first | (go_at_call 31; (with_reducible refine (bobbinetkeep_words.calls k2 _ _ t354 t359 _ ?side1 ?side2 A25.out).mono ?_); (case side1 => repeat (first | exact (Kd.N_reads' HO_11.out).2.2 | (with_reducible refine Kd.C_alloc ?_ _) | (with_reducible refine Kd.C_drewN ?_ _) | (with_reducible refine Kd.C_drew ?_))); (case side2 => exact (Kd.N_reads' HO_11.out).2.1); rintro e w54 ⟨rfl, hb⟩; have n0_ := Aside0.mk (Kd.N_below (by (with_reducible repeat (first | apply Kd.N_alloc | apply Kd.N_drewN | apply Kd.N_drew)); exact HO_3.out) hb); have n1_ := Aside0.mk (Kd.N_below (by (with_reducible repeat (first | apply Kd.N_alloc | apply Kd.N_drewN | apply Kd.N_drew)); exact HO_5.out) hb); have n2_ := Aside0.mk (Kd.N_below (by (with_reducible repeat (first | apply Kd.N_alloc | apply Kd.N_drewN | apply Kd.N_drew)); exact HO_11.out) hb); have n3_ := Aside0.mk (below_step (by repeat (first | (with_reducible first | exact HB.out | apply below_alloc | apply pw_below_drewN | apply below_drew1) | exact HB.out)) hb); clear HO_3; clear HO_5; clear HO_11; clear HB; have HO_3 := n0_; have HO_5 := n1_; have HO_11 := n2_; have HB := n3_; clear n0_ n1_ n2_ n3_; (try clear hb); (try clear hb2); (try clear hk); (try clear hi); obtain ⟨Ao55, co55, eo55⟩ := Kd.N_slice HO_5.out; subst eo55; have p362 : 0 ≤ (0 : Int) := (by omega); have q362 : 0 < (t342.length : Int) := of_decide_eq_true (by first | (with_reducible assumption) | assumption); obtain ⟨ad362, A362_1, c362_1, A362_3, c362_3, e362, hx362_0, hx362_1, hx362_2, hx362_3, hl362_1, hi362_1, hl362_3, hi362_3⟩ := at_T60 (Kd.N_reads' HO_5.out).2.2 0 p362 q362; cases e362; obtain ⟨ce362, hce362, hMe362, hcc362⟩ := Kd.N_get HO_5.out z60 0 p362 (by first | exact q362 | exact of_decide_eq_true (by first | (with_reducible assumption) | assumption) | (have e_ := (Kd.N_reads' HO_5.out).1; omega)); obtain ⟨ua362_1, uc362_1, ua362_3, uc362_3, rfl, ul362_1, ge362_1, ul362_3, ge362_3⟩ := k60_openF hMe362; have hv362_1 := hcc362 1 _ rfl; rw [add_field _ _ 1 (by omega)] at hv362_1; replace hv362_1 := Option.some.inj (hv362_1.symm.trans hx362_1); injection hv362_1 with hva_ hvn_ hvc_; rw [hva_] at ge362_1; rw [hvc_] at ul362_1; have HL362_1 := Aside0.mk (show Kd.V k75 75 _ w.heap.size _ _ ((rd_T60 t342 0).f1) from Kd.V_mk ul362_1 ge362_1); clear hva_ hvn_ hvc_ ge362_1 ul362_1; have hv362_3 := hcc362 3 _ rfl; rw [add_field _ _ 3 (by omega)] at hv362_3; replace hv362_3 := Option.some.inj (hv362_3.symm.trans hx362_3); injection hv362_3 with hva_ hvn_ hvc_; rw [hva_] at ge362_3; rw [hvc_] at ul362_3; have HL362_3 := Aside0.mk (show Kd.V k60 60 _ w.heap.size _ _ ((rd_T60 t342 0).f3) from Kd.V_mk ul362_3 ge362_3); clear hva_ hvn_ hvc_ ge362_3 ul362_3; clear hcc362 hce362; have qi362 : (0 < t342.length) = True := eq_true (by omega); (try rw [show ((0 : Int)).toNat = 0 from rfl] at hx362_0); (try rw [show 0 * 4 = 0 from rfl] at hx362_0); (try rw [Addr.add_zero'] at hx362_0); (try rw [show ((0 : Int)).toNat = 0 from rfl] at hx362_1); (try rw [show 0 * 4 = 0 from rfl] at hx362_1); (try rw [Addr.add_zero'] at hx362_1); (try rw [show ((0 : Int)).toNat = 0 from rfl] at hx362_2); (try rw [show 0 * 4 = 0 from rfl] at hx362_2); (try rw [Addr.add_zero'] at hx362_2); (try rw [show ((0 : Int)).toNat = 0 from rfl] at hx362_3); (try rw [show 0 * 4 = 0 from rfl] at hx362_3); (try rw [Addr.add_zero'] at hx362_3); have HR362_1 := Aside0.mk hi362_1; have HC362_1 := Aside0.mk hl362_1; clear hi362_1 hl362_1; have HR362_3 := Aside0.mk hi362_3; have HC362_3 := Aside0.mk hl362_3; clear hi362_3 hl362_3; replace p362 := eq_true p362; replace q362 := eq_true q362))
               go_ret
               exact ⟨by first | rfl | (simp [errW_none, errW_some] <;> rfl) | (simp [*, errW_none, errW_some] <;> rfl), by repeat (first | (with_reducible first | exact HB.out | apply below_alloc | apply pw_below_drewN | apply below_drew1) | exact HB.out)⟩
             ·
              rw [if_neg c48] at H
              exact absurd H (by simp)
            ·
             rw [if_neg c47] at H
             have c47b0 : ((t342.length : Int) == 1) = false := beq_eq_false_iff_ne.mpr c47
             have c47b1 : ((t342.length : Int) != 1) = true := bne_iff_ne.mpr c47
             obtain rfl := Option.some.inj H
             obtain ⟨Ao56, co56, eo56⟩ := Kd.N_slice HO_11.out
             subst eo56
             go_wp2_with (first | (go_at_call 31; (with_reducible refine (bobbinetkeep_words.calls k2 _ _ t354 t359 _ ?side1 ?side2 A25.out).mono ?_); (case side1 => repeat (first | exact (Kd.N_reads' HO_11.out).2.2 | (with_reducible refine Kd.C_alloc ?_ _) | (with_reducible refine Kd.C_drewN ?_ _) | (with_reducible refine Kd.C_drew ?_))); (case side2 => exact (Kd.N_reads' HO_11.out).2.1); rintro e w57 ⟨rfl, hb⟩; have n0_ := Aside0.mk (Kd.N_below (by (with_reducible repeat (first | apply Kd.N_alloc | apply Kd.N_drewN | apply Kd.N_drew)); exact HO_3.out) hb); have n1_ := Aside0.mk (Kd.N_below (by (with_reducible repeat (first | apply Kd.N_alloc | apply Kd.N_drewN | apply Kd.N_drew)); exact HO_5.out) hb); have n2_ := Aside0.mk (Kd.N_below (by (with_reducible repeat (first | apply Kd.N_alloc | apply Kd.N_drewN | apply Kd.N_drew)); exact HO_11.out) hb); have n3_ := Aside0.mk (below_step (by repeat (first | (with_reducible first | exact HB.out | apply below_alloc | apply pw_below_drewN | apply below_drew1) | exact HB.out)) hb); clear HO_3; clear HO_5; clear HO_11; clear HB; have HO_3 := n0_; have HO_5 := n1_; have HO_11 := n2_; have HB := n3_; clear n0_ n1_ n2_ n3_; (try clear hb); (try clear hb2); (try clear hk); (try clear hi); obtain ⟨Ao58, co58, eo58⟩ := Kd.N_slice HO_5.out; subst eo58))
             go_ret
             exact ⟨by first | rfl | (simp [errW_none, errW_some] <;> rfl) | (simp [*, errW_none, errW_some] <;> rfl), by repeat (first | (with_reducible first | exact HB.out | apply below_alloc | apply pw_below_drewN | apply below_drew1) | exact HB.out)⟩
         ·
          rw [if_neg c26] at H
          have c26b0 : (t359.toList == x13_2.toList) = false := beq_eq_false_iff_ne.mpr c26
          have c26b1 : (t359.toList != x13_2.toList) = true := bne_iff_ne.mpr c26
          obtain rfl := Option.some.inj H
          obtain ⟨Ao59, co59, eo59⟩ := Kd.N_slice HO_11.out
          subst eo59
          go_wp2_with (first | (go_at_call 31; (with_reducible refine (bobbinetkeep_words.calls k2 _ _ t354 t359 _ ?side1 ?side2 A25.out).mono ?_); (case side1 => repeat (first | exact (Kd.N_reads' HO_11.out).2.2 | (with_reducible refine Kd.C_alloc ?_ _) | (with_reducible refine Kd.C_drewN ?_ _) | (with_reducible refine Kd.C_drew ?_))); (case side2 => exact (Kd.N_reads' HO_11.out).2.1); rintro e w60 ⟨rfl, hb⟩; have n0_ := Aside0.mk (Kd.N_below (by (with_reducible repeat (first | apply Kd.N_alloc | apply Kd.N_drewN | apply Kd.N_drew)); exact HO_3.out) hb); have n1_ := Aside0.mk (Kd.N_below (by (with_reducible repeat (first | apply Kd.N_alloc | apply Kd.N_drewN | apply Kd.N_drew)); exact HO_5.out) hb); have n2_ := Aside0.mk (Kd.N_below (by (with_reducible repeat (first | apply Kd.N_alloc | apply Kd.N_drewN | apply Kd.N_drew)); exact HO_11.out) hb); have n3_ := Aside0.mk (below_step (by repeat (first | (with_reducible first | exact HB.out | apply below_alloc | apply pw_below_drewN | apply below_drew1) | exact HB.out)) hb); clear HO_3; clear HO_5; clear HO_11; clear HB; have HO_3 := n0_; have HO_5 := n1_; have HO_11 := n2_; have HB := n3_; clear n0_ n1_ n2_ n3_; (try clear hb); (try clear hb2); (try clear hk); (try clear hi)))
          go_ret
          exact ⟨by first | rfl | (simp [errW_none, errW_some] <;> rfl) | (simp [*, errW_none, errW_some] <;> rfl), by repeat (first | (with_reducible first | exact HB.out | apply below_alloc | apply pw_below_drewN | apply below_drew1) | exact HB.out)⟩
        ·
         replace c24 := Bool.eq_false_iff.mpr c24
         subst c24
         have H1 : (some false) = some r := by rw [if_neg (show ¬ (false = true) by decide)] at H; exact H
         clear H
         have H := H1
         clear H1
         obtain rfl := Option.some.inj H
         go_wp2
         go_ret
         exact ⟨by first | rfl | (simp [errW_none, errW_some] <;> rfl) | (simp [*, errW_none, errW_some] <;> rfl), by repeat (first | (with_reducible first | exact HB.out | apply below_alloc | apply pw_below_drewN | apply below_drew1) | exact HB.out)⟩
       ·
        replace c23 := Bool.eq_false_iff.mpr c23
        subst c23
        have H1 : (some false) = some r := by rw [if_neg (show ¬ (false = true) by decide)] at H; exact H
        clear H
        have H := H1
        clear H1
        obtain rfl := Option.some.inj H
        go_wp2
        go_ret
        exact ⟨by first | rfl | (simp [errW_none, errW_some] <;> rfl) | (simp [*, errW_none, errW_some] <;> rfl), by repeat (first | (with_reducible first | exact HB.out | apply below_alloc | apply pw_below_drewN | apply below_drew1) | exact HB.out)⟩

/-- THE ONE PURE STATEMENT of bobbinetkeep_RulesPlain: yours. -/
def bobbinetkeep_RulesPlain.Pure : Prop := ∀ (l0 : List Int), l0.length ≤ maxLen → l0.length * 8 ≤ 140737488351232 → (∀ x ∈ l0, (Lit.int .i64 x).wf = true) → ∃ k, bobbinetkeep_RulesPlain.f k l0 = some true
theorem bobbinetkeep_RulesPlain.walk (P : bobbinetkeep_RulesPlain.Pure) (a0 : Option Addr) (len0 cap0 : Nat) (z0 : List Int) (w : World) (w0 : (a0 = none ∧ len0 = 0 ∧ cap0 = 0 ∧ z0 = []) ∨ ∃ x, a0 = some x ∧ len0 ≤ cap0 ∧ cap0 ≤ maxLen ∧ z0.length = cap0 ∧ (∀ i, i < z0.length → w.cell? (x.add i) = some (.int .i64 (z0.getD i 0))) ∧ ∀ n ∈ z0, (Lit.int .i64 n).wf = true) (y0 : len0 * 8 ≤ 140737488351232) :
  Calls Try.prog 13 #[.slice a0 len0 cap0] w fun e w' => e = .returned (.bool true) ∧ Below w.heap.size w w' := by
 obtain ⟨l0, rfl, hr0, hm0, hw0, hc0⟩ := ReadsInt.ofRowC w0
 obtain ⟨k, h⟩ := P l0 hm0 y0 hw0
 refine (bobbinetkeep_RulesPlain.calls k _ _ l0 true w (Kd.C_of_reads (d := (0 : Int)) (h1 := fun _ => rfl) hr0) hc0 h).mono ?_
 rintro e w' ⟨rfl, hd⟩
 exact ⟨rfl, hd⟩

end Go.Proofs.Ythimfdojpgbmbaa.X
