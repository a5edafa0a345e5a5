/- Parts of the proof of MarksNested that are needed, put together by pack.py. -/
import Derived.Test.YtjmhihadgpdiaaaDoorQMarksNestedaf
import Derived.Test.YtjmhihadgpdiaaaDoorQMarksNestedag
import Derived.Test.YtjmhihadgpdiaaaDoorQMarksNestedal
import Derived.Test.YtjmhihadgpdiaaaDoorQMarksNestedam
import Derived.Test.YtjmhihadgpdiaaaDoorQMarksNestedaa
import Derived.Test.YtjmhihadgpdiaaaDoorQMarksNestedak
section
namespace Go.Proofs.YtjmhihadgpdiaaaDoor.X
open Go.RowKit Go.Proofs.YtjmhihadgpdiaaaDoorW.PrintWords Go.Proofs.YtjmhihadgpdiaaaDoorW.PrintLast Go.Proofs.YtjmhihadgpdiaaaDoorW.PrintMore
attribute [local go_sem] max2_int min2_int max_two min_two max_three min_three max_four min_four   -- for this text's walks alone
set_option linter.unusedVariables false
set_option linter.unusedSimpArgs false
def bobbinetkeep_MarksNested.f (k : Nat) (l0 : List Int) (a1 : Int) : Option (Bool) := (bobbinetkeep_markOrder.f a1).bind fun t268 => ((bobbinetkeep_Runs.f k l0 20).bind fun t271 => ((marks_Nest.f k t268 t271).bind fun bt274 => (if bt274.2 = 0 then ((bobbinetkeep_marksSure.f k).bind fun t278 => (if t278 = true then ((bobbinetkeep_nestedBy.f k bt274.1 t268).bind fun t279 => (if t279 = true then ((bobbinetkeep_apartTexts.f k bt274.1).bind fun t280 => (some t280)) else (none))) else (none))) else (none))))
set_option maxHeartbeats 8000000 in
set_option maxRecDepth 100000 in
theorem bobbinetkeep_MarksNested.calls (k : Nat) (A0 : Option Addr) (c0 : Nat) (l0 : List Int) (a1 : Int) (r : Bool) (w : World) (hr0 : Kd.C (Kd.int .i64) w A0 l0.length l0) (hc0 : l0.length ≤ c0) (hG_ : Glob w) (h : bobbinetkeep_MarksNested.f k l0 a1 = some r) :
    Calls Tryd.prog 3 #[.slice A0 l0.length c0, .int .i64 a1] w fun e w' => e = .returned (.bool r) ∧ Below w.heap.size w w' := by
  have HG_ := Aside0.mk hG_
  clear hG_
  have HR0 := Aside0.mk hr0
  have HC0 := Aside0.mk hc0
  clear hr0 hc0
  have HB := Aside0.mk (Below.refl w.heap.size w)
  have H : ((bobbinetkeep_markOrder.f a1).bind fun t268 => ((bobbinetkeep_Runs.f k l0 20).bind fun t271 => ((marks_Nest.f k t268 t271).bind fun bt274 => (if bt274.2 = 0 then ((bobbinetkeep_marksSure.f k).bind fun t278 => (if t278 = true then ((bobbinetkeep_nestedBy.f k bt274.1 t268).bind fun t279 => (if t279 = true then ((bobbinetkeep_apartTexts.f k bt274.1).bind fun t280 => (some t280)) else (none))) else (none))) else (none))))) = some r := h
  clear h
  replace H := Option.bind_eq_some_iff.mp H
  obtain ⟨t268, A30, H⟩ := H
  replace H : ((bobbinetkeep_Runs.f k l0 20).bind fun t271 => ((marks_Nest.f k t268 t271).bind fun bt274 => (if bt274.2 = 0 then ((bobbinetkeep_marksSure.f k).bind fun t278 => (if t278 = true then ((bobbinetkeep_nestedBy.f k bt274.1 t268).bind fun t279 => (if t279 = true then ((bobbinetkeep_apartTexts.f k bt274.1).bind fun t280 => (some t280)) else (none))) else (none))) else (none)))) = some r := H
  have A3 := Aside0.mk A30
  clear A30
  replace H := Option.bind_eq_some_iff.mp H
  obtain ⟨t271, A40, H⟩ := H
  replace H : ((marks_Nest.f k t268 t271).bind fun bt274 => (if bt274.2 = 0 then ((bobbinetkeep_marksSure.f k).bind fun t278 => (if t278 = true then ((bobbinetkeep_nestedBy.f k bt274.1 t268).bind fun t279 => (if t279 = true then ((bobbinetkeep_apartTexts.f k bt274.1).bind fun t280 => (some t280)) else (none))) else (none))) else (none))) = some r := H
  have A4 := Aside0.mk A40
  clear A40
  replace H := Option.bind_eq_some_iff.mp H
  obtain ⟨⟨t274, t275⟩, A50, H⟩ := H
  replace H : (if t275 = 0 then ((bobbinetkeep_marksSure.f k).bind fun t278 => (if t278 = true then ((bobbinetkeep_nestedBy.f k t274 t268).bind fun t279 => (if t279 = true then ((bobbinetkeep_apartTexts.f k t274).bind fun t280 => (some t280)) else (none))) else (none))) else (none)) = some r := H
  have A5 := Aside0.mk A50
  clear A50
  by_cases c6 : t275 = 0
  · rw [if_pos c6] at H
    have c6b0 : (t275 == 0) = true := beq_iff_eq.mpr c6
    have c6b1 : (t275 != 0) = false := bne_eq_false_iff_eq.mpr c6
    clear c6
    replace H := Option.bind_eq_some_iff.mp H
    obtain ⟨t278, A70, H⟩ := H
    replace H : (if t278 = true then ((bobbinetkeep_nestedBy.f k t274 t268).bind fun t279 => (if t279 = true then ((bobbinetkeep_apartTexts.f k t274).bind fun t280 => (some t280)) else (none))) else (none)) = some r := H
    have A7 := Aside0.mk A70
    clear A70
    by_cases c8 : t278 = true
    · subst c8
      have H1 : ((bobbinetkeep_nestedBy.f k t274 t268).bind fun t279 => (if t279 = true then ((bobbinetkeep_apartTexts.f k t274).bind fun t280 => (some t280)) else (none))) = some r := by rw [if_pos rfl] at H; exact H
      clear H
      have H := H1
      clear H1
      replace H := Option.bind_eq_some_iff.mp H
      obtain ⟨t279, A90, H⟩ := H
      replace H : (if t279 = true then ((bobbinetkeep_apartTexts.f k t274).bind fun t280 => (some t280)) else (none)) = some r := H
      have A9 := Aside0.mk A90
      clear A90
      by_cases c10 : t279 = true
      · subst c10
        have H1 : ((bobbinetkeep_apartTexts.f k t274).bind fun t280 => (some t280)) = some r := by rw [if_pos rfl] at H; exact H
        clear H
        have H := H1
        clear H1
        replace H := Option.bind_eq_some_iff.mp H
        obtain ⟨t280, A110, H⟩ := H
        replace H : (some t280) = some r := H
        have A11 := Aside0.mk A110
        clear A110
        obtain rfl := Option.some.inj H
        go_enter Tryd.func3, Tryd.ntmps3
        go_wp2_with (first | ((with_reducible refine gate_callee (f := 6) rfl ?_); refine goesL_ (some 9) rfl rfl Tryd.func6 (by kernel_rfl) rfl #[.int .i64 a1] rfl (by (try simp only [List.map_toArray, List.map_cons, List.map_nil]); first | done | rfl | (simp only [List.length_drop, List.length_take]; rfl)) ?_; (with_reducible refine (bobbinetkeep_markOrder.calls a1 t268 _ A3.out).mono ?_); rintro e w12 ⟨v269, rfl, ho0, hb⟩; refine ⟨_, rfl, ?_⟩; have n0_ := Aside0.mk (Kd.V_lower (Kd.V_mono (ok' := fun k_ => True) ho0 (fun k_ hk_ => trivial)) (below_size (by repeat (first | (with_reducible first | exact HB.out | apply below_alloc | apply pw_below_drewN | apply below_drew1) | exact HB.out)))); have n1_ := Aside0.mk (below_step (by repeat (first | (with_reducible first | exact HB.out | apply below_alloc | apply pw_below_drewN | apply below_drew1) | exact HB.out)) hb); clear HB; have HO270 := n0_; have HB := n1_; clear n0_ n1_; (try clear hb); (try clear hb2); (try clear hk); (try clear hi); (try clear ho0)) | ((with_reducible refine gate_callee (f := 8) rfl ?_); refine goesL_ (some 13) rfl rfl Tryd.func8 (by kernel_rfl) rfl #[.slice A0 l0.length c0, .int .i64 20] rfl (by (try simp only [List.map_toArray, List.map_cons, List.map_nil]); first | done | rfl | (simp only [List.length_drop, List.length_take]; rfl)) ?_; (with_reducible refine (bobbinetkeep_Runs.calls k _ _ l0 20 t271 _ ?side1 ?side2 A4.out).mono ?_); (case side1 => repeat (first | exact (Kd.C_below HR0.out HB.out) | (with_reducible refine Kd.C_alloc ?_ _) | (with_reducible refine Kd.C_drewN ?_ _) | (with_reducible refine Kd.C_drew ?_))); (case side2 => exact HC0.out); rintro e w13 ⟨v272, rfl, ho0, hb⟩; refine ⟨_, rfl, ?_⟩; have n0_ := Aside0.mk (Kd.V_elder' (by (with_reducible repeat (first | apply Kd.V_alloc | apply Kd.V_drewN | apply Kd.V_drew)); exact HO270.out) (Kd.S_base ho0) hb); have n1_ := Aside0.mk (Kd.S_lower ho0 (below_size (by repeat (first | (with_reducible first | exact HB.out | apply below_alloc | apply pw_below_drewN | apply below_drew1) | exact HB.out)))); have n2_ := Aside0.mk (below_step (by repeat (first | (with_reducible first | exact HB.out | apply below_alloc | apply pw_below_drewN | apply below_drew1) | exact HB.out)) hb); clear HO270; clear HB; have HO270 := n0_; have HO273 := n1_; have HB := n2_; clear n0_ n1_ n2_; (try clear hb); (try clear hb2); (try clear hk); (try clear hi); (try clear ho0); obtain ⟨Ao14, co14, eo14⟩ := Kd.V_slice HO270.out; subst eo14; obtain ⟨Ao15, co15, eo15⟩ := Kd.S_slice HO273.out; subst eo15) | ((with_reducible refine gate_callee (f := 7) rfl ?_); refine goesL_ (some 14) rfl rfl Tryd.func7 (by kernel_rfl) rfl #[.slice Ao14 t268.length co14, .slice Ao15 t271.length co15] rfl (by (try simp only [List.map_toArray, List.map_cons, List.map_nil]); first | done | rfl | (simp only [List.length_drop, List.length_take]; rfl)) ?_; (with_reducible refine (marks_Nest.calls k _ _ t268 _ _ t271 t274 t275 _ ?side1 ?side2 ?side3 ?side4 (Glob.below HG_.out (by repeat (first | (with_reducible first | exact HB.out | apply below_alloc | apply pw_below_drewN | apply below_drew1) | exact HB.out))) A5.out).mono ?_); (case side1 => repeat (first | exact (Kd.V_reads' HO270.out).2.2 | (with_reducible refine Kd.C_alloc ?_ _) | (with_reducible refine Kd.C_drewN ?_ _) | (with_reducible refine Kd.C_drew ?_))); (case side2 => exact (Kd.V_reads' HO270.out).2.1); (case side3 => repeat (first | exact (Kd.S_reads' HO273.out).2.2 | (with_reducible refine Kd.C_alloc ?_ _) | (with_reducible refine Kd.C_drewN ?_ _) | (with_reducible refine Kd.C_drew ?_))); (case side4 => exact (Kd.S_reads' HO273.out).2.1); rintro e w16 ⟨v276, rfl, ho0, hb⟩; refine ⟨_, rfl, ?_⟩; have n0_ := Aside0.mk (Kd.V_elder' (by (with_reducible repeat (first | apply Kd.V_alloc | apply Kd.V_drewN | apply Kd.V_drew)); exact HO270.out) (Kd.R_base ho0) hb); have n1_ := Aside0.mk (Kd.S_below (by (with_reducible repeat (first | apply Kd.S_alloc | apply Kd.S_drewN | apply Kd.S_drew)); exact HO273.out) hb); have n2_ := Aside0.mk (Kd.R_lower ho0 (below_size (by repeat (first | (with_reducible first | exact HB.out | apply below_alloc | apply pw_below_drewN | apply below_drew1) | exact HB.out)))); have n3_ := Aside0.mk (below_step (by repeat (first | (with_reducible first | exact HB.out | apply below_alloc | apply pw_below_drewN | apply below_drew1) | exact HB.out)) hb); clear HO270; clear HO273; clear HB; have HO270 := n0_; have HO273 := n1_; have HO277 := n2_; have HB := n3_; clear n0_ n1_ n2_ n3_; (try clear hb); (try clear hb2); (try clear hk); (try clear hi); (try clear ho0)) | (go_at_call 9; (with_reducible refine (bobbinetkeep_marksSure.calls k  true _ (Glob.below HG_.out (by repeat (first | (with_reducible first | exact HB.out | apply below_alloc | apply pw_below_drewN | apply below_drew1) | exact HB.out))) A7.out).mono ?_); rintro e w17 ⟨rfl, hb⟩; have n0_ := Aside0.mk (Kd.V_below (by (with_reducible repeat (first | apply Kd.V_alloc | apply Kd.V_drewN | apply Kd.V_drew)); exact HO270.out) hb); have n1_ := Aside0.mk (Kd.S_below (by (with_reducible repeat (first | apply Kd.S_alloc | apply Kd.S_drewN | apply Kd.S_drew)); exact HO273.out) hb); have n2_ := Aside0.mk (Kd.R_below (by (with_reducible repeat (first | apply Kd.R_alloc | apply Kd.R_drewN | apply Kd.R_drew)); exact HO277.out) hb); have n3_ := Aside0.mk (below_step (by repeat (first | (with_reducible first | exact HB.out | apply below_alloc | apply pw_below_drewN | apply below_drew1) | exact HB.out)) hb); clear HO270; clear HO273; clear HO277; clear HB; have HO270 := n0_; have HO273 := n1_; have HO277 := n2_; have HB := n3_; clear n0_ n1_ n2_ n3_; (try clear hb); (try clear hb2); (try clear hk); (try clear hi); obtain ⟨Ao18, co18, eo18⟩ := Kd.R_slice HO277.out; subst eo18) | (go_at_call 10; (with_reducible refine (bobbinetkeep_nestedBy.calls k _ _ t274 _ _ t268 true _ ?side1 ?side2 ?side3 ?side4 A9.out).mono ?_); (case side1 => repeat (first | exact (Kd.R_reads' HO277.out).2.2 | (with_reducible refine Kd.C_alloc ?_ _) | (with_reducible refine Kd.C_drewN ?_ _) | (with_reducible refine Kd.C_drew ?_))); (case side2 => exact (Kd.R_reads' HO277.out).2.1); (case side3 => repeat (first | exact (Kd.V_reads' HO270.out).2.2 | (with_reducible refine Kd.C_alloc ?_ _) | (with_reducible refine Kd.C_drewN ?_ _) | (with_reducible refine Kd.C_drew ?_))); (case side4 => exact (Kd.V_reads' HO270.out).2.1); rintro e w19 ⟨rfl, hb⟩; have n0_ := Aside0.mk (Kd.V_below (by (with_reducible repeat (first | apply Kd.V_alloc | apply Kd.V_drewN | apply Kd.V_drew)); exact HO270.out) hb); have n1_ := Aside0.mk (Kd.S_below (by (with_reducible repeat (first | apply Kd.S_alloc | apply Kd.S_drewN | apply Kd.S_drew)); exact HO273.out) hb); have n2_ := Aside0.mk (Kd.R_below (by (with_reducible repeat (first | apply Kd.R_alloc | apply Kd.R_drewN | apply Kd.R_drew)); exact HO277.out) hb); have n3_ := Aside0.mk (below_step (by repeat (first | (with_reducible first | exact HB.out | apply below_alloc | apply pw_below_drewN | apply below_drew1) | exact HB.out)) hb); clear HO270; clear HO273; clear HO277; clear HB; have HO270 := n0_; have HO273 := n1_; have HO277 := n2_; have HB := n3_; clear n0_ n1_ n2_ n3_; (try clear hb); (try clear hb2); (try clear hk); (try clear hi)) | (go_at_call 11; (with_reducible refine (bobbinetkeep_apartTexts.calls k _ _ t274 t280 _ ?side1 ?side2 A11.out).mono ?_); (case side1 => repeat (first | exact (Kd.R_reads' HO277.out).2.2 | (with_reducible refine Kd.C_alloc ?_ _) | (with_reducible refine Kd.C_drewN ?_ _) | (with_reducible refine Kd.C_drew ?_))); (case side2 => exact (Kd.R_reads' HO277.out).2.1); rintro e w' ⟨rfl, ⟨nd, rfl⟩⟩))
        go_ret
        exact ⟨by first | rfl | (simp [errW_none, errW_some] <;> rfl) | (simp [*, errW_none, errW_some] <;> rfl), by repeat (first | (with_reducible first | exact HB.out | apply below_alloc | apply pw_below_drewN | apply below_drew1) | exact HB.out)⟩
      · replace c10 := Bool.eq_false_iff.mpr c10
        subst c10
        have H1 : (none) = some r := by rw [if_neg (show ¬ (false = true) by decide)] at H; exact H
        clear H
        have H := H1
        clear H1
        exact absurd H (by simp)
    · replace c8 := Bool.eq_false_iff.mpr c8
      subst c8
      have H1 : (none) = some r := by rw [if_neg (show ¬ (false = true) by decide)] at H; exact H
      clear H
      have H := H1
      clear H1
      exact absurd H (by simp)
  · rw [if_neg c6] at H
    exact absurd H (by simp)
end Go.Proofs.YtjmhihadgpdiaaaDoor.X
end
section
namespace Go.Proofs.YtjmhihadgpdiaaaDoor.Base
open Go.RowKit Go.Proofs.YtjmhihadgpdiaaaDoorW.PrintWords
theorem toList_loop (s : ByteArray) : ∀ (n i : Nat) (r : List UInt8), s.size - i = n → ByteArray.toList.loop s i r = r.reverse ++ s.data.toList.drop i
  | 0, i, r, h => by
    unfold ByteArray.toList.loop
    have h1 : s.data.toList.drop i = [] := List.drop_eq_nil_of_le (by rw [Array.length_toList]; show s.size ≤ i; omega)
    rw [if_neg (by omega), h1, List.append_nil]
  | n + 1, i, r, h => by
    unfold ByteArray.toList.loop
    have hi : i < s.size := by omega
    have hl : i < s.data.toList.length := by rw [Array.length_toList]; exact hi
    have hg : s.get! i = s.data.toList[i] := by
      obtain ⟨d⟩ := s
      show d[i]! = _
      rw [getElem!_pos d i hi]
      simp
    rw [if_pos hi, toList_loop s n (i + 1) _ (by omega), hg, List.drop_eq_getElem_cons hl, List.reverse_cons, List.append_assoc]
    rfl
theorem toList_eq (s : ByteArray) : s.toList = s.data.toList := by
  unfold ByteArray.toList
  rw [toList_loop s _ 0 [] rfl]
  rfl
theorem toList_inj {s t : ByteArray} : s.toList = t.toList ↔ s = t := by
  rw [toList_eq, toList_eq]
  constructor
  · intro h
    exact ByteArray.ext (Array.toList_inj.1 h)
  · rintro rfl; rfl
theorem toList_nil {s : ByteArray} : s.toList = ([] : List UInt8) ↔ s = (⟨#[]⟩ : ByteArray) := by
  rw [toList_eq]
  constructor
  · intro h
    apply ByteArray.ext
    exact Array.toList_inj.1 h
  · rintro rfl; rfl
theorem Ev.ite_pos {α : Type} {c : Prop} [Decidable c] {g f : Nat → Option α} {r : α} (h : c) (k : Ev g r) : Ev (fun n => if c then g n else f n) r := by
  simpa only [if_pos h] using k
theorem Ev.ite_neg {α : Type} {c : Prop} [Decidable c] {g f : Nat → Option α} {r : α} (h : ¬ c) (k : Ev f r) : Ev (fun n => if c then g n else f n) r := by
  simpa only [if_neg h] using k
theorem Ev.some {α : Type} (r : α) : Ev (fun _ => Option.some r) r := ⟨0, fun _ _ => rfl⟩
/-- one round: what is told of k + 1 rounds -/
theorem Ev.one {α : Type} {g f : Nat → Option α} {r : α} (h : ∀ k, g (k + 1) = f k) (k : Ev f r) : Ev g r := by
  obtain ⟨K, hK⟩ := k
  refine ⟨K + 1, fun k hk => ?_⟩
  obtain ⟨m, rfl⟩ : ∃ m, k = m + 1 := ⟨k - 1, by omega⟩
  rw [h m]
  exact hK m (by omega)
theorem Ev.bnd {α β : Type} {g : Nat → Option α} {f : Nat → α → Option β} {a : α} {r : β} (h : Ev g a) (k : Ev (fun n => f n a) r) : Ev (fun n => (g n).bind (f n)) r := by
  obtain ⟨K, hK⟩ := h
  obtain ⟨L, hL⟩ := k
  refine ⟨K + L, fun n hn => ?_⟩
  show (g n).bind (f n) = _
  rw [hK n (by omega)]
  exact hL n (by omega)
theorem Ev.bnd0 {α β : Type} {g : Option α} {f : Nat → α → Option β} {a : α} {r : β} (h : g = Option.some a) (k : Ev (fun n => f n a) r) : Ev (fun n => g.bind (f n)) r := by
  subst h
  exact k
theorem wrap_id {i : Int} (h0 : -9223372036854775808 ≤ i) (h1 : i ≤ 9223372036854775807) : wrap64 i = i := by unfold wrap64; omega
theorem wrap_succ {i : Nat} {n : Nat} (h : i < n) (hn : n ≤ 9223372036854775807) : wrap64 ((i : Int) + 1) = ((i + 1 : Nat) : Int) := by unfold wrap64; omega
/-- Go's remainder, brought above 0 -/
theorem picked_eq (a n : Int) (h : 0 < n) (hn : n ≤ 4294967296) : (if Int.tmod a n < 0 then wrap64 (Int.tmod a n + n) else Int.tmod a n) = a % n := by
  have he := Int.tmod_eq_emod (a := a) (b := n)
  have h1 := Int.emod_nonneg a (show n ≠ 0 by omega)
  have h2 := Int.emod_lt_of_pos a h
  rw [he]
  split
  · rename_i hc
    rw [if_neg (by simp; omega)]
    simp
  · rename_i hc
    have hn2 : (n.natAbs : Int) = n := by omega
    rw [hn2, if_pos (by omega), wrap_id (by omega) (by omega)]
    omega
end Go.Proofs.YtjmhihadgpdiaaaDoor.Base
end
section
namespace Go.Proofs.YtjmhihadgpdiaaaDoor.Mk
open Go.RowKit Go.Proofs.YtjmhihadgpdiaaaDoor.X Go.Proofs.YtjmhihadgpdiaaaDoorW.PrintWords Go.Proofs.YtjmhihadgpdiaaaDoorW.PrintLast Go.Proofs.YtjmhihadgpdiaaaDoor.Base
set_option linter.unusedVariables false
set_option linter.unusedSimpArgs false
abbrev R := S40
abbrev Bs := List ByteArray
instance decB : DecidableEq ByteArray := fun a b => decidable_of_iff (a.toList = b.toList) toList_inj
instance decM (s : ByteArray) (l : Bs) : Decidable (s ∈ l) := decidable_of_iff (l.any (fun x => decide (x.toList = s.toList)) = true) (by
  rw [List.any_eq_true]
  constructor
  · rintro ⟨x, hx, h⟩; rw [← toList_inj.1 (of_decide_eq_true h)]; exact hx
  · intro h; exact ⟨s, h, decide_eq_true rfl⟩)
theorem pick_ev (xa : Int) (n : Int) (h0 : 0 < n) (hn : n ≤ 4294967296) : bobbinetkeep_Picked.f xa n = some (xa % n) := by
  unfold bobbinetkeep_Picked.f
  rw [if_neg (by omega), ← picked_eq xa n h0 hn]
  split <;> rfl
theorem rdB_at (l : Bs) (i : Nat) (h : i < l.length) : rdOf ByteArray.empty l (i : Int) = l[i] := by
  simp [rdOf, List.getD, h]
theorem rdR_at (l : List R) (i : Nat) (h : i < l.length) : rd_T40 l (i : Int) = l[i] := by
  simp [rd_T40, List.getD, h]
theorem index_l0 (l : Bs) (s : ByteArray) (hl : l.length < 1000000) : ∀ (d i : Nat) (k : Nat), l.length - i = d → i ≤ l.length → d < k → ∃ r : Int, slices_Index_string_string.l0 k l s (l.length : Int) (i : Int) = some r ∧ (decide (r ≥ 0) = decide (s ∈ l.drop i)) := by
  intro d
  induction d with
  | zero =>
    intro i k hd hi hk
    obtain ⟨m, rfl⟩ : ∃ m, k = m + 1 := ⟨k - 1, by omega⟩
    refine ⟨-1, ?_, ?_⟩
    · rw [slices_Index_string_string.l0, if_neg (by omega)]
    · rw [List.drop_eq_nil_of_le (by omega)]; simp
  | succ d ih =>
    intro i k hd hi hk
    obtain ⟨m, rfl⟩ : ∃ m, k = m + 1 := ⟨k - 1, by omega⟩
    have hlt : i < l.length := by omega
    have hw : wrap64 ((i : Int) + 1) = ((i + 1 : Nat) : Int) := wrap_succ hlt (by omega)
    rw [slices_Index_string_string.l0, if_pos (by omega), if_pos (by omega), if_pos (by omega), rdB_at l i hlt]
    by_cases h : s.toList = l[i].toList
    · rw [if_pos h]
      refine ⟨i, rfl, ?_⟩
      have e := List.drop_eq_getElem_cons hlt
      rw [toList_inj.1 h, decide_eq_true (show (i : Int) ≥ 0 by omega), decide_eq_true (show l[i] ∈ l.drop i by rw [e]; exact List.mem_cons_self)]
    · rw [if_neg h, hw]
      obtain ⟨r, h1, h2⟩ := ih (i + 1) m (by omega) (by omega) (by omega)
      refine ⟨r, h1, h2.trans ?_⟩
      have hne : s ≠ l[i] := fun e => h (by rw [e])
      have e := List.drop_eq_getElem_cons hlt
      exact decide_eq_decide.2 ⟨fun h => by rw [e]; exact List.mem_cons_of_mem _ h, fun h => by rw [e] at h; exact (List.mem_cons.1 h).resolve_left hne⟩
theorem contains_eq (l : Bs) (s : ByteArray) (hl : l.length < 1000000) (k : Nat) (hk : l.length < k) : slices_Contains_string_string.f k l s = some (decide (s ∈ l)) := by
  unfold slices_Contains_string_string.f slices_Index_string_string.f
  obtain ⟨r, h1, h2⟩ := index_l0 l s hl l.length 0 k (by omega) (by omega) hk
  have h3 : slices_Index_string_string.l0 k l s (l.length : Int) 0 = some r := h1
  rw [h3, Option.bind_some, h2, List.drop_zero]
theorem contains_ev (l : Bs) (s : ByteArray) (hl : l.length < 1000000) : Ev (fun k => slices_Contains_string_string.f k l s) (decide (s ∈ l)) := ⟨l.length + 1, fun k hk => contains_eq l s hl k hk⟩
theorem equal_l0 (a b : Bs) (h : a.length = b.length) (hl : a.length < 1000000) : ∀ (d i : Nat), a.length - i = d → i ≤ a.length →
    Ev (fun k => slices_Equal_string_string.l0 k a b (a.length : Int) (i : Int)) (decide (a.drop i = b.drop i)) := by
  intro d
  induction d with
  | zero =>
    intro i hd hi
    have e1 : a.drop i = [] := List.drop_eq_nil_of_le (by omega)
    have e2 : b.drop i = [] := List.drop_eq_nil_of_le (by omega)
    rw [e1, e2]
    exact Ev.one (f := fun k => _) (fun k => by rw [slices_Equal_string_string.l0]) (Ev.ite_neg (by omega) ⟨0, fun _ _ => by simp⟩)
  | succ d ih =>
    intro i hd hi
    have hlt : i < a.length := by omega
    have hlt2 : i < b.length := by omega
    have hw : wrap64 ((i : Int) + 1) = ((i + 1 : Nat) : Int) := wrap_succ hlt (by omega)
    rw [List.drop_eq_getElem_cons hlt, List.drop_eq_getElem_cons hlt2]
    refine Ev.one (f := fun k => _) (fun k => by rw [slices_Equal_string_string.l0, hw, rdB_at a i hlt, rdB_at b i hlt2]) ?_
    refine Ev.ite_pos (by omega) (Ev.ite_pos (by omega) (Ev.ite_pos (by omega) (Ev.ite_pos (by omega) ?_)))
    by_cases he : a[i] = b[i]
    · refine Ev.ite_pos (by rw [he]) ?_
      have := ih (i + 1) (by omega) (by omega)
      rw [show decide (a[i] :: List.drop (i + 1) a = b[i] :: List.drop (i + 1) b) = decide (List.drop (i + 1) a = List.drop (i + 1) b) by rw [he]; simp only [List.cons.injEq, true_and]]
      exact this
    · exact Ev.ite_neg (fun h => he (toList_inj.1 h)) ⟨0, fun _ _ => by simp only [List.cons.injEq, he, false_and, decide_false]⟩
theorem equal_ev (a b : Bs) (hl : a.length < 1000000) : Ev (fun k => slices_Equal_string_string.f k a b) (decide (a = b)) := by
  unfold slices_Equal_string_string.f
  by_cases h : a.length = b.length
  · exact Ev.ite_pos (by omega) (equal_l0 a b h hl a.length 0 (by omega) (by omega))
  · refine Ev.ite_neg (by omega) ⟨0, fun _ _ => ?_⟩
    rw [decide_eq_false (fun e => h (by rw [e]))]
def three : Bs := [(⟨#[98]⟩ : ByteArray), (⟨#[101, 109]⟩ : ByteArray), (⟨#[105]⟩ : ByteArray)]
def Rn (r : R) : Prop := (∀ m ∈ r.f1, m ∈ three) ∧ r.f1.length ≤ 3 ∧ r.f0.size ≤ 2
set_option maxHeartbeats 1000000 in
theorem runs_ev (l : List Int) : ∃ rs, Ev (fun k => bobbinetkeep_Runs.f k l 20) rs ∧ rs.length ≤ 20 ∧ ∀ r ∈ rs, Rn r := by
  have inner : ∀ (i : Nat) (acc : List R) (t : ByteArray), i < l.length → i < 20 → acc.length ≤ 20 → t.size ≤ 2 →
      (∀ r : R, Rn r → ∃ rs, Ev (fun k => bobbinetkeep_Runs.l0 k l 20 (acc ++ [r]) ((i + 1 : Nat) : Int)) rs ∧ rs.length ≤ 20 ∧ ∀ r ∈ rs, Rn r) →
      ∀ (n : Nat), bobbinetkeep_Picked.f (wrap64 (Int.tdiv (rd l (i : Int)) 4)) 4 = some (n : Int) → n ≤ 3 → ∀ (d j : Nat) (ms : Bs), n - j = d → j ≤ n → ms.length = j → (∀ m ∈ ms, m ∈ three) → ∃ rs, Ev (fun k => bobbinetkeep_Runs.l1 k l 20 acc (i : Int) (j : Int) t ms) rs ∧ rs.length ≤ 20 ∧ ∀ r ∈ rs, Rn r := by
    intro i acc t hi hi2 ha ht next n hp hn d
    have hw : Aside0 (wrap64 ((i : Int) + 1) = ((i + 1 : Nat) : Int)) := ⟨wrap_succ hi2 (by omega)⟩
    induction d with
    | zero =>
      intro j ms hd hjn hj hm
      obtain ⟨rs, h1, h2⟩ := next ⟨t, ms⟩ ⟨hm, by show ms.length ≤ 3; omega, ht⟩
      refine ⟨rs, ?_, h2⟩
      have c1 : 0 ≤ (i : Int) := by omega
      have c2 : (i : Int) < (l.length : Int) := by omega
      have c3 : ¬ (j : Int) < (n : Int) := by omega
      have c7 : acc.length < 3518437208883 := by omega
      refine Ev.one (fun k => ?_) h1
      rw [bobbinetkeep_Runs.l1, if_pos c1, if_pos c2, hp, Option.bind_some, if_neg c3, if_pos c7, hw.out]
    | succ d ih =>
      intro j ms hd hjn hj hm
      have hw2 : Aside0 (wrap64 ((j : Int) + 1) = ((j + 1 : Nat) : Int)) := ⟨wrap_succ (n := 4) (by omega) (by omega)⟩
      have hw3 : Aside0 (wrap64 (16 + (j : Int)) = 16 + (j : Int)) := ⟨wrap_id (by omega) (by omega)⟩
      have hq := pick_ev (wrap64 (Int.tdiv (rd l (i : Int)) (16 + (j : Int)))) 3 (by decide) (by decide)
      have hb : 0 ≤ wrap64 (Int.tdiv (rd l (i : Int)) (16 + (j : Int))) % 3 ∧ wrap64 (Int.tdiv (rd l (i : Int)) (16 + (j : Int))) % 3 < 3 := ⟨Int.emod_nonneg _ (by decide), Int.emod_lt_of_pos _ (by decide)⟩
      obtain ⟨u, hu⟩ : ∃ u : Nat, wrap64 (Int.tdiv (rd l (i : Int)) (16 + (j : Int))) % 3 = (u : Int) := ⟨_, (Int.toNat_of_nonneg hb.1).symm⟩
      rw [hu] at hq hb
      clear hu
      have HQ := Aside0.mk hq
      have HP := Aside0.mk hp
      clear hq
      have hlt : u < three.length := by show u < 3; omega
      obtain ⟨rs, h1, h2⟩ := ih (j + 1) (ms ++ [three[u]]) (by omega) (by omega) (by simp; omega) (fun m h => by
        rcases List.mem_append.1 h with h | h
        · exact hm m h
        · rw [List.mem_singleton.1 h]; exact List.getElem_mem hlt)
      refine ⟨rs, ?_, h2⟩
      have e : rdOf ByteArray.empty ([(⟨#[98]⟩ : ByteArray), (⟨#[101, 109]⟩ : ByteArray), (⟨#[105]⟩ : ByteArray)] : List ByteArray) (u : Int) = three[u] := rdB_at three u hlt
      have e2 : (([(⟨#[98]⟩ : ByteArray), (⟨#[101, 109]⟩ : ByteArray), (⟨#[105]⟩ : ByteArray)] : List ByteArray).length : Int) = 3 := rfl
      have c1 : 0 ≤ (i : Int) := by omega
      have c2 : (i : Int) < (l.length : Int) := by omega
      have c3 : (j : Int) < (n : Int) := by omega
      have c4 : ¬ 16 + (j : Int) = 0 := by omega
      have c5 : 0 ≤ (u : Int) := by omega
      have c6 : (u : Int) < 3 := by omega
      have c7 : ms.length < 8796093022208 := by omega
      refine Ev.one (fun k => ?_) h1
      rw [bobbinetkeep_Runs.l1, if_pos c1, if_pos c2, hp, Option.bind_some, if_pos c3, Option.bind_some, hw3.out, if_neg c4, HQ.out, Option.bind_some, if_pos c5, e2, if_pos c6, if_pos c7, e, hw2.out]
  have outer : ∀ (d i : Nat) (acc : List R), 20 - i = d → i ≤ 20 → acc.length = i → (∀ r ∈ acc, Rn r) → ∃ rs, Ev (fun k => bobbinetkeep_Runs.l0 k l 20 acc (i : Int)) rs ∧ rs.length ≤ 20 ∧ ∀ r ∈ rs, Rn r := by
    intro d
    induction d with
    | zero =>
      intro i acc hd hi ha hr
      refine ⟨acc, ?_, by omega, hr⟩
      refine Ev.one (f := fun k => _) (fun k => by rw [bobbinetkeep_Runs.l0]) ?_
      have hf : decide ((i : Int) < 20) = false := decide_eq_false (by omega)
      by_cases h : (i : Int) < (l.length : Int)
      · refine Ev.ite_pos h ?_
        rw [hf]
        exact Ev.one (f := fun k => _) (fun k => by rw [bobbinetkeep_Runs.j1]) (Ev.ite_neg (by decide) (Ev.some _))
      · exact Ev.ite_neg h (Ev.one (f := fun k => _) (fun k => by rw [bobbinetkeep_Runs.j1]) (Ev.ite_neg (by decide) (Ev.some _)))
    | succ d ih =>
      intro i acc hd hi ha hr
      by_cases h : (i : Int) < (l.length : Int)
      · have hp := pick_ev (wrap64 (Int.tdiv (rd l (i : Int)) 4)) 4 (by decide) (by decide)
        have hb : 0 ≤ wrap64 (Int.tdiv (rd l (i : Int)) 4) % 4 ∧ wrap64 (Int.tdiv (rd l (i : Int)) 4) % 4 < 4 := by omega
        obtain ⟨n, hn⟩ : ∃ n : Nat, wrap64 (Int.tdiv (rd l (i : Int)) 4) % 4 = (n : Int) := ⟨_, (Int.toNat_of_nonneg hb.1).symm⟩
        rw [hn] at hp hb
        clear hn
        have hq := pick_ev (rd l (i : Int)) 4 (by decide) (by decide)
        have hc : 0 ≤ rd l (i : Int) % 4 ∧ rd l (i : Int) % 4 < 4 := by omega
        generalize rd l (i : Int) % 4 = u at hq hc
        have ht : (rdOf ByteArray.empty ([(⟨#[]⟩ : ByteArray), (⟨#[120]⟩ : ByteArray), (⟨#[121, 122]⟩ : ByteArray), (⟨#[32]⟩ : ByteArray)] : List ByteArray) u).size ≤ 2 := by
          obtain rfl | rfl | rfl | rfl : u = 0 ∨ u = 1 ∨ u = 2 ∨ u = 3 := by omega
          · exact Nat.zero_le _
          · show 1 ≤ 2; omega
          · exact Nat.le_refl _
          · show 1 ≤ 2; omega
        obtain ⟨rs, h1, h2⟩ := inner i acc _ (by omega) (by omega) (by omega) ht (fun r hr2 => by
          refine ih (i + 1) (acc ++ [r]) (by omega) (by omega) (by simp; omega) (fun q hq => ?_)
          rcases List.mem_append.1 hq with hq | hq
          · exact hr q hq
          · rw [List.mem_singleton.1 hq]; exact hr2) n hp (by omega) n 0 [] (by omega) (by omega) rfl (fun m hm => by cases hm)
        refine ⟨rs, ?_, h2⟩
        have c1 : 0 ≤ (i : Int) := by omega
        have c2 : (i : Int) < 20 := by omega
        have e2 : (([(⟨#[]⟩ : ByteArray), (⟨#[120]⟩ : ByteArray), (⟨#[121, 122]⟩ : ByteArray), (⟨#[32]⟩ : ByteArray)] : List ByteArray).length : Int) = 4 := rfl
        have h3 : Ev (fun k => bobbinetkeep_Runs.j1 k l 20 acc (i : Int) true) rs := by
          refine Ev.one (fun k => ?_) h1
          rw [bobbinetkeep_Runs.j1, if_pos rfl, Option.bind_some, if_pos c1, if_pos h, hq, Option.bind_some, if_pos hc.1, e2, if_pos hc.2]
          rfl
        refine Ev.one (fun k => ?_) h3
        rw [bobbinetkeep_Runs.l0, if_pos h, decide_eq_true c2]
      · refine ⟨acc, ?_, by omega, hr⟩
        refine Ev.one (f := fun k => _) (fun k => by rw [bobbinetkeep_Runs.l0]) ?_
        exact Ev.ite_neg h (Ev.one (f := fun k => _) (fun k => by rw [bobbinetkeep_Runs.j1]) (Ev.ite_neg (by decide) (Ev.some _)))
  unfold bobbinetkeep_Runs.f
  exact outer 20 0 [] (by omega) (by omega) rfl (fun r hr => by cases hr)
end Go.Proofs.YtjmhihadgpdiaaaDoor.Mk
end
section
namespace Go.Proofs.YtjmhihadgpdiaaaDoor.Mk
open Go.RowKit Go.Proofs.YtjmhihadgpdiaaaDoor.X Go.Proofs.YtjmhihadgpdiaaaDoorW.PrintWords Go.Proofs.YtjmhihadgpdiaaaDoorW.PrintLast Go.Proofs.YtjmhihadgpdiaaaDoor.Base
set_option linter.unusedVariables false
set_option linter.unusedSimpArgs false
/-- the marks that a run has, in order -/
def keep (ms a : Bs) : Bs := ms.filter fun m => decide (m ∈ a)
def joins (out : List R) (b : Bs) : Prop := ∃ p, out.getLast? = some p ∧ p.f1 = b
instance (out : List R) (b : Bs) : Decidable (joins out b) := by
  unfold joins
  cases out.getLast? with
  | none => exact isFalse (by simp)
  | some p => exact decidable_of_iff (p.f1 = b) (by simp)
/-- one run more -/
def step (ms : Bs) (out : List R) (r : R) : List R :=
  if joins out (keep ms r.f1) then out.set (out.length - 1) ⟨(out.getD (out.length - 1) ⟨ByteArray.empty, []⟩).f0 ++ r.f0, (out.getD (out.length - 1) ⟨ByteArray.empty, []⟩).f1⟩
  else if r.f0.toList = ([] : List UInt8) then out else out ++ [⟨r.f0, keep ms r.f1⟩]
def nrm (ms : Bs) (l : List R) : List R := l.foldl (step ms) []
theorem step_len (ms : Bs) (out : List R) (r : R) : (step ms out r).length ≤ out.length + 1 := by
  unfold step
  split
  · rw [List.length_set]; omega
  · split
    · omega
    · simp
theorem keep_take (ms a : Bs) (j : Nat) (h : j < ms.length) : keep (ms.take (j + 1)) a = keep (ms.take j) a ++ (if ms[j] ∈ a then [ms[j]] else []) := by
  unfold keep
  rw [List.take_succ_eq_append_getElem h, List.filter_append]
  congr 1
  by_cases c : ms[j] ∈ a
  · rw [if_pos c]; simp [c]
  · rw [if_neg c]; simp [c]
theorem known_eq (ms a : Bs) (hm : ms.length < 1000000) (h : ∀ m ∈ a, m ∈ ms) : Ev (fun k => cf_marksNorm.f k a ms) false := by
  refine ⟨ms.length + 1, fun k hk => ?_⟩
  show cf_marksNorm.f k a ms = some false
  unfold cf_marksNorm.f
  have e : ∀ x, slices_Contains_string_string.f k ms x = some (decide (x ∈ ms)) := fun x => contains_eq ms x hm k (by omega)
  rw [if_pos (List.all_eq_true.2 (fun x hx => by rw [e]; rfl))]
  congr 1
  rw [List.any_eq_false]
  intro x hx
  unfold cf_marksNorm.P
  rw [e, decide_eq_true (h x hx)]
  decide
/-- texts of some length at most, few marks -/
def Lt (b : Nat) (out : List R) : Prop := ∀ p ∈ out, p.f0.size ≤ b ∧ p.f1.length ≤ 1000
theorem keep_len (ms a : Bs) : (keep ms a).length ≤ ms.length := List.length_filter_le _ _
theorem step_lt {ms : Bs} {out : List R} {r : R} {b c : Nat} (h : Lt b out) (hm : ms.length ≤ 1000) (hr : r.f0.size ≤ c) : Lt (b + c) (step ms out r) := by
  unfold step
  split
  · rename_i hj
    obtain ⟨p, hp, _⟩ := hj
    intro q hq
    rcases List.mem_or_eq_of_mem_set hq with hq | rfl
    · have := h q hq; exact ⟨by omega, this.2⟩
    · have hne : out ≠ [] := by rintro rfl; simp at hp
      have hlt : out.length - 1 < out.length := by have := List.length_pos_iff.2 hne; omega
      have h2 := h (out[out.length - 1]) (List.getElem_mem hlt)
      have e : out.getD (out.length - 1) ⟨ByteArray.empty, []⟩ = out[out.length - 1] := by simp [List.getD, hlt]
      rw [e]
      refine ⟨?_, h2.2⟩
      show (out[out.length - 1].f0 ++ r.f0).size ≤ _
      rw [ByteArray.size_append]
      omega
  · split
    · intro q hq; have := h q hq; exact ⟨by omega, this.2⟩
    · intro q hq
      rcases List.mem_append.1 hq with hq | hq
      · have := h q hq; exact ⟨by omega, this.2⟩
      · rw [List.mem_singleton.1 hq]; exact ⟨by show r.f0.size ≤ _; omega, Nat.le_trans (keep_len _ _) hm⟩
theorem norm_ev (ms : Bs) (hm : ms.length < 1000) (l : List R) (hl : l.length < 1000) (hk : ∀ r ∈ l, (∀ m ∈ r.f1, m ∈ ms) ∧ r.f1.length < 1000 ∧ r.f0.size ≤ 1000000) : Ev (fun k => marks_norm.f k ms l) (nrm ms l, 0) := by
  have loop : ∀ (d i : Nat) (out : List R), l.length - i = d → i ≤ l.length → out.length ≤ i → Lt (i * 1000000) out → Ev (fun k => marks_norm.l0 k out l (l.length : Int) (i : Int) ms) ((l.drop i).foldl (step ms) out, 0) := by
    intro d
    induction d with
    | zero =>
      intro i out hd hi ho _
      rw [List.drop_eq_nil_of_le (by omega)]
      refine Ev.one (f := fun k => _) (fun k => by rw [marks_norm.l0]) ?_
      exact Ev.ite_neg (by omega) (Ev.some _)
    | succ d ih =>
      intro i out hd hi ho hb
      have hlt : i < l.length := by omega
      have hw : Aside0 (wrap64 ((i : Int) + 1) = ((i + 1 : Nat) : Int)) := ⟨wrap_succ hlt (by omega)⟩
      obtain ⟨hk1, hk2, hk3⟩ := hk l[i] (List.getElem_mem hlt)
      have hnext := ih (i + 1) (step ms out l[i]) (by omega) (by omega) (Nat.le_trans (step_len _ _ _) (by omega)) (by have := step_lt (ms := ms) hb (by omega) hk3; rw [Nat.add_mul]; simpa using this)
      rw [List.drop_eq_getElem_cons hlt, List.foldl_cons]
      generalize hr : l[i] = r at hk1 hk2 hk3 hnext ⊢
      -- the end of a round
      have fin : ∀ b : Bool, (b = true ↔ joins out (keep ms r.f1)) → Ev (fun k => marks_norm.j2 k out (out.length : Int) l (l.length : Int) (i : Int) b ms r.f0 (keep ms r.f1)) ((l.drop (i + 1)).foldl (step ms) (step ms out r), 0) := by
        intro b hbj
        by_cases hj : joins out (keep ms r.f1)
        · obtain ⟨p, hp, hp2⟩ := hj
          have hne : out ≠ [] := by rintro rfl; simp at hp
          have hpos := List.length_pos_iff.2 hne
          have hw2 : Aside0 (wrap64 ((out.length : Int) - 1) = ((out.length - 1 : Nat) : Int)) := ⟨by rw [wrap_id (by omega) (by omega)]; omega⟩
          have hlt2 : out.length - 1 < out.length := by omega
          have hst : step ms out r = out.set (out.length - 1) ⟨out[out.length - 1].f0 ++ r.f0, out[out.length - 1].f1⟩ := by
            unfold step
            rw [if_pos ⟨p, hp, hp2⟩]
            simp [List.getD, hlt2]
          have hsz := (hb _ (List.getElem_mem hlt2)).1
          rw [hst] at hnext
          rw [hst]
          refine Ev.one (f := fun k => _) (fun k => by rw [marks_norm.j2, hw2.out, rdR_at out _ hlt2, hw.out]) ?_
          exact Ev.ite_pos (hbj.2 ⟨p, hp, hp2⟩) (Ev.ite_pos (by omega) (Ev.ite_pos (by omega) (Ev.ite_pos (by omega) hnext)))
        · have hbf : ¬ b = true := fun h => hj (hbj.1 h)
          unfold step at hnext ⊢
          rw [if_neg hj] at hnext ⊢
          refine Ev.one (f := fun k => _) (fun k => by rw [marks_norm.j2, hw.out]) (Ev.ite_neg hbf ?_)
          by_cases he : r.f0.toList = ([] : List UInt8)
          · rw [if_pos he] at hnext ⊢
            exact Ev.ite_pos he hnext
          · rw [if_neg he] at hnext ⊢
            exact Ev.ite_neg he (Ev.ite_pos (by omega) hnext)
      -- the marks that it has
      have inner : ∀ (e j : Nat), ms.length - j = e → j ≤ ms.length → Ev (fun k => marks_norm.l1 k out l (l.length : Int) (i : Int) ms (ms.length : Int) (j : Int) ms r.f0 r.f1 r.f0 (keep (ms.take j) r.f1)) ((l.drop (i + 1)).foldl (step ms) (step ms out r), 0) := by
        intro e
        induction e with
        | zero =>
          intro j he hj
          obtain rfl : j = ms.length := by omega
          rw [List.take_length]
          refine Ev.one (f := fun k => _) (fun k => by rw [marks_norm.l1]) (Ev.ite_neg (by omega) ?_)
          by_cases hpos : 0 < out.length
          · have hw2 : Aside0 (wrap64 ((out.length : Int) - 1) = ((out.length - 1 : Nat) : Int)) := ⟨by rw [wrap_id (by omega) (by omega)]; omega⟩
            have hlt2 : out.length - 1 < out.length := by omega
            rw [hw2.out, rdR_at out _ hlt2]
            refine Ev.ite_pos (by omega) (Ev.ite_pos (by omega) (Ev.ite_pos (by omega) ?_))
            have hlast : out.getLast? = some out[out.length - 1] := by rw [List.getLast?_eq_getElem?]; simp [hlt2]
            have hsame : out[out.length - 1].f1.length < 1000000 := by have := (hb _ (List.getElem_mem hlt2)).2; omega
            refine Ev.bnd (equal_ev _ _ hsame) (fin _ ?_)
            rw [decide_eq_true_eq]
            constructor
            · intro h; exact ⟨_, hlast, h⟩
            · rintro ⟨p, hp, h⟩
              rw [hlast] at hp
              rw [Option.some.inj hp]; exact h
          · have hnil : out = [] := List.eq_nil_of_length_eq_zero (by omega)
            refine Ev.ite_neg (by omega) (fin false ⟨fun h => (by cases h), fun ⟨p, hp, _⟩ => (by rw [hnil] at hp; simp at hp)⟩)
        | succ e ihe =>
          intro j he hj
          have hltj : j < ms.length := by omega
          have hwj : Aside0 (wrap64 ((j : Int) + 1) = ((j + 1 : Nat) : Int)) := ⟨wrap_succ hltj (by omega)⟩
          have hn := ihe (j + 1) (by omega) (by omega)
          rw [keep_take ms r.f1 j hltj] at hn
          have hlen : (keep (ms.take j) r.f1).length ≤ 1000 := by
            unfold keep
            refine Nat.le_trans (List.length_filter_le _ _) ?_
            rw [List.length_take]; omega
          refine Ev.one (f := fun k => _) (fun k => by rw [marks_norm.l1, hwj.out, rdB_at ms j hltj]) ?_
          refine Ev.ite_pos (by omega) (Ev.ite_pos (by omega) (Ev.ite_pos (by omega) (Ev.bnd (contains_ev r.f1 ms[j] (by omega)) ?_)))
          by_cases hc : ms[j] ∈ r.f1
          · rw [if_pos hc] at hn
            exact Ev.ite_pos (decide_eq_true hc) (Ev.ite_pos (by omega) hn)
          · rw [if_neg hc, List.append_nil] at hn
            exact Ev.ite_neg (by simp [hc]) hn
      refine Ev.one (f := fun k => _) (fun k => by rw [marks_norm.l0, rdR_at l i hlt, hr]) ?_
      refine Ev.ite_pos (by omega) (Ev.ite_pos (by omega) (Ev.ite_pos (by omega) (Ev.bnd (known_eq ms r.f1 (by omega) hk1) (Ev.ite_neg (by decide) ?_))))
      exact inner ms.length 0 (by omega) (by omega)
  unfold marks_norm.f nrm
  exact loop l.length 0 [] (by omega) (by omega) (Nat.le_refl _) (fun p hp => by cases hp)
end Go.Proofs.YtjmhihadgpdiaaaDoor.Mk
end
section
namespace Go.Proofs.YtjmhihadgpdiaaaDoor.Mk
open Go.RowKit Go.Proofs.YtjmhihadgpdiaaaDoor.X Go.Proofs.YtjmhihadgpdiaaaDoorW.PrintWords Go.Proofs.YtjmhihadgpdiaaaDoorW.PrintLast Go.Proofs.YtjmhihadgpdiaaaDoor.Base
set_option linter.unusedVariables false
set_option linter.unusedSimpArgs false
abbrev Nd := S49
def AdjL : List Bs → Prop
  | [] => True
  | [_] => True
  | a :: b :: l => a ≠ b ∧ AdjL (b :: l)
theorem AdjL.tail {a : Bs} {l : List Bs} (h : AdjL (a :: l)) : AdjL l := by
  cases l with
  | nil => trivial
  | cons b l => exact h.2
theorem AdjL.drop {l : List Bs} (h : AdjL l) : ∀ n, AdjL (l.drop n) := by
  intro n
  induction n generalizing l with
  | zero => exact h
  | succ n ih =>
    cases l with
    | nil => trivial
    | cons a l => exact ih h.tail
theorem AdjL.take {l : List Bs} (h : AdjL l) : ∀ n, AdjL (l.take n) := by
  intro n
  induction n generalizing l with
  | zero => trivial
  | succ n ih =>
    match l, h with
    | [], _ => trivial
    | [a], _ => simp [AdjL]
    | a :: b :: l, h =>
      cases n with
      | zero => trivial
      | succ n => exact ⟨h.1, ih h.2⟩
theorem AdjL.snoc {l : List Bs} {b : Bs} (h : AdjL l) (hb : l.getLast? ≠ some b) : AdjL (l ++ [b]) := by
  match l, h, hb with
  | [], _, _ => trivial
  | [a], _, hb => exact ⟨fun e => hb (by rw [e]; rfl), trivial⟩
  | a :: c :: l, h, hb =>
    refine ⟨h.1, AdjL.snoc (l := c :: l) h.2 (fun e => hb ?_)⟩
    rw [List.getLast?_cons_cons]; exact e
/-- what the norm gives -/
def PN (ms : Bs) (l : List R) : Prop := (∀ r ∈ l, r.f0.toList ≠ [] ∧ ∃ a, r.f1 = keep ms a) ∧ AdjL (l.map (·.f1))
theorem step_pn {ms : Bs} {out : List R} (h : PN ms out) (r : R) : PN ms (step ms out r) := by
  unfold step
  split
  · rename_i hj
    obtain ⟨p, hp, _⟩ := hj
    have hne : out ≠ [] := by rintro rfl; simp at hp
    have hlt : out.length - 1 < out.length := by have := List.length_pos_iff.2 hne; omega
    have e : out.getD (out.length - 1) ⟨ByteArray.empty, []⟩ = out[out.length - 1] := by simp [List.getD, hlt]
    rw [e]
    have h2 := h.1 (out[out.length - 1]) (List.getElem_mem hlt)
    refine ⟨fun q hq => ?_, ?_⟩
    · rcases List.mem_or_eq_of_mem_set hq with hq | rfl
      · exact h.1 q hq
      · refine ⟨fun e => h2.1 ?_, h2.2⟩
        have e2 : (out[out.length - 1].f0 ++ r.f0).toList = [] := e
        rw [toList_eq, ByteArray.data_append, Array.toList_append] at e2
        rw [toList_eq]; exact (List.append_eq_nil_iff.1 e2).1
    · have e3 : (out.set (out.length - 1) ⟨out[out.length - 1].f0 ++ r.f0, out[out.length - 1].f1⟩).map (·.f1) = out.map (·.f1) := by
        rw [List.map_set]
        apply List.ext_getElem?
        intro j
        rw [List.getElem?_set]
        split
        · rename_i hji
          subst hji
          simp [hlt]
        · rfl
      rw [e3]; exact h.2
  · rename_i hj
    split
    · exact h
    · rename_i hr
      refine ⟨fun q hq => ?_, ?_⟩
      · rcases List.mem_append.1 hq with hq | hq
        · exact h.1 q hq
        · rw [List.mem_singleton.1 hq]; exact ⟨hr, r.f1, rfl⟩
      · rw [List.map_append]
        refine AdjL.snoc h.2 (fun e => hj ?_)
        rw [List.getLast?_map] at e
        obtain ⟨p, hp, e2⟩ := Option.map_eq_some_iff.1 e
        exact ⟨p, hp, e2⟩
theorem nrm_pn (ms : Bs) (l : List R) : PN ms (nrm ms l) := by
  have : ∀ (l : List R) (out : List R), PN ms out → PN ms (l.foldl (step ms) out) := by
    intro l
    induction l with
    | nil => intro out h; exact h
    | cons r l ih => intro out h; exact ih _ (step_pn h r)
  exact this l [] ⟨fun r hr => (by cases hr), trivial⟩
theorem nrm_len (ms : Bs) (l : List R) : (nrm ms l).length ≤ l.length := by
  have : ∀ (l : List R) (out : List R), (l.foldl (step ms) out).length ≤ out.length + l.length := by
    intro l
    induction l with
    | nil => intro out; simp
    | cons r l ih =>
      intro out
      have := ih (step ms out r)
      have := step_len ms out r
      rw [List.foldl_cons, List.length_cons]; omega
  have h2 := this l []
  rw [List.length_nil, Nat.zero_add] at h2
  exact h2
def flt (pre : Bs) : List Nd → List R
  | [] => []
  | n :: l => (if n.f0.toList = ([] : List UInt8) then [⟨n.f2, pre⟩] else flt (pre ++ [n.f0]) n.f3) ++ flt pre l
termination_by l => SizeOf.sizeOf l
decreasing_by all_goals (cases n; simp; omega)
theorem flt_nil (pre : Bs) : flt pre [] = [] := by rw [flt]
theorem flt_cons (pre : Bs) (n : Nd) (l : List Nd) : flt pre (n :: l) = (if n.f0.toList = ([] : List UInt8) then [⟨n.f2, pre⟩] else flt (pre ++ [n.f0]) n.f3) ++ flt pre l := by rw [flt]
/-- nested in the order of marks, no two of one name side by side -/
def NB (prev : Option ByteArray) (ms : Bs) : List Nd → Prop
  | [] => True
  | n :: l => (n.f0.toList ≠ [] → ∃ l1 l2, ms = l1 ++ n.f0 :: l2 ∧ prev ≠ some n.f0 ∧ n.f3 ≠ [] ∧ NB none l2 n.f3) ∧ NB (some n.f0) ms l
termination_by l => SizeOf.sizeOf l
decreasing_by all_goals (cases n; simp; omega)
theorem NB_nil (prev : Option ByteArray) (ms : Bs) : NB prev ms [] := by rw [NB]; trivial
theorem NB_cons (prev : Option ByteArray) (ms : Bs) (n : Nd) (l : List Nd) : NB prev ms (n :: l) = ((n.f0.toList ≠ [] → ∃ l1 l2, ms = l1 ++ n.f0 :: l2 ∧ prev ≠ some n.f0 ∧ n.f3 ≠ [] ∧ NB none l2 n.f3) ∧ NB (some n.f0) ms l) := by rw [NB]
/-- texts are not empty and apart -/
def AT (prev : Option ByteArray) : List Nd → Prop
  | [] => True
  | n :: l => (if n.f0.toList = ([] : List UInt8) then n.f2.toList ≠ [] ∧ n.f3 = [] ∧ n.f1 = [] ∧ (∀ p, prev = some p → p.toList ≠ []) else n.f2.toList = [] ∧ AT none n.f3) ∧ AT (some n.f0) l
termination_by l => SizeOf.sizeOf l
decreasing_by all_goals (cases n; simp; omega)
theorem AT_nil (prev : Option ByteArray) : AT prev [] := by rw [AT]; trivial
theorem AT_cons (prev : Option ByteArray) (n : Nd) (l : List Nd) : AT prev (n :: l) = ((if n.f0.toList = ([] : List UInt8) then n.f2.toList ≠ [] ∧ n.f3 = [] ∧ n.f1 = [] ∧ (∀ p, prev = some p → p.toList ≠ []) else n.f2.toList = [] ∧ AT none n.f3) ∧ AT (some n.f0) l) := by rw [AT]
/-- what stands ahead of runs that are nested at a place -/
def Pv (prev : Option ByteArray) (pre : Bs) (L : List R) : Prop := ∀ r p, L.head? = some r → prev = some p → (p.toList = [] → r.f1 ≠ pre) ∧ (p.toList ≠ [] → ∀ s, r.f1 ≠ pre ++ p :: s)
theorem sub_after {m : ByteArray} {s l1 l2 : Bs} (h : (m :: s).Sublist (l1 ++ m :: l2)) (hn : m ∉ l1) : s.Sublist l2 := by
  induction l1 with
  | nil =>
    cases h with
    | cons _ h => exact (List.sublist_cons_self m s).trans h
    | cons_cons _ h => exact h
  | cons a l1 ih =>
    have hne : m ≠ a := fun e => hn (by rw [e]; exact List.mem_cons_self)
    cases h with
    | cons _ h => exact ih h (fun e => hn (List.mem_cons_of_mem _ e))
    | cons_cons _ h => exact absurd rfl hne
theorem first_of {m : ByteArray} {l : Bs} (h : m ∈ l) : ∃ l1 l2, l = l1 ++ m :: l2 ∧ m ∉ l1 := by
  induction l with
  | nil => cases h
  | cons a l ih =>
    by_cases e : m = a
    · subst e; exact ⟨[], l, rfl, fun h => (by cases h)⟩
    · obtain ⟨l1, l2, h1, h2⟩ := ih ((List.mem_cons.1 h).resolve_left e)
      exact ⟨a :: l1, l2, by rw [h1]; rfl, fun h3 => (List.mem_cons.1 h3).elim e h2⟩
/-- the runs that go into an element -/
theorem nest_step {L : List R} {r : R} {L' : List R} (hL : L = r :: L') {pre s' : Bs} {m : ByteArray} (hr : r.f1 = pre ++ m :: s') (hlen : ∀ x ∈ L, pre.length ≤ x.f1.length) (hL2 : L.length < 1000000) (hp2 : pre.length < 1000000) (acc : List Nd) (ha : acc.length < 1000000) :
    ∃ i, 1 ≤ i ∧ i ≤ L.length ∧ (∀ x ∈ L.take i, ix_marksNest.P (pre.length : Int) m x = false) ∧ (∀ x, (L.drop i).head? = some x → ix_marksNest.P (pre.length : Int) m x = true) ∧
      ∀ (parts : List Nd) (RR : List Nd), Ev (fun k => marks_nest.f k (L.take i) ((pre ++ [m]).length : Int)) parts → Ev (fun k => marks_nest.l0 k (L.drop i) (acc ++ [(⟨m, [], ⟨#[]⟩, parts⟩ : Nd)]) (pre.length : Int)) RR → Ev (fun k => marks_nest.l0 k L acc (pre.length : Int)) RR := by
  have hrd : rd_T40 L 0 = r := by rw [hL]; rfl
  have hpl : pre.length < r.f1.length := by rw [hr]; simp
  have hm : rdOf ByteArray.empty r.f1 (pre.length : Int) = m := by rw [rdB_at _ _ hpl]; simp [hr]
  have hpos : 0 < L.length := by rw [hL]; simp
  have hw : Aside0 (wrap64 ((pre.length : Int) + 1) = ((pre ++ [m]).length : Int)) := ⟨by rw [wrap_id (by omega) (by omega)]; simp⟩
  have hg : L.all (ix_marksNest.g (pre.length : Int)) = true := by
    rw [List.all_eq_true]
    intro x hx
    have := hlen x hx
    unfold ix_marksNest.g
    by_cases e : (x.f1.length : Int) = (pre.length : Int)
    · simp [e]
    · have e3 : (pre.length : Int) < (x.f1.length : Int) := by omega
      simp [e3]
  have hix : ix_marksNest.f L (pre.length : Int) m = some (ix_marksNest.idx (pre.length : Int) m L) := by unfold ix_marksNest.f; rw [if_pos hg]
  have hP0 : ix_marksNest.P (pre.length : Int) m r = false := by
    unfold ix_marksNest.P
    rw [hm, decide_eq_false (by omega)]
    simp
  have c1 : (L.length : Int) > 0 := by omega
  have c2 : 0 < (L.length : Int) := by omega
  have c3 : ¬ ((r.f1.length : Int) = (pre.length : Int)) := by omega
  have c4 : 0 ≤ (pre.length : Int) := by omega
  have c5 : (pre.length : Int) < (r.f1.length : Int) := by omega
  have c6 : acc.length < 1759218604441 := by omega
  have c7 : 0 ≤ (L.length : Int) := by omega
  have c8 : (L.length : Int) ≤ (L.length : Int) := by omega
  have hix2 := hix
  unfold ix_marksNest.idx at hix2
  cases hf : L.findIdx? (ix_marksNest.P (pre.length : Int) m) with
  | none =>
    rw [hf] at hix2
    rw [List.findIdx?_eq_none_iff] at hf
    refine ⟨L.length, hpos, Nat.le_refl _, fun x hx => hf x (List.mem_of_mem_take hx), fun x hx => ?_, fun parts RR h1 h2 => ?_⟩
    · rw [List.drop_length] at hx; cases hx
    · refine Ev.one (f := fun k => (marks_nest.f k (L.take L.length) ((pre ++ [m]).length : Int)).bind fun t => marks_nest.l0 k (L.drop L.length) (acc ++ [(⟨m, [], ⟨#[]⟩, t⟩ : Nd)]) (pre.length : Int)) (fun k => ?_) (Ev.bnd h1 h2)
      rw [marks_nest.l0, if_pos c1, if_pos c2, hrd, if_neg c3, if_pos c4, if_pos c5, hm, hix2, Option.bind_some, if_pos (by decide), if_pos c7, if_pos c8, hw.out, Int.toNat_natCast]
      simp only [if_pos c6]
  | some i =>
    rw [hf] at hix2
    rw [List.findIdx?_eq_some_iff_getElem] at hf
    obtain ⟨hi, ht, hb⟩ := hf
    have hi1 : 1 ≤ i := by
      cases i with
      | zero =>
        have : L[0] = r := by simp [hL]
        rw [this, hP0] at ht; cases ht
      | succ i => omega
    have c9 : ¬ ((i : Int) < 0) := by omega
    have c10 : 0 ≤ (i : Int) := by omega
    have c11 : (i : Int) ≤ (L.length : Int) := by omega
    refine ⟨i, hi1, by omega, fun x hx => ?_, fun x hx => ?_, fun parts RR h1 h2 => ?_⟩
    · obtain ⟨j, hj, rfl⟩ := List.getElem_of_mem hx
      rw [List.getElem_take]
      have hj2 : j < i := by rw [List.length_take] at hj; omega
      have := hb j hj2
      simpa using this
    · rw [List.head?_drop, List.getElem?_eq_getElem hi] at hx
      rw [← Option.some.inj hx]; exact ht
    · refine Ev.one (f := fun k => (marks_nest.f k (L.take i) ((pre ++ [m]).length : Int)).bind fun t => marks_nest.l0 k (L.drop i) (acc ++ [(⟨m, [], ⟨#[]⟩, t⟩ : Nd)]) (pre.length : Int)) (fun k => ?_) (Ev.bnd h1 h2)
      rw [marks_nest.l0, if_pos c1, if_pos c2, hrd, if_neg c3, if_pos c4, if_pos c5, hm, hix2, Option.bind_some, if_neg c9, if_pos c10, if_pos c11, hw.out, Int.toNat_natCast]
      simp only [if_pos c6]
theorem nest_ev : ∀ (N : Nat) (ms2 : Bs), ms2.length ≤ N → ms2.Nodup → (∀ m ∈ ms2, m.toList ≠ []) → ∀ (n : Nat) (L : List R) (pre : Bs) (acc : List Nd), L.length ≤ n → acc.length + n < 100000 → pre.length + N < 100000 → (∀ r ∈ L, r.f0.toList ≠ [] ∧ ∃ s, r.f1 = pre ++ s ∧ s.Sublist ms2) → AdjL (L.map (·.f1)) →
    ∃ nodes, Ev (fun k => marks_nest.l0 k L acc (pre.length : Int)) (acc ++ nodes) ∧ (L ≠ [] → nodes ≠ []) ∧ flt pre nodes = L ∧ ∀ prev, Pv prev pre L → NB prev ms2 nodes ∧ AT prev nodes := by
  intro N
  induction N with
  | zero => exact fun ms2 hN hnd hne => nest_aux 0 (fun _ h => absurd h (by omega)) ms2 hN hnd hne
  | succ N ihN => exact fun ms2 hN hnd hne => nest_aux (N + 1) (fun M hM ms3 h3 hnd3 hne3 n L pre acc h1 h2 h4 h5 h6 => ihN ms3 (by omega) hnd3 hne3 n L pre acc h1 h2 (by omega) h5 h6) ms2 hN hnd hne
where
  nest_aux (N : Nat) (ihN : ∀ M, M < N → ∀ (ms2 : Bs), ms2.length ≤ M → ms2.Nodup → (∀ m ∈ ms2, m.toList ≠ []) → ∀ (n : Nat) (L : List R) (pre : Bs) (acc : List Nd), L.length ≤ n → acc.length + n < 100000 → pre.length + N ≤ 100000 → (∀ r ∈ L, r.f0.toList ≠ [] ∧ ∃ s, r.f1 = pre ++ s ∧ s.Sublist ms2) → AdjL (L.map (·.f1)) →
      ∃ nodes, Ev (fun k => marks_nest.l0 k L acc (pre.length : Int)) (acc ++ nodes) ∧ (L ≠ [] → nodes ≠ []) ∧ flt pre nodes = L ∧ ∀ prev, Pv prev pre L → NB prev ms2 nodes ∧ AT prev nodes) (ms2 : Bs) (hN : ms2.length ≤ N) (hnd : ms2.Nodup) (hne : ∀ m ∈ ms2, m.toList ≠ []) : ∀ (n : Nat) (L : List R) (pre : Bs) (acc : List Nd), L.length ≤ n → acc.length + n < 100000 → pre.length + N < 100000 → (∀ r ∈ L, r.f0.toList ≠ [] ∧ ∃ s, r.f1 = pre ++ s ∧ s.Sublist ms2) → AdjL (L.map (·.f1)) →
      ∃ nodes, Ev (fun k => marks_nest.l0 k L acc (pre.length : Int)) (acc ++ nodes) ∧ (L ≠ [] → nodes ≠ []) ∧ flt pre nodes = L ∧ ∀ prev, Pv prev pre L → NB prev ms2 nodes ∧ AT prev nodes := by
    intro n
    induction n with
    | zero =>
      intro L pre acc hl _ _ _ _
      obtain rfl : L = [] := List.eq_nil_of_length_eq_zero (by omega)
      refine ⟨[], ?_, fun h => absurd rfl h, flt_nil pre, fun prev _ => ⟨NB_nil _ _, AT_nil _⟩⟩
      rw [List.append_nil]
      refine Ev.one (f := fun k => _) (fun k => by rw [marks_nest.l0]) ?_
      exact Ev.ite_neg (by simp) (Ev.some _)
    | succ n ih =>
      intro L pre acc hl ha hpre hr hadj
      cases hL : L with
      | nil =>
        refine ⟨[], ?_, fun h => absurd rfl h, flt_nil pre, fun prev _ => ⟨NB_nil _ _, AT_nil _⟩⟩
        rw [List.append_nil]
        refine Ev.one (f := fun k => _) (fun k => by rw [marks_nest.l0]) ?_
        exact Ev.ite_neg (by simp) (Ev.some _)
      | cons r L' =>
        obtain ⟨hr0, s, hs, hsub⟩ := hr r (by rw [hL]; exact List.mem_cons_self)
        have hlen' : L.length = L'.length + 1 := by rw [hL]; rfl
        cases s with
        | nil =>
          rw [List.append_nil] at hs
          have ee : (⟨#[]⟩ : ByteArray).toList = ([] : List UInt8) := toList_nil.2 rfl
          obtain ⟨nodes, h1, h2, h3, h4⟩ := ih L' pre (acc ++ [(⟨⟨#[]⟩, [], r.f0, []⟩ : Nd)]) (by omega) (by simp; omega) hpre (fun x hx => hr x (by rw [hL]; exact List.mem_cons_of_mem _ hx)) (by rw [hL, List.map_cons] at hadj; exact hadj.tail)
          refine ⟨(⟨⟨#[]⟩, [], r.f0, []⟩ : Nd) :: nodes, ?_, fun _ => by simp, ?_, fun prev hp => ?_⟩
          · rw [List.append_assoc, List.singleton_append] at h1
            have c1 : (((r :: L').length : Nat) : Int) > 0 := by rw [List.length_cons]; omega
            have c2 : 0 < (((r :: L').length : Nat) : Int) := by omega
            have c3 : (r.f1.length : Int) = (pre.length : Int) := by rw [hs]
            have c4 : acc.length < 1759218604441 := by omega
            have c5 : 1 ≤ (((r :: L').length : Nat) : Int) := by omega
            refine Ev.one (fun k => ?_) h1
            have e0 : rd_T40 (r :: L') 0 = r := rfl
            rw [marks_nest.l0, if_pos c1, if_pos c2, e0, if_pos c3, if_pos c4, if_pos c5]
            rfl
          · rw [flt_cons]
            dsimp only
            rw [if_pos ee, h3, ← hs]; rfl
          · have h5 := h4 (some ⟨#[]⟩) (fun x p hx hp => by
              obtain rfl := Option.some.inj hp
              refine ⟨fun _ e => ?_, fun h => absurd ee h⟩
              cases hL2 : L' with
              | nil => rw [hL2] at hx; cases hx
              | cons y L2 =>
                rw [hL2] at hx
                obtain rfl := Option.some.inj hx
                rw [hL, hL2, List.map_cons, List.map_cons] at hadj
                exact hadj.1 (by rw [hs, e]))
            rw [NB_cons, AT_cons]
            dsimp only
            rw [if_pos ee]
            refine ⟨⟨fun h => absurd ee h, h5.1⟩, ⟨hr0, rfl, rfl, fun p he hpe => ?_⟩, h5.2⟩
            exact ((hp r p rfl he).1 hpe) hs
        | cons m s' =>
          have hm : m ∈ ms2 := hsub.subset List.mem_cons_self
          have hmne := hne m hm
          obtain ⟨l1, l2, hms, hml1⟩ := first_of hm
          have hnd2 := hnd
          rw [hms] at hnd2
          have hl2nd : l2.Nodup := ((List.nodup_append.1 hnd2).2.1).tail
          have hl2len : l2.length < ms2.length := by rw [hms]; simp; omega
          have hplen : ∀ x ∈ L, pre.length ≤ x.f1.length := fun x hx => by
            obtain ⟨_, sx, e, _⟩ := hr x hx
            rw [e]; simp
          obtain ⟨i, hi1, hi2, hG, hR, hstep⟩ := nest_step hL hs hplen (by omega) (by omega) acc (by omega)
          have hin : ∀ x ∈ L.take i, x.f0.toList ≠ [] ∧ ∃ s, x.f1 = (pre ++ [m]) ++ s ∧ s.Sublist l2 := by
            intro x hx
            obtain ⟨hx0, sx, e, hsx⟩ := hr x (List.mem_of_mem_take hx)
            have hP := hG x hx
            unfold ix_marksNest.P at hP
            rw [Bool.or_eq_false_iff] at hP
            refine ⟨hx0, ?_⟩
            cases sx with
            | nil => exact absurd hP.1 (by rw [e]; simp)
            | cons q sx =>
              have hpl : pre.length < x.f1.length := by rw [e]; simp
              have hq : rdOf ByteArray.empty x.f1 (pre.length : Int) = q := by rw [rdB_at _ _ hpl]; simp [e]
              have hqm : q = m := by
                have := hP.2
                rw [hq] at this
                exact toList_inj.1 (by simpa using this)
              subst hqm
              refine ⟨sx, by rw [e]; simp, ?_⟩
              rw [hms] at hsx
              exact sub_after hsx hml1
          have hadjT : AdjL ((L.take i).map (·.f1)) := by rw [List.map_take]; exact hadj.take i
          have hadjD : AdjL ((L.drop i).map (·.f1)) := by rw [List.map_drop]; exact hadj.drop i
          obtain ⟨parts, p1, p2, p3, p4⟩ := ihN (N - 1) (by omega) l2 (by omega) hl2nd (fun q hq => hne q (by rw [hms]; simp [hq])) (n + 1) (L.take i) (pre ++ [m]) [] (by rw [List.length_take]; omega) (by simp; omega) (by simp; omega) hin hadjT
          obtain ⟨nodes, h1, h2, h3, h4⟩ := ih (L.drop i) pre (acc ++ [(⟨m, [], ⟨#[]⟩, parts⟩ : Nd)]) (by rw [List.length_drop]; omega) (by simp; omega) hpre (fun x hx => hr x (List.mem_of_mem_drop hx)) hadjD
          rw [List.append_assoc, List.singleton_append] at h1
          have p1' : Ev (fun k => marks_nest.f k (L.take i) ((pre ++ [m]).length : Int)) parts := by
            refine Ev.one (fun k => ?_) p1
            rw [marks_nest.f]
          have hmain := hstep parts _ p1' h1
          rw [hL] at hmain
          refine ⟨(⟨m, [], ⟨#[]⟩, parts⟩ : Nd) :: nodes, hmain, fun _ => by simp, ?_, fun prev hp => ?_⟩
          · rw [flt_cons]
            dsimp only
            rw [if_neg hmne, p3, h3, ← hL]
            exact List.take_append_drop i L
          · have hv := p4 none (fun _ _ _ h => (by cases h))
            have h5 := h4 (some m) (fun x p hx he => by
              obtain rfl := Option.some.inj he
              refine ⟨fun h => absurd h hmne, fun _ sx e => ?_⟩
              have hP := hR x hx
              unfold ix_marksNest.P at hP
              have hpl : pre.length < x.f1.length := by rw [e]; simp
              have hq : rdOf ByteArray.empty x.f1 (pre.length : Int) = m := by rw [rdB_at _ _ hpl]; simp [e]
              rw [hq, decide_eq_false (by omega)] at hP
              simp at hP)
            have hpne : parts ≠ [] := p2 (fun e => by
              have h6 : (L.take i).length = 0 := by rw [e]; rfl
              rw [List.length_take] at h6
              omega)
            rw [NB_cons, AT_cons]
            dsimp only
            rw [if_neg hmne]
            refine ⟨⟨fun _ => ⟨l1, l2, hms, fun e => ?_, hpne, hv.1⟩, h5.1⟩, ⟨toList_nil.2 rfl, hv.2⟩, h5.2⟩
            exact (hp r m rfl e).2 hmne s' hs
end Go.Proofs.YtjmhihadgpdiaaaDoor.Mk
end
section
namespace Go.Proofs.YtjmhihadgpdiaaaDoor.Mk
open Go.RowKit Go.Proofs.YtjmhihadgpdiaaaDoor.X Go.Proofs.YtjmhihadgpdiaaaDoorW.PrintWords Go.Proofs.YtjmhihadgpdiaaaDoorW.PrintLast Go.Proofs.YtjmhihadgpdiaaaDoor.Base
set_option linter.unusedVariables false
set_option linter.unusedSimpArgs false
def cnt : List Nd → Nat
  | [] => 0
  | n :: l => 1 + cnt n.f3 + cnt l
termination_by l => SizeOf.sizeOf l
decreasing_by all_goals (cases n; simp; omega)
theorem cnt_nil : cnt [] = 0 := by rw [cnt]
theorem cnt_cons (n : Nd) (l : List Nd) : cnt (n :: l) = 1 + cnt n.f3 + cnt l := by rw [cnt]
theorem cnt_len : ∀ l : List Nd, l.length ≤ cnt l
  | [] => Nat.zero_le _
  | n :: l => by have := cnt_len l; rw [cnt_cons, List.length_cons]; omega
theorem cnt_mem {n : Nd} : ∀ {l : List Nd}, n ∈ l → cnt n.f3 < cnt l
  | m :: l, h => by
    rw [cnt_cons]
    rcases List.mem_cons.1 h with rfl | h
    · omega
    · have := cnt_mem h; omega
theorem rdN_at (l : List Nd) (i : Nat) (h : i < l.length) : rd_T49 l (i : Int) = l[i] := by
  simp [rd_T49, List.getD, h]
theorem cnt_le : ∀ (N : Nat) (nodes : List Nd) (prev : Option ByteArray) (ms pre : Bs), cnt nodes ≤ N → AT prev nodes → NB prev ms nodes → cnt nodes ≤ (flt pre nodes).length * (ms.length + 1) := by
  intro N
  induction N with
  | zero =>
    intro nodes prev ms pre h _ _
    omega
  | succ N ih =>
    intro nodes prev ms pre h hA hB
    cases nodes with
    | nil => rw [cnt_nil]; omega
    | cons n l =>
      rw [cnt_cons] at h
      rw [NB_cons] at hB
      rw [AT_cons] at hA
      have h1 := ih l (some n.f0) ms pre (by omega) hA.2 hB.2
      rw [cnt_cons, flt_cons, List.length_append, Nat.add_mul]
      by_cases e : n.f0.toList = ([] : List UInt8)
      · rw [if_pos e] at hA
        rw [if_pos e, hA.1.2.1, cnt_nil]
        simp
        omega
      · rw [if_neg e]
        rw [if_neg e] at hA
        obtain ⟨l1, l2, hms, _, hne, hb⟩ := hB.1 e
        have h2 := ih n.f3 none l2 (pre ++ [n.f0]) (by omega) hA.1.2 hb
        have h3 : 1 ≤ cnt n.f3 := by
          have := cnt_len n.f3
          have := List.length_pos_iff.2 hne
          omega
        have h4 : 1 ≤ (flt (pre ++ [n.f0]) n.f3).length := by
          rcases Nat.eq_zero_or_pos (flt (pre ++ [n.f0]) n.f3).length with h0 | h0
          · rw [h0, Nat.zero_mul] at h2; omega
          · exact h0
        have h5 : l2.length + 1 ≤ ms.length := by rw [hms]; simp
        have h6 : (flt (pre ++ [n.f0]) n.f3).length * (l2.length + 1) + (flt (pre ++ [n.f0]) n.f3).length ≤ (flt (pre ++ [n.f0]) n.f3).length * (ms.length + 1) := by
          rw [← Nat.mul_succ]
          exact Nat.mul_le_mul_left _ (by omega)
        omega
/-- the name ahead of a node -/
def prv (nodes : List Nd) (i : Nat) : Option ByteArray := if i = 0 then none else (nodes[i - 1]?).map (·.f0)
theorem NB_drop {ms : Bs} {nodes : List Nd} (h : NB none ms nodes) : ∀ i, i ≤ nodes.length → NB (prv nodes i) ms (nodes.drop i) := by
  intro i
  induction i with
  | zero => intro _; exact h
  | succ i ih =>
    intro hi
    have h1 := ih (by omega)
    rw [List.drop_eq_getElem_cons (show i < nodes.length by omega), NB_cons] at h1
    have e : prv nodes (i + 1) = some nodes[i].f0 := by unfold prv; simp [show i < nodes.length by omega]
    rw [e]; exact h1.2
theorem AT_drop {nodes : List Nd} (h : AT none nodes) : ∀ i, i ≤ nodes.length → AT (prv nodes i) (nodes.drop i) := by
  intro i
  induction i with
  | zero => intro _; exact h
  | succ i ih =>
    intro hi
    have h1 := ih (by omega)
    rw [List.drop_eq_getElem_cons (show i < nodes.length by omega), AT_cons] at h1
    have e : prv nodes (i + 1) = some nodes[i].f0 := by unfold prv; simp [show i < nodes.length by omega]
    rw [e]; exact h1.2
/-- where a name stands among the marks -/
theorem at_ev (nodes : List Nd) (l1 l2 : Bs) (i : Nat) (hi : i < nodes.length) (hnd : (l1 ++ nodes[i].f0 :: l2).Nodup) (hl : (l1 ++ nodes[i].f0 :: l2).length < 1000) :
    ∀ (b : Bool), Ev (fun k => bobbinetkeep_nestedBy.l1 k nodes (l1 ++ nodes[i].f0 :: l2) (i : Int) (l1.length : Int) ((l1 ++ nodes[i].f0 :: l2).length : Int)) b → Ev (fun k => bobbinetkeep_nestedBy.l1 k nodes (l1 ++ nodes[i].f0 :: l2) (i : Int) (-1) 0) b := by
  intro b hb
  generalize hms : l1 ++ nodes[i].f0 :: l2 = ms at hnd hl hb ⊢
  have hlen : ms.length = l1.length + 1 + l2.length := by rw [← hms]; simp; omega
  have hat : ∀ j, (hj : j < ms.length) → ((ms[j].toList = nodes[i].f0.toList) ↔ j = l1.length) := by
    intro j hj
    have hl1 : l1.length < ms.length := by omega
    have e1 : ms[l1.length] = nodes[i].f0 := by simp [← hms]
    constructor
    · intro h
      have h2 := toList_inj.1 h
      rw [← e1] at h2
      exact (List.getElem_inj hnd).1 h2
    · rintro rfl; rw [e1]
  have c1 : ∀ j : Nat, 0 ≤ (j : Int) := fun j => by omega
  have c2 : (i : Int) < (nodes.length : Int) := by omega
  have one : ∀ (j : Nat) (a : Int), j < ms.length → Ev (fun k => bobbinetkeep_nestedBy.l1 k nodes ms (i : Int) (if j = l1.length then (j : Int) else a) ((j + 1 : Nat) : Int)) b → Ev (fun k => bobbinetkeep_nestedBy.l1 k nodes ms (i : Int) a (j : Int)) b := by
    intro j a hj h
    have hw : Aside0 (wrap64 ((j : Int) + 1) = ((j + 1 : Nat) : Int)) := ⟨wrap_succ hj (by omega)⟩
    have c3 : (j : Int) < (ms.length : Int) := by omega
    refine Ev.one (fun k => ?_) h
    rw [bobbinetkeep_nestedBy.l1, if_pos c3, if_pos (c1 j), if_pos (c1 i), if_pos c2, rdB_at ms j hj, rdN_at nodes i hi, hw.out]
    by_cases e : j = l1.length
    · rw [if_pos ((hat j hj).2 e), if_pos e]
    · rw [if_neg (fun h => e ((hat j hj).1 h)), if_neg e]
  -- behind the place
  have after : ∀ (d j : Nat), ms.length - j = d → l1.length < j → j ≤ ms.length → Ev (fun k => bobbinetkeep_nestedBy.l1 k nodes ms (i : Int) (l1.length : Int) (j : Int)) b := by
    intro d
    induction d with
    | zero =>
      intro j hd h1 h2
      obtain rfl : j = ms.length := by omega
      exact hb
    | succ d ih =>
      intro j hd h1 h2
      refine one j _ (by omega) ?_
      rw [if_neg (by omega)]
      exact ih (j + 1) (by omega) (by omega) (by omega)
  have before : ∀ (d j : Nat), l1.length - j = d → j ≤ l1.length → Ev (fun k => bobbinetkeep_nestedBy.l1 k nodes ms (i : Int) (-1) (j : Int)) b := by
    intro d
    induction d with
    | zero =>
      intro j hd h1
      obtain rfl : j = l1.length := by omega
      refine one _ _ (by omega) ?_
      rw [if_pos rfl]
      exact after (ms.length - (l1.length + 1)) (l1.length + 1) rfl (by omega) (by omega)
    | succ d ih =>
      intro j hd h1
      refine one j _ (by omega) ?_
      rw [if_neg (by omega)]
      exact ih (j + 1) (by omega) (by omega)
  exact before l1.length 0 (by omega) (by omega)
theorem nested_ev : ∀ (N : Nat) (nodes : List Nd) (ms : Bs), cnt nodes ≤ N → N < 100000 → ms.Nodup → ms.length < 1000 → NB none ms nodes → Ev (fun k => bobbinetkeep_nestedBy.f k nodes ms) true := by
  intro N
  induction N with
  | zero =>
    intro nodes ms hc _ _ _ _
    obtain rfl : nodes = [] := List.eq_nil_of_length_eq_zero (by have := cnt_len nodes; omega)
    refine Ev.one (f := fun k => _) (fun k => by rw [bobbinetkeep_nestedBy.f]) ?_
    refine Ev.one (f := fun k => _) (fun k => by rw [bobbinetkeep_nestedBy.l0]) ?_
    exact Ev.ite_neg (by simp) (Ev.some _)
  | succ N ih =>
    intro nodes ms hc hN hnd hl hB
    have hlen := cnt_len nodes
    have loop : ∀ (d i : Nat), nodes.length - i = d → i ≤ nodes.length → Ev (fun k => bobbinetkeep_nestedBy.l0 k nodes ms (i : Int)) true := by
      intro d
      induction d with
      | zero =>
        intro i hd hi
        refine Ev.one (f := fun k => _) (fun k => by rw [bobbinetkeep_nestedBy.l0]) ?_
        exact Ev.ite_neg (by omega) (Ev.some _)
      | succ d ihd =>
        intro i hd hi
        have hlt : i < nodes.length := by omega
        have hnext := ihd (i + 1) (by omega) (by omega)
        have hBi := NB_drop hB i (by omega)
        rw [List.drop_eq_getElem_cons hlt, NB_cons] at hBi
        have hw : Aside0 (wrap64 ((i : Int) + 1) = ((i + 1 : Nat) : Int)) := ⟨wrap_succ hlt (by omega)⟩
        have c1 : (i : Int) < (nodes.length : Int) := by omega
        have c2 : 0 ≤ (i : Int) := by omega
        by_cases e : nodes[i].f0.toList = ([] : List UInt8)
        · refine Ev.one (fun k => ?_) hnext
          rw [bobbinetkeep_nestedBy.l0, if_pos c1, if_pos c2, rdN_at nodes i hlt, if_pos e, hw.out]
        · obtain ⟨l1, l2, hms, hpv, hne, hb⟩ := hBi.1 e
          subst hms
          have hsub := ih nodes[i].f3 l2 (by have := cnt_mem (List.getElem_mem hlt); omega) (by omega) ((List.nodup_append.1 hnd).2.1).tail (by simp at hl; omega) hb
          have hlm : (l1 ++ nodes[i].f0 :: l2).length = l1.length + 1 + l2.length := by simp; omega
          have hat := at_ev nodes l1 l2 i hlt hnd hl true
          have hdrop : (l1 ++ nodes[i].f0 :: l2).drop (l1.length + 1) = l2 := by
            rw [List.drop_append]; simp
          generalize hG : l1 ++ nodes[i].f0 :: l2 = ms at *
          have hwa : Aside0 (wrap64 ((l1.length : Int) + 1) = ((l1.length + 1 : Nat) : Int)) := ⟨wrap_succ (n := 1000) (by omega) (by omega)⟩
          have d1 : ¬ (ms.length : Int) < (ms.length : Int) := by omega
          have d2 : ¬ (l1.length : Int) < 0 := by omega
          have d3 : ¬ ((nodes[i].f3.length : Nat) : Int) = 0 := by have := List.length_pos_iff.2 hne; omega
          have d4 : 0 ≤ ((l1.length + 1 : Nat) : Int) := by omega
          have d5 : ((l1.length + 1 : Nat) : Int) ≤ (ms.length : Int) := by omega
          have htail : Ev (fun k => (bobbinetkeep_nestedBy.f k nodes[i].f3 (ms.drop ((l1.length + 1 : Nat) : Int).toNat)).bind fun t => if t = true then bobbinetkeep_nestedBy.l0 k nodes ms ((i + 1 : Nat) : Int) else some false) true := by
            rw [Int.toNat_natCast, hdrop]
            exact Ev.bnd hsub (Ev.ite_pos rfl hnext)
          have hend : Ev (fun k => bobbinetkeep_nestedBy.l1 k nodes ms (i : Int) (l1.length : Int) (ms.length : Int)) true := by
            refine Ev.one (fun k => ?_) htail
            rw [bobbinetkeep_nestedBy.l1, if_neg d1, if_neg d2]
            by_cases hi0 : i = 0
            · have e0 : ¬ (i : Int) > 0 := by omega
              rw [if_neg e0, if_pos c2, if_pos c1, rdN_at nodes i hlt, if_neg d3, hwa.out, if_pos d4, if_pos d5, hw.out]
            · have e0 : (i : Int) > 0 := by omega
              have hwm : Aside0 (wrap64 ((i : Int) - 1) = ((i - 1 : Nat) : Int)) := ⟨by rw [wrap_id (by omega) (by omega)]; omega⟩
              have hlt2 : i - 1 < nodes.length := by omega
              have e1 : 0 ≤ ((i - 1 : Nat) : Int) := by omega
              have e2 : ((i - 1 : Nat) : Int) < (nodes.length : Int) := by omega
              have e3 : ¬ nodes[i - 1].f0.toList = nodes[i].f0.toList := by
                intro h
                apply hpv
                unfold prv
                rw [if_neg hi0, List.getElem?_eq_getElem hlt2]
                show some nodes[i - 1].f0 = some nodes[i].f0
                rw [toList_inj.1 h]
              rw [if_pos e0, hwm.out, if_pos e1, if_pos e2, if_pos c2, if_pos c1, rdN_at nodes (i - 1) hlt2, rdN_at nodes i hlt, if_neg e3, if_neg d3, hwa.out, if_pos d4, if_pos d5, hw.out]
          refine Ev.one (fun k => ?_) (hat hend)
          rw [bobbinetkeep_nestedBy.l0, if_pos c1, if_pos c2, rdN_at nodes i hlt, if_neg e]
    refine Ev.one (fun k => ?_) (loop nodes.length 0 (by omega) (by omega))
    rw [bobbinetkeep_nestedBy.f]
    rfl
theorem apart_ev : ∀ (N : Nat) (nodes : List Nd), cnt nodes ≤ N → N < 100000 → AT none nodes → Ev (fun k => bobbinetkeep_apartTexts.f k nodes) true := by
  intro N
  induction N with
  | zero =>
    intro nodes hc _ _
    obtain rfl : nodes = [] := List.eq_nil_of_length_eq_zero (by have := cnt_len nodes; omega)
    refine Ev.one (f := fun k => _) (fun k => by rw [bobbinetkeep_apartTexts.f]) ?_
    refine Ev.one (f := fun k => _) (fun k => by rw [bobbinetkeep_apartTexts.l0]) ?_
    exact Ev.ite_neg (by simp) (Ev.some _)
  | succ N ih =>
    intro nodes hc hN hA
    have hlen := cnt_len nodes
    have loop : ∀ (d i : Nat), nodes.length - i = d → i ≤ nodes.length → Ev (fun k => bobbinetkeep_apartTexts.l0 k nodes (i : Int)) true := by
      intro d
      induction d with
      | zero =>
        intro i hd hi
        refine Ev.one (f := fun k => _) (fun k => by rw [bobbinetkeep_apartTexts.l0]) ?_
        exact Ev.ite_neg (by omega) (Ev.some _)
      | succ d ihd =>
        intro i hd hi
        have hlt : i < nodes.length := by omega
        have hnext := ihd (i + 1) (by omega) (by omega)
        have hAi := AT_drop hA i (by omega)
        rw [List.drop_eq_getElem_cons hlt, AT_cons] at hAi
        have hw : Aside0 (wrap64 ((i : Int) + 1) = ((i + 1 : Nat) : Int)) := ⟨wrap_succ hlt (by omega)⟩
        have c1 : (i : Int) < (nodes.length : Int) := by omega
        have c2 : 0 ≤ (i : Int) := by omega
        by_cases e : nodes[i].f0.toList = ([] : List UInt8)
        · rw [if_pos e] at hAi
          obtain ⟨⟨a1, a2, a3, a4⟩, _⟩ := hAi
          have e4 : (nodes[i].f0.toList == ([] : List UInt8)) = true := beq_iff_eq.2 e
          have d1 : ¬ ((nodes[i].f3.length : Nat) : Int) > 0 := by rw [a2]; simp
          have d2 : ¬ ((nodes[i].f1.length : Nat) : Int) > 0 := by rw [a3]; simp
          have hj : Ev (fun k => bobbinetkeep_apartTexts.j1 k nodes (i : Int) true false) true := by
            refine Ev.one (fun k => ?_) hnext
            rw [bobbinetkeep_apartTexts.j1, if_neg (by decide), if_pos rfl, hw.out]
          refine Ev.one (fun k => ?_) hj
          rw [bobbinetkeep_apartTexts.l0, if_pos c1, if_pos c2, rdN_at nodes i hlt, if_pos e, if_neg a1, if_neg d1, if_neg d2, e4]
          by_cases hi0 : i = 0
          · have e0 : ¬ (i : Int) > 0 := by omega
            rw [if_neg e0]
          · have e0 : (i : Int) > 0 := by omega
            have hwm : Aside0 (wrap64 ((i : Int) - 1) = ((i - 1 : Nat) : Int)) := ⟨by rw [wrap_id (by omega) (by omega)]; omega⟩
            have hlt2 : i - 1 < nodes.length := by omega
            have e1 : 0 ≤ ((i - 1 : Nat) : Int) := by omega
            have e2 : ((i - 1 : Nat) : Int) < (nodes.length : Int) := by omega
            have e3 : (nodes[i - 1].f0.toList == ([] : List UInt8)) = false := by
              refine beq_eq_false_iff_ne.2 (a4 nodes[i - 1].f0 ?_)
              unfold prv
              rw [if_neg hi0, List.getElem?_eq_getElem hlt2]
              rfl
            rw [if_pos e0, hwm.out, if_pos e1, if_pos e2, rdN_at nodes (i - 1) hlt2, e3]
        · rw [if_neg e] at hAi
          obtain ⟨⟨a1, a2⟩, _⟩ := hAi
          have e4 : (nodes[i].f0.toList == ([] : List UInt8)) = false := beq_eq_false_iff_ne.2 e
          have hsub := ih nodes[i].f3 (by have := cnt_mem (List.getElem_mem hlt); omega) (by omega) a2
          have hj : Ev (fun k => bobbinetkeep_apartTexts.j1 k nodes (i : Int) false false) true := by
            refine Ev.one (f := fun k => (bobbinetkeep_apartTexts.f k nodes[i].f3).bind fun t => if t = true then bobbinetkeep_apartTexts.l0 k nodes ((i + 1 : Nat) : Int) else some false) (fun k => ?_) (Ev.bnd hsub (Ev.ite_pos rfl hnext))
            rw [bobbinetkeep_apartTexts.j1, if_neg (by decide), if_neg (by decide), if_pos c2, if_pos c1, rdN_at nodes i hlt, if_pos a1, hw.out]
          refine Ev.one (fun k => ?_) hj
          rw [bobbinetkeep_apartTexts.l0, if_pos c1, if_pos c2, rdN_at nodes i hlt, if_neg e, e4]
    refine Ev.one (fun k => ?_) (loop nodes.length 0 (by omega) (by omega))
    rw [bobbinetkeep_apartTexts.f]
    rfl
end Go.Proofs.YtjmhihadgpdiaaaDoor.Mk
end
section
namespace Go.Proofs.YtjmhihadgpdiaaaDoor.Mk
open Go.RowKit Go.Proofs.YtjmhihadgpdiaaaDoor.X Go.Proofs.YtjmhihadgpdiaaaDoorW.PrintWords Go.Proofs.YtjmhihadgpdiaaaDoorW.PrintLast Go.Proofs.YtjmhihadgpdiaaaDoor.Base
set_option linter.unusedVariables false
set_option linter.unusedSimpArgs false
def orders : List Bs := [[(⟨#[98]⟩ : ByteArray), (⟨#[101, 109]⟩ : ByteArray), (⟨#[105]⟩ : ByteArray)], [(⟨#[105]⟩ : ByteArray), (⟨#[98]⟩ : ByteArray), (⟨#[101, 109]⟩ : ByteArray)], [(⟨#[101, 109]⟩ : ByteArray), (⟨#[105]⟩ : ByteArray), (⟨#[98]⟩ : ByteArray)], [(⟨#[105]⟩ : ByteArray), (⟨#[101, 109]⟩ : ByteArray), (⟨#[98]⟩ : ByteArray)]]
theorem order_ev (a : Int) : ∃ ms ∈ orders, bobbinetkeep_markOrder.f a = some ms := by
  have hp := pick_ev a 4 (by decide) (by decide)
  have hb : 0 ≤ a % 4 ∧ a % 4 < 4 := by omega
  generalize a % 4 = u at hp hb
  unfold bobbinetkeep_markOrder.f
  rw [Option.bind_some, hp, Option.bind_some, if_pos hb.1, if_pos (show u < _ by simp; omega)]
  obtain rfl | rfl | rfl | rfl : u = 0 ∨ u = 1 ∨ u = 2 ∨ u = 3 := by omega
  · exact ⟨_, List.mem_cons_self, rfl⟩
  · exact ⟨_, List.mem_cons_of_mem _ List.mem_cons_self, rfl⟩
  · exact ⟨_, List.mem_cons_of_mem _ (List.mem_cons_of_mem _ List.mem_cons_self), rfl⟩
  · exact ⟨_, List.mem_cons_of_mem _ (List.mem_cons_of_mem _ (List.mem_cons_of_mem _ List.mem_cons_self)), rfl⟩
theorem check_orders : orders.all (fun ms => marks_Check.f 100 ms == some 0) = true := by decide +kernel
theorem sure_ev : bobbinetkeep_marksSure.f 100 = some true := by decide +kernel
theorem sub_orders : orders.all (fun ms => decide (ms.Nodup) && three.all (fun m => decide (m ∈ ms)) && decide (ms.length = 3) && ms.all (fun m => decide (m.size ≠ 0))) = true := by decide +kernel
structure Ord (ms : Bs) : Prop where
  nodup : ms.Nodup
  all : ∀ m ∈ three, m ∈ ms
  len : ms.length = 3
  ne : ∀ m ∈ ms, m.toList ≠ []
  check : marks_Check.f 100 ms = some 0
theorem ord {ms : Bs} (h : ms ∈ orders) : Ord ms := by
  have h1 := List.all_eq_true.1 check_orders ms h
  have h2 := List.all_eq_true.1 sub_orders ms h
  simp only [Bool.and_eq_true] at h2
  obtain ⟨⟨⟨a, b⟩, c⟩, d⟩ := h2
  refine ⟨of_decide_eq_true a, fun m hm => ?_, of_decide_eq_true c, fun m hm e => ?_, by simpa using h1⟩
  · exact of_decide_eq_true (List.all_eq_true.1 b m hm)
  · have := of_decide_eq_true (List.all_eq_true.1 d m hm)
    rw [toList_nil.1 e] at this
    exact this rfl
theorem mono_up {α : Type} {g : Nat → Option α} (hm : ∀ k, LeO (g k) (g (k + 1))) {k : Nat} {r : α} (h : g k = some r) : Ev g r := by
  refine ⟨k, fun n hn => ?_⟩
  obtain ⟨d, rfl⟩ : ∃ d, n = k + d := ⟨n - k, by omega⟩
  induction d with
  | zero => exact h
  | succ d ih => exact hm _ _ (ih (by omega))
theorem norm_all {ms : Bs} (h : Ord ms) {rs : List R} (hl : rs.length ≤ 60) (hr : ∀ r ∈ rs, (∀ m ∈ r.f1, m ∈ three) ∧ r.f1.length < 1000 ∧ r.f0.size ≤ 1000000) : Ev (fun k => marks_Norm.f k ms rs) (nrm ms rs, 0) := by
  unfold marks_Norm.f
  have h1 : Ev (fun k => marks_fault.f k ms rs) 0 := by
    unfold marks_fault.f
    exact Ev.bnd (mono_up (marks_Check.mono ms) h.check) (Ev.ite_pos rfl (Ev.ite_neg (by omega) (Ev.some _)))
  have h2 := norm_ev ms (by rw [h.len]; omega) rs (by omega) (fun r hx => ⟨fun m hm => h.all m ((hr r hx).1 m hm), (hr r hx).2⟩)
  exact Ev.bnd h1 (Ev.ite_pos rfl (Ev.bnd h2 (Ev.some _)))
theorem nest_all {ms : Bs} (h : Ord ms) {rs : List R} (hl : rs.length ≤ 60) (hr : ∀ r ∈ rs, (∀ m ∈ r.f1, m ∈ three) ∧ r.f1.length < 1000 ∧ r.f0.size ≤ 1000000) :
    ∃ nodes, Ev (fun k => marks_Nest.f k ms rs) (nodes, 0) ∧ flt [] nodes = nrm ms rs ∧ NB none ms nodes ∧ AT none nodes ∧ cnt nodes ≤ 240 := by
  have h1 := norm_all h hl hr
  have hp := nrm_pn ms rs
  have hn := nrm_len ms rs
  obtain ⟨nodes, e1, _, e3, e4⟩ := nest_ev 3 ms (by rw [h.len]; omega) h.nodup h.ne 60 (nrm ms rs) [] [] (by omega) (by simp) (by simp) (fun r hx => by
    obtain ⟨h0, a, ha⟩ := hp.1 r hx
    exact ⟨h0, keep ms a, by rw [ha]; rfl, List.filter_sublist⟩) hp.2
  have e5 := e4 none (fun _ _ _ hq => (by cases hq))
  have e6 := cnt_le (cnt nodes) nodes none ms [] (Nat.le_refl _) e5.2 e5.1
  rw [e3, h.len] at e6
  refine ⟨nodes, ?_, e3, e5.1, e5.2, by omega⟩
  unfold marks_Nest.f
  have e7 : Ev (fun k => marks_nest.f k (nrm ms rs) 0) nodes := by
    refine Ev.one (fun k => ?_) e1
    rw [marks_nest.f]; rfl
  exact Ev.bnd h1 (Ev.ite_pos rfl (Ev.bnd e7 (Ev.some _)))
end Go.Proofs.YtjmhihadgpdiaaaDoor.Mk
end
section
namespace Go.Proofs.YtjmhihadgpdiaaaDoor.Pure
open Go.RowKit Go.Proofs.YtjmhihadgpdiaaaDoor.X Go.Proofs.YtjmhihadgpdiaaaDoorW.PrintWords Go.Proofs.YtjmhihadgpdiaaaDoorW.PrintLast Go.Proofs.YtjmhihadgpdiaaaDoor.Base Go.Proofs.YtjmhihadgpdiaaaDoor.Mk
theorem MarksNested (l0 : List Int) (a1 : Int) : ∃ k, bobbinetkeep_MarksNested.f k l0 a1 = some true := by
  obtain ⟨ms, hms, h1⟩ := order_ev a1
  have ho := ord hms
  obtain ⟨rs, h2, h3, h4⟩ := runs_ev l0
  obtain ⟨nodes, e1, _, e3, e4, e5⟩ := nest_all ho (rs := rs) (by omega) (fun r hr => ⟨(h4 r hr).1, by have := (h4 r hr).2.1; omega, by have := (h4 r hr).2.2; omega⟩)
  have hlen := ho.len
  have main : Ev (fun k => bobbinetkeep_MarksNested.f k l0 a1) true := by
    unfold bobbinetkeep_MarksNested.f
    exact Ev.bnd0 h1 (Ev.bnd h2 (Ev.bnd e1 (Ev.ite_pos rfl (Ev.bnd (mono_up bobbinetkeep_marksSure.mono sure_ev) (Ev.ite_pos rfl (Ev.bnd (nested_ev (cnt nodes) nodes ms (Nat.le_refl _) (by omega) ho.nodup (by omega) e3) (Ev.ite_pos rfl (Ev.bnd (apart_ev (cnt nodes) nodes (Nat.le_refl _) (by omega) e4) (Ev.some _)))))))))
  obtain ⟨K, hK⟩ := main
  exact ⟨K, hK K (Nat.le_refl _)⟩
end Go.Proofs.YtjmhihadgpdiaaaDoor.Pure
end
