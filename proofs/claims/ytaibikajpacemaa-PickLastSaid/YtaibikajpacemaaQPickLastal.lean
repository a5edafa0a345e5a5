/- Parts of the proof of PickLast that are needed, put together by pack.py. -/
import Derived.Test.YtaibikajpacemaaQPickLastaf
import Derived.Test.YtaibikajpacemaaQPickLastak
import Derived.Test.YtaibikajpacemaaQPickLastah
section
namespace Go.Proofs.Ytaibikajpacemaa.X
open Go.RowKit Go.Proofs.YtaibikajpacemaaW.PrintWords Go.Proofs.YtaibikajpacemaaW.PrintLast Go.Proofs.YtaibikajpacemaaW.PrintMore
attribute [local go_sem] max2_int min2_int max_two min_two max_three min_three max_four min_four   -- for this text's walks alone
set_option linter.unusedVariables false
set_option linter.unusedSimpArgs false
def slices_Clone_int_int.f (l0 : List (Int)) : Option (List (Int)) := if l0.length < 17592186044416 then some l0 else none
set_option maxHeartbeats 4000000 in
set_option maxRecDepth 100000 in
theorem slices_Clone_int_int.calls (A0 : Option Addr) (c0 : Nat) (l0 : List (Int)) (r : List (Int)) (w : World) (hr0 : Kd.C (Kd.int .i64) w A0 l0.length l0) (hc0 : l0.length ≤ c0) (h : slices_Clone_int_int.f l0 = some r) :
    Calls Try.prog 40 #[.slice A0 l0.length c0] w fun e w' => ∃ v0_ : Value, e = .returned (v0_) ∧ Kd.R (Kd.int .i64) 3 w' w.heap.size (fun _ => True) v0_ r ∧ Below w.heap.size w w' := by
  have hl : l0.length < 17592186044416 ∧ l0 = r := by
    unfold slices_Clone_int_int.f at h
    split at h
    · cases h; exact ⟨by assumption, rfl⟩
    · cases h
  obtain ⟨hl, rfl⟩ := hl
  have LM := Aside0.mk hl
  have HR0 := Aside0.mk hr0
  clear h hl hr0
  cases A0 with
  | none =>
    have h0 : l0 = [] := by
      cases l0 with
      | nil => rfl
      | cons x l =>
        obtain ⟨ad, h, _⟩ := HR0.out.2.2 (by simp)
        cases h
    subst h0
    have hnil := fun w => Lib.run_eql_slice_nil (P := Try.prog) w 22 3 none 0 c0 0 0 Try.underlying22
    simp only [List.length_nil] at *
    go_enter Try.func40, Try.ntmps40
    go_wp2
    go_ret
    exact ⟨_, rfl, Kd.R_nil _ _ _ _ _, Below.refl _ _⟩
  | some ad =>
    have hnil := fun w => Lib.run_eql_slice_nil (P := Try.prog) w 22 3 (some ad) l0.length c0 0 0 Try.underlying22
    have HB := Aside0.mk (Below.refl w.heap.size w)
    go_enter Try.func40, Try.ntmps40
    go_wp2_with (first | ((with_reducible refine gate_dst (N := 5) rfl ?_); refine Kd.R_lit (Kd.int .i64) _ 3 ?hg (N := 5) ?hd (xs := ([] : List (Int))) (inner := []) (ok := fun _ => True) (okp := fun _ => True) ?hr ?hp (fun _ hk => hk) trivial (Below.refl _ _) (Nat.le_refl _) (by simp) ?_; (case hd => rfl); (case hg => rfl); (case hr => first | (go_simp; done) | (go_simp; rfl)); (case hp => exact (Reps.none _ _)); intro v5 w5 ho5 hb hg_ hnew_; clear hg_ hnew_; have HO5 := Aside0.mk (Kd.R_lower ho5 (Nat.le_refl _)); have n3_ := Aside0.mk (below_step (HB.out) hb); clear HB; have HB := n3_; clear n3_; clear hb ho5; obtain ⟨Ao8, co8, eo8⟩ := Kd.R_slice HO5.out; subst eo8; have HR1 := Aside0.mk (Kd.C_below HR0.out HB.out)) | ((with_reducible refine gate_builtin (b := .append) (xs := #[.tmp 5, .tmp 6]) rfl ?_); at_builtin; refine Kd.R_append_rows (Kd.int .i64) (w0 := w) w.heap.size rfl (.tmp 5) (.tmp 6) 22 3 (.int .i64 0) 8 rfl Try.underlying22 info3 rfl (by decide) (by omega) (.slice Ao8 ([] : List (Int)).length co8) ([] : List (Int)) l0 _ _ _ (fun _ => True) (fun _ => False) rfl rfl ?aO ?aR (fun _ _ h => h) (fun _ h => h.elim) ?aF ?aB ?aS ?aL ?_; (case aR => exact HR1.out); (case aB => exact HB.out); (case aF => exact (fun _ _ => trivial)); (case aO => exact HO5.out); (case aS => exact (below_size HB.out)); (case aL => have := LM.out; (simp only [List.length_nil]; omega)); intro v7 w7 ho hb hg hat; have HO7 := Aside0.mk ho; clear HB; have HB := Aside0.mk hb; clear ho hb hg hat))
    go_ret
    exact ⟨_, rfl, HO7.out, HB.out⟩
end Go.Proofs.Ytaibikajpacemaa.X
end
section
namespace Go.Proofs.Ytaibikajpacemaa.X
open Go.RowKit Go.Proofs.YtaibikajpacemaaW.PrintWords Go.Proofs.YtaibikajpacemaaW.PrintLast Go.Proofs.YtaibikajpacemaaW.PrintMore
attribute [local go_sem] max2_int min2_int max_two min_two max_three min_three max_four min_four   -- for this text's walks alone
set_option linter.unusedVariables false
set_option linter.unusedSimpArgs false
def slices_Clone_bool_bool.f (l0 : List (Bool)) : Option (List (Bool)) := if l0.length < 140737488355328 then some l0 else none
set_option maxHeartbeats 4000000 in
set_option maxRecDepth 100000 in
theorem slices_Clone_bool_bool.calls (A0 : Option Addr) (c0 : Nat) (l0 : List (Bool)) (r : List (Bool)) (w : World) (hr0 : Kd.C Kd.bool w A0 l0.length l0) (hc0 : l0.length ≤ c0) (h : slices_Clone_bool_bool.f l0 = some r) :
    Calls Try.prog 48 #[.slice A0 l0.length c0] w fun e w' => ∃ v0_ : Value, e = .returned (v0_) ∧ Kd.R Kd.bool 4 w' w.heap.size (fun _ => True) v0_ r ∧ Below w.heap.size w w' := by
  have hl : l0.length < 140737488355328 ∧ l0 = r := by
    unfold slices_Clone_bool_bool.f at h
    split at h
    · cases h; exact ⟨by assumption, rfl⟩
    · cases h
  obtain ⟨hl, rfl⟩ := hl
  have LM := Aside0.mk hl
  have HR0 := Aside0.mk hr0
  clear h hl hr0
  cases A0 with
  | none =>
    have h0 : l0 = [] := by
      cases l0 with
      | nil => rfl
      | cons x l =>
        obtain ⟨ad, h, _⟩ := HR0.out.2.2 (by simp)
        cases h
    subst h0
    have hnil := fun w => Lib.run_eql_slice_nil (P := Try.prog) w 86 4 none 0 c0 0 0 Try.underlying86
    simp only [List.length_nil] at *
    go_enter Try.func48, Try.ntmps48
    go_wp2
    go_ret
    exact ⟨_, rfl, Kd.R_nil _ _ _ _ _, Below.refl _ _⟩
  | some ad =>
    have hnil := fun w => Lib.run_eql_slice_nil (P := Try.prog) w 86 4 (some ad) l0.length c0 0 0 Try.underlying86
    have HB := Aside0.mk (Below.refl w.heap.size w)
    go_enter Try.func48, Try.ntmps48
    go_wp2_with (first | ((with_reducible refine gate_dst (N := 5) rfl ?_); refine Kd.R_lit Kd.bool _ 4 ?hg (N := 5) ?hd (xs := ([] : List (Bool))) (inner := []) (ok := fun _ => True) (okp := fun _ => True) ?hr ?hp (fun _ hk => hk) trivial (Below.refl _ _) (Nat.le_refl _) (by simp) ?_; (case hd => rfl); (case hg => rfl); (case hr => first | (go_simp; done) | (go_simp; rfl)); (case hp => exact (Reps.none _ _)); intro v5 w5 ho5 hb hg_ hnew_; clear hg_ hnew_; have HO5 := Aside0.mk (Kd.R_lower ho5 (Nat.le_refl _)); have n3_ := Aside0.mk (below_step (HB.out) hb); clear HB; have HB := n3_; clear n3_; clear hb ho5; obtain ⟨Ao8, co8, eo8⟩ := Kd.R_slice HO5.out; subst eo8; have HR1 := Aside0.mk (Kd.C_below HR0.out HB.out)) | ((with_reducible refine gate_builtin (b := .append) (xs := #[.tmp 5, .tmp 6]) rfl ?_); at_builtin; refine Kd.R_append_rows Kd.bool (w0 := w) w.heap.size rfl (.tmp 5) (.tmp 6) 86 4 (.bool false) 1 rfl Try.underlying86 info4 rfl (by decide) (by omega) (.slice Ao8 ([] : List (Bool)).length co8) ([] : List (Bool)) l0 _ _ _ (fun _ => True) (fun _ => False) rfl rfl ?aO ?aR (fun _ _ h => h) (fun _ h => h.elim) ?aF ?aB ?aS ?aL ?_; (case aR => exact HR1.out); (case aB => exact HB.out); (case aF => exact (fun _ _ => trivial)); (case aO => exact HO5.out); (case aS => exact (below_size HB.out)); (case aL => have := LM.out; (simp only [List.length_nil]; omega)); intro v7 w7 ho hb hg hat; have HO7 := Aside0.mk ho; clear HB; have HB := Aside0.mk hb; clear ho hb hg hat))
    go_ret
    exact ⟨_, rfl, HO7.out, HB.out⟩
end Go.Proofs.Ytaibikajpacemaa.X
end
section
namespace Go.Proofs.Ytaibikajpacemaa.X
open Go.RowKit Go.Proofs.YtaibikajpacemaaW.PrintWords Go.Proofs.YtaibikajpacemaaW.PrintLast Go.Proofs.YtaibikajpacemaaW.PrintMore
attribute [local go_sem] max2_int min2_int max_two min_two max_three min_three max_four min_four   -- for this text's walks alone
set_option linter.unusedVariables false
set_option linter.unusedSimpArgs false
def cf_pickFits.f (l0 : List S68) (s0 : ByteArray) (s1 : ByteArray) (b2 : Bool) : Option Bool := some (l0.any fun x => x.f0.toList == s1.toList)
def cf_pickFits.idx (l0 : List S68) (s0 : ByteArray) : Int := match l0.findIdx? (fun x => x.f0.toList == s0.toList) with | some i => i | none => -1
theorem cf_pickFits.idx_none (l0 : List S68) (s0 : ByteArray) (h : ∀ j, j < l0.length → ((rd_T68 l0 (j : Int)).f0.toList == s0.toList) = false) : cf_pickFits.idx l0 s0 = -1 := by
  have : l0.findIdx? (fun x => x.f0.toList == s0.toList) = none := by
    rw [List.findIdx?_eq_none_iff]
    intro x hx
    obtain ⟨j, hj, rfl⟩ := List.getElem_of_mem hx
    have := h j hj
    simpa [rd_T68, List.getD, hj] using this
  unfold cf_pickFits.idx
  rw [this]
theorem cf_pickFits.idx_some (l0 : List S68) (s0 : ByteArray) (i : Nat) (hi : i < l0.length) (h : ∀ j, j < i → ((rd_T68 l0 (j : Int)).f0.toList == s0.toList) = false) (ht : ((rd_T68 l0 (i : Int)).f0.toList == s0.toList) = true) : cf_pickFits.idx l0 s0 = i := by
  have : l0.findIdx? (fun x => x.f0.toList == s0.toList) = some i := by
    rw [List.findIdx?_eq_some_iff_getElem]
    refine ⟨hi, ?_, ?_⟩
    · simpa [rd_T68, List.getD, hi] using ht
    · intro j hj
      have := h j hj
      have hjl : j < l0.length := by omega
      simp [rd_T68, List.getD, hjl] at this
      simpa using this
  unfold cf_pickFits.idx
  rw [this]
set_option maxHeartbeats 4000000 in
set_option maxRecDepth 100000 in
theorem cf_pickFits.index (A0 : Option Addr) (c0 : Nat) (l0 : List S68) (g : Nat) (s0 : ByteArray) (s1 : ByteArray) (b2 : Bool) (w : World) (hr0 : Kd.C k68 w A0 l0.length l0) (hg : w.heap[g]? = some (.cells #[.string s0, .string s1, .bool b2] 61 (0, 0))) :
    Calls Try.prog 59 #[.slice A0 l0.length c0, .func (.func 56) #[] #[.pointer (some ⟨g, 0, none⟩)]] w fun e w' => e = .returned (.int .i64 (cf_pickFits.idx l0 s1)) ∧ Below w.heap.size w w' := by
  have HR0 := Aside0.mk hr0
  have hc0 := blk_cell hg 0
  have hc1 := blk_cell hg 1
  have hc2 := blk_cell hg 2
  have hmax := Kd.C_max hr0
  simp only [List.getElem?_toArray, List.getElem?_cons_zero, List.getElem?_cons_succ] at hc0 hc1 hc2
  clear hr0 hg
  go_enter Try.func59, Try.ntmps59
  go_wp2
  go_loopw [8] (fun v8 wr => ∃ x8 : Int, v8 = .int .i64 x8 ∧ Aside0 (0 ≤ x8 ∧ x8 ≤ l0.length) ∧ Aside0 (∀ j : Nat, (j : Int) < x8 → ((rd_T68 l0 (j : Int)).f0.toList == s1.toList) = false) ∧ Aside0 (Below w.heap.size w wr)) (fun v8 _ => l0.length - (intOf v8).toNat)
  case atStart => exact ⟨0, rfl, ⟨by omega⟩, ⟨fun j hj => absurd hj (by omega)⟩, ⟨Below.refl _ _⟩⟩
  case round =>
    obtain ⟨x8, rfl, HI, HN, HB⟩ := hrel
    have hcr0 := (HB.out.cell (World.block_lt_of_cell? w _ hc0)).trans hc0
    have hcr1 := (HB.out.cell (World.block_lt_of_cell? w _ hc1)).trans hc1
    have hcr2 := (HB.out.cell (World.block_lt_of_cell? w _ hc2)).trans hc2
    have hca0 : ∀ o, (wr.alloc o).cell? ⟨g, 1, none⟩ = some (.string s1) := fun o => ((below_alloc (Below.refl _ _) o).cell (World.block_lt_of_cell? wr _ hcr1)).trans hcr1
    have p0 := HI.out.1
    by_cases q0 : x8 < (l0.length : Int)
    · obtain ⟨ad, e0, hx0, hx1⟩ := at_T68 HR0.out x8 p0 q0
      cases e0
      replace hx0 := (HB.out.cell (World.block_lt_of_cell? w _ hx0)).trans hx0
      replace hx1 := (HB.out.cell (World.block_lt_of_cell? w _ hx1)).trans hx1
      have hw : wrap64 (x8 + 1) = x8 + 1 := by unfold wrap64; omega
      have HW := Aside0.mk hw
      clear hw
      obtain ⟨j, HJ⟩ : ∃ j : Nat, Aside0 (x8 = (j : Int)) := ⟨x8.toNat, ⟨by omega⟩⟩
      have HQ := Aside0.mk q0
      have hb0 : decide (x8 < (l0.length : Int)) = true := decide_eq_true q0
      have hb1 : decide (0 ≤ x8) = true := decide_eq_true p0
      replace p0 := eq_true p0
      replace q0 := eq_true q0
      cases hp : (rd_T68 l0 x8).f0.toList == s1.toList with
      | true =>
        have HE : Aside0 (cf_pickFits.idx l0 s1 = x8) := by
          constructor
          have hj := HJ.out
          have hq := HQ.out
          rw [hj] at hp ⊢
          exact cf_pickFits.idx_some l0 s1 j (by omega) (fun k hk => HN.out k (by omega)) hp
        go_wp2
        repeat (go_quiet (fail); try go_wp2)
        go_ret
        exact ⟨by rw [HE.out]; rfl, by repeat (first | (with_reducible first | exact HB.out | apply below_alloc | apply pw_below_drewN | apply below_drew1) | exact HB.out)⟩
      | false =>
        have HP := Aside0.mk hp
        go_wp2
        repeat (go_quiet (fail); try go_wp2)
        go_roundw
        case rel =>
          refine ⟨x8 + 1, by rw [HW.out], ⟨by have := HI.out; have := HQ.out; omega⟩, ⟨fun k hk => ?_⟩, ⟨by repeat (first | (with_reducible first | exact HB.out | apply below_alloc | apply pw_below_drewN | apply below_drew1) | exact HB.out)⟩⟩
          by_cases hkx : (k : Int) < x8
          · exact HN.out k hkx
          · obtain rfl : x8 = (k : Int) := by omega
            exact HP.out
        case measure => have := HQ.out; have := HI.out; simp [intOf, HW.out]; omega
    · have hb0 : decide (x8 < (l0.length : Int)) = false := decide_eq_false q0
      have HE : Aside0 (cf_pickFits.idx l0 s1 = -1) := ⟨cf_pickFits.idx_none l0 s1 (fun j hj => HN.out j (by omega))⟩
      go_wp2
      repeat (go_quiet (fail); try go_wp2)
      go_ret
      exact ⟨by rw [HE.out]; rfl, by repeat (first | (with_reducible first | exact HB.out | apply below_alloc | apply pw_below_drewN | apply below_drew1) | exact HB.out)⟩
set_option maxHeartbeats 4000000 in
set_option maxRecDepth 100000 in
theorem cf_pickFits.calls (A0 : Option Addr) (c0 : Nat) (l0 : List S68) (g : Nat) (s0 : ByteArray) (s1 : ByteArray) (b2 : Bool) (r : Bool) (w : World) (hr0 : Kd.C k68 w A0 l0.length l0) (hc0 : l0.length ≤ c0) (hg : w.heap[g]? = some (.cells #[.string s0, .string s1, .bool b2] 61 (0, 0))) (h : cf_pickFits.f l0 s0 s1 b2 = some r) :
    Calls Try.prog 55 #[.slice A0 l0.length c0, .func (.func 56) #[] #[.pointer (some ⟨g, 0, none⟩)]] w fun e w' => e = .returned (.bool r) ∧ Below w.heap.size w w' := by
  have HC := Aside0.mk (cf_pickFits.index A0 c0 l0 g s0 s1 b2 w hr0 hg)
  have HB : Aside0 (r = decide (cf_pickFits.idx l0 s1 ≥ 0)) := by
    constructor
    unfold cf_pickFits.f at h
    obtain rfl := Option.some.inj h
    unfold cf_pickFits.idx
    cases hf : l0.findIdx? (fun x => x.f0.toList == s1.toList) with
    | none =>
      rw [List.findIdx?_eq_none_iff] at hf
      rw [Bool.eq_iff_iff]
      simp only [List.any_eq_true, decide_eq_true_eq]
      constructor
      · rintro ⟨x, hx, ht⟩
        rw [hf x hx] at ht
        cases ht
      · intro h0
        omega
    | some i =>
      rw [List.findIdx?_eq_some_iff_getElem] at hf
      obtain ⟨hi, ht, _⟩ := hf
      rw [Bool.eq_iff_iff]
      simp only [List.any_eq_true, decide_eq_true_eq]
      exact ⟨fun _ => by omega, fun _ => ⟨_, List.getElem_mem hi, ht⟩⟩
  clear hr0 hc0 hg h
  go_enter Try.func55, Try.ntmps55
  go_wp2_with (go_at_call 59; (with_reducible refine HC.out.mono ?_); rintro e w1 ⟨rfl, hb⟩)
  go_ret
  exact ⟨by rw [HB.out]; rfl, hb⟩
end Go.Proofs.Ytaibikajpacemaa.X
end
section
namespace Go.Proofs.Ytaibikajpacemaa.X
open Go.RowKit Go.Proofs.YtaibikajpacemaaW.PrintWords Go.Proofs.YtaibikajpacemaaW.PrintLast Go.Proofs.YtaibikajpacemaaW.PrintMore
attribute [local go_sem] max2_int min2_int max_two min_two max_three min_three max_four min_four   -- for this text's walks alone
set_option linter.unusedVariables false
set_option linter.unusedSimpArgs false
def pick_fits.f (a0_0 : ByteArray) (a0_1 : ByteArray) (a0_2 : Bool) (a1_0 : ByteArray) (l1_1 : List (S68)) (a1_2 : ByteArray) (l1_3 : List (S28)) : Option (Bool) := if a1_0.toList = ([] : List UInt8) then (some false) else (if a0_0.toList = ([] : List UInt8) then (if a0_1.toList = ([] : List UInt8) then (some true) else ((cf_pickFits.f l1_1 a0_0 a0_1 a0_2).bind fun t192 => (some t192))) else (if a0_0.toList = a1_0.toList then (if a0_1.toList = ([] : List UInt8) then (some true) else ((cf_pickFits.f l1_1 a0_0 a0_1 a0_2).bind fun t193 => (some t193))) else (some false)))
set_option maxHeartbeats 8000000 in
set_option maxRecDepth 100000 in
theorem pick_fits.calls (a0_0 : ByteArray) (a0_1 : ByteArray) (a0_2 : Bool) (a1_0 : ByteArray) (A1_1 : Option Addr) (c1_1 : Nat) (l1_1 : List (S68)) (a1_2 : ByteArray) (A1_3 : Option Addr) (c1_3 : Nat) (l1_3 : List (S28)) (r : Bool) (w : World) (hr1_1 : Kd.C k68 w A1_1 l1_1.length l1_1) (hc1_1 : l1_1.length ≤ c1_1) (hr1_3 : Kd.C k28 w A1_3 l1_3.length l1_3) (hc1_3 : l1_3.length ≤ c1_3) (h : pick_fits.f a0_0 a0_1 a0_2 a1_0 l1_1 a1_2 l1_3 = some r) :
    Calls Try.prog 49 #[.agg #[.string a0_0, .string a0_1, .bool a0_2], .agg #[.string a1_0, .slice A1_1 l1_1.length c1_1, .string a1_2, .slice A1_3 l1_3.length c1_3]] w fun e w' => e = .returned (.bool r) ∧ Below w.heap.size w w' := by
  have hu61 := Try.underlying61
  have hu28 := Try.underlying28
  have HR1_1 := Aside0.mk hr1_1
  have HC1_1 := Aside0.mk hc1_1
  clear hr1_1 hc1_1
  have HR1_3 := Aside0.mk hr1_3
  have HC1_3 := Aside0.mk hc1_3
  clear hr1_3 hc1_3
  have HB := Aside0.mk (Below.refl w.heap.size w)
  have H : (if a1_0.toList = ([] : List UInt8) then (some false) else (if a0_0.toList = ([] : List UInt8) then (if a0_1.toList = ([] : List UInt8) then (some true) else ((cf_pickFits.f l1_1 a0_0 a0_1 a0_2).bind fun t192 => (some t192))) else (if a0_0.toList = a1_0.toList then (if a0_1.toList = ([] : List UInt8) then (some true) else ((cf_pickFits.f l1_1 a0_0 a0_1 a0_2).bind fun t193 => (some t193))) else (some false)))) = some r := h
  clear h
  by_cases c3 : a1_0.toList = ([] : List UInt8)
  · rw [if_pos c3] at H
    have c3b0 : (a1_0.toList == ([] : List UInt8)) = true := beq_iff_eq.mpr c3
    have c3b1 : (a1_0.toList != ([] : List UInt8)) = false := bne_eq_false_iff_eq.mpr c3
    clear c3
    obtain rfl := Option.some.inj H
    go_enter Try.func49, Try.ntmps49
    go_wp2_with (first | ((with_reducible refine gate_dst (N := 2) rfl ?_); refine box_event ?hg (N := 2) ?hd (cs := #[.string a0_0, .string a0_1, .bool a0_2]) (t := 61) ?hr ?_; (case hd => rfl); (case hg => rfl); (case hr => first | (go_simp; done) | (go_simp; rfl)); intro gb190 hg w4 hbox hb; have n0_ := Aside0.mk (below_step (by repeat (first | (with_reducible first | exact HB.out | apply below_alloc | apply pw_below_drewN | apply below_drew1) | exact HB.out)) hb); have n1_ := Aside0.mk (hbox); have n2_ := Aside0.mk ((by rw [hg]; exact (below_size (by repeat (first | (with_reducible first | exact HB.out | apply below_alloc | apply pw_below_drewN | apply below_drew1) | exact HB.out))) : w.heap.size ≤ gb190)); have n3_ := Aside0.mk ((by rw [hg]; exact (below_size (by repeat (first | (with_reducible first | exact HB.out | apply below_alloc | apply pw_below_drewN | apply below_drew1) | exact HB.out))) : w.heap.size ≤ gb190)); clear HB; have HB := n0_; have BK190 := n1_; have GW190 := n2_; have GE190 := n3_; clear n0_ n1_ n2_ n3_; clear hb hbox hg) | ((with_reducible refine gate_dst (N := 3) rfl ?_); refine box_event ?hg (N := 3) ?hd (cs := #[.string a1_0, .slice A1_1 l1_1.length c1_1, .string a1_2, .slice A1_3 l1_3.length c1_3]) (t := 28) ?hr ?_; (case hd => rfl); (case hg => rfl); (case hr => first | (go_simp; done) | (go_simp; rfl)); intro gb191 hg w5 hbox hb; have n0_ := Aside0.mk (blk_below (g := gb190) (o := .cells #[.string a0_0, .string a0_1, .bool a0_2] 61 (0, 0)) (by (with_reducible repeat (first | refine blk_drewN ?_ _ | refine blk_drew ?_ | refine blk_alloc ?_ _)); exact BK190.out) hb); have n1_ := Aside0.mk (below_step (by repeat (first | (with_reducible first | exact HB.out | apply below_alloc | apply pw_below_drewN | apply below_drew1 | refine below_set ?_ GE190.out) | exact HB.out)) hb); have n2_ := Aside0.mk (hbox); have n3_ := Aside0.mk ((by rw [hg]; exact (below_size (by repeat (first | (with_reducible first | exact HB.out | apply below_alloc | apply pw_below_drewN | apply below_drew1 | refine below_set ?_ GE190.out) | exact HB.out))) : w.heap.size ≤ gb191)); have n4_ := Aside0.mk ((by rw [hg]; exact (below_size (by repeat (first | (with_reducible first | exact HB.out | apply below_alloc | apply pw_below_drewN | apply below_drew1 | refine below_set ?_ GE190.out) | exact HB.out))) : w.heap.size ≤ gb191)); have n5_ := Aside0.mk ((by rw [hg]; exact Nat.ne_of_lt (blk_lt (g := gb190) (o := .cells #[.string a0_0, .string a0_1, .bool a0_2] 61 (0, 0)) (by (with_reducible repeat (first | refine blk_drewN ?_ _ | refine blk_drew ?_ | refine blk_alloc ?_ _)); exact BK190.out)) : gb190 ≠ gb191)); have n6_ := Aside0.mk ((by rw [hg]; exact Nat.ne_of_gt (blk_lt (g := gb190) (o := .cells #[.string a0_0, .string a0_1, .bool a0_2] 61 (0, 0)) (by (with_reducible repeat (first | refine blk_drewN ?_ _ | refine blk_drew ?_ | refine blk_alloc ?_ _)); exact BK190.out)) : gb191 ≠ gb190)); clear BK190; clear HB; have BK190 := n0_; have HB := n1_; have BK191 := n2_; have GW191 := n3_; have GE191 := n4_; have NB190_191 := n5_; have NB191_190 := n6_; clear n0_ n1_ n2_ n3_ n4_ n5_ n6_; clear hb hbox hg; have hnb6 := NB191_190.out; have hnc6 := NB190_191.out; have hcz7_0 : w5.cell? ⟨gb191, 0, none⟩ = some (.string a1_0) := (blk_cell BK191.out 0).trans rfl; have hcz7_1 : w5.cell? ⟨gb191, 1, none⟩ = some (.slice A1_1 l1_1.length c1_1) := (blk_cell BK191.out 1).trans rfl; have hcz7_2 : w5.cell? ⟨gb191, 2, none⟩ = some (.string a1_2) := (blk_cell BK191.out 2).trans rfl; have hcz7_3 : w5.cell? ⟨gb191, 3, none⟩ = some (.slice A1_3 l1_3.length c1_3) := (blk_cell BK191.out 3).trans rfl; have hfz7_0 := blk_frozen BK191.out 0; have hfz7_1 := blk_frozen BK191.out 1; have hfz7_2 := blk_frozen BK191.out 2; have hfz7_3 := blk_frozen BK191.out 3))
    go_ret
    exact ⟨by first | rfl | (simp [errW_none, errW_some] <;> rfl) | (simp [*, errW_none, errW_some] <;> rfl), by repeat (first | (with_reducible first | exact HB.out | apply below_alloc | apply pw_below_drewN | apply below_drew1 | refine below_set ?_ GE190.out | refine below_set ?_ GE191.out) | exact HB.out)⟩
  · rw [if_neg c3] at H
    have c3b0 : (a1_0.toList == ([] : List UInt8)) = false := beq_eq_false_iff_ne.mpr c3
    have c3b1 : (a1_0.toList != ([] : List UInt8)) = true := bne_iff_ne.mpr c3
    by_cases c8 : a0_0.toList = ([] : List UInt8)
    · rw [if_pos c8] at H
      have c8b0 : (a0_0.toList == ([] : List UInt8)) = true := beq_iff_eq.mpr c8
      have c8b1 : (a0_0.toList != ([] : List UInt8)) = false := bne_eq_false_iff_eq.mpr c8
      clear c8
      by_cases c9 : a0_1.toList = ([] : List UInt8)
      · rw [if_pos c9] at H
        have c9b0 : (a0_1.toList == ([] : List UInt8)) = true := beq_iff_eq.mpr c9
        have c9b1 : (a0_1.toList != ([] : List UInt8)) = false := bne_eq_false_iff_eq.mpr c9
        clear c9
        obtain rfl := Option.some.inj H
        go_enter Try.func49, Try.ntmps49
        go_wp2_with (first | ((with_reducible refine gate_dst (N := 2) rfl ?_); refine box_event ?hg (N := 2) ?hd (cs := #[.string a0_0, .string a0_1, .bool a0_2]) (t := 61) ?hr ?_; (case hd => rfl); (case hg => rfl); (case hr => first | (go_simp; done) | (go_simp; rfl)); intro gb190 hg w10 hbox hb; have n0_ := Aside0.mk (below_step (by repeat (first | (with_reducible first | exact HB.out | apply below_alloc | apply pw_below_drewN | apply below_drew1) | exact HB.out)) hb); have n1_ := Aside0.mk (hbox); have n2_ := Aside0.mk ((by rw [hg]; exact (below_size (by repeat (first | (with_reducible first | exact HB.out | apply below_alloc | apply pw_below_drewN | apply below_drew1) | exact HB.out))) : w.heap.size ≤ gb190)); have n3_ := Aside0.mk ((by rw [hg]; exact (below_size (by repeat (first | (with_reducible first | exact HB.out | apply below_alloc | apply pw_below_drewN | apply below_drew1) | exact HB.out))) : w.heap.size ≤ gb190)); clear HB; have HB := n0_; have BK190 := n1_; have GW190 := n2_; have GE190 := n3_; clear n0_ n1_ n2_ n3_; clear hb hbox hg) | ((with_reducible refine gate_dst (N := 3) rfl ?_); refine box_event ?hg (N := 3) ?hd (cs := #[.string a1_0, .slice A1_1 l1_1.length c1_1, .string a1_2, .slice A1_3 l1_3.length c1_3]) (t := 28) ?hr ?_; (case hd => rfl); (case hg => rfl); (case hr => first | (go_simp; done) | (go_simp; rfl)); intro gb191 hg w11 hbox hb; have n0_ := Aside0.mk (blk_below (g := gb190) (o := .cells #[.string a0_0, .string a0_1, .bool a0_2] 61 (0, 0)) (by (with_reducible repeat (first | refine blk_drewN ?_ _ | refine blk_drew ?_ | refine blk_alloc ?_ _)); exact BK190.out) hb); have n1_ := Aside0.mk (below_step (by repeat (first | (with_reducible first | exact HB.out | apply below_alloc | apply pw_below_drewN | apply below_drew1 | refine below_set ?_ GE190.out) | exact HB.out)) hb); have n2_ := Aside0.mk (hbox); have n3_ := Aside0.mk ((by rw [hg]; exact (below_size (by repeat (first | (with_reducible first | exact HB.out | apply below_alloc | apply pw_below_drewN | apply below_drew1 | refine below_set ?_ GE190.out) | exact HB.out))) : w.heap.size ≤ gb191)); have n4_ := Aside0.mk ((by rw [hg]; exact (below_size (by repeat (first | (with_reducible first | exact HB.out | apply below_alloc | apply pw_below_drewN | apply below_drew1 | refine below_set ?_ GE190.out) | exact HB.out))) : w.heap.size ≤ gb191)); have n5_ := Aside0.mk ((by rw [hg]; exact Nat.ne_of_lt (blk_lt (g := gb190) (o := .cells #[.string a0_0, .string a0_1, .bool a0_2] 61 (0, 0)) (by (with_reducible repeat (first | refine blk_drewN ?_ _ | refine blk_drew ?_ | refine blk_alloc ?_ _)); exact BK190.out)) : gb190 ≠ gb191)); have n6_ := Aside0.mk ((by rw [hg]; exact Nat.ne_of_gt (blk_lt (g := gb190) (o := .cells #[.string a0_0, .string a0_1, .bool a0_2] 61 (0, 0)) (by (with_reducible repeat (first | refine blk_drewN ?_ _ | refine blk_drew ?_ | refine blk_alloc ?_ _)); exact BK190.out)) : gb191 ≠ gb190)); clear BK190; clear HB; have BK190 := n0_; have HB := n1_; have BK191 := n2_; have GW191 := n3_; have GE191 := n4_; have NB190_191 := n5_; have NB191_190 := n6_; clear n0_ n1_ n2_ n3_ n4_ n5_ n6_; clear hb hbox hg; have hnb12 := NB191_190.out; have hnc12 := NB190_191.out; have hcz13_0 : w11.cell? ⟨gb191, 0, none⟩ = some (.string a1_0) := (blk_cell BK191.out 0).trans rfl; have hcz13_1 : w11.cell? ⟨gb191, 1, none⟩ = some (.slice A1_1 l1_1.length c1_1) := (blk_cell BK191.out 1).trans rfl; have hcz13_2 : w11.cell? ⟨gb191, 2, none⟩ = some (.string a1_2) := (blk_cell BK191.out 2).trans rfl; have hcz13_3 : w11.cell? ⟨gb191, 3, none⟩ = some (.slice A1_3 l1_3.length c1_3) := (blk_cell BK191.out 3).trans rfl; have hfz13_0 := blk_frozen BK191.out 0; have hfz13_1 := blk_frozen BK191.out 1; have hfz13_2 := blk_frozen BK191.out 2; have hfz13_3 := blk_frozen BK191.out 3; have hcz14_0 : w11.cell? ⟨gb190, 0, none⟩ = some (.string a0_0) := (blk_cell BK190.out 0).trans rfl; have hcz14_1 : w11.cell? ⟨gb190, 1, none⟩ = some (.string a0_1) := (blk_cell BK190.out 1).trans rfl; have hcz14_2 : w11.cell? ⟨gb190, 2, none⟩ = some (.bool a0_2) := (blk_cell BK190.out 2).trans rfl; have hfz14_0 := blk_frozen BK190.out 0; have hfz14_1 := blk_frozen BK190.out 1; have hfz14_2 := blk_frozen BK190.out 2))
        go_ret
        exact ⟨by first | rfl | (simp [errW_none, errW_some] <;> rfl) | (simp [*, errW_none, errW_some] <;> rfl), by repeat (first | (with_reducible first | exact HB.out | apply below_alloc | apply pw_below_drewN | apply below_drew1 | refine below_set ?_ GE190.out | refine below_set ?_ GE191.out) | exact HB.out)⟩
      · rw [if_neg c9] at H
        have c9b0 : (a0_1.toList == ([] : List UInt8)) = false := beq_eq_false_iff_ne.mpr c9
        have c9b1 : (a0_1.toList != ([] : List UInt8)) = true := bne_iff_ne.mpr c9
        replace H := Option.bind_eq_some_iff.mp H
        obtain ⟨t192, A150, H⟩ := H
        replace H : (some t192) = some r := H
        have A15 := Aside0.mk A150
        clear A150
        obtain rfl := Option.some.inj H
        go_enter Try.func49, Try.ntmps49
        go_wp2_with (first | ((with_reducible refine gate_dst (N := 2) rfl ?_); refine box_event ?hg (N := 2) ?hd (cs := #[.string a0_0, .string a0_1, .bool a0_2]) (t := 61) ?hr ?_; (case hd => rfl); (case hg => rfl); (case hr => first | (go_simp; done) | (go_simp; rfl)); intro gb190 hg w16 hbox hb; have n0_ := Aside0.mk (below_step (by repeat (first | (with_reducible first | exact HB.out | apply below_alloc | apply pw_below_drewN | apply below_drew1) | exact HB.out)) hb); have n1_ := Aside0.mk (hbox); have n2_ := Aside0.mk ((by rw [hg]; exact (below_size (by repeat (first | (with_reducible first | exact HB.out | apply below_alloc | apply pw_below_drewN | apply below_drew1) | exact HB.out))) : w.heap.size ≤ gb190)); have n3_ := Aside0.mk ((by rw [hg]; exact (below_size (by repeat (first | (with_reducible first | exact HB.out | apply below_alloc | apply pw_below_drewN | apply below_drew1) | exact HB.out))) : w.heap.size ≤ gb190)); clear HB; have HB := n0_; have BK190 := n1_; have GW190 := n2_; have GE190 := n3_; clear n0_ n1_ n2_ n3_; clear hb hbox hg) | ((with_reducible refine gate_dst (N := 3) rfl ?_); refine box_event ?hg (N := 3) ?hd (cs := #[.string a1_0, .slice A1_1 l1_1.length c1_1, .string a1_2, .slice A1_3 l1_3.length c1_3]) (t := 28) ?hr ?_; (case hd => rfl); (case hg => rfl); (case hr => first | (go_simp; done) | (go_simp; rfl)); intro gb191 hg w17 hbox hb; have n0_ := Aside0.mk (blk_below (g := gb190) (o := .cells #[.string a0_0, .string a0_1, .bool a0_2] 61 (0, 0)) (by (with_reducible repeat (first | refine blk_drewN ?_ _ | refine blk_drew ?_ | refine blk_alloc ?_ _)); exact BK190.out) hb); have n1_ := Aside0.mk (below_step (by repeat (first | (with_reducible first | exact HB.out | apply below_alloc | apply pw_below_drewN | apply below_drew1 | refine below_set ?_ GE190.out) | exact HB.out)) hb); have n2_ := Aside0.mk (hbox); have n3_ := Aside0.mk ((by rw [hg]; exact (below_size (by repeat (first | (with_reducible first | exact HB.out | apply below_alloc | apply pw_below_drewN | apply below_drew1 | refine below_set ?_ GE190.out) | exact HB.out))) : w.heap.size ≤ gb191)); have n4_ := Aside0.mk ((by rw [hg]; exact (below_size (by repeat (first | (with_reducible first | exact HB.out | apply below_alloc | apply pw_below_drewN | apply below_drew1 | refine below_set ?_ GE190.out) | exact HB.out))) : w.heap.size ≤ gb191)); have n5_ := Aside0.mk ((by rw [hg]; exact Nat.ne_of_lt (blk_lt (g := gb190) (o := .cells #[.string a0_0, .string a0_1, .bool a0_2] 61 (0, 0)) (by (with_reducible repeat (first | refine blk_drewN ?_ _ | refine blk_drew ?_ | refine blk_alloc ?_ _)); exact BK190.out)) : gb190 ≠ gb191)); have n6_ := Aside0.mk ((by rw [hg]; exact Nat.ne_of_gt (blk_lt (g := gb190) (o := .cells #[.string a0_0, .string a0_1, .bool a0_2] 61 (0, 0)) (by (with_reducible repeat (first | refine blk_drewN ?_ _ | refine blk_drew ?_ | refine blk_alloc ?_ _)); exact BK190.out)) : gb191 ≠ gb190)); clear BK190; clear HB; have BK190 := n0_; have HB := n1_; have BK191 := n2_; have GW191 := n3_; have GE191 := n4_; have NB190_191 := n5_; have NB191_190 := n6_; clear n0_ n1_ n2_ n3_ n4_ n5_ n6_; clear hb hbox hg; have hnb18 := NB191_190.out; have hnc18 := NB190_191.out; have hcz19_0 : w17.cell? ⟨gb191, 0, none⟩ = some (.string a1_0) := (blk_cell BK191.out 0).trans rfl; have hcz19_1 : w17.cell? ⟨gb191, 1, none⟩ = some (.slice A1_1 l1_1.length c1_1) := (blk_cell BK191.out 1).trans rfl; have hcz19_2 : w17.cell? ⟨gb191, 2, none⟩ = some (.string a1_2) := (blk_cell BK191.out 2).trans rfl; have hcz19_3 : w17.cell? ⟨gb191, 3, none⟩ = some (.slice A1_3 l1_3.length c1_3) := (blk_cell BK191.out 3).trans rfl; have hfz19_0 := blk_frozen BK191.out 0; have hfz19_1 := blk_frozen BK191.out 1; have hfz19_2 := blk_frozen BK191.out 2; have hfz19_3 := blk_frozen BK191.out 3; have hcz20_0 : w17.cell? ⟨gb190, 0, none⟩ = some (.string a0_0) := (blk_cell BK190.out 0).trans rfl; have hcz20_1 : w17.cell? ⟨gb190, 1, none⟩ = some (.string a0_1) := (blk_cell BK190.out 1).trans rfl; have hcz20_2 : w17.cell? ⟨gb190, 2, none⟩ = some (.bool a0_2) := (blk_cell BK190.out 2).trans rfl; have hfz20_0 := blk_frozen BK190.out 0; have hfz20_1 := blk_frozen BK190.out 1; have hfz20_2 := blk_frozen BK190.out 2) | (go_at_call 55; (with_reducible refine (cf_pickFits.calls _ _ l1_1 gb190 a0_0 a0_1 a0_2 t192 _ ?side1 ?side2 ?side3 A15.out).mono ?_); (case side1 => repeat (first | exact (Kd.C_below HR1_1.out HB.out) | (with_reducible refine Kd.C_alloc ?_ _) | (with_reducible refine Kd.C_drewN ?_ _) | (with_reducible refine Kd.C_drew ?_))); (case side2 => exact HC1_1.out); (case side3 => exact (by (with_reducible repeat (first | refine blk_drewN ?_ _ | refine blk_drew ?_ | refine blk_alloc ?_ _)); exact BK190.out)); rintro e w21 ⟨rfl, hb⟩; have n0_ := Aside0.mk (blk_below (g := gb190) (o := .cells #[.string a0_0, .string a0_1, .bool a0_2] 61 (0, 0)) (by (with_reducible repeat (first | refine blk_drewN ?_ _ | refine blk_drew ?_ | refine blk_alloc ?_ _)); exact BK190.out) hb); have n1_ := Aside0.mk (blk_below (g := gb191) (o := .cells #[.string a1_0, .slice A1_1 l1_1.length c1_1, .string a1_2, .slice A1_3 l1_3.length c1_3] 28 (0, 0)) (by (with_reducible repeat (first | refine blk_drewN ?_ _ | refine blk_drew ?_ | refine blk_alloc ?_ _)); exact BK191.out) hb); have n2_ := Aside0.mk (below_step (by repeat (first | (with_reducible first | exact HB.out | apply below_alloc | apply pw_below_drewN | apply below_drew1 | refine below_set ?_ GE190.out | refine below_set ?_ GE191.out) | exact HB.out)) hb); clear BK190; clear BK191; clear HB; have BK190 := n0_; have BK191 := n1_; have HB := n2_; clear n0_ n1_ n2_; (try clear hb); (try clear hb2); (try clear hk); (try clear hi)))
        go_ret
        exact ⟨by first | rfl | (simp [errW_none, errW_some] <;> rfl) | (simp [*, errW_none, errW_some] <;> rfl), by repeat (first | (with_reducible first | exact HB.out | apply below_alloc | apply pw_below_drewN | apply below_drew1 | refine below_set ?_ GE190.out | refine below_set ?_ GE191.out) | exact HB.out)⟩
    · rw [if_neg c8] at H
      have c8b0 : (a0_0.toList == ([] : List UInt8)) = false := beq_eq_false_iff_ne.mpr c8
      have c8b1 : (a0_0.toList != ([] : List UInt8)) = true := bne_iff_ne.mpr c8
      by_cases c22 : a0_0.toList = a1_0.toList
      · rw [if_pos c22] at H
        have c22b0 : (a0_0.toList == a1_0.toList) = true := beq_iff_eq.mpr c22
        have c22b1 : (a0_0.toList != a1_0.toList) = false := bne_eq_false_iff_eq.mpr c22
        clear c22
        by_cases c23 : a0_1.toList = ([] : List UInt8)
        · rw [if_pos c23] at H
          have c23b0 : (a0_1.toList == ([] : List UInt8)) = true := beq_iff_eq.mpr c23
          have c23b1 : (a0_1.toList != ([] : List UInt8)) = false := bne_eq_false_iff_eq.mpr c23
          clear c23
          obtain rfl := Option.some.inj H
          go_enter Try.func49, Try.ntmps49
          go_wp2_with (first | ((with_reducible refine gate_dst (N := 2) rfl ?_); refine box_event ?hg (N := 2) ?hd (cs := #[.string a0_0, .string a0_1, .bool a0_2]) (t := 61) ?hr ?_; (case hd => rfl); (case hg => rfl); (case hr => first | (go_simp; done) | (go_simp; rfl)); intro gb190 hg w24 hbox hb; have n0_ := Aside0.mk (below_step (by repeat (first | (with_reducible first | exact HB.out | apply below_alloc | apply pw_below_drewN | apply below_drew1) | exact HB.out)) hb); have n1_ := Aside0.mk (hbox); have n2_ := Aside0.mk ((by rw [hg]; exact (below_size (by repeat (first | (with_reducible first | exact HB.out | apply below_alloc | apply pw_below_drewN | apply below_drew1) | exact HB.out))) : w.heap.size ≤ gb190)); have n3_ := Aside0.mk ((by rw [hg]; exact (below_size (by repeat (first | (with_reducible first | exact HB.out | apply below_alloc | apply pw_below_drewN | apply below_drew1) | exact HB.out))) : w.heap.size ≤ gb190)); clear HB; have HB := n0_; have BK190 := n1_; have GW190 := n2_; have GE190 := n3_; clear n0_ n1_ n2_ n3_; clear hb hbox hg) | ((with_reducible refine gate_dst (N := 3) rfl ?_); refine box_event ?hg (N := 3) ?hd (cs := #[.string a1_0, .slice A1_1 l1_1.length c1_1, .string a1_2, .slice A1_3 l1_3.length c1_3]) (t := 28) ?hr ?_; (case hd => rfl); (case hg => rfl); (case hr => first | (go_simp; done) | (go_simp; rfl)); intro gb191 hg w25 hbox hb; have n0_ := Aside0.mk (blk_below (g := gb190) (o := .cells #[.string a0_0, .string a0_1, .bool a0_2] 61 (0, 0)) (by (with_reducible repeat (first | refine blk_drewN ?_ _ | refine blk_drew ?_ | refine blk_alloc ?_ _)); exact BK190.out) hb); have n1_ := Aside0.mk (below_step (by repeat (first | (with_reducible first | exact HB.out | apply below_alloc | apply pw_below_drewN | apply below_drew1 | refine below_set ?_ GE190.out) | exact HB.out)) hb); have n2_ := Aside0.mk (hbox); have n3_ := Aside0.mk ((by rw [hg]; exact (below_size (by repeat (first | (with_reducible first | exact HB.out | apply below_alloc | apply pw_below_drewN | apply below_drew1 | refine below_set ?_ GE190.out) | exact HB.out))) : w.heap.size ≤ gb191)); have n4_ := Aside0.mk ((by rw [hg]; exact (below_size (by repeat (first | (with_reducible first | exact HB.out | apply below_alloc | apply pw_below_drewN | apply below_drew1 | refine below_set ?_ GE190.out) | exact HB.out))) : w.heap.size ≤ gb191)); have n5_ := Aside0.mk ((by rw [hg]; exact Nat.ne_of_lt (blk_lt (g := gb190) (o := .cells #[.string a0_0, .string a0_1, .bool a0_2] 61 (0, 0)) (by (with_reducible repeat (first | refine blk_drewN ?_ _ | refine blk_drew ?_ | refine blk_alloc ?_ _)); exact BK190.out)) : gb190 ≠ gb191)); have n6_ := Aside0.mk ((by rw [hg]; exact Nat.ne_of_gt (blk_lt (g := gb190) (o := .cells #[.string a0_0, .string a0_1, .bool a0_2] 61 (0, 0)) (by (with_reducible repeat (first | refine blk_drewN ?_ _ | refine blk_drew ?_ | refine blk_alloc ?_ _)); exact BK190.out)) : gb191 ≠ gb190)); clear BK190; clear HB; have BK190 := n0_; have HB := n1_; have BK191 := n2_; have GW191 := n3_; have GE191 := n4_; have NB190_191 := n5_; have NB191_190 := n6_; clear n0_ n1_ n2_ n3_ n4_ n5_ n6_; clear hb hbox hg; have hnb26 := NB191_190.out; have hnc26 := NB190_191.out; have hcz27_0 : w25.cell? ⟨gb191, 0, none⟩ = some (.string a1_0) := (blk_cell BK191.out 0).trans rfl; have hcz27_1 : w25.cell? ⟨gb191, 1, none⟩ = some (.slice A1_1 l1_1.length c1_1) := (blk_cell BK191.out 1).trans rfl; have hcz27_2 : w25.cell? ⟨gb191, 2, none⟩ = some (.string a1_2) := (blk_cell BK191.out 2).trans rfl; have hcz27_3 : w25.cell? ⟨gb191, 3, none⟩ = some (.slice A1_3 l1_3.length c1_3) := (blk_cell BK191.out 3).trans rfl; have hfz27_0 := blk_frozen BK191.out 0; have hfz27_1 := blk_frozen BK191.out 1; have hfz27_2 := blk_frozen BK191.out 2; have hfz27_3 := blk_frozen BK191.out 3; have hcz28_0 : w25.cell? ⟨gb190, 0, none⟩ = some (.string a0_0) := (blk_cell BK190.out 0).trans rfl; have hcz28_1 : w25.cell? ⟨gb190, 1, none⟩ = some (.string a0_1) := (blk_cell BK190.out 1).trans rfl; have hcz28_2 : w25.cell? ⟨gb190, 2, none⟩ = some (.bool a0_2) := (blk_cell BK190.out 2).trans rfl; have hfz28_0 := blk_frozen BK190.out 0; have hfz28_1 := blk_frozen BK190.out 1; have hfz28_2 := blk_frozen BK190.out 2))
          go_ret
          exact ⟨by first | rfl | (simp [errW_none, errW_some] <;> rfl) | (simp [*, errW_none, errW_some] <;> rfl), by repeat (first | (with_reducible first | exact HB.out | apply below_alloc | apply pw_below_drewN | apply below_drew1 | refine below_set ?_ GE190.out | refine below_set ?_ GE191.out) | exact HB.out)⟩
        · rw [if_neg c23] at H
          have c23b0 : (a0_1.toList == ([] : List UInt8)) = false := beq_eq_false_iff_ne.mpr c23
          have c23b1 : (a0_1.toList != ([] : List UInt8)) = true := bne_iff_ne.mpr c23
          replace H := Option.bind_eq_some_iff.mp H
          obtain ⟨t193, A290, H⟩ := H
          replace H : (some t193) = some r := H
          have A29 := Aside0.mk A290
          clear A290
          obtain rfl := Option.some.inj H
          go_enter Try.func49, Try.ntmps49
          go_wp2_with (first | ((with_reducible refine gate_dst (N := 2) rfl ?_); refine box_event ?hg (N := 2) ?hd (cs := #[.string a0_0, .string a0_1, .bool a0_2]) (t := 61) ?hr ?_; (case hd => rfl); (case hg => rfl); (case hr => first | (go_simp; done) | (go_simp; rfl)); intro gb190 hg w30 hbox hb; have n0_ := Aside0.mk (below_step (by repeat (first | (with_reducible first | exact HB.out | apply below_alloc | apply pw_below_drewN | apply below_drew1) | exact HB.out)) hb); have n1_ := Aside0.mk (hbox); have n2_ := Aside0.mk ((by rw [hg]; exact (below_size (by repeat (first | (with_reducible first | exact HB.out | apply below_alloc | apply pw_below_drewN | apply below_drew1) | exact HB.out))) : w.heap.size ≤ gb190)); have n3_ := Aside0.mk ((by rw [hg]; exact (below_size (by repeat (first | (with_reducible first | exact HB.out | apply below_alloc | apply pw_below_drewN | apply below_drew1) | exact HB.out))) : w.heap.size ≤ gb190)); clear HB; have HB := n0_; have BK190 := n1_; have GW190 := n2_; have GE190 := n3_; clear n0_ n1_ n2_ n3_; clear hb hbox hg) | ((with_reducible refine gate_dst (N := 3) rfl ?_); refine box_event ?hg (N := 3) ?hd (cs := #[.string a1_0, .slice A1_1 l1_1.length c1_1, .string a1_2, .slice A1_3 l1_3.length c1_3]) (t := 28) ?hr ?_; (case hd => rfl); (case hg => rfl); (case hr => first | (go_simp; done) | (go_simp; rfl)); intro gb191 hg w31 hbox hb; have n0_ := Aside0.mk (blk_below (g := gb190) (o := .cells #[.string a0_0, .string a0_1, .bool a0_2] 61 (0, 0)) (by (with_reducible repeat (first | refine blk_drewN ?_ _ | refine blk_drew ?_ | refine blk_alloc ?_ _)); exact BK190.out) hb); have n1_ := Aside0.mk (below_step (by repeat (first | (with_reducible first | exact HB.out | apply below_alloc | apply pw_below_drewN | apply below_drew1 | refine below_set ?_ GE190.out) | exact HB.out)) hb); have n2_ := Aside0.mk (hbox); have n3_ := Aside0.mk ((by rw [hg]; exact (below_size (by repeat (first | (with_reducible first | exact HB.out | apply below_alloc | apply pw_below_drewN | apply below_drew1 | refine below_set ?_ GE190.out) | exact HB.out))) : w.heap.size ≤ gb191)); have n4_ := Aside0.mk ((by rw [hg]; exact (below_size (by repeat (first | (with_reducible first | exact HB.out | apply below_alloc | apply pw_below_drewN | apply below_drew1 | refine below_set ?_ GE190.out) | exact HB.out))) : w.heap.size ≤ gb191)); have n5_ := Aside0.mk ((by rw [hg]; exact Nat.ne_of_lt (blk_lt (g := gb190) (o := .cells #[.string a0_0, .string a0_1, .bool a0_2] 61 (0, 0)) (by (with_reducible repeat (first | refine blk_drewN ?_ _ | refine blk_drew ?_ | refine blk_alloc ?_ _)); exact BK190.out)) : gb190 ≠ gb191)); have n6_ := Aside0.mk ((by rw [hg]; exact Nat.ne_of_gt (blk_lt (g := gb190) (o := .cells #[.string a0_0, .string a0_1, .bool a0_2] 61 (0, 0)) (by (with_reducible repeat (first | refine blk_drewN ?_ _ | refine blk_drew ?_ | refine blk_alloc ?_ _)); exact BK190.out)) : gb191 ≠ gb190)); clear BK190; clear HB; have BK190 := n0_; have HB := n1_; have BK191 := n2_; have GW191 := n3_; have GE191 := n4_; have NB190_191 := n5_; have NB191_190 := n6_; clear n0_ n1_ n2_ n3_ n4_ n5_ n6_; clear hb hbox hg; have hnb32 := NB191_190.out; have hnc32 := NB190_191.out; have hcz33_0 : w31.cell? ⟨gb191, 0, none⟩ = some (.string a1_0) := (blk_cell BK191.out 0).trans rfl; have hcz33_1 : w31.cell? ⟨gb191, 1, none⟩ = some (.slice A1_1 l1_1.length c1_1) := (blk_cell BK191.out 1).trans rfl; have hcz33_2 : w31.cell? ⟨gb191, 2, none⟩ = some (.string a1_2) := (blk_cell BK191.out 2).trans rfl; have hcz33_3 : w31.cell? ⟨gb191, 3, none⟩ = some (.slice A1_3 l1_3.length c1_3) := (blk_cell BK191.out 3).trans rfl; have hfz33_0 := blk_frozen BK191.out 0; have hfz33_1 := blk_frozen BK191.out 1; have hfz33_2 := blk_frozen BK191.out 2; have hfz33_3 := blk_frozen BK191.out 3; have hcz34_0 : w31.cell? ⟨gb190, 0, none⟩ = some (.string a0_0) := (blk_cell BK190.out 0).trans rfl; have hcz34_1 : w31.cell? ⟨gb190, 1, none⟩ = some (.string a0_1) := (blk_cell BK190.out 1).trans rfl; have hcz34_2 : w31.cell? ⟨gb190, 2, none⟩ = some (.bool a0_2) := (blk_cell BK190.out 2).trans rfl; have hfz34_0 := blk_frozen BK190.out 0; have hfz34_1 := blk_frozen BK190.out 1; have hfz34_2 := blk_frozen BK190.out 2) | (go_at_call 55; (with_reducible refine (cf_pickFits.calls _ _ l1_1 gb190 a0_0 a0_1 a0_2 t193 _ ?side1 ?side2 ?side3 A29.out).mono ?_); (case side1 => repeat (first | exact (Kd.C_below HR1_1.out HB.out) | (with_reducible refine Kd.C_alloc ?_ _) | (with_reducible refine Kd.C_drewN ?_ _) | (with_reducible refine Kd.C_drew ?_))); (case side2 => exact HC1_1.out); (case side3 => exact (by (with_reducible repeat (first | refine blk_drewN ?_ _ | refine blk_drew ?_ | refine blk_alloc ?_ _)); exact BK190.out)); rintro e w35 ⟨rfl, hb⟩; have n0_ := Aside0.mk (blk_below (g := gb190) (o := .cells #[.string a0_0, .string a0_1, .bool a0_2] 61 (0, 0)) (by (with_reducible repeat (first | refine blk_drewN ?_ _ | refine blk_drew ?_ | refine blk_alloc ?_ _)); exact BK190.out) hb); have n1_ := Aside0.mk (blk_below (g := gb191) (o := .cells #[.string a1_0, .slice A1_1 l1_1.length c1_1, .string a1_2, .slice A1_3 l1_3.length c1_3] 28 (0, 0)) (by (with_reducible repeat (first | refine blk_drewN ?_ _ | refine blk_drew ?_ | refine blk_alloc ?_ _)); exact BK191.out) hb); have n2_ := Aside0.mk (below_step (by repeat (first | (with_reducible first | exact HB.out | apply below_alloc | apply pw_below_drewN | apply below_drew1 | refine below_set ?_ GE190.out | refine below_set ?_ GE191.out) | exact HB.out)) hb); clear BK190; clear BK191; clear HB; have BK190 := n0_; have BK191 := n1_; have HB := n2_; clear n0_ n1_ n2_; (try clear hb); (try clear hb2); (try clear hk); (try clear hi)))
          go_ret
          exact ⟨by first | rfl | (simp [errW_none, errW_some] <;> rfl) | (simp [*, errW_none, errW_some] <;> rfl), by repeat (first | (with_reducible first | exact HB.out | apply below_alloc | apply pw_below_drewN | apply below_drew1 | refine below_set ?_ GE190.out | refine below_set ?_ GE191.out) | exact HB.out)⟩
      · rw [if_neg c22] at H
        have c22b0 : (a0_0.toList == a1_0.toList) = false := beq_eq_false_iff_ne.mpr c22
        have c22b1 : (a0_0.toList != a1_0.toList) = true := bne_iff_ne.mpr c22
        obtain rfl := Option.some.inj H
        go_enter Try.func49, Try.ntmps49
        go_wp2_with (first | ((with_reducible refine gate_dst (N := 2) rfl ?_); refine box_event ?hg (N := 2) ?hd (cs := #[.string a0_0, .string a0_1, .bool a0_2]) (t := 61) ?hr ?_; (case hd => rfl); (case hg => rfl); (case hr => first | (go_simp; done) | (go_simp; rfl)); intro gb190 hg w36 hbox hb; have n0_ := Aside0.mk (below_step (by repeat (first | (with_reducible first | exact HB.out | apply below_alloc | apply pw_below_drewN | apply below_drew1) | exact HB.out)) hb); have n1_ := Aside0.mk (hbox); have n2_ := Aside0.mk ((by rw [hg]; exact (below_size (by repeat (first | (with_reducible first | exact HB.out | apply below_alloc | apply pw_below_drewN | apply below_drew1) | exact HB.out))) : w.heap.size ≤ gb190)); have n3_ := Aside0.mk ((by rw [hg]; exact (below_size (by repeat (first | (with_reducible first | exact HB.out | apply below_alloc | apply pw_below_drewN | apply below_drew1) | exact HB.out))) : w.heap.size ≤ gb190)); clear HB; have HB := n0_; have BK190 := n1_; have GW190 := n2_; have GE190 := n3_; clear n0_ n1_ n2_ n3_; clear hb hbox hg) | ((with_reducible refine gate_dst (N := 3) rfl ?_); refine box_event ?hg (N := 3) ?hd (cs := #[.string a1_0, .slice A1_1 l1_1.length c1_1, .string a1_2, .slice A1_3 l1_3.length c1_3]) (t := 28) ?hr ?_; (case hd => rfl); (case hg => rfl); (case hr => first | (go_simp; done) | (go_simp; rfl)); intro gb191 hg w37 hbox hb; have n0_ := Aside0.mk (blk_below (g := gb190) (o := .cells #[.string a0_0, .string a0_1, .bool a0_2] 61 (0, 0)) (by (with_reducible repeat (first | refine blk_drewN ?_ _ | refine blk_drew ?_ | refine blk_alloc ?_ _)); exact BK190.out) hb); have n1_ := Aside0.mk (below_step (by repeat (first | (with_reducible first | exact HB.out | apply below_alloc | apply pw_below_drewN | apply below_drew1 | refine below_set ?_ GE190.out) | exact HB.out)) hb); have n2_ := Aside0.mk (hbox); have n3_ := Aside0.mk ((by rw [hg]; exact (below_size (by repeat (first | (with_reducible first | exact HB.out | apply below_alloc | apply pw_below_drewN | apply below_drew1 | refine below_set ?_ GE190.out) | exact HB.out))) : w.heap.size ≤ gb191)); have n4_ := Aside0.mk ((by rw [hg]; exact (below_size (by repeat (first | (with_reducible first | exact HB.out | apply below_alloc | apply pw_below_drewN | apply below_drew1 | refine below_set ?_ GE190.out) | exact HB.out))) : w.heap.size ≤ gb191)); have n5_ := Aside0.mk ((by rw [hg]; exact Nat.ne_of_lt (blk_lt (g := gb190) (o := .cells #[.string a0_0, .string a0_1, .bool a0_2] 61 (0, 0)) (by (with_reducible repeat (first | refine blk_drewN ?_ _ | refine blk_drew ?_ | refine blk_alloc ?_ _)); exact BK190.out)) : gb190 ≠ gb191)); have n6_ := Aside0.mk ((by rw [hg]; exact Nat.ne_of_gt (blk_lt (g := gb190) (o := .cells #[.string a0_0, .string a0_1, .bool a0_2] 61 (0, 0)) (by (with_reducible repeat (first | refine blk_drewN ?_ _ | refine blk_drew ?_ | refine blk_alloc ?_ _)); exact BK190.out)) : gb191 ≠ gb190)); clear BK190; clear HB; have BK190 := n0_; have HB := n1_; have BK191 := n2_; have GW191 := n3_; have GE191 := n4_; have NB190_191 := n5_; have NB191_190 := n6_; clear n0_ n1_ n2_ n3_ n4_ n5_ n6_; clear hb hbox hg; have hnb38 := NB191_190.out; have hnc38 := NB190_191.out; have hcz39_0 : w37.cell? ⟨gb191, 0, none⟩ = some (.string a1_0) := (blk_cell BK191.out 0).trans rfl; have hcz39_1 : w37.cell? ⟨gb191, 1, none⟩ = some (.slice A1_1 l1_1.length c1_1) := (blk_cell BK191.out 1).trans rfl; have hcz39_2 : w37.cell? ⟨gb191, 2, none⟩ = some (.string a1_2) := (blk_cell BK191.out 2).trans rfl; have hcz39_3 : w37.cell? ⟨gb191, 3, none⟩ = some (.slice A1_3 l1_3.length c1_3) := (blk_cell BK191.out 3).trans rfl; have hfz39_0 := blk_frozen BK191.out 0; have hfz39_1 := blk_frozen BK191.out 1; have hfz39_2 := blk_frozen BK191.out 2; have hfz39_3 := blk_frozen BK191.out 3; have hcz40_0 : w37.cell? ⟨gb190, 0, none⟩ = some (.string a0_0) := (blk_cell BK190.out 0).trans rfl; have hcz40_1 : w37.cell? ⟨gb190, 1, none⟩ = some (.string a0_1) := (blk_cell BK190.out 1).trans rfl; have hcz40_2 : w37.cell? ⟨gb190, 2, none⟩ = some (.bool a0_2) := (blk_cell BK190.out 2).trans rfl; have hfz40_0 := blk_frozen BK190.out 0; have hfz40_1 := blk_frozen BK190.out 1; have hfz40_2 := blk_frozen BK190.out 2))
        go_ret
        exact ⟨by first | rfl | (simp [errW_none, errW_some] <;> rfl) | (simp [*, errW_none, errW_some] <;> rfl), by repeat (first | (with_reducible first | exact HB.out | apply below_alloc | apply pw_below_drewN | apply below_drew1 | refine below_set ?_ GE190.out | refine below_set ?_ GE191.out) | exact HB.out)⟩
end Go.Proofs.Ytaibikajpacemaa.X
end
section
namespace Go.Proofs.Ytaibikajpacemaa.X
open Go.RowKit Go.Proofs.YtaibikajpacemaaW.PrintWords Go.Proofs.YtaibikajpacemaaW.PrintLast Go.Proofs.YtaibikajpacemaaW.PrintMore
attribute [local go_sem] max2_int min2_int max_two min_two max_three min_three max_four min_four   -- for this text's walks alone
set_option linter.unusedVariables false
set_option linter.unusedSimpArgs false
def pick_Find.ends (ps : List S61) (n : S28) (right within : List Bool) : List Bool := ps.mapIdx fun k p => (decide (k = 0) || (p.f2 && within.getD (k - 1) false) || (!p.f2 && right.getD (k - 1) false)) && (pick_fits.f p.f0 p.f1 p.f2 n.f0 n.f1 n.f2 n.f3 == some true)
def pick_Find.far (within ends : List Bool) : List Bool := List.zipWith (fun a b => a || b) within ends
def pick_Find.go (ps : List S61) : Nat → List S28 → Nat → List Int → List Bool → List Bool → Option (List (List Int))
  | 0, _, _, _, _, _ => none
  | _ + 1, [], _, _, _, _ => some []
  | k + 1, n :: l, i, path, right, within =>
    if n.f0.toList = ([] : List UInt8) then pick_Find.go ps k l (i + 1) path right within
    else (pick_Find.go ps k n.f3 0 (path ++ [(i : Int)]) (pick_Find.ends ps n right within) (pick_Find.far within (pick_Find.ends ps n right within))).bind fun sub =>
      (pick_Find.go ps k l (i + 1) path right within).bind fun rest => some ((if (pick_Find.ends ps n right within).getD (ps.length - 1) false = true then [path ++ [(i : Int)]] else []) ++ sub ++ rest)
def pick_Find.f (k : Nat) (l0 : List S61) (l1 : List S28) : Option (List (List Int) × Int) := if pick_check.ok l0 = true then (pick_Find.go l0 (min k 1000000) l1 0 [] (List.replicate l0.length false) (List.replicate l0.length false)).bind fun r => if r.length ≤ 1000000 then some (r, 0) else none else none
theorem pick_Find.go_mono (ps : List S61) : ∀ k l i path right within, LeO (pick_Find.go ps k l i path right within) (pick_Find.go ps (k + 1) l i path right within)
  | 0, l, i, path, right, within => fun r h => by simp [pick_Find.go] at h
  | k + 1, [], i, path, right, within => LeO.refl _
  | k + 1, n :: l, i, path, right, within => by
    rw [pick_Find.go, pick_Find.go]
    exact LeO.ite (pick_Find.go_mono ps k _ _ _ _ _) (LeO.bind (pick_Find.go_mono ps k _ _ _ _ _) (fun _ => LeO.bind (pick_Find.go_mono ps k _ _ _ _ _) (fun _ => LeO.refl _)))
theorem pick_Find.mono : ∀ a0 a1 k, LeO (pick_Find.f k a0 a1) (pick_Find.f (k + 1) a0 a1) := by
  intro a0 a1 k
  unfold pick_Find.f
  refine LeO.ite (LeO.bind ?_ (fun _ => LeO.refl _)) (LeO.refl _)
  by_cases h : k < 1000000
  · rw [show min k 1000000 = k by omega, show min (k + 1) 1000000 = k + 1 by omega]
    exact pick_Find.go_mono _ _ _ _ _ _ _
  · rw [show min k 1000000 = 1000000 by omega, show min (k + 1) 1000000 = 1000000 by omega]
    exact LeO.refl _
theorem pick_Find.fill (E B : List Bool) (j : Nat) (hj : j < E.length) (hb : B.length = E.length) (v : Bool) (hv : E.getD j false = v) : (E.take j ++ B.drop j).set j v = E.take (j + 1) ++ B.drop (j + 1) := by
  have h1 : (E.take j).length = j := by rw [List.length_take]; omega
  rw [List.drop_eq_getElem_cons (show j < B.length by omega), List.set_append_right _ _ (by omega), h1, Nat.sub_self, List.set_cons_zero, List.take_succ_eq_append_getElem hj, List.append_assoc]
  have h2 : E[j] = v := by rw [← hv]; simp [List.getD, hj]
  rw [h2]
  rfl
theorem pick_Find.fill_get (E B : List Bool) (j : Nat) (hj : j < E.length) (hb : B.length = E.length) : (E.take j ++ B.drop j).getD j false = B.getD j false := by
  have h1 : (E.take j).length = j := by rw [List.length_take]; omega
  rw [List.getD_eq_getElem?_getD, List.getD_eq_getElem?_getD, List.getElem?_append_right (by omega), h1, Nat.sub_self, List.getElem?_drop, Nat.add_zero]
theorem pick_Find.fill_get2 (E B : List Bool) (j : Nat) (hj : j < E.length) : (E.take (j + 1) ++ B.drop (j + 1)).getD j false = E.getD j false := by
  rw [List.getD_eq_getElem?_getD, List.getD_eq_getElem?_getD, List.getElem?_append_left (by rw [List.length_take]; omega), List.getElem?_take, if_pos (by omega)]
theorem pick_Find.ends_len (ps : List S61) (n : S28) (right within : List Bool) : (pick_Find.ends ps n right within).length = ps.length := by simp [pick_Find.ends]
theorem pick_Find.far_len (w e : List Bool) (h : e.length = w.length) : (pick_Find.far w e).length = w.length := by simp [pick_Find.far, h]
theorem pick_Find.ends_get (ps : List S61) (n : S28) (right within : List Bool) (j : Nat) (hj : j < ps.length) (p : S61) (hp : rd_T61 ps (j : Int) = p) : (pick_Find.ends ps n right within).getD j false = ((decide (j = 0) || (p.f2 && within.getD (j - 1) false) || (!p.f2 && right.getD (j - 1) false)) && (pick_fits.f p.f0 p.f1 p.f2 n.f0 n.f1 n.f2 n.f3 == some true)) := by
  have h2 : ps[j] = p := by rw [← hp]; simp [rd_T61, List.getD, hj]
  rw [List.getD_eq_getElem?_getD, pick_Find.ends, List.getElem?_mapIdx, List.getElem?_eq_getElem hj, h2]
  rfl
theorem pick_Find.far_get (w e : List Bool) (h : e.length = w.length) (j : Nat) (hj : j < w.length) : (pick_Find.far w e).getD j false = (w.getD j false || e.getD j false) := by
  simp [pick_Find.far, List.getD, List.getElem?_zipWith, hj, h]
theorem pick_Find.fits_some (a0 a1 : ByteArray) (a2 : Bool) (n : S28) : ∃ b, pick_fits.f a0 a1 a2 n.f0 n.f1 n.f2 n.f3 = some b := by
  unfold pick_fits.f cf_pickFits.f
  simp only [Option.bind_some]
  repeat' split
  all_goals exact ⟨_, rfl⟩
theorem pick_Find.cellb {W : World} {e base n cap g : Nat} {ok : Nat → Prop} {xs : List Bool} (h : Kd.bool.R e W base ok (.slice (some ⟨g, 0, none⟩) n cap) xs) (j : Nat) (hj : j < n) : W.cell? ⟨g, j, none⟩ = some (.bool (xs.getD j false)) := by
  obtain ⟨c, hcl, hM, hcc, _⟩ := Kd.R_elem h false (j : Int) (by omega) (by omega)
  have h1 : c = [.bool (xs.getD ((j : Int)).toNat false)] := hM
  rw [Int.toNat_natCast] at h1
  have h2 := hcc 0 _ (by rw [h1]; rfl)
  have h3 : (⟨g, ((j : Int)).toNat * Kd.bool.sz + 0, none⟩ : Addr) = ⟨g, j, none⟩ := by simp [Kd.bool, Kd.scalar]
  rwa [h3] at h2
theorem pick_Find.storeb {P : Program} {ops : Array Oper} {rest : List Oper} {o : Oper} {a : Act} {Q : Exit → Act → World → Prop} {w0 W : World} (base : Nat) (hN : o.dst = none) (hgd : o.guard = none) (p x : Operand) (ho : o.op = .store 4 p x) {g n cap jj : Nat} (xs : List Bool) (v : Bool) (hi4 : (P.info? 4).map (·.size) = some 1) (haddr : a.eval p = .pointer (some ⟨g, jj, none⟩)) (hx : a.eval x = .bool v)
    (HO : Kd.bool.R 4 W base (fun _ => True) (.slice (some ⟨g, 0, none⟩) n cap) xs) (hi : jj < n) (HB : Below base w0 W)
    (h : ∀ w1, Kd.bool.R 4 w1 base (fun _ => True) (.slice (some ⟨g, 0, none⟩) n cap) (xs.set jj v) → Below base w0 w1 → W.grownBy w1 (some g) → wpList P ops Q rest a w1) : wpList P ops Q (o :: rest) a W := by
  refine Kd.R_store Kd.bool (w0 := w0) base hN hgd 4 p x ho 4 (g := g) (n := n) (cap := cap) (o' := jj) (jj : Int) 0 xs v (.bool v) [.bool v] [.bool (xs.getD jj false)] (fun _ => True) (fun _ => False) haddr (by simp [Kd.bool, Kd.scalar]) hx rfl hi4 (by simp [Value.oneCell']) HO (by omega) (by omega) rfl (fun i u hu => ?_) (by simp [Kd.bool, Kd.scalar]) rfl (fun _ hk => hk.elim) HB ?_
  · have h1 := pick_Find.cellb HO jj hi
    cases i with
    | zero =>
      have h3 : (⟨g, ((jj : Int)).toNat * Kd.bool.sz + 0, none⟩ : Addr) = ⟨g, jj, none⟩ := by simp [Kd.bool, Kd.scalar]
      rw [h3, h1]
      simpa using hu
    | succ i => simp at hu
  · intro w1 h1 h2 h3
    rw [Int.toNat_natCast] at h1
    exact h w1 h1 h2 h3
theorem pick_Find.i4 : (Try.prog.info? 4).map (·.size) = some 1 := by kernel_rfl
theorem pick_Find.ob_trans {v0 v1 v2 : Value} {a b : Nat} (h1 : v1.ownBlock = v0.ownBlock ∨ ∃ x, v1.ownBlock = some x ∧ a ≤ x) (h2 : v2.ownBlock = v1.ownBlock ∨ ∃ x, v2.ownBlock = some x ∧ b ≤ x) (hab : a ≤ b) : v2.ownBlock = v0.ownBlock ∨ ∃ x, v2.ownBlock = some x ∧ a ≤ x := by
  rcases h2 with h2 | ⟨x, h2, h3⟩
  · rw [h2]; exact h1
  · exact .inr ⟨x, h2, by omega⟩
theorem pick_Find.kept_trans {w W W2 : World} {g : Nat} {v0 v1 : Value} (h : Kept w W (fun k => k = g ∨ some k = v0.ownBlock)) (k2 : Kept W W2 (fun k => k = g ∨ some k = v1.ownBlock)) (hv : v1.ownBlock = v0.ownBlock ∨ ∃ x, v1.ownBlock = some x ∧ w.heap.size ≤ x) : Kept w W2 (fun k => k = g ∨ some k = v0.ownBlock) := by
  refine h.then_ k2 (fun k hk => ?_)
  rcases hk with hk | hk
  · exact .inl (.inl hk)
  · rcases hv with hv | ⟨x, hv, hx⟩
    · exact .inl (.inr (by rw [← hv]; exact hk))
    · rw [hv] at hk
      injection hk with hk
      exact .inr (by omega)
theorem pick_Find.info22 : (Try.prog.info? 22).map (fun i => (i.zero, i.size, i.bytes)) = some (some (.slice none 0 0), 1, 24) := by kernel_rfl
theorem pick_Find.pack {P : Program} {c : Code} {Q : Exit → Act → World → Prop} {a : Act} {W : World} (F : World → Prop) (h1 : F W) (h : ∀ W', F W' → Code.wp P c Q a W') : Code.wp P c Q a W := h W h1
def pick_Find.rFind5.T5 : Bool × List (List Nat × List Nat) := (true, [([], []), ([0], [0]), ([1], [1]), ([2], [2]), ([3], [3]), ([4, 4], [4]), ([], []), ([6], [6]), ([5, 7, 0, 1, 2, 3, 4, 5], [5]), ([7, 8, 0, 1, 2, 3, 4, 5, 6, 7, 8], [7])])
def pick_Find.rFind5.B5 : List Nat := [0, 1, 3, 7, 15, 31, 0, 64, 255, 511]
theorem pick_Find.rFind5.tab5 : rtab .any (opsOf Try.f39 5) = pick_Find.rFind5.T5 := by kernel_rfl
theorem pick_Find.rFind5.bits5 : waitsOk pick_Find.rFind5.T5.2 pick_Find.rFind5.B5 = true := by kernel_rfl
/-- what a call of walk leaves -/
def pick_Find.Post (w0 w : World) (Ap : Option Addr) (cp n g : Nat) (vF : Value) (rs : List (List Int)) (e : Ending) (w' : World) : Prop :=
  e = .returned (.tuple #[]) ∧ ∃ vF' : Value, w'.heap[g]? = some (.cells #[.slice Ap n cp, vF'] 84 (0, 0)) ∧ Kd.S (Kd.slice 3 (Kd.int .i64)) 22 w' w0.heap.size (fun k => k ≠ g) vF' rs ∧ Below w0.heap.size w0 w' ∧ Kept w w' (fun k => k = g ∨ some k = vF.ownBlock) ∧ (vF'.ownBlock = vF.ownBlock ∨ ∃ b, vF'.ownBlock = some b ∧ w.heap.size ≤ b)
set_option maxHeartbeats 8000000 in
set_option maxRecDepth 100000 in
theorem pick_Find.walk (w0 : World) (Ap : Option Addr) (cp : Nat) (ps : List S61) (hP : Kd.C k61 w0 Ap ps.length ps) (hcp : ps.length ≤ cp) (hn0 : 0 < ps.length) (hn1 : ps.length ≤ 10) (g : Nat) (hg : w0.heap.size ≤ g) :
    ∀ (k : Nat) (A1 : Option Addr) (c1 : Nat) (l : List S28) (A2 : Option Addr) (c2 : Nat) (path : List Int) (A3 : Option Addr) (c3 : Nat) (right : List Bool) (A4 : Option Addr) (c4 : Nat) (within : List Bool) (vF : Value) (fs r : List (List Int)) (w : World)
      (hB : Below w0.heap.size w0 w) (bk : w.heap[g]? = some (.cells #[.slice Ap ps.length cp, vF] 84 (0, 0))) (hN : Kd.C k28 w0 A1 l.length l) (hc1 : l.length ≤ c1)
      (hF : Kd.S (Kd.slice 3 (Kd.int .i64)) 22 w w0.heap.size (fun k => k ≠ g) vF fs)
      (h2 : Kd.F (Kd.int .i64) w (fun k => k ≠ g ∧ some k ≠ vF.ownBlock) A2 path.length path) (hc2 : path.length ≤ c2) (hp : path.length + k ≤ 1000000)
      (h3 : Kd.F Kd.bool w (fun k => k ≠ g ∧ some k ≠ vF.ownBlock) A3 right.length right) (hc3 : right.length ≤ c3) (hr3 : right.length = ps.length)
      (h4 : Kd.F Kd.bool w (fun k => k ≠ g ∧ some k ≠ vF.ownBlock) A4 within.length within) (hc4 : within.length ≤ c4) (hr4 : within.length = ps.length)
      (h : pick_Find.go ps k l 0 path right within = some r) (hr : fs.length + r.length ≤ 1000000),
      Calls Try.prog 39 #[.pointer (some ⟨g, 0, none⟩), .slice A1 l.length c1, .slice A2 path.length c2, .slice A3 right.length c3, .slice A4 within.length c4] w (pick_Find.Post w0 w Ap cp ps.length g vF (fs ++ r)) := by
  intro k
  induction k using Nat.strongRecOn with
  | ind k ih =>
    intro A1 c1 l A2 c2 path A3 c3 right A4 c4 within vF0 fs r w hB bk hN hc1 hF h2 hc2 hp h3 hc3 hr3 h4 hc4 hr4 h hr
    have hmx := Kd.C_max hN
    have IH := Aside0.mk ih
    have HP := Aside0.mk hP
    have HCP := Aside0.mk hcp
    have HN := Aside0.mk hN
    have HC1 := Aside0.mk hc1
    have H2 := Aside0.mk h2
    have HC2 := Aside0.mk hc2
    have HPP := Aside0.mk hp
    have H3 := Aside0.mk h3
    have HC3 := Aside0.mk hc3
    have HR3 := Aside0.mk hr3
    have H4 := Aside0.mk h4
    have HC4 := Aside0.mk hc4
    have HR4 := Aside0.mk hr4
    have HRR := Aside0.mk hr
    have HG := Aside0.mk hg
    have HN0 := Aside0.mk hn0
    have HN1 := Aside0.mk hn1
    have HB0 := Aside0.mk hB
    have BK0 := Aside0.mk bk
    have HF0 := Aside0.mk hF
    have HH := Aside0.mk h
    clear ih hP hcp hN hc1 h2 hc2 hp h3 hc3 hr3 h4 hc4 hr4 hr hg hn0 hn1 hB bk hF h
    go_enter Try.func39, Try.ntmps39
    go_wp2
    go_loopw [20] (fun v20 W => ∃ (i : Nat) (kk : Nat) (vF : Value) (dn td : List (List Int)), v20 = .int .i64 (i : Int) ∧ Aside0 (i ≤ l.length) ∧ Aside0 (kk ≤ k) ∧ Aside0 (pick_Find.go ps kk (l.drop i) i path right within = some td) ∧ Aside0 (dn ++ td = r) ∧ Aside0 (W.heap[g]? = some (.cells #[.slice Ap ps.length cp, vF] 84 (0, 0))) ∧ Aside0 (Kd.S (Kd.slice 3 (Kd.int .i64)) 22 W w0.heap.size (fun k => k ≠ g) vF (fs ++ dn)) ∧ Aside0 (Below w0.heap.size w0 W) ∧ Aside0 (Kept w W (fun k => k = g ∨ some k = vF0.ownBlock)) ∧ Aside0 (vF.ownBlock = vF0.ownBlock ∨ ∃ b, vF.ownBlock = some b ∧ w.heap.size ≤ b)) (fun v20 _ => l.length - (intOf v20).toNat)
    case atStart => exact ⟨0, k, vF0, [], r, rfl, ⟨Nat.zero_le _⟩, ⟨Nat.le_refl _⟩, HH, ⟨rfl⟩, BK0, ⟨by rw [List.append_nil]; exact HF0.out⟩, HB0, ⟨Kept.refl _ _⟩, ⟨.inl rfl⟩⟩
    case round =>
      clear HB0 BK0 HF0 HH
      obtain ⟨wo, rfl⟩ : ∃ wo : World, wo = wr := ⟨_, rfl⟩
      obtain ⟨i, kk, vF, dn, td, rfl, HI, HK, HGO, HD, BK, HF, HB, HKP, HV⟩ := hrel
      by_cases hi : i < l.length
      · have hi0 : (0 : Int) ≤ (i : Int) := by omega
        have hi1 : (i : Int) < (l.length : Int) := by omega
        have hlt : decide ((i : Int) < (l.length : Int)) = true := decide_eq_true hi1
        have hlt2 : (i < l.length) = True := eq_true hi
        obtain ⟨ad, A5, c5, A7, c7, eA, hx0, hx1, hx2, hx3, l5, C5, l7, C7⟩ := at_T28 HN.out (i : Int) hi0 hi1
        subst eA
        obtain ⟨nd, hnd⟩ : ∃ nd, rd_T28 l (i : Int) = nd := ⟨_, rfl⟩
        have hdr : l.drop i = nd :: l.drop (i + 1) := by
          rw [List.drop_eq_getElem_cons hi]
          congr 1
          rw [← hnd]
          simp [rd_T28, List.getD, hi]
        rw [hnd] at hx0 hx1 hx2 hx3 l5 C5 l7 C7
        simp only [Int.toNat_natCast] at hx0 hx1 hx2 hx3
        replace hx0 := (HB.out.cell (World.block_lt_of_cell? _ _ hx0)).trans hx0
        replace hx1 := (HB.out.cell (World.block_lt_of_cell? _ _ hx1)).trans hx1
        replace hx2 := (HB.out.cell (World.block_lt_of_cell? _ _ hx2)).trans hx2
        replace hx3 := (HB.out.cell (World.block_lt_of_cell? _ _ hx3)).trans hx3
        have L5 := Aside0.mk l5
        have L7 := Aside0.mk l7
        have HC5 := Aside0.mk C5
        have HC7 := Aside0.mk C7
        have hgo := HGO.out
        obtain ⟨kk', rfl⟩ : ∃ m, kk = m + 1 := by
          cases kk with
          | zero => simp [pick_Find.go] at hgo
          | succ m => exact ⟨m, rfl⟩
        rw [hdr, pick_Find.go] at hgo
        have HII := Aside0.mk hi
        have hw : wrap64 ((i : Int) + 1) = (i : Int) + 1 := by have := hmx; unfold wrap64; omega
        have HW := Aside0.mk hw
        clear hnd hdr l5 l7 C5 C7 hw HGO
        obtain ⟨f0, f1, f2, f3⟩ := nd
        simp only at hx0 hx1 hx2 hx3 L5 L7 HC5 HC7 hgo
        by_cases he : f0.toList = ([] : List UInt8)
        · rw [if_pos he] at hgo
          have HGO2 := Aside0.mk hgo
          clear hgo hi
          go_wp2
          go_roundw
          case rel => exact ⟨i + 1, kk', vF, dn, td, by first | rfl | go_num | (rw [HW.out]; rfl), ⟨by have := HII.out; omega⟩, ⟨by have := HK.out; omega⟩, HGO2, HD, ⟨blk_alloc BK.out _⟩, ⟨Kd.S_alloc HF.out _⟩, ⟨HB.out.alloc HB.out.size _⟩, ⟨Kept.alloc HKP.out _⟩, HV⟩
          case measure => have := HII.out; first | (rw [HW.out]; simp [intOf]; omega) | (simp [intOf]; omega)
        · rw [if_neg he] at hgo
          obtain ⟨sb, hsb, hgo⟩ := Option.bind_eq_some_iff.1 hgo
          obtain ⟨rs, hrs, hgo⟩ := Option.bind_eq_some_iff.1 hgo
          have HSB := Aside0.mk hsb
          have HRS := Aside0.mk hrs
          have HTD := Aside0.mk (Option.some.inj hgo)
          have he1 : f0.toList.isEmpty = false := by simpa using he
          have he2 : (f0.toList = ([] : List UInt8)) = False := eq_false he
          clear hsb hrs hgo hi he
          have h2w := Kd.F_kept H2.out HKP.out (fun k hk => by rintro (e | e); exact hk.1 e; exact hk.2 e)
          have h3w := Kd.F_kept H3.out HKP.out (fun k hk => by rintro (e | e); exact hk.1 e; exact hk.2 e)
          have h4w := Kd.F_kept H4.out HKP.out (fun k hk => by rintro (e | e); exact hk.1 e; exact hk.2 e)
          have H2w := Aside0.mk h2w
          have H3w := Aside0.mk h3w
          have H4w := Aside0.mk h4w
          have hbi := below_alloc (Below.refl wo.heap.size wo) (.cells #[.string f0, .slice A5 f1.length c5, .string f2, .slice A7 f3.length c7] 28 (0, 0))
          have HCL : Aside0 (slices_Clone_int_int.f path = some path) := ⟨if_pos (by have := HPP.out; omega)⟩
          have HCB : Aside0 (slices_Clone_bool_bool.f within = some within) := ⟨if_pos (by have := HR4.out; have := HN1.out; omega)⟩
          clear h2w h3w h4w
          go_upto_region 4 with (fail)
          refine pick_Find.pack (fun W => W.heap[wo.heap.size]? = some (.cells #[.string f0, .slice A5 f1.length c5, .string f2, .slice A7 f3.length c7] 28 (0, 0)) ∧ Below wo.heap.size wo W) ⟨blk_new wo _, hbi⟩ ?_
          clear hbi hx0 hx1 hx2 hx3
          rintro W1 ⟨bn, hb1⟩
          have BN := Aside0.mk bn
          have HBi := Aside0.mk hb1
          clear bn hb1
          go_upto_region 5 with (first
            | (go_at_call 40; (with_reducible refine (slices_Clone_int_int.calls A2 c2 path path _ (Kd.C_below (Kd.F_now H2w.out) HBi.out) HC2.out HCL.out).mono ?_); rintro e w2 ⟨v2, rfl, ho, hb⟩; have HAL := Aside0.mk (fun k hk => Nat.lt_of_lt_of_le (blk_lt BN.out) (Kd.R_base ho k hk)); have HA0 := Aside0.mk (Kd.R_lower ho HBi.out.size); have BN2 := Aside0.mk (blk_below BN.out hb); have HB2 := Aside0.mk (below_step HBi.out hb); clear ho hb BN HBi)
            | (at_builtin; refine Kd.R_append (Kd.int .i64) (w0 := wo) wo.heap.size rfl (.tmp 29) (.tmp 31) 22 3 (.int .i64 0) 8 rfl Try.underlying22 info3 rfl (by decide) (by omega) v2 path (i : Int) [.int .i64 (i : Int)] (fun _ => True) (fun _ => False) rfl (by first | (go_simp; done) | (go_simp; rfl)) rfl (fun _ hk => hk.elim) (fun _ _ => trivial) HA0.out HB2.out HB2.out.size ?aL ?_; (case aL => have := HPP.out; omega); intro v4 w4 ho hb hg hat; have HAT := Aside0.mk ho; have HBi := Aside0.mk hb; have BN := Aside0.mk (blk_grown BN2.out hg (fun e_ => Nat.lt_irrefl _ (HAL.out _ e_.symm))); clear ho hb hg hat HA0 HAL BN2 HB2))
          have BG := Aside0.mk (blk_below BK.out HBi.out)
          have HAL := Aside0.mk (Kd.R_lt HAT.out)
          refine start_ (n := 10) (S := fun w' => True) (ds := []) #[false, false, false, false, false, false, false, false, false, false] (by kernel_rfl) rfl rfl trivial (fun hHeld => ?_)
          refine with_tabW pick_Find.rFind5.tab5 pick_Find.rFind5.bits5 (fun HT_ HW_ => ?_)
          have BE := trivial
          have BF := trivial
          have NEF := trivial
          have BN := Aside0.mk (blk_drew BN.out)
          have BG := Aside0.mk (blk_drew BG.out)
          have HAT := Aside0.mk (Kd.R_drew HAT.out)
          have HBi := Aside0.mk (below_drew1 HBi.out)
          have HZ : w4.heap.size ≤ w4.drew.heap.size := Nat.le_refl _
          generalize World.drew w4 = W5 at BN BG HAT HBi HZ ⊢
          refine pure_ (i := 0) (N := some 33) (v := ?_) (a' := ?_) #[true, false, false, false, false, false, false, false, false, false] rfl rfl (any_of HT_.out (by kernel_rfl)) (fun _ _ _ h => h) (Or.inl ⟨by rfl, ?_⟩) ?_ ?_
          rotate_left
          · intro w'
            go_simp
            with_reducible rfl
          rotate_left
          · simp only [Act.put, List.setIfInBounds_toArray, List.set_cons_zero, List.set_cons_succ, i64_w, i32_w]
            rfl
          refine pure_ (i := 1) (N := some 34) (v := ?_) (a' := ?_) #[true, true, false, false, false, false, false, false, false, false] rfl rfl (any_of HT_.out (by kernel_rfl)) (fun _ _ _ h => h) (Or.inl ⟨by rfl, ?_⟩) ?_ ?_
          rotate_left
          · intro w'
            go_simp
            with_reducible rfl
          rotate_left
          · simp only [Act.put, List.setIfInBounds_toArray, List.set_cons_zero, List.set_cons_succ, i64_w, i32_w]
            rfl
          refine pure_ (i := 2) (N := some 35) (v := ?_) (a' := ?_) #[true, true, true, false, false, false, false, false, false, false] rfl rfl (any_of HT_.out (by kernel_rfl)) (fun _ _ _ h => h) (Or.inl ⟨by rfl, ?_⟩) ?_ ?_
          rotate_left
          · intro w'
            go_simp
            with_reducible rfl
          rotate_left
          · simp only [Act.put, List.setIfInBounds_toArray, List.set_cons_zero, List.set_cons_succ, i64_w, i32_w]
            rfl
          refine pure_ (i := 6) (N := some 39) (v := ?_) (a' := ?_) #[true, true, true, false, false, false, true, false, false, false] rfl rfl (any_of HT_.out (by kernel_rfl)) (fun _ _ _ h => h) (Or.inl ⟨by rfl, ?_⟩) ?_ ?_
          rotate_left
          · intro w'
            go_simp
            with_reducible rfl
          rotate_left
          · simp only [Act.put, List.setIfInBounds_toArray, List.set_cons_zero, List.set_cons_succ, i64_w, i32_w]
            rfl
          refine inv_at [3, 4, 5, 7, 8, 9] (fun a0_ b a w' => ∃ (ve : Value) (vf : Value) (m8_ : Value) (m9_ : Value), a = putSel a0_ b [(3, 36, .slice Ap ps.length cp), (4, 37, .int .i64 (ps.length : Int)), (5, 38, ve), (7, 40, vf), (8, 13, m8_), (9, 14, m9_)] ∧ (Below wo.heap.size wo w') ∧ (w'.heap[wo.heap.size]? = some (.cells #[.string f0, .slice A5 f1.length c5, .string f2, .slice A7 f3.length c7] 28 (0, 0))) ∧ (w'.heap[g]? = some (.cells #[.slice Ap ps.length cp, vF] 84 (0, 0))) ∧ ((Kd.int .i64).R 3 w' wo.heap.size (fun k => True) v4 (path ++ [(i : Int)])) ∧ (w4.heap.size ≤ w'.heap.size) ∧ (∀ k, ve.ownBlock = some k → w4.heap.size ≤ k ∧ k < w'.heap.size) ∧ (∀ k, vf.ownBlock = some k → w4.heap.size ≤ k ∧ k < w'.heap.size) ∧ (∀ k, ve.ownBlock = some k → vf.ownBlock = some k → False) ∧ (b 5 = true → Kd.bool.R 4 w' wo.heap.size (fun k => True) ve (List.replicate ps.length false)) ∧ (b 7 = true → Kd.bool.R 4 w' wo.heap.size (fun k => True) vf within) ∧ (b 8 = true → (m8_ : Value) = ve) ∧ (b 9 = true → (m9_ : Value) = vf)) HT_.out HW_.out (by kernel_rfl) (by kernel_rfl) ?_ ?_ ?_
          · exact ⟨.bool false, .bool false, .bool false, .bool false, by simp only [putSel, Bool.false_eq_true, if_false], HBi.out, BN.out, BG.out, HAT.out, HZ, fun k hk => by simp [Value.ownBlock] at hk, fun k hk => by simp [Value.ownBlock] at hk, fun k hk _ => by simp [Value.ownBlock] at hk, fun h_ => absurd h_ (by decide), fun h_ => absurd h_ (by decide), fun h_ => absurd h_ (by decide), fun h_ => absurd h_ (by decide)⟩
          · skip
            clear BE BF BG BN HAT HBi HZ NEF
            refine steps_cons ?_ ?_
            · rintro b a w' ⟨ve, vf, m8_, m9_, ha, Q_HBi, Q_BN, Q_BG, Q_HAT, Q_HZ, Q_BE, Q_BF, Q_NEF, Q_HE, Q_HFR, Q_X8_, Q_X9_⟩ hb_ hon hoff
              refine ⟨_, rfl, fun K hK => ?_⟩
              have e35 : a.tmps[35]? = some (.pointer (some ⟨g, 0, none⟩)) := by rw [ha]; exact (putSel_off rfl).trans rfl
              replace ha := Aside0.mk ha
              have HBi := Aside0.mk Q_HBi
              have BN := Aside0.mk Q_BN
              have BG := Aside0.mk Q_BG
              have HAT := Aside0.mk Q_HAT
              have HZ := Aside0.mk Q_HZ
              have BE := Aside0.mk Q_BE
              have BF := Aside0.mk Q_BF
              have NEF := Aside0.mk Q_NEF
              have hc_ := blk_cell BG.out 0
              simp only [List.getElem?_toArray, List.getElem?_cons_zero, List.getElem?_cons_succ] at hc_
              refine value_ (w1 := w') (v := .slice Ap ps.length cp) (by rfl) rfl ?_ ?_
              · go_simp
                (try simp only [i64_w])
                try rfl
              refine hK.out _ _ ⟨ve, vf, m8_, m9_, (by rw [ha.out]; exact putSel_upk 0 hb_ rfl rfl rfl), Q_HBi, Q_BN, Q_BG, Q_HAT, Q_HZ, Q_BE, Q_BF, Q_NEF, fun h0_ => absurd ((hoff 5 (by kernel_rfl)).symm.trans h0_) (by decide), Q_HFR, fun h0_ => absurd ((hoff 8 (by kernel_rfl)).symm.trans h0_) (by decide), fun h0_ => absurd ((hoff 9 (by kernel_rfl)).symm.trans h0_) (by decide)⟩
            refine steps_cons ?_ ?_
            · rintro b a w' ⟨ve, vf, m8_, m9_, ha, Q_HBi, Q_BN, Q_BG, Q_HAT, Q_HZ, Q_BE, Q_BF, Q_NEF, Q_HE, Q_HFR, Q_X8_, Q_X9_⟩ hb_ hon hoff
              refine ⟨_, rfl, fun K hK => ?_⟩
              have e36 : a.tmps[36]? = some (.slice Ap ps.length cp) := by rw [ha]; exact putSel_on (e := (3, 36, .slice Ap ps.length cp)) 0 rfl rfl (hon 3 (by kernel_rfl)) rfl
              replace ha := Aside0.mk ha
              have HBi := Aside0.mk Q_HBi
              have BN := Aside0.mk Q_BN
              have BG := Aside0.mk Q_BG
              have HAT := Aside0.mk Q_HAT
              have HZ := Aside0.mk Q_HZ
              have BE := Aside0.mk Q_BE
              have BF := Aside0.mk Q_BF
              have NEF := Aside0.mk Q_NEF
              refine value_ (w1 := w') (v := .int .i64 (ps.length : Int)) (by rfl) rfl ?_ ?_
              · go_simp
                (try simp only [i64_w])
                try rfl
              refine hK.out _ _ ⟨ve, vf, m8_, m9_, (by rw [ha.out]; exact putSel_upk 1 hb_ rfl rfl rfl), Q_HBi, Q_BN, Q_BG, Q_HAT, Q_HZ, Q_BE, Q_BF, Q_NEF, fun h0_ => absurd ((hoff 5 (by kernel_rfl)).symm.trans h0_) (by decide), Q_HFR, fun h0_ => absurd ((hoff 8 (by kernel_rfl)).symm.trans h0_) (by decide), fun h0_ => absurd ((hoff 9 (by kernel_rfl)).symm.trans h0_) (by decide)⟩
            refine steps_cons ?_ ?_
            · rintro b a w' ⟨ve, vf, m8_, m9_, ha, Q_HBi, Q_BN, Q_BG, Q_HAT, Q_HZ, Q_BE, Q_BF, Q_NEF, Q_HE, Q_HFR, Q_X8_, Q_X9_⟩ hb_ hon hoff
              refine ⟨_, rfl, fun K hK => ?_⟩
              have e37 : a.tmps[37]? = some (.int .i64 (ps.length : Int)) := by rw [ha]; exact putSel_on (e := (4, 37, .int .i64 (ps.length : Int))) 1 rfl rfl (hon 4 (by kernel_rfl)) rfl
              replace ha := Aside0.mk ha
              have HBi := Aside0.mk Q_HBi
              have BN := Aside0.mk Q_BN
              have BG := Aside0.mk Q_BG
              have HAT := Aside0.mk Q_HAT
              have HZ := Aside0.mk Q_HZ
              have BE := Aside0.mk Q_BE
              have BF := Aside0.mk Q_BF
              have NEF := Aside0.mk Q_NEF
              refine Kd.R_make_step Kd.bool (w0 := wo) wo.heap.size 4 (by rfl) (N := 38) rfl 86 (.tmp 37) (.tmp 37) rfl (ps.length : Int) (eval_of e37) (eval_of e37) Try.underlying86 (.bool false) 1 info4 rfl (by decide) (by omega) false (ok := fun _ => True) (okp := fun _ => False) rfl (fun _ _ => trivial) trivial (by omega) (by have := HN1.out; simp; omega) HBi.out HBi.out.size ?_
              rintro v1_ w1 ho hb2 hg ⟨b_, eb_, hz_⟩
              simp only [Int.toNat_natCast] at ho
              refine hK.out _ _ ⟨v1_, vf, m8_, m9_, (by rw [ha.out]; exact putSel_upk 2 hb_ rfl rfl rfl), hb2, blk_grown BN.out hg (by simp), blk_grown BG.out hg (by simp), Kd.R_grown HAT.out hg (fun _ _ => by simp), Nat.le_trans HZ.out hg.size, fun k hk => ⟨by have h1_ := HZ.out; have h2_ := eb_.symm.trans hk; injection h2_ with h2_; omega, Kd.R_lt ho k hk⟩, fun k hk => ⟨(BF.out k hk).1, Nat.lt_of_lt_of_le (BF.out k hk).2 hg.size⟩, fun k hk hk2 => by have h1_ := (BF.out k hk2).2; have h2_ := eb_.symm.trans hk; injection h2_ with h2_; omega, fun _ => ho, fun h0_ => Kd.R_grown (Q_HFR h0_) hg (fun _ _ => by simp), fun h0_ => absurd ((hoff 8 (by kernel_rfl)).symm.trans h0_) (by decide), fun h0_ => absurd ((hoff 9 (by kernel_rfl)).symm.trans h0_) (by decide)⟩
            refine steps_cons ?_ ?_
            · rintro b a w' ⟨ve, vf, m8_, m9_, ha, Q_HBi, Q_BN, Q_BG, Q_HAT, Q_HZ, Q_BE, Q_BF, Q_NEF, Q_HE, Q_HFR, Q_X8_, Q_X9_⟩ hb_ hon hoff
              refine ⟨_, rfl, fun K hK => ?_⟩
              have e39 : a.tmps[39]? = some (.slice A4 within.length c4) := by rw [ha]; exact (putSel_off rfl).trans rfl
              replace ha := Aside0.mk ha
              have HBi := Aside0.mk Q_HBi
              have BN := Aside0.mk Q_BN
              have BG := Aside0.mk Q_BG
              have HAT := Aside0.mk Q_HAT
              have HZ := Aside0.mk Q_HZ
              have BE := Aside0.mk Q_BE
              have BF := Aside0.mk Q_BF
              have NEF := Aside0.mk Q_NEF
              refine goes_ Try.func48 (by kernel_rfl) rfl #[.slice A4 within.length c4] (by rfl) rfl rfl (by first | (simp only [List.map_toArray, List.map_cons, List.map_nil, Act.eval, Array.getD_eq_getD_getElem?, Option.getD_some, e39]; done) | (simp only [List.map_toArray, List.map_cons, List.map_nil, Act.eval, Array.getD_eq_getD_getElem?, Option.getD_some, e39]; rfl)) ?_
              with_reducible refine (slices_Clone_bool_bool.calls A4 c4 within within _ (Kd.C_below (Kd.F_now H4w.out) HBi.out) HC4.out HCB.out).mono ?_
              rintro e w3 ⟨v3_, rfl, ho, hb⟩
              refine ⟨_, rfl, ?_⟩
              refine hK.out _ _ ⟨ve, v3_, m8_, m9_, (by rw [ha.out]; exact putSel_upk 3 hb_ rfl rfl rfl), below_step HBi.out hb, blk_below BN.out hb, blk_below BG.out hb, Kd.R_below HAT.out hb, Nat.le_trans HZ.out hb.size, fun k hk => ⟨(BE.out k hk).1, Nat.lt_of_lt_of_le (BE.out k hk).2 hb.size⟩, fun k hk => ⟨Nat.le_trans HZ.out (Kd.R_base ho k hk), Kd.R_lt ho k hk⟩, fun k hk hk2 => by have h1_ := (BE.out k hk).2; have h2_ := Kd.R_base ho k hk2; omega, fun h0_ => Kd.R_below (Q_HE h0_) hb, fun _ => Kd.R_lower ho HBi.out.size, fun h0_ => absurd ((hoff 8 (by kernel_rfl)).symm.trans h0_) (by decide), fun h0_ => absurd ((hoff 9 (by kernel_rfl)).symm.trans h0_) (by decide)⟩
            refine steps_cons ?_ ?_
            · rintro b a w' ⟨ve, vf, m8_, m9_, ha, Q_HBi, Q_BN, Q_BG, Q_HAT, Q_HZ, Q_BE, Q_BF, Q_NEF, Q_HE, Q_HFR, Q_X8_, Q_X9_⟩ hb_ hon hoff
              refine ⟨_, rfl, fun K hK => ?_⟩
              have e38 : a.tmps[38]? = some (ve) := by rw [ha]; exact putSel_on (e := (5, 38, ve)) 2 rfl rfl (hon 5 (by kernel_rfl)) rfl
              replace ha := Aside0.mk ha
              have HBi := Aside0.mk Q_HBi
              have BN := Aside0.mk Q_BN
              have BG := Aside0.mk Q_BG
              have HAT := Aside0.mk Q_HAT
              have HZ := Aside0.mk Q_HZ
              have BE := Aside0.mk Q_BE
              have BF := Aside0.mk Q_BF
              have NEF := Aside0.mk Q_NEF
              have HE := Aside0.mk (Q_HE (hon 5 (by kernel_rfl)))
              have HFR := Aside0.mk (Q_HFR (hon 7 (by kernel_rfl)))
              refine value_ (w1 := w') (v := ve) (by rfl) rfl ?_ ?_
              · go_simp
                (try simp only [i64_w])
                try rfl
              refine hK.out _ _ ⟨ve, vf, (ve), m9_, (by rw [ha.out]; exact putSel_upk 4 hb_ rfl rfl rfl), Q_HBi, Q_BN, Q_BG, Q_HAT, Q_HZ, Q_BE, Q_BF, Q_NEF, Q_HE, Q_HFR, fun _ => rfl, fun h0_ => absurd ((hoff 9 (by kernel_rfl)).symm.trans h0_) (by decide)⟩
            refine steps_cons ?_ ?_
            · rintro b a w' ⟨ve, vf, m8_, m9_, ha, Q_HBi, Q_BN, Q_BG, Q_HAT, Q_HZ, Q_BE, Q_BF, Q_NEF, Q_HE, Q_HFR, Q_X8_, Q_X9_⟩ hb_ hon hoff
              refine ⟨_, rfl, fun K hK => ?_⟩
              have e40 : a.tmps[40]? = some (vf) := by rw [ha]; exact putSel_on (e := (7, 40, vf)) 3 rfl rfl (hon 7 (by kernel_rfl)) rfl
              replace ha := Aside0.mk ha
              have HBi := Aside0.mk Q_HBi
              have BN := Aside0.mk Q_BN
              have BG := Aside0.mk Q_BG
              have HAT := Aside0.mk Q_HAT
              have HZ := Aside0.mk Q_HZ
              have BE := Aside0.mk Q_BE
              have BF := Aside0.mk Q_BF
              have NEF := Aside0.mk Q_NEF
              have HE := Aside0.mk (Q_HE (hon 5 (by kernel_rfl)))
              have HFR := Aside0.mk (Q_HFR (hon 7 (by kernel_rfl)))
              refine value_ (w1 := w') (v := vf) (by rfl) rfl ?_ ?_
              · go_simp
                (try simp only [i64_w])
                try rfl
              refine hK.out _ _ ⟨ve, vf, m8_, (vf), (by rw [ha.out]; exact putSel_upk 5 hb_ rfl rfl rfl), Q_HBi, Q_BN, Q_BG, Q_HAT, Q_HZ, Q_BE, Q_BF, Q_NEF, Q_HE, Q_HFR, Q_X8_, fun _ => rfl⟩
            exact steps_nil
          · rintro b a w' hall ⟨ve, vf, m8_, m9_, ha, Q_HBi, Q_BN, Q_BG, Q_HAT, Q_HZ, Q_BE, Q_BF, Q_NEF, Q_HE, Q_HFR, Q_X8_, Q_X9_⟩
            clear BE BF BG BN HAT HBi HZ NEF
            have hb3_ := hall 3 (by kernel_rfl)
            have hb4_ := hall 4 (by kernel_rfl)
            have hb5_ := hall 5 (by kernel_rfl)
            have hb7_ := hall 7 (by kernel_rfl)
            have hb8_ := hall 8 (by kernel_rfl)
            have hb9_ := hall 9 (by kernel_rfl)
            subst ha
            obtain rfl := Q_X8_ hb8_
            obtain rfl := Q_X9_ hb9_
            simp only [putSel, hb3_, hb4_, hb5_, hb7_, hb8_, hb9_, if_true, Act.put, List.setIfInBounds_toArray, List.set_cons_zero, List.set_cons_succ]
            have HBi := Aside0.mk Q_HBi
            clear Q_HBi
            have BN := Aside0.mk Q_BN
            clear Q_BN
            have BG := Aside0.mk Q_BG
            clear Q_BG
            have HAT := Aside0.mk Q_HAT
            clear Q_HAT
            have HZ := Aside0.mk Q_HZ
            clear Q_HZ
            have BE := Aside0.mk Q_BE
            clear Q_BE
            have BF := Aside0.mk Q_BF
            clear Q_BF
            have NEF := Aside0.mk Q_NEF
            clear Q_NEF
            have HE := Aside0.mk (Q_HE hb5_)
            clear Q_HE
            have HFR := Aside0.mk (Q_HFR hb7_)
            clear Q_HFR
            clear hall hb3_ hb4_ hb5_ hb7_ hb8_ hb9_
            obtain ⟨ge, ce, ee, hge, _, _⟩ := Kd.R_form HE.out (by rw [List.length_replicate]; exact HN0.out)
            obtain ⟨gf, cf, ef, hgf, _, _⟩ := Kd.R_form HFR.out (by rw [HR4.out]; exact HN0.out)
            rw [List.length_replicate] at ee
            rw [HR4.out] at ef
            subst ee ef
            have NEG : Aside0 (ge ≠ gf) := ⟨fun e => NEF.out ge rfl (by rw [e]; rfl)⟩
            have NAE : Aside0 (∀ k, v4.ownBlock = some k → k ≠ ge ∧ k ≠ gf) := ⟨fun k hk => by have h1 := HAL.out k hk; have h2 := (BE.out ge rfl).1; have h3 := (BF.out gf rfl).1; omega⟩
            have HGE := Aside0.mk (And.intro hge hgf)
            have hcg := blk_cell BG.out 0
            simp only [List.getElem?_toArray, List.getElem?_cons_zero, List.getElem?_cons_succ] at hcg
            clear hge hgf BE BF NEF HAL
            obtain ⟨es, hes⟩ : ∃ es, pick_Find.ends ps (⟨f0, f1, f2, f3⟩ : S28) right within = es := ⟨_, rfl⟩
            have hel : es.length = ps.length := by rw [← hes]; exact pick_Find.ends_len _ _ _ _
            obtain ⟨fr, hfr⟩ : ∃ fr, pick_Find.far within es = fr := ⟨_, rfl⟩
            have hfl : fr.length = ps.length := by rw [← hfr, pick_Find.far_len _ _ (by rw [hel, HR4.out])]; exact HR4.out
            rw [hes, hfr] at HSB
            rw [hes] at HTD
            have HES := Aside0.mk hes
            have HFS := Aside0.mk hfr
            have HEL := Aside0.mk hel
            have HFL := Aside0.mk hfl
            clear hes hfr hel hfl
            have HE0 : Aside0 (Kd.bool.R 4 w' wo.heap.size (fun k => True) (.slice (some ⟨ge, 0, none⟩) ps.length ce) (es.take 0 ++ (List.replicate ps.length false).drop 0)) := ⟨HE.out⟩
            have HF0 : Aside0 (Kd.bool.R 4 w' wo.heap.size (fun k => True) (.slice (some ⟨gf, 0, none⟩) ps.length cf) (fr.take 0 ++ within.drop 0)) := ⟨HFR.out⟩
            clear HE HFR
            go_wp2
            go_loopw [46] (fun v46 W => ∃ j : Nat, v46 = .int .i64 (j : Int) ∧ Aside0 (j ≤ ps.length) ∧ Aside0 (Below wo.heap.size wo W) ∧ Aside0 (W.heap[wo.heap.size]? = some (.cells #[.string f0, .slice A5 f1.length c5, .string f2, .slice A7 f3.length c7] 28 (0, 0))) ∧ Aside0 ((Kd.int .i64).R 3 W wo.heap.size (fun k => True) v4 (path ++ [(i : Int)])) ∧ Aside0 (Kd.bool.R 4 W wo.heap.size (fun k => True) (.slice (some ⟨ge, 0, none⟩) ps.length ce) (es.take j ++ (List.replicate ps.length false).drop j)) ∧ Aside0 (Kd.bool.R 4 W wo.heap.size (fun k => True) (.slice (some ⟨gf, 0, none⟩) ps.length cf) (fr.take j ++ within.drop j))) (fun v46 _ => ps.length - (intOf v46).toNat)
            case atStart => exact ⟨0, rfl, ⟨Nat.zero_le _⟩, HBi, BN, HAT, HE0, HF0⟩
            case round =>
              clear HE0 HF0 HBi BN HAT BG hcg
              obtain ⟨j, rfl, HJ, HBi, BN, HAT, HE, HFR⟩ := hrel
              by_cases hj : j < ps.length
              · have hj0 : (0 : Int) ≤ (j : Int) := by omega
                have hj1 : (j : Int) < (ps.length : Int) := by omega
                have hjt : decide ((j : Int) < (ps.length : Int)) = true := decide_eq_true hj1
                have hjt2 : (j < ps.length) = True := eq_true hj
                obtain ⟨ap, eAp, hp0, hp1, hp2⟩ := at_T61 HP.out (j : Int) hj0 hj1
                subst eAp
                obtain ⟨pk, hpk⟩ : ∃ pk, rd_T61 ps (j : Int) = pk := ⟨_, rfl⟩
                rw [hpk] at hp0 hp1 hp2
                simp only [Int.toNat_natCast] at hp0 hp1 hp2
                have HBw := Aside0.mk (HB.out.trans (HBi.out.mono HB.out.size))
                replace hp0 := (HBw.out.cell (World.block_lt_of_cell? _ _ hp0)).trans hp0
                replace hp1 := (HBw.out.cell (World.block_lt_of_cell? _ _ hp1)).trans hp1
                replace hp2 := (HBw.out.cell (World.block_lt_of_cell? _ _ hp2)).trans hp2
                have hew := pick_Find.ends_get ps (⟨f0, f1, f2, f3⟩ : S28) right within j hj pk hpk
                rw [HES.out] at hew
                have hfw := pick_Find.far_get within es (by rw [HEL.out, HR4.out]) j (by rw [HR4.out]; exact hj)
                rw [HFS.out] at hfw
                have HEW := Aside0.mk hew
                have HFW := Aside0.mk hfw
                have HJJ := Aside0.mk hj
                clear hpk hew hfw hj
                obtain ⟨p0, p1, p2⟩ := pk
                simp only at hp0 hp1 hp2 HEW
                go_upto_region 9 with (fail)
                refine pick_Find.pack (fun W => W.heap[wr.heap.size]? = some (.cells #[.string p0, .string p1, .bool p2] 61 (0, 0)) ∧ Below wo.heap.size wo W ∧ W.heap[wo.heap.size]? = some (.cells #[.string f0, .slice A5 f1.length c5, .string f2, .slice A7 f3.length c7] 28 (0, 0)) ∧ (Kd.int .i64).R 3 W wo.heap.size (fun k => True) v4 (path ++ [(i : Int)]) ∧ Kd.bool.R 4 W wo.heap.size (fun k => True) (.slice (some ⟨ge, 0, none⟩) ps.length ce) (es.take j ++ (List.replicate ps.length false).drop j) ∧ Kd.bool.R 4 W wo.heap.size (fun k => True) (.slice (some ⟨gf, 0, none⟩) ps.length cf) (fr.take j ++ within.drop j)) ⟨blk_new wr _, below_alloc HBi.out _, blk_alloc BN.out _, Kd.R_alloc HAT.out _, Kd.R_alloc HE.out _, Kd.R_alloc HFR.out _⟩ ?_
                clear hp0 hp1 hp2 HBw HBi BN HAT HE HFR
                obtain ⟨gp, hgp⟩ : ∃ gp, wr.heap.size = gp := ⟨_, rfl⟩
                rw [hgp]
                clear hgp
                rintro W6 ⟨b1, b2, b3, b4, b5, b6⟩
                have BP := Aside0.mk b1
                have HBi := Aside0.mk b2
                have BN := Aside0.mk b3
                have HAT := Aside0.mk b4
                have HE := Aside0.mk b5
                have HFR := Aside0.mk b6
                clear b1 b2 b3 b4 b5 b6
                have hcp2 := blk_cell BP.out 2
                simp only [List.getElem?_toArray, List.getElem?_cons_zero, List.getElem?_cons_succ] at hcp2
                obtain ⟨ab, hab⟩ : ∃ ab, (decide (j = 0) || (p2 && within.getD (j - 1) false) || (!p2 && right.getD (j - 1) false)) = ab := ⟨_, rfl⟩
                rw [hab] at HEW
                have HAB := Aside0.mk hab
                clear hab
                go_cut [17] (fun v17 W => v17 = .bool ab ∧ Aside0 (W = W6))
                case first =>
                  have hab := HAB.out
                  by_cases jz : j = 0
                  · subst jz
                    have h1 : ab = true := by simpa using hab.symm
                    subst h1
                    clear hab
                    go_wp2
                    go_meet
                    exact ⟨rfl, ⟨rfl⟩⟩
                  · obtain ⟨jm, hjm⟩ : ∃ jm : Nat, (jm : Int) = (j : Int) - 1 := ⟨j - 1, by omega⟩
                    have e1 : j - 1 = jm := by omega
                    have n1 : ((j : Int) == 0) = false := beq_eq_false_iff_ne.mpr (by omega)
                    have n2 : (j == 0) = false := beq_eq_false_iff_ne.mpr jz
                    have n3 : (j = 0) = False := eq_false jz
                    have n4 : decide ((j : Int) = 0) = false := decide_eq_false (by omega)
                    rw [decide_eq_false jz, e1] at hab
                    have hwj : wrap64 ((j : Int) - 1) = (jm : Int) := by have := HN1.out; have := HJJ.out; rw [← hjm]; unfold wrap64; omega
                    have b0 : (0 : Int) ≤ (jm : Int) := by omega
                    have HQ := Aside0.mk (by have := HJJ.out; omega : (jm : Int) < (ps.length : Int))
                    clear jz e1 hjm
                    cases p2 with
                    | true =>
                      have b1 : (jm : Int) < (within.length : Int) := by rw [HR4.out]; exact HQ.out
                      obtain ⟨ad4, e4, hw4⟩ := Kd.at_bool (Kd.C_below (Kd.F_now H4w.out) HBi.out) (jm : Int) b0 b1
                      subst e4
                      have hrd : rdOf false within (jm : Int) = within.getD jm false := rfl
                      rw [hrd, Int.toNat_natCast] at hw4
                      obtain ⟨wj, hwv⟩ : ∃ wj, within.getD jm false = wj := ⟨_, rfl⟩
                      rw [hwv] at hw4 hab
                      clear hwv hrd
                      cases wj with
                      | true =>
                        have h1 : ab = true := by simpa using hab.symm
                        subst h1
                        clear hab
                        go_wp2
                        go_meet
                        exact ⟨rfl, ⟨rfl⟩⟩
                      | false =>
                        have h1 : ab = false := by simpa using hab.symm
                        subst h1
                        clear hab
                        go_wp2
                        go_meet
                        exact ⟨rfl, ⟨rfl⟩⟩
                    | false =>
                      have b1 : (jm : Int) < (right.length : Int) := by rw [HR3.out]; exact HQ.out
                      obtain ⟨ad3, e3, hw3⟩ := Kd.at_bool (Kd.C_below (Kd.F_now H3w.out) HBi.out) (jm : Int) b0 b1
                      subst e3
                      have hrd : rdOf false right (jm : Int) = right.getD jm false := rfl
                      rw [hrd, Int.toNat_natCast] at hw3
                      obtain ⟨rj, hwv⟩ : ∃ rj, right.getD jm false = rj := ⟨_, rfl⟩
                      rw [hwv] at hw3 hab
                      have h1 : ab = rj := by simpa using hab.symm
                      subst h1
                      clear hab hwv hrd
                      go_wp2
                      go_meet
                      exact ⟨rfl, ⟨rfl⟩⟩
                case rest =>
                  obtain ⟨rfl, hW⟩ := hcut
                  obtain rfl := hW.out
                  clear hW hcp2
                  go_upto_region 10 with (fail)
                  go_cut [17] (fun v17 W => v17 = .bool ab ∧ Aside0 (Below wo.heap.size wo W) ∧ Aside0 (W.heap[wo.heap.size]? = some (.cells #[.string f0, .slice A5 f1.length c5, .string f2, .slice A7 f3.length c7] 28 (0, 0))) ∧ Aside0 ((Kd.int .i64).R 3 W wo.heap.size (fun k => True) v4 (path ++ [(i : Int)])) ∧ Aside0 (Kd.bool.R 4 W wo.heap.size (fun k => True) (.slice (some ⟨ge, 0, none⟩) ps.length ce) (es.take (j + 1) ++ (List.replicate ps.length false).drop (j + 1))) ∧ Aside0 (Kd.bool.R 4 W wo.heap.size (fun k => True) (.slice (some ⟨gf, 0, none⟩) ps.length cf) (fr.take j ++ within.drop j)))
                  case first =>
                    have q0 : (0 : Int) ≤ (j : Int) := by omega
                    cases ab with
                    | false =>
                      have hev : es.getD j false = false := by rw [HEW.out]; rfl
                      have HSE := Aside0.mk (pick_Find.fill es (List.replicate ps.length false) j (by have := HJJ.out; have := HEL.out; omega) (by rw [List.length_replicate, HEL.out]) false hev)
                      clear hev
                      go_wp2_with (refine gate_ (.store 4 (.tmp 84) (.tmp 83)) rfl ?_; refine pick_Find.storeb (w0 := wo) wo.heap.size rfl rfl (.tmp 84) (.tmp 83) rfl (es.take j ++ (List.replicate ps.length false).drop j) false pick_Find.i4 rfl rfl HE.out HJJ.out HBi.out ?_; intro w7 ho hb hg; have n1 := Aside0.mk (blk_grown BN.out hg (Kd.R_ne HE.out BN.out (by decide))); have n2 := Aside0.mk (Kd.R_grown2 HAT.out rfl hg (fun k hk => by injection hk with hk; subst hk; exact fun e_ => (NAE.out _ e_.symm).1 rfl)); have n3 := Aside0.mk (Kd.R_grown2 HFR.out rfl hg (fun k hk => by injection hk with hk; subst hk; exact fun e_ => NEG.out (by injection e_))); have n4 := Aside0.mk hb; rw [HSE.out] at ho; have n5 := Aside0.mk ho; clear ho hb hg)
                      go_meet
                      exact ⟨rfl, n4, n1, n2, n5, n3⟩
                    | true =>
                      obtain ⟨ft, hft⟩ := pick_Find.fits_some p0 p1 p2 (⟨f0, f1, f2, f3⟩ : S28)
                      have hev : es.getD j false = ft := by rw [HEW.out, hft]; cases ft <;> rfl
                      have HFT := Aside0.mk hft
                      have HSE := Aside0.mk (pick_Find.fill es (List.replicate ps.length false) j (by have := HJJ.out; have := HEL.out; omega) (by rw [List.length_replicate, HEL.out]) ft hev)
                      have HBw := Aside0.mk (HB.out.trans (HBi.out.mono HB.out.size))
                      have hp0 := blk_cell BP.out 0
                      have hp1 := blk_cell BP.out 1
                      have hp2 := blk_cell BP.out 2
                      have hq0 := blk_cell BN.out 0
                      have hq1 := blk_cell BN.out 1
                      have hq2 := blk_cell BN.out 2
                      have hq3 := blk_cell BN.out 3
                      simp only [List.getElem?_toArray, List.getElem?_cons_zero, List.getElem?_cons_succ] at hp0 hp1 hp2 hq0 hq1 hq2 hq3
                      clear hev hft
                      go_wp2_with (first
                        | (go_at_call 49; (with_reducible refine (pick_fits.calls p0 p1 p2 f0 A5 c5 f1 f2 A7 c7 f3 ft _ ?side1 L5.out ?side3 L7.out HFT.out).mono ?_); (case side1 => exact Kd.C_below HC5.out HBw.out); (case side3 => exact Kd.C_below HC7.out HBw.out); rintro e w7 ⟨rfl, hb⟩; have HBi2 := Aside0.mk (below_step HBi.out hb); have BN2 := Aside0.mk (blk_below BN.out hb); have HAT2 := Aside0.mk (Kd.R_below HAT.out hb); have HE2 := Aside0.mk (Kd.R_below HE.out hb); have HFR2 := Aside0.mk (Kd.R_below HFR.out hb); clear hb hp0 hp1 hp2 hq0 hq1 hq2 hq3)
                        | (refine gate_ (.store 4 (.tmp 84) (.tmp 83)) rfl ?_; refine pick_Find.storeb (w0 := wo) wo.heap.size rfl rfl (.tmp 84) (.tmp 83) rfl (es.take j ++ (List.replicate ps.length false).drop j) ft pick_Find.i4 rfl rfl HE2.out HJJ.out HBi2.out ?_; intro w8 ho hb hg; have n1 := Aside0.mk (blk_grown BN2.out hg (Kd.R_ne HE2.out BN2.out (by decide))); have n2 := Aside0.mk (Kd.R_grown2 HAT2.out rfl hg (fun k hk => by injection hk with hk; subst hk; exact fun e_ => (NAE.out _ e_.symm).1 rfl)); have n3 := Aside0.mk (Kd.R_grown2 HFR2.out rfl hg (fun k hk => by injection hk with hk; subst hk; exact fun e_ => NEG.out (by injection e_))); have n4 := Aside0.mk hb; rw [HSE.out] at ho; have n5 := Aside0.mk ho; clear ho hb hg))
                      go_meet
                      exact ⟨rfl, n4, n1, n2, n5, n3⟩
                  case rest =>
                    clear HE HFR HBi BN HAT
                    obtain ⟨rfl, HBi, BN, HAT, HE, HFR⟩ := hcut
                    go_upto_region 11 with (fail)
                    obtain ⟨wj, hwj⟩ : ∃ wj, within.getD j false = wj := ⟨_, rfl⟩
                    obtain ⟨ev, hev⟩ : ∃ ev, es.getD j false = ev := ⟨_, rfl⟩
                    have hcf := pick_Find.cellb HFR.out j HJJ.out
                    rw [pick_Find.fill_get fr within j (by have := HJJ.out; have := HFL.out; omega) (by rw [HFL.out, HR4.out]), hwj] at hcf
                    have hce := pick_Find.cellb HE.out j HJJ.out
                    rw [pick_Find.fill_get2 es (List.replicate ps.length false) j (by have := HJJ.out; have := HEL.out; omega), hev] at hce
                    have hfv : fr.getD j false = (wj || ev) := by rw [HFW.out, hwj, hev]
                    have HSF := Aside0.mk (pick_Find.fill fr within j (by have := HJJ.out; have := HFL.out; omega) (by rw [HFL.out, HR4.out]) (wj || ev) hfv)
                    have HWJ : Aside0 (wrap64 ((j : Int) + 1) = (j : Int) + 1) := ⟨by have := HJJ.out; have := HN1.out; unfold wrap64; omega⟩
                    have q0 : (0 : Int) ≤ (j : Int) := by omega
                    clear hwj hev hfv
                    cases wj with
                    | true =>
                      go_wp2_with (refine gate_ (.store 4 (.tmp 97) (.tmp 96)) rfl ?_; refine pick_Find.storeb (w0 := wo) wo.heap.size rfl rfl (.tmp 97) (.tmp 96) rfl (fr.take j ++ within.drop j) (true || ev) pick_Find.i4 rfl rfl HFR.out HJJ.out HBi.out ?_; intro w8 ho hb hg; have n1 := Aside0.mk (blk_grown BN.out hg (Kd.R_ne HFR.out BN.out (by decide))); have n2 := Aside0.mk (Kd.R_grown2 HAT.out rfl hg (fun k hk => by injection hk with hk; subst hk; exact fun e_ => (NAE.out _ e_.symm).2 rfl)); have n3 := Aside0.mk (Kd.R_grown2 HE.out rfl hg (fun k hk => by injection hk with hk; subst hk; exact fun e_ => NEG.out (by injection e_ with e_; exact e_.symm))); have n4 := Aside0.mk hb; rw [HSF.out] at ho; have n5 := Aside0.mk ho; clear ho hb hg hce hcf)
                      go_roundw
                      case rel => exact ⟨j + 1, by first | rfl | go_num | (rw [HWJ.out]; rfl), ⟨by have := HJJ.out; omega⟩, n4, n1, n2, n3, n5⟩
                      case measure => have := HJJ.out; first | (rw [HWJ.out]; simp [intOf]; omega) | (simp [intOf]; omega)
                    | false =>
                      go_wp2_with (refine gate_ (.store 4 (.tmp 97) (.tmp 96)) rfl ?_; refine pick_Find.storeb (w0 := wo) wo.heap.size rfl rfl (.tmp 97) (.tmp 96) rfl (fr.take j ++ within.drop j) (false || ev) pick_Find.i4 rfl rfl HFR.out HJJ.out HBi.out ?_; intro w8 ho hb hg; have n1 := Aside0.mk (blk_grown BN.out hg (Kd.R_ne HFR.out BN.out (by decide))); have n2 := Aside0.mk (Kd.R_grown2 HAT.out rfl hg (fun k hk => by injection hk with hk; subst hk; exact fun e_ => (NAE.out _ e_.symm).2 rfl)); have n3 := Aside0.mk (Kd.R_grown2 HE.out rfl hg (fun k hk => by injection hk with hk; subst hk; exact fun e_ => NEG.out (by injection e_ with e_; exact e_.symm))); have n4 := Aside0.mk hb; rw [HSF.out] at ho; have n5 := Aside0.mk ho; clear ho hb hg hce hcf)
                      go_roundw
                      case rel => exact ⟨j + 1, by first | rfl | go_num | (rw [HWJ.out]; rfl), ⟨by have := HJJ.out; omega⟩, n4, n1, n2, n3, n5⟩
                      case measure => have := HJJ.out; first | (rw [HWJ.out]; simp [intOf]; omega) | (simp [intOf]; omega)
              · have hjt : decide ((j : Int) < (ps.length : Int)) = false := decide_eq_false (by omega)
                have hjt2 : (j < ps.length) = False := eq_false hj
                obtain rfl : j = ps.length := by have := HJ.out; omega
                have he := HE.out
                have hf := HFR.out
                rw [show es.take ps.length = es from List.take_of_length_le (by rw [HEL.out]; omega), List.drop_eq_nil_of_le (by rw [List.length_replicate]; omega), List.append_nil] at he
                rw [show fr.take ps.length = fr from List.take_of_length_le (by rw [HFL.out]; omega), List.drop_eq_nil_of_le (by rw [HR4.out]; omega), List.append_nil] at hf
                have HE3 := Aside0.mk he
                have HF3 := Aside0.mk hf
                clear he hf HE HFR hj
                obtain ⟨pa, hpa⟩ : ∃ pa, path ++ [(i : Int)] = pa := ⟨_, rfl⟩
                rw [hpa] at HAT HSB HTD
                have HPA := Aside0.mk hpa
                clear hpa
                obtain ⟨Aat, cat, ev4, hcat, _⟩ := Kd.R_reads HAT.out
                subst ev4
                have HCAT := Aside0.mk hcat
                clear hcat
                obtain ⟨nm, hnm⟩ : ∃ nm, ps.length - 1 = nm := ⟨_, rfl⟩
                have hnm1 : (nm : Int) = (ps.length : Int) - 1 := by have := HN0.out; omega
                have hwn : wrap64 ((ps.length : Int) - 1) = (nm : Int) := by have := HN1.out; rw [← hnm1]; unfold wrap64; omega
                have hn0 : (0 : Int) ≤ (nm : Int) := by omega
                have hn1 : (nm : Int) < (ps.length : Int) := by omega
                obtain ⟨lb, hlb⟩ : ∃ lb, es.getD nm false = lb := ⟨_, rfl⟩
                have hcl := pick_Find.cellb HE3.out nm (by omega)
                rw [hlb] at hcl
                rw [hnm, hlb] at HTD
                have BKr := Aside0.mk (blk_below BK.out HBi.out)
                have GLT := Aside0.mk (blk_lt BK.out)
                have HV4 := Aside0.mk (Kd.R_base HAT.out)
                have HV5 := Aside0.mk (Kd.R_lt HAT.out)
                have HVF := Aside0.mk (Kd.R_lt (Kd.S_R HF.out))
                have HVG := Aside0.mk (Kd.S_R HF.out).1
                have HBr := Aside0.mk (HB.out.trans (HBi.out.mono HB.out.size))
                have HDL : Aside0 (fs.length + dn.length ≤ 1000000) := ⟨by have h1 := HRR.out; rw [← HD.out, List.length_append] at h1; omega⟩
                have hcg0 := blk_cell BKr.out 1
                have hcg1 := blk_frozen BKr.out 1
                simp only [List.getElem?_toArray, List.getElem?_cons_zero, List.getElem?_cons_succ] at hcg0
                clear hnm hnm1 hlb
                go_upto_if 104 with (fail)
                go_cut [13] (fun v13 W => v13 = .slice (some ⟨ge, 0, none⟩) ps.length ce ∧ Aside0 (∃ vF1 : Value, Aside0 (W.heap[g]? = some (.cells #[.slice Ap ps.length cp, vF1] 84 (0, 0))) ∧ Aside0 (Kd.S (Kd.slice 3 (Kd.int .i64)) 22 W w0.heap.size (fun k => k ≠ g) vF1 (fs ++ (dn ++ (if lb = true then [pa] else [])))) ∧ Aside0 (Below w0.heap.size w0 W) ∧ Aside0 (Kept wr W (fun k => k = g ∨ some k = vF.ownBlock)) ∧ Aside0 (vF1.ownBlock = vF.ownBlock ∨ ∃ b, vF1.ownBlock = some b ∧ wr.heap.size ≤ b)))
                case first =>
                  cases lb with
                  | false =>
                    go_wp2
                    go_meet
                    exact ⟨rfl, ⟨vF, BKr, ⟨by rw [if_neg (by decide), List.append_nil]; exact Kd.S_below HF.out HBi.out⟩, HBr, ⟨Kept.refl _ _⟩, ⟨.inl rfl⟩⟩⟩
                  | true =>
                    have hp : (Kd.slice 3 (Kd.int .i64)).M wr w0.heap.size (fun k => some k = (Value.slice Aat (pa).length cat).ownBlock) (pa) [(.slice Aat (pa).length cat)] := ⟨_, rfl, Kd.R_lower (Kd.R_tight rfl HAT.out) HB.out.size⟩
                    have HPM := Aside0.mk hp
                    have ho : Kd.S (Kd.slice 3 (Kd.int .i64)) 22 wr w0.heap.size (fun k => k ≠ g ∧ ¬ some k = (Value.slice Aat (pa).length cat).ownBlock) vF (fs ++ dn) := Kd.S_mono (Kd.S_below (Kd.S_bound HF.out) HBi.out) (fun k hk => ⟨hk.1, fun e_ => by have h1 := HV4.out k e_.symm; have h2 := hk.2.2.1; omega⟩)
                    have HSO := Aside0.mk ho
                    have HLL : Aside0 (((fs ++ dn).length + 1) * 24 ≤ 140737488355328) := ⟨by have := HDL.out; rw [List.length_append]; omega⟩
                    have HOKP : Aside0 (∀ k, some k = (Value.slice Aat (pa).length cat).ownBlock → k ≠ g ∧ some k ≠ vF.ownBlock) := ⟨fun k hk => by have h1 := HV4.out k hk.symm; have h2 := GLT.out; exact ⟨by omega, fun e_ => by have h3 := HVF.out k e_.symm; omega⟩⟩
                    have HFRS : Aside0 (∀ k, wr.heap.size ≤ k → k ≠ g) := ⟨fun k hk => by have h1 := GLT.out; have h2 := HBi.out.size; omega⟩
                    clear hp ho
                    go_wp2_with (at_builtin; refine Kd.S_append (Kd.slice 3 (Kd.int .i64)) (w0 := w0) w0.heap.size rfl (.tmp 109) (.tmp 111) 29 22 (.slice none 0 0) 24 rfl Try.underlying29 pick_Find.info22 rfl (by decide) (by omega) vF (fs ++ dn) (pa) [(.slice Aat (pa).length cat)] (fun k => k ≠ g) (fun k => some k = (Value.slice Aat (pa).length cat).ownBlock) rfl (by first | (go_simp; done) | (go_simp; rfl)) HPM.out HOKP.out HFRS.out HSO.out HBr.out HBr.out.size HLL.out ?_; intro vF1 w1 ho hb hg hat; obtain ⟨gl, hgl⟩ : ∃ gl, fs ++ dn ++ [pa] = gl := ⟨_, rfl⟩; rw [hgl] at ho; have HGL := Aside0.mk hgl; clear hgl; obtain ⟨Af, nf, ef⟩ := Kd.R_slice (Kd.S_R ho); have bk1 := blk_grown BKr.out hg (fun e_ => HVG.out g e_.symm rfl); have hc1 := blk_cell bk1 1; have hf1 := blk_frozen bk1 1; simp only [List.getElem?_toArray, List.getElem?_cons_zero, List.getElem?_cons_succ] at hc1; have B1 := Aside0.mk bk1; have O1 := Aside0.mk ho; have B2 := Aside0.mk hb; have G1 := Aside0.mk hg; have T1 := Aside0.mk hat; subst ef; clear bk1 ho hb hg hat hcg0 hcg1)
                    go_meet
                    refine ⟨rfl, ⟨_, ⟨blk_put B1.out 1 _ rfl⟩, ⟨by have h_ : fs ++ (dn ++ [pa]) = gl := (by rw [← List.append_assoc]; exact HGL.out); first | (simp only [if_true, h_]; exact Kd.S_far O1.out (p := ⟨g, 1, none⟩) (fun k hk => hk) _) | (rw [if_pos rfl, h_]; exact Kd.S_far O1.out (p := ⟨g, 1, none⟩) (fun k hk => hk) _)⟩, ⟨B2.out.setCell HG.out _⟩, ⟨Kept.setCell (Kept.of_grown G1.out (Kept.refl _ _) (fun k hk => .inl (.inr hk.symm))) (.inl (.inl rfl)) _⟩, T1⟩⟩
                case rest =>
                  clear hcl hcg0 hcg1
                  obtain ⟨rfl, ⟨vF1, BK1, HS1, HB1, HK1, HV1⟩⟩ := hcut
                  have HD1 : Aside0 (∀ k, wo.heap.size ≤ k → k < wr.heap.size → k ≠ g ∧ some k ≠ vF.ownBlock ∧ some k ≠ vF1.ownBlock) := ⟨fun k h1 h2 => by
                    have h3 := GLT.out
                    have h4 : some k ≠ vF.ownBlock := fun e_ => by have h5 := HVF.out k e_.symm; omega
                    refine ⟨by omega, h4, ?_⟩
                    rcases HV1.out with h5 | ⟨b, h5, h6⟩
                    · rw [h5]; exact h4
                    · rw [h5]
                      intro e_
                      injection e_ with e_
                      omega⟩
                  have mv : ∀ {α : Type} {d : Kd α} {e n c : Nat} {A : Option Addr} {xs : List α}, d.E = [] → d.R e wr wo.heap.size (fun _ => True) (.slice A n c) xs → d.F wc (fun k => k ≠ g ∧ some k ≠ vF1.ownBlock) A n xs := fun {α d e n c A xs} hE hR => by
                    have h1 := Kd.R_bound (Kd.R_tight hE hR)
                    have h2 := Kd.R_kept h1 HK1.out (fun k hk => by
                      obtain ⟨q1, q2, _⟩ := HD1.out k hk.2.1 hk.2.2.1
                      rintro (e_ | e_)
                      · exact q1 e_
                      · exact q2 e_)
                    exact Kd.F_mono (Kd.R_F h2) (fun k hk => by
                      obtain ⟨q1, _, q3⟩ := HD1.out k hk.2.1 hk.2.2.1
                      exact ⟨q1, q3⟩)
                  have f2 := mv rfl HAT.out
                  have f3r := mv rfl HE3.out
                  have f4 := mv rfl HF3.out
                  have F2 := Aside0.mk f2
                  have F3 := Aside0.mk f3r
                  have F4 := Aside0.mk f4
                  have hnb := HD1.out wo.heap.size (Nat.le_refl _) (blk_lt BN.out)
                  have BN1 := Aside0.mk (blk_kept BN.out HK1.out (by rintro (e_ | e_); exact hnb.1 e_; exact hnb.2.1 e_))
                  have hq3 := blk_cell BN1.out 3
                  simp only [List.getElem?_toArray, List.getElem?_cons_zero, List.getElem?_cons_succ] at hq3
                  obtain ⟨fd, hfd⟩ : ∃ fd, dn ++ (if lb = true then [pa] else []) = fd := ⟨_, rfl⟩
                  rw [hfd] at HS1
                  have htd : fd ++ (sb ++ rs) = r := by rw [← hfd, ← HD.out, ← HTD.out]; simp [List.append_assoc]
                  have HT2 := Aside0.mk htd
                  have HLL : Aside0 ((fs ++ fd).length + sb.length ≤ 1000000) := ⟨by have h1 := HRR.out; rw [← htd] at h1; simp only [List.length_append] at h1 ⊢; omega⟩
                  have HPL : Aside0 (pa.length + kk' ≤ 1000000) := ⟨by have h1 := HPP.out; have h2 := HK.out; rw [← HPA.out]; simp only [List.length_append, List.length_singleton]; omega⟩
                  have hkl : kk' < k := by have := HK.out; omega
                  have HKL := Aside0.mk hkl
                  have HCE := Aside0.mk (Kd.R_reads' HE3.out).2.1
                  have HCF := Aside0.mk (Kd.R_reads' HF3.out).2.1
                  have HMX : Aside0 (l.length ≤ 9223372036854775807) := ⟨hmx⟩
                  clear mv f2 f3r f4 hnb hfd htd hkl hmx
                  go_wp2_with (go_at_call 39; refine calls_of_args (args' := #[.pointer (some ⟨g, 0, none⟩), .slice A7 f3.length c7, .slice Aat pa.length cat, .slice (some ⟨ge, 0, none⟩) es.length ce, .slice (some ⟨gf, 0, none⟩) fr.length cf]) (by rw [HEL.out, HFL.out]) ?_; refine (IH.out kk' HKL.out A7 c7 f3 Aat cat pa (some ⟨ge, 0, none⟩) ce es (some ⟨gf, 0, none⟩) cf fr vF1 (fs ++ fd) sb wc HB1.out BK1.out HC7.out L7.out HS1.out F2.out HCAT.out HPL.out (by rw [HEL.out]; exact F3.out) (by rw [HEL.out]; exact HCE.out) HEL.out (by rw [HFL.out]; exact F4.out) (by rw [HFL.out]; exact HCF.out) HFL.out HSB.out HLL.out).mono ?_; rintro e w15 ⟨rfl, vF2, q1, q2, q3, q4, q5⟩; have Q1 := Aside0.mk q1; have Q2 := Aside0.mk q2; have Q3 := Aside0.mk q3; have Q4 := Aside0.mk q4; have Q5 := Aside0.mk q5; clear q1 q2 q3 q4 q5)
                  have hle1 : wo.heap.size ≤ wr.heap.size := HBi.out.size
                  have hle2 : wr.heap.size ≤ wc.heap.size := HK1.out.1
                  have hle3 : w.heap.size ≤ wo.heap.size := HKP.out.1
                  have ka : Kept wo wc (fun k => k = g ∨ some k = vF.ownBlock) := (Kept.of_below HBi.out (fun k => k = g ∨ some k = vF.ownBlock)).then_ HK1.out (fun _ hk => .inl hk)
                  have kb := pick_Find.kept_trans ka Q4.out (by rcases HV1.out with h | ⟨b, h1, h2⟩; exact .inl h; exact .inr ⟨b, h1, by omega⟩)
                  have kc := pick_Find.kept_trans HKP.out kb HV.out
                  have va := pick_Find.ob_trans HV1.out Q5.out hle2
                  have vb := pick_Find.ob_trans HV.out va (Nat.le_trans hle3 hle1)
                  have KC := Aside0.mk kc
                  have VB := Aside0.mk vb
                  have q2 := Q2.out
                  rw [List.append_assoc] at q2
                  have Q22 := Aside0.mk q2
                  have HT3 : Aside0 ((fd ++ sb) ++ rs = r) := ⟨by rw [List.append_assoc]; exact HT2.out⟩
                  clear ka kb kc va vb q2 hle1 hle2 hle3
                  go_roundw
                  case rel => exact ⟨i + 1, kk', vF2, fd ++ sb, rs, by first | rfl | go_num | (rw [HW.out]; rfl), ⟨by have := HII.out; omega⟩, ⟨by have := HK.out; omega⟩, HRS, HT3, Q1, Q22, Q3, KC, VB⟩
                  case measure => have := HII.out; first | (rw [HW.out]; simp [intOf]; omega) | (simp [intOf]; omega)
      · have hlt : decide ((i : Int) < (l.length : Int)) = false := decide_eq_false (by omega)
        have hlt2 : (i < l.length) = False := eq_false hi
        have htd : td = [] := by
          have := HGO.out
          rw [List.drop_eq_nil_of_le (by omega)] at this
          cases kk with
          | zero => simp [pick_Find.go] at this
          | succ m => simpa [pick_Find.go] using this.symm
        have hdn : dn = r := by have := HD.out; rwa [htd, List.append_nil] at this
        subst hdn
        clear htd hi
        go_wp2
        go_end0
        exact ⟨rfl, vF, BK.out, HF.out, HB.out, HKP.out, HV.out⟩
def pick_Find.rFind5b.T5 : Bool × List (List Nat × List Nat) := (true, [([], []), ([], []), ([], []), ([2], [2]), ([3, 3], [3]), ([], []), ([5], [5]), ([6, 6], [6]), ([0, 1, 4, 7], [0, 1, 4, 7])])
def pick_Find.rFind5b.B5 : List Nat := [0, 0, 0, 4, 12, 0, 32, 96, 255]
theorem pick_Find.rFind5b.tab5 : rtab .any (opsOf Try.f33 5) = pick_Find.rFind5b.T5 := by kernel_rfl
theorem pick_Find.rFind5b.bits5 : waitsOk pick_Find.rFind5b.T5.2 pick_Find.rFind5b.B5 = true := by kernel_rfl
set_option maxHeartbeats 4000000 in
set_option maxRecDepth 100000 in
theorem pick_Find.calls (k : Nat) (A0 : Option Addr) (c0 : Nat) (l0 : List S61) (A1 : Option Addr) (c1 : Nat) (l1 : List S28) (r1 : List (List Int)) (r2 : Int) (w : World) (hr0 : Kd.C k61 w A0 l0.length l0) (hc0 : l0.length ≤ c0) (hr1 : Kd.C k28 w A1 l1.length l1) (hc1 : l1.length ≤ c1) (h : pick_Find.f k l0 l1 = some (r1, r2)) :
    Calls Try.prog 33 #[.slice A0 l0.length c0, .slice A1 l1.length c1] w fun e w' => ∃ v0_ : Value, e = .returned (.tuple #[v0_, .int .i64 r2]) ∧ Kd.S (Kd.slice 3 (Kd.int .i64)) 22 w' w.heap.size (fun _ => True) v0_ r1 ∧ Below w.heap.size w w' := by
  unfold pick_Find.f at h
  by_cases hok : pick_check.ok l0 = true
  case neg => rw [if_neg hok] at h; simp at h
  rw [if_pos hok] at h
  obtain ⟨r, hgo, h⟩ := Option.bind_eq_some_iff.1 h
  by_cases hrl : r.length ≤ 1000000
  case neg => rw [if_neg hrl] at h; simp at h
  rw [if_pos hrl] at h
  have h' := Option.some.inj h
  injection h' with e1 e2
  subst e1 e2
  have hck : pick_check.f l0 = some 0 := if_pos hok
  unfold pick_check.ok at hok
  simp only [Bool.and_eq_true, decide_eq_true_eq] at hok
  have HN0 := Aside0.mk hok.1.1
  have HN1 := Aside0.mk hok.1.2
  have HCK := Aside0.mk hck
  have HR0 := Aside0.mk hr0
  have HC0 := Aside0.mk hc0
  have HR1 := Aside0.mk hr1
  have HC1 := Aside0.mk hc1
  have HGO := Aside0.mk hgo
  have HRL := Aside0.mk hrl
  clear hr0 hc0 hr1 hc1 h hok hgo hrl hck
  go_enter Try.func33, Try.ntmps33
  go_upto_region 5 with (go_at_call 38; (with_reducible refine (pick_check.calls _ _ l0 0 _ HR0.out HC0.out HCK.out).mono ?_); rintro e w1 ⟨rfl, hb⟩; have HB1 := Aside0.mk hb; clear hb)
  refine pick_Find.pack (fun W => W.heap[w1.heap.size]? = some (.cells #[.slice A0 l0.length c0, .slice none 0 0] 84 (0, 0)) ∧ Below w.heap.size w W) ⟨blk_new w1 _, below_alloc HB1.out _⟩ ?_
  have hg := HB1.out.size
  obtain ⟨g, egg⟩ : ∃ g, w1.heap.size = g := ⟨_, rfl⟩
  rw [egg] at hg ⊢
  have HG := Aside0.mk hg
  clear egg HB1 hg
  rintro W4 ⟨b1, b2⟩
  have BG := Aside0.mk b1
  have HBw := Aside0.mk b2
  clear b1 b2
  refine start_ (n := 9) (S := fun w' => True) (ds := []) #[false, false, false, false, false, false, false, false, false] (by kernel_rfl) rfl rfl trivial (fun hHeld => ?_)
  refine with_tabW pick_Find.rFind5b.tab5 pick_Find.rFind5b.bits5 (fun HT_ HW_ => ?_)
  have BG := Aside0.mk (blk_drew BG.out)
  have HBw := Aside0.mk (below_drew1 HBw.out)
  generalize World.drew W4 = W5 at BG HBw ⊢
  refine pure_ (i := 0) (N := some 16) (v := ?_) (a' := ?_) #[true, false, false, false, false, false, false, false, false] rfl rfl (any_of HT_.out (by kernel_rfl)) (fun _ _ _ h => h) (Or.inl ⟨by rfl, ?_⟩) ?_ ?_
  rotate_left
  · intro w'
    go_simp
    with_reducible rfl
  rotate_left
  · simp only [Act.put, List.setIfInBounds_toArray, List.set_cons_zero, List.set_cons_succ, i64_w, i32_w]
    rfl
  refine pure_ (i := 1) (N := some 17) (v := ?_) (a' := ?_) #[true, true, false, false, false, false, false, false, false] rfl rfl (any_of HT_.out (by kernel_rfl)) (fun _ _ _ h => h) (Or.inl ⟨by rfl, ?_⟩) ?_ ?_
  rotate_left
  · intro w'
    go_simp
    with_reducible rfl
  rotate_left
  · simp only [Act.put, List.setIfInBounds_toArray, List.set_cons_zero, List.set_cons_succ, i64_w, i32_w]
    rfl
  refine pure_ (i := 2) (N := some 18) (v := ?_) (a' := ?_) #[true, true, true, false, false, false, false, false, false] rfl rfl (any_of HT_.out (by kernel_rfl)) (fun _ _ _ h => h) (Or.inl ⟨by rfl, ?_⟩) ?_ ?_
  rotate_left
  · intro w'
    go_simp
    with_reducible rfl
  rotate_left
  · simp only [Act.put, List.setIfInBounds_toArray, List.set_cons_zero, List.set_cons_succ, i64_w, i32_w]
    rfl
  refine pure_ (i := 3) (N := some 19) (v := ?_) (a' := ?_) #[true, true, true, true, false, false, false, false, false] rfl rfl (any_of HT_.out (by kernel_rfl)) (fun _ _ _ h => h) (Or.inl ⟨by rfl, ?_⟩) ?_ ?_
  rotate_left
  · intro w'
    go_simp
    with_reducible rfl
  rotate_left
  · simp only [Act.put, List.setIfInBounds_toArray, List.set_cons_zero, List.set_cons_succ, i64_w, i32_w]
    rfl
  refine pure_ (i := 5) (N := some 21) (v := ?_) (a' := ?_) #[true, true, true, true, false, true, false, false, false] rfl rfl (any_of HT_.out (by kernel_rfl)) (fun _ _ _ h => h) (Or.inl ⟨by rfl, ?_⟩) ?_ ?_
  rotate_left
  · intro w'
    go_simp
    with_reducible rfl
  rotate_left
  · simp only [Act.put, List.setIfInBounds_toArray, List.set_cons_zero, List.set_cons_succ, i64_w, i32_w]
    rfl
  refine pure_ (i := 6) (N := some 22) (v := ?_) (a' := ?_) #[true, true, true, true, false, true, true, false, false] rfl rfl (any_of HT_.out (by kernel_rfl)) (fun _ _ _ h => h) (Or.inl ⟨by rfl, ?_⟩) ?_ ?_
  rotate_left
  · intro w'
    go_simp
    with_reducible rfl
  rotate_left
  · simp only [Act.put, List.setIfInBounds_toArray, List.set_cons_zero, List.set_cons_succ, i64_w, i32_w]
    rfl
  refine inv_at [4, 7, 8] (fun a0_ b a w' => ∃ (va : Value) (vb : Value) (vr : Value), a = putSel a0_ b [(4, 20, va), (7, 23, vb), (8, 24, .tuple #[])] ∧ (Below w.heap.size w w') ∧ (b 8 = false → w'.heap[g]? = some (.cells #[.slice A0 l0.length c0, .slice none 0 0] 84 (0, 0))) ∧ (b 4 = true → b 8 = false → Kd.bool.R 4 w' w.heap.size (fun k => True) va (List.replicate l0.length false)) ∧ (b 7 = true → b 8 = false → Kd.bool.R 4 w' w.heap.size (fun k => True) vb (List.replicate l0.length false)) ∧ (b 8 = true → w'.heap[g]? = some (.cells #[.slice A0 l0.length c0, vr] 84 (0, 0))) ∧ (b 8 = true → Kd.S (Kd.slice 3 (Kd.int .i64)) 22 w' w.heap.size (fun k => k ≠ g) vr r)) HT_.out HW_.out (by kernel_rfl) (by kernel_rfl) ?_ ?_ ?_
  · exact ⟨.bool false, .bool false, .bool false, by simp only [putSel, Bool.false_eq_true, if_false], HBw.out, fun _ => BG.out, fun h_ => absurd h_ (by decide), fun h_ => absurd h_ (by decide), fun h_ => absurd h_ (by decide), fun h_ => absurd h_ (by decide)⟩
  · skip
    clear BG HBw
    refine steps_cons ?_ ?_
    · rintro b a w' ⟨va, vb, vr, ha, Q_HBw, Q_BG, Q_HA, Q_HBb, Q_BGF, Q_HSF⟩ hb_ hon hoff
      refine ⟨_, rfl, fun K hK => ?_⟩
      have e19 : a.tmps[19]? = some (.int .i64 (l0.length : Int)) := by rw [ha]; exact (putSel_off rfl).trans rfl
      replace ha := Aside0.mk ha
      have HBw := Aside0.mk Q_HBw
      have BG := Aside0.mk (Q_BG (hoff 8 (by kernel_rfl)))
      refine Kd.R_make_step Kd.bool (w0 := w) w.heap.size 4 (by rfl) (N := 20) rfl 86 (.tmp 19) (.tmp 19) rfl (l0.length : Int) (eval_of e19) (eval_of e19) Try.underlying86 (.bool false) 1 info4 rfl (by decide) (by omega) false (ok := fun _ => True) (okp := fun _ => False) rfl (fun _ _ => trivial) trivial (by omega) (by have := HN1.out; simp; omega) HBw.out HBw.out.size ?_
      rintro v1_ w1 ho hb2 hg ⟨b_, eb_, hz_⟩
      simp only [Int.toNat_natCast] at ho
      refine hK.out _ _ ⟨v1_, vb, vr, (by rw [ha.out]; exact putSel_upk 0 hb_ rfl rfl rfl), hb2, fun _ => blk_grown BG.out hg (by simp), fun _ _ => ho, fun h0_ h1_ => Kd.R_grown (Q_HBb h0_ h1_) hg (fun _ _ => by simp), fun h0_ => absurd ((hoff 8 (by kernel_rfl)).symm.trans h0_) (by decide), fun h0_ => absurd ((hoff 8 (by kernel_rfl)).symm.trans h0_) (by decide)⟩
    refine steps_cons ?_ ?_
    · rintro b a w' ⟨va, vb, vr, ha, Q_HBw, Q_BG, Q_HA, Q_HBb, Q_BGF, Q_HSF⟩ hb_ hon hoff
      refine ⟨_, rfl, fun K hK => ?_⟩
      have e22 : a.tmps[22]? = some (.int .i64 (l0.length : Int)) := by rw [ha]; exact (putSel_off rfl).trans rfl
      replace ha := Aside0.mk ha
      have HBw := Aside0.mk Q_HBw
      have BG := Aside0.mk (Q_BG (hoff 8 (by kernel_rfl)))
      refine Kd.R_make_step Kd.bool (w0 := w) w.heap.size 4 (by rfl) (N := 23) rfl 86 (.tmp 22) (.tmp 22) rfl (l0.length : Int) (eval_of e22) (eval_of e22) Try.underlying86 (.bool false) 1 info4 rfl (by decide) (by omega) false (ok := fun _ => True) (okp := fun _ => False) rfl (fun _ _ => trivial) trivial (by omega) (by have := HN1.out; simp; omega) HBw.out HBw.out.size ?_
      rintro v1_ w1 ho hb2 hg ⟨b_, eb_, hz_⟩
      simp only [Int.toNat_natCast] at ho
      refine hK.out _ _ ⟨va, v1_, vr, (by rw [ha.out]; exact putSel_upk 1 hb_ rfl rfl rfl), hb2, fun _ => blk_grown BG.out hg (by simp), fun h0_ h1_ => Kd.R_grown (Q_HA h0_ h1_) hg (fun _ _ => by simp), fun _ _ => ho, fun h0_ => absurd ((hoff 8 (by kernel_rfl)).symm.trans h0_) (by decide), fun h0_ => absurd ((hoff 8 (by kernel_rfl)).symm.trans h0_) (by decide)⟩
    refine steps_cons ?_ ?_
    · rintro b a w' ⟨va, vb, vr, ha, Q_HBw, Q_BG, Q_HA, Q_HBb, Q_BGF, Q_HSF⟩ hb_ hon hoff
      refine ⟨_, rfl, fun K hK => ?_⟩
      have e16 : a.tmps[16]? = some (.pointer (some ⟨g, 0, none⟩)) := by rw [ha]; exact (putSel_off rfl).trans rfl
      have e17 : a.tmps[17]? = some (.slice A1 l1.length c1) := by rw [ha]; exact (putSel_off rfl).trans rfl
      have e20 : a.tmps[20]? = some (va) := by rw [ha]; exact putSel_on (e := (4, 20, va)) 0 rfl rfl (hon 4 (by kernel_rfl)) rfl
      have e23 : a.tmps[23]? = some (vb) := by rw [ha]; exact putSel_on (e := (7, 23, vb)) 1 rfl rfl (hon 7 (by kernel_rfl)) rfl
      replace ha := Aside0.mk ha
      have HBw := Aside0.mk Q_HBw
      have BG := Aside0.mk (Q_BG hb_)
      have HA := Aside0.mk (Q_HA (hon 4 (by kernel_rfl)) hb_)
      have HBb := Aside0.mk (Q_HBb (hon 7 (by kernel_rfl)) hb_)
      obtain ⟨Aa, ca, ea_, hca, _⟩ := Kd.R_reads HA.out
      obtain ⟨Ab, cb, eb_, hcb, _⟩ := Kd.R_reads HBb.out
      subst ea_ eb_
      have fa_ : Kd.F Kd.bool w' (fun k => k ≠ g ∧ some k ≠ (Value.slice none 0 0).ownBlock) Aa (List.replicate l0.length false).length (List.replicate l0.length false) := Kd.F_mono (Kd.R_F (Kd.R_tight rfl HA.out)) (fun k hk => ⟨fun e_ => Kd.R_ne HA.out BG.out (by decide) (by rw [← e_]; exact hk), by simp [Value.ownBlock]⟩)
      have fb_ : Kd.F Kd.bool w' (fun k => k ≠ g ∧ some k ≠ (Value.slice none 0 0).ownBlock) Ab (List.replicate l0.length false).length (List.replicate l0.length false) := Kd.F_mono (Kd.R_F (Kd.R_tight rfl HBb.out)) (fun k hk => ⟨fun e_ => Kd.R_ne HBb.out BG.out (by decide) (by rw [← e_]; exact hk), by simp [Value.ownBlock]⟩)
      refine goes_ Try.func39 (by kernel_rfl) rfl #[.pointer (some ⟨g, 0, none⟩), .slice A1 l1.length c1, .slice none ([] : List Int).length 0, .slice Aa (List.replicate l0.length false).length ca, .slice Ab (List.replicate l0.length false).length cb] (by rfl) rfl rfl (by first | (simp only [List.map_toArray, List.map_cons, List.map_nil, Act.eval, Array.getD_eq_getD_getElem?, Option.getD_some, e16, e17, e20, e23]; done) | (simp only [List.map_toArray, List.map_cons, List.map_nil, Act.eval, Array.getD_eq_getD_getElem?, Option.getD_some, e16, e17, e20, e23]; rfl)) ?_
      with_reducible refine (pick_Find.walk w A0 c0 l0 HR0.out HC0.out HN0.out HN1.out g HG.out (min k 1000000) A1 c1 l1 none 0 [] Aa ca (List.replicate l0.length false) Ab cb (List.replicate l0.length false) (.slice none 0 0) [] r _ HBw.out BG.out HR1.out HC1.out (Kd.S_nil _ _ _ _ _) (Kd.F_nil _ _ _) (Nat.le_refl _) (by simp; omega) fa_ hca (List.length_replicate) fb_ hcb (List.length_replicate) HGO.out (by have := HRL.out; simpa using this)).mono ?_
      rintro e w3 ⟨rfl, vF2, q1, q2, q3, q4, q5⟩
      refine ⟨_, rfl, ?_⟩
      refine hK.out _ _ ⟨(.slice Aa (List.replicate l0.length false).length ca), (.slice Ab (List.replicate l0.length false).length cb), vF2, (by rw [ha.out]; exact putSel_upk 2 hb_ rfl rfl rfl), q3, fun h0_ => absurd ((up_self b 8).symm.trans h0_) (by decide), fun _ h1_ => absurd ((up_self b 8).symm.trans h1_) (by decide), fun _ h1_ => absurd ((up_self b 8).symm.trans h1_) (by decide), fun _ => q1, fun _ => by rw [List.nil_append] at q2; exact q2⟩
    exact steps_nil
  · rintro b a w' hall ⟨va, vb, vr, ha, Q_HBw, Q_BG, Q_HA, Q_HBb, Q_BGF, Q_HSF⟩
    clear BG HBw
    have hb4_ := hall 4 (by kernel_rfl)
    have hb7_ := hall 7 (by kernel_rfl)
    have hb8_ := hall 8 (by kernel_rfl)
    subst ha
    simp only [putSel, hb4_, hb7_, hb8_, if_true, Act.put, List.setIfInBounds_toArray, List.set_cons_zero, List.set_cons_succ]
    have HBw := Aside0.mk Q_HBw
    clear Q_HBw
    clear Q_BG
    clear Q_HA
    clear Q_HBb
    have BGF := Aside0.mk (Q_BGF hb8_)
    clear Q_BGF
    have HSF := Aside0.mk (Q_HSF hb8_)
    clear Q_HSF
    clear hall hb4_ hb7_ hb8_
    have hc0_ := blk_cell BGF.out 1
    simp only [List.getElem?_toArray, List.getElem?_cons_zero, List.getElem?_cons_succ] at hc0_
    go_wp2
    go_ret2
    exact ⟨_, rfl, Kd.S_mono HSF.out (fun _ _ => trivial), HBw.out⟩
end Go.Proofs.Ytaibikajpacemaa.X
end
section
namespace Go.Proofs.Ytaibikajpacemaa.X
open Go.RowKit Go.Proofs.YtaibikajpacemaaW.PrintWords Go.Proofs.YtaibikajpacemaaW.PrintLast Go.Proofs.YtaibikajpacemaaW.PrintMore
attribute [local go_sem] max2_int min2_int max_two min_two max_three min_three max_four min_four   -- for this text's walks alone
set_option linter.unusedVariables false
set_option linter.unusedSimpArgs false
def bobbinetkeep_paths.f (k : Nat) (l0 : List (S61)) (l1 : List (S28)) : Option ((List (List Int)) × Bool) := if ([] : List (S61)).length + l0.length < 3518437208883 then ((bobbinetkeep_copiedNodes.f k l1).bind fun t261 => ((pick_Find.f k (([] : List (S61)) ++ l0) t261).bind fun bt264 => ((pick_Find.f k (([(⟨(⟨#[]⟩ : ByteArray), (⟨#[]⟩ : ByteArray), false⟩ : S61)] : List (S61))) (([(⟨(⟨#[98]⟩ : ByteArray), ([] : List (S68)), (⟨#[]⟩ : ByteArray), ([] : List (S28))⟩ : S28)] : List (S28)))).bind fun bt274 => (if bt264.2 = 0 then (if bt274.2 = 0 then (if (bt274.1.length : Int) = 1 then (if 0 < (bt274.1.length : Int) then ((bobbinetkeep_sameInts.f k (rd_L7 bt274.1 0) (([0] : List Int))).bind fun t282 => (some (bt264.1, t282))) else (none)) else (some (bt264.1, false))) else (some (bt264.1, false))) else (some (bt264.1, false)))))) else (none)
set_option maxHeartbeats 8000000 in
set_option maxRecDepth 100000 in
theorem bobbinetkeep_paths.calls (k : Nat) (A0 : Option Addr) (c0 : Nat) (l0 : List (S61)) (A1 : Option Addr) (c1 : Nat) (l1 : List (S28)) (r1 : List (List Int)) (r2 : Bool) (w : World) (hr0 : Kd.C k61 w A0 l0.length l0) (hc0 : l0.length ≤ c0) (hr1 : Kd.C k28 w A1 l1.length l1) (hc1 : l1.length ≤ c1) (h : bobbinetkeep_paths.f k l0 l1 = some (r1, r2)) :
  Calls Try.prog 27 #[.slice A0 l0.length c0, .slice A1 l1.length c1] w fun e w' => ∃ v0_ : Value, e = .returned (.tuple #[v0_, .bool r2]) ∧ Kd.S (Kd.slice 3 (Kd.int .i64)) 22 w' w.heap.size (fun _ => True) v0_ r1 ∧ Below w.heap.size w w' := by
 have hu61 := Try.underlying61
 have hu28 := Try.underlying28
 have HR0 := Aside0.mk hr0
 have HC0 := Aside0.mk hc0
 clear hr0 hc0
 have HR1 := Aside0.mk hr1
 have HC1 := Aside0.mk hc1
 clear hr1 hc1
 have HB := Aside0.mk (Below.refl w.heap.size w)
 have H : (if ([] : List (S61)).length + l0.length < 3518437208883 then ((bobbinetkeep_copiedNodes.f k l1).bind fun t261 => ((pick_Find.f k (([] : List (S61)) ++ l0) t261).bind fun bt264 => ((pick_Find.f k (([(⟨(⟨#[]⟩ : ByteArray), (⟨#[]⟩ : ByteArray), false⟩ : S61)] : List (S61))) (([(⟨(⟨#[98]⟩ : ByteArray), ([] : List (S68)), (⟨#[]⟩ : ByteArray), ([] : List (S28))⟩ : S28)] : List (S28)))).bind fun bt274 => (if bt264.2 = 0 then (if bt274.2 = 0 then (if (bt274.1.length : Int) = 1 then (if 0 < (bt274.1.length : Int) then ((bobbinetkeep_sameInts.f k (rd_L7 bt274.1 0) (([0] : List Int))).bind fun t282 => (some (bt264.1, t282))) else (none)) else (some (bt264.1, false))) else (some (bt264.1, false))) else (some (bt264.1, false)))))) else (none)) = some (r1, r2) := h
 clear h
 by_cases c3 : ([] : List (S61)).length + l0.length < 3518437208883
 ·
  rw [if_pos c3] at H
  have LMc3 := Aside0.mk c3
  clear c3
  obtain ⟨y258, hy258⟩ : ∃ y_ : List (S61), y_ = (([] : List (S61)) ++ l0) := ⟨_, rfl⟩
  replace H : ((bobbinetkeep_copiedNodes.f k l1).bind fun t261 => ((pick_Find.f k y258 t261).bind fun bt264 => ((pick_Find.f k (([(⟨(⟨#[]⟩ : ByteArray), (⟨#[]⟩ : ByteArray), false⟩ : S61)] : List (S61))) (([(⟨(⟨#[98]⟩ : ByteArray), ([] : List (S68)), (⟨#[]⟩ : ByteArray), ([] : List (S28))⟩ : S28)] : List (S28)))).bind fun bt274 => (if bt264.2 = 0 then (if bt274.2 = 0 then (if (bt274.1.length : Int) = 1 then (if 0 < (bt274.1.length : Int) then ((bobbinetkeep_sameInts.f k (rd_L7 bt274.1 0) (([0] : List Int))).bind fun t282 => (some (bt264.1, t282))) else (none)) else (some (bt264.1, false))) else (some (bt264.1, false))) else (some (bt264.1, false)))))) = some (r1, r2) := by first | (rw [hy258]; with_reducible exact H) | (have H2_ := (Option.bind_some _ _).symm.trans H; rw [hy258]; with_reducible exact H2_) | (have H2_ := (Option.bind_some _ _).symm.trans H; with_reducible exact H2_) | with_reducible exact H | (rw [hy258]; exact H) | exact H
  have Ny258 := Aside0.mk hy258
  clear hy258
  replace H := Option.bind_eq_some_iff.mp H
  obtain ⟨t261, A40, H⟩ := H
  replace H : ((pick_Find.f k y258 t261).bind fun bt264 => ((pick_Find.f k (([(⟨(⟨#[]⟩ : ByteArray), (⟨#[]⟩ : ByteArray), false⟩ : S61)] : List (S61))) (([(⟨(⟨#[98]⟩ : ByteArray), ([] : List (S68)), (⟨#[]⟩ : ByteArray), ([] : List (S28))⟩ : S28)] : List (S28)))).bind fun bt274 => (if bt264.2 = 0 then (if bt274.2 = 0 then (if (bt274.1.length : Int) = 1 then (if 0 < (bt274.1.length : Int) then ((bobbinetkeep_sameInts.f k (rd_L7 bt274.1 0) (([0] : List Int))).bind fun t282 => (some (bt264.1, t282))) else (none)) else (some (bt264.1, false))) else (some (bt264.1, false))) else (some (bt264.1, false))))) = some (r1, r2) := H
  have A4 := Aside0.mk A40
  clear A40
  replace H := Option.bind_eq_some_iff.mp H
  obtain ⟨⟨t264, t265⟩, A50, H⟩ := H
  replace H : ((pick_Find.f k (([(⟨(⟨#[]⟩ : ByteArray), (⟨#[]⟩ : ByteArray), false⟩ : S61)] : List (S61))) (([(⟨(⟨#[98]⟩ : ByteArray), ([] : List (S68)), (⟨#[]⟩ : ByteArray), ([] : List (S28))⟩ : S28)] : List (S28)))).bind fun bt274 => (if t265 = 0 then (if bt274.2 = 0 then (if (bt274.1.length : Int) = 1 then (if 0 < (bt274.1.length : Int) then ((bobbinetkeep_sameInts.f k (rd_L7 bt274.1 0) (([0] : List Int))).bind fun t282 => (some (t264, t282))) else (none)) else (some (t264, false))) else (some (t264, false))) else (some (t264, false)))) = some (r1, r2) := H
  have A5 := Aside0.mk A50
  clear A50
  obtain ⟨y268, hy268⟩ : ∃ y_ : List (S61), y_ = (([(⟨(⟨#[]⟩ : ByteArray), (⟨#[]⟩ : ByteArray), false⟩ : S61)] : List (S61))) := ⟨_, rfl⟩
  replace H : ((pick_Find.f k y268 (([(⟨(⟨#[98]⟩ : ByteArray), ([] : List (S68)), (⟨#[]⟩ : ByteArray), ([] : List (S28))⟩ : S28)] : List (S28)))).bind fun bt274 => (if t265 = 0 then (if bt274.2 = 0 then (if (bt274.1.length : Int) = 1 then (if 0 < (bt274.1.length : Int) then ((bobbinetkeep_sameInts.f k (rd_L7 bt274.1 0) (([0] : List Int))).bind fun t282 => (some (t264, t282))) else (none)) else (some (t264, false))) else (some (t264, false))) else (some (t264, false)))) = some (r1, r2) := by first | (rw [hy268]; with_reducible exact H) | (have H2_ := (Option.bind_some _ _).symm.trans H; rw [hy268]; with_reducible exact H2_) | (have H2_ := (Option.bind_some _ _).symm.trans H; with_reducible exact H2_) | with_reducible exact H | (rw [hy268]; exact H) | exact H
  have Ny268 := Aside0.mk hy268
  clear hy268
  obtain ⟨y271, hy271⟩ : ∃ y_ : List (S28), y_ = (([(⟨(⟨#[98]⟩ : ByteArray), ([] : List (S68)), (⟨#[]⟩ : ByteArray), ([] : List (S28))⟩ : S28)] : List (S28))) := ⟨_, rfl⟩
  replace H : ((pick_Find.f k y268 y271).bind fun bt274 => (if t265 = 0 then (if bt274.2 = 0 then (if (bt274.1.length : Int) = 1 then (if 0 < (bt274.1.length : Int) then ((bobbinetkeep_sameInts.f k (rd_L7 bt274.1 0) (([0] : List Int))).bind fun t282 => (some (t264, t282))) else (none)) else (some (t264, false))) else (some (t264, false))) else (some (t264, false)))) = some (r1, r2) := by first | (rw [hy271]; with_reducible exact H) | (have H2_ := (Option.bind_some _ _).symm.trans H; rw [hy271]; with_reducible exact H2_) | (have H2_ := (Option.bind_some _ _).symm.trans H; with_reducible exact H2_) | with_reducible exact H | (rw [hy271]; exact H) | exact H
  have Ny271 := Aside0.mk hy271
  clear hy271
  replace H := Option.bind_eq_some_iff.mp H
  obtain ⟨⟨t274, t275⟩, A60, H⟩ := H
  replace H : (if t265 = 0 then (if t275 = 0 then (if (t274.length : Int) = 1 then (if 0 < (t274.length : Int) then ((bobbinetkeep_sameInts.f k (rd_L7 t274 0) (([0] : List Int))).bind fun t282 => (some (t264, t282))) else (none)) else (some (t264, false))) else (some (t264, false))) else (some (t264, false))) = some (r1, r2) := H
  have A6 := Aside0.mk A60
  clear A60
  by_cases c7 : t265 = 0
  ·
   rw [if_pos c7] at H
   have c7b0 : (t265 == 0) = true := beq_iff_eq.mpr c7
   have c7b1 : (t265 != 0) = false := bne_eq_false_iff_eq.mpr c7
   clear c7
   by_cases c8 : t275 = 0
   ·
    rw [if_pos c8] at H
    have c8b0 : (t275 == 0) = true := beq_iff_eq.mpr c8
    have c8b1 : (t275 != 0) = false := bne_eq_false_iff_eq.mpr c8
    clear c8
    by_cases c9 : (t274.length : Int) = 1
    ·
     rw [if_pos c9] at H
     have c9b0 : ((t274.length : Int) == 1) = true := beq_iff_eq.mpr c9
     have c9b1 : ((t274.length : Int) != 1) = false := bne_eq_false_iff_eq.mpr c9
     clear c9
     by_cases c10 : 0 < (t274.length : Int)
     ·
      rw [if_pos c10] at H
      have c10b0 : decide (0 < (t274.length : Int)) = true := decide_eq_true c10
      have c10b1 : decide (0 < t274.length) = true := decide_eq_true (by omega)
      clear c10
      obtain ⟨y279, hy279⟩ : ∃ y_ : List Int, y_ = (([0] : List Int)) := ⟨_, rfl⟩
      replace H : ((bobbinetkeep_sameInts.f k (rd_L7 t274 0) y279).bind fun t282 => (some (t264, t282))) = some (r1, r2) := by first | (rw [hy279]; with_reducible exact H) | (have H2_ := (Option.bind_some _ _).symm.trans H; rw [hy279]; with_reducible exact H2_) | (have H2_ := (Option.bind_some _ _).symm.trans H; with_reducible exact H2_) | with_reducible exact H | (rw [hy279]; exact H) | exact H
      have Ny279 := Aside0.mk hy279
      clear hy279
      replace H := Option.bind_eq_some_iff.mp H
      obtain ⟨t282, A110, H⟩ := H
      replace H : (some (t264, t282)) = some (r1, r2) := H
      have A11 := Aside0.mk A110
      clear A110
      simp only [Option.some.injEq, Prod.mk.injEq] at H
      obtain ⟨rfl, rfl⟩ := H
      go_enter Try.func27, Try.ntmps27
      go_wp2_with (first | ((with_reducible refine gate_builtin (b := .append) (xs := #[.const (.slice none 0 0), .tmp 11]) rfl ?_); (try (refine gate_guard (by rfl) ?_; dsimp only)); at_builtin; refine Kd.R_append_rows k61 (w0 := w) w.heap.size rfl (.const (.slice none 0 0)) (.tmp 11) 56 61 (.agg #[(.string ⟨#[]⟩), (.string ⟨#[]⟩), (.bool false)]) 40 rfl Try.underlying56 info61 rfl (by decide) (by omega) (.slice none 0 0) ([] : List (S61)) l0 _ _ _ (fun _ => True) (fun _ => False) rfl rfl ?aO ?aR (fun _ _ h => h) (fun _ h => h.elim) ?aF ?aB ?aS ?aL ?_; (case aR => repeat (first | exact HR0.out | (with_reducible refine Kd.C_alloc ?_ _) | (with_reducible refine Kd.C_drewN ?_ _) | (with_reducible refine Kd.C_drew ?_))); (case aB => exact (by repeat (first | (with_reducible first | exact HB.out | apply below_alloc | apply pw_below_drewN | apply below_drew1) | exact HB.out))); (case aF => exact (fun _ _ => trivial)); (case aO => exact ((Kd.R_nil _ _ _ _ (fun _ => True)))); (case aS => exact (below_size (by repeat (first | (with_reducible first | exact HB.out | apply below_alloc | apply pw_below_drewN | apply below_drew1) | exact HB.out)))); (case aL => have := LMc3.out; omega); intro v259 w12 ho hb hg hat; rw [← Ny258.out] at ho; have n0_ := Aside0.mk (hb); have n1_ := Aside0.mk (ho); clear HB; have HB := n0_; have HO260 := n1_; clear n0_ n1_; clear ho hb hg hat) | ((with_reducible refine gate_callee (f := 14) rfl ?_); refine goesL_ (some 14) rfl rfl Try.func14 (by kernel_rfl) rfl #[.slice A1 l1.length c1] rfl (by (try simp only [List.map_toArray, List.map_cons, List.map_nil]); first | done | rfl | (simp only [List.length_drop, List.length_take]; rfl)) ?_; (with_reducible refine (bobbinetkeep_copiedNodes.calls k _ _ l1 t261 _ ?side1 ?side2 A4.out).mono ?_); (case side1 => repeat (first | exact (Kd.C_below HR1.out HB.out) | (with_reducible refine Kd.C_alloc ?_ _) | (with_reducible refine Kd.C_drewN ?_ _) | (with_reducible refine Kd.C_drew ?_))); (case side2 => exact HC1.out); rintro e w13 ⟨v262, rfl, ho0, hb⟩; refine ⟨_, rfl, ?_⟩; have n0_ := Aside0.mk (Kd.R_below (by (with_reducible repeat (first | apply Kd.R_alloc | apply Kd.R_drewN | apply Kd.R_drew)); exact HO260.out) hb); have n1_ := Aside0.mk (Kd.R_lower ho0 (below_size (by repeat (first | (with_reducible first | exact HB.out | apply below_alloc | apply pw_below_drewN | apply below_drew1) | exact HB.out)))); have n2_ := Aside0.mk (below_step (by repeat (first | (with_reducible first | exact HB.out | apply below_alloc | apply pw_below_drewN | apply below_drew1) | exact HB.out)) hb); clear HO260; clear HB; have HO260 := n0_; have HO263 := n1_; have HB := n2_; clear n0_ n1_ n2_; (try clear hb); (try clear hb2); (try clear hk); (try clear hi); (try clear ho0); obtain ⟨Ao14, co14, eo14⟩ := Kd.R_slice HO260.out; subst eo14; obtain ⟨Ao15, co15, eo15⟩ := Kd.R_slice HO263.out; subst eo15) | ((with_reducible refine gate_callee (f := 33) rfl ?_); refine goesL_ (some 15) rfl rfl Try.func33 (by kernel_rfl) rfl #[.slice Ao14 y258.length co14, .slice Ao15 t261.length co15] rfl (by (try simp only [List.map_toArray, List.map_cons, List.map_nil]); first | done | rfl | (simp only [List.length_drop, List.length_take]; rfl)) ?_; (with_reducible refine (pick_Find.calls k _ _ y258 _ _ t261 t264 t265 _ ?side1 ?side2 ?side3 ?side4 A5.out).mono ?_); (case side1 => repeat (first | exact (Kd.R_reads' HO260.out).2.2 | (with_reducible refine Kd.C_alloc ?_ _) | (with_reducible refine Kd.C_drewN ?_ _) | (with_reducible refine Kd.C_drew ?_))); (case side2 => exact (Kd.R_reads' HO260.out).2.1); (case side3 => repeat (first | exact (Kd.R_reads' HO263.out).2.2 | (with_reducible refine Kd.C_alloc ?_ _) | (with_reducible refine Kd.C_drewN ?_ _) | (with_reducible refine Kd.C_drew ?_))); (case side4 => exact (Kd.R_reads' HO263.out).2.1); rintro e w16 ⟨v266, rfl, ho0, hb⟩; refine ⟨_, rfl, ?_⟩; have n0_ := Aside0.mk (Kd.R_below (by (with_reducible repeat (first | apply Kd.R_alloc | apply Kd.R_drewN | apply Kd.R_drew)); exact HO260.out) hb); have n1_ := Aside0.mk (Kd.R_below (by (with_reducible repeat (first | apply Kd.R_alloc | apply Kd.R_drewN | apply Kd.R_drew)); exact HO263.out) hb); have n2_ := Aside0.mk (Kd.S_lower ho0 (below_size (by repeat (first | (with_reducible first | exact HB.out | apply below_alloc | apply pw_below_drewN | apply below_drew1) | exact HB.out)))); have n3_ := Aside0.mk (below_step (by repeat (first | (with_reducible first | exact HB.out | apply below_alloc | apply pw_below_drewN | apply below_drew1) | exact HB.out)) hb); clear HO260; clear HO263; clear HB; have HO260 := n0_; have HO263 := n1_; have HO267 := n2_; have HB := n3_; clear n0_ n1_ n2_ n3_; (try clear hb); (try clear hb2); (try clear hk); (try clear hi); (try clear ho0)) | ((with_reducible refine gate_dst (N := 20) rfl ?_); (try (refine gate_guard (by rfl) ?_; dsimp only)); refine Kd.R_lit k61 _ 61 ?hg (N := 20) ?hd (xs := ([(⟨(⟨#[]⟩ : ByteArray), (⟨#[]⟩ : ByteArray), false⟩ : S61)] : List (S61))) (inner := [.string (⟨#[]⟩ : ByteArray), .string (⟨#[]⟩ : ByteArray), .bool false]) (ok := fun _ => True) (okp := fun _ => True) ?hr ?hp (fun _ hk => hk) trivial (Below.refl _ _) (Nat.le_refl _) (by simp) ?_; (case hd => rfl); (case hg => rfl); (case hr => first | (go_simp; done) | (go_simp; rfl)); (case hp => exact (Reps.c3 (show Kd.M k61 _ _ _ (⟨(⟨#[]⟩ : ByteArray), (⟨#[]⟩ : ByteArray), false⟩ : S61) [.string (⟨#[]⟩ : ByteArray), .string (⟨#[]⟩ : ByteArray), .bool false] from (k61_mkM _ _ _ (⟨(⟨#[]⟩ : ByteArray), (⟨#[]⟩ : ByteArray), false⟩ : S61) )) (Reps.none _ _))); intro v269 w17 ho18 hb hg_ hnew_; clear hg_ hnew_; (first | rw [← Ny268.out] at ho18 | (simp only [Int.reduceToNat] at ho18; rw [← Ny268.out] at ho18)); have n0_ := Aside0.mk (Kd.R_elder' (by (with_reducible repeat (first | apply Kd.R_alloc | apply Kd.R_drewN | apply Kd.R_drew)); exact HO260.out) (Kd.R_base ho18) hb); have n1_ := Aside0.mk (Kd.R_below (by (with_reducible repeat (first | apply Kd.R_alloc | apply Kd.R_drewN | apply Kd.R_drew)); exact HO263.out) hb); have n2_ := Aside0.mk (Kd.S_below (by (with_reducible repeat (first | apply Kd.S_alloc | apply Kd.S_drewN | apply Kd.S_drew)); exact HO267.out) hb); have n3_ := Aside0.mk (Kd.R_lower (Kd.R_new' ho18 (Kd.R_lt (by (with_reducible repeat (first | apply Kd.R_alloc | apply Kd.R_drewN | apply Kd.R_drew)); exact HO260.out))) (below_size (by repeat (first | (with_reducible first | exact HB.out | apply below_alloc | apply pw_below_drewN | apply below_drew1) | exact HB.out)))); have n4_ := Aside0.mk (below_step (by repeat (first | (with_reducible first | exact HB.out | apply below_alloc | apply pw_below_drewN | apply below_drew1) | exact HB.out)) hb); clear HO260; clear HO263; clear HO267; clear HB; have HO260 := n0_; have HO263 := n1_; have HO267 := n2_; have HO270 := n3_; have HB := n4_; clear n0_ n1_ n2_ n3_ n4_; clear hb ho18) | ((with_reducible refine gate_dst (N := 22) rfl ?_); (try (refine gate_guard (by rfl) ?_; dsimp only)); refine Kd.R_lit k28 _ 28 ?hg (N := 22) ?hd (xs := ([(⟨(⟨#[98]⟩ : ByteArray), ([] : List (S68)), (⟨#[]⟩ : ByteArray), ([] : List (S28))⟩ : S28)] : List (S28))) (inner := [.string (⟨#[98]⟩ : ByteArray), .slice none 0 0, .string (⟨#[]⟩ : ByteArray), .slice none 0 0]) (ok := fun _ => True) (okp := fun _ => True) ?hr ?hp (fun _ hk => hk) trivial (Below.refl _ _) (Nat.le_refl _) (by simp) ?_; (case hd => rfl); (case hg => rfl); (case hr => first | (go_simp; done) | (go_simp; rfl)); (case hp => exact (Reps.c4 (show Kd.M k28 _ _ _ (⟨(⟨#[98]⟩ : ByteArray), ([] : List (S68)), (⟨#[]⟩ : ByteArray), ([] : List (S28))⟩ : S28) [.string (⟨#[98]⟩ : ByteArray), .slice none 0 0, .string (⟨#[]⟩ : ByteArray), .slice none 0 0] from (k28_mkM _ _ _ (⟨(⟨#[98]⟩ : ByteArray), ([] : List (S68)), (⟨#[]⟩ : ByteArray), ([] : List (S28))⟩ : S28) (Kd.R_nil _ _ _ _ _) (Kd.R_nil _ _ _ _ _))) (Reps.none _ _))); intro v272 w19 ho20 hb hg_ hnew_; clear hg_ hnew_; (first | rw [← Ny271.out] at ho20 | (simp only [Int.reduceToNat] at ho20; rw [← Ny271.out] at ho20)); have n0_ := Aside0.mk (Kd.R_below (by (with_reducible repeat (first | apply Kd.R_alloc | apply Kd.R_drewN | apply Kd.R_drew)); exact HO260.out) hb); have n1_ := Aside0.mk (Kd.R_elder' (by (with_reducible repeat (first | apply Kd.R_alloc | apply Kd.R_drewN | apply Kd.R_drew)); exact HO263.out) (Kd.R_base ho20) hb); have n2_ := Aside0.mk (Kd.S_below (by (with_reducible repeat (first | apply Kd.S_alloc | apply Kd.S_drewN | apply Kd.S_drew)); exact HO267.out) hb); have n3_ := Aside0.mk (Kd.R_below (by (with_reducible repeat (first | apply Kd.R_alloc | apply Kd.R_drewN | apply Kd.R_drew)); exact HO270.out) hb); have n4_ := Aside0.mk (Kd.R_lower (Kd.R_new' ho20 (Kd.R_lt (by (with_reducible repeat (first | apply Kd.R_alloc | apply Kd.R_drewN | apply Kd.R_drew)); exact HO263.out))) (below_size (by repeat (first | (with_reducible first | exact HB.out | apply below_alloc | apply pw_below_drewN | apply below_drew1) | exact HB.out)))); have n5_ := Aside0.mk (below_step (by repeat (first | (with_reducible first | exact HB.out | apply below_alloc | apply pw_below_drewN | apply below_drew1) | exact HB.out)) hb); clear HO260; clear HO263; clear HO267; clear HO270; clear HB; have HO260 := n0_; have HO263 := n1_; have HO267 := n2_; have HO270 := n3_; have HO273 := n4_; have HB := n5_; clear n0_ n1_ n2_ n3_ n4_ n5_; clear hb ho20; obtain ⟨Ao21, co21, eo21⟩ := Kd.R_slice HO270.out; subst eo21; obtain ⟨Ao22, co22, eo22⟩ := Kd.R_slice HO273.out; subst eo22) | ((with_reducible refine gate_callee (f := 33) rfl ?_); refine goesL_ (some 23) rfl rfl Try.func33 (by kernel_rfl) rfl #[.slice Ao21 y268.length co21, .slice Ao22 y271.length co22] rfl (by (try simp only [List.map_toArray, List.map_cons, List.map_nil]); first | done | rfl | (simp only [List.length_drop, List.length_take]; rfl)) ?_; (with_reducible refine (pick_Find.calls k _ _ y268 _ _ y271 t274 t275 _ ?side1 ?side2 ?side3 ?side4 A6.out).mono ?_); (case side1 => repeat (first | exact (Kd.R_reads' HO270.out).2.2 | (with_reducible refine Kd.C_alloc ?_ _) | (with_reducible refine Kd.C_drewN ?_ _) | (with_reducible refine Kd.C_drew ?_))); (case side2 => exact (Kd.R_reads' HO270.out).2.1); (case side3 => repeat (first | exact (Kd.R_reads' HO273.out).2.2 | (with_reducible refine Kd.C_alloc ?_ _) | (with_reducible refine Kd.C_drewN ?_ _) | (with_reducible refine Kd.C_drew ?_))); (case side4 => exact (Kd.R_reads' HO273.out).2.1); rintro e w23 ⟨v276, rfl, ho0, hb⟩; refine ⟨_, rfl, ?_⟩; have n0_ := Aside0.mk (Kd.R_below (by (with_reducible repeat (first | apply Kd.R_alloc | apply Kd.R_drewN | apply Kd.R_drew)); exact HO260.out) hb); have n1_ := Aside0.mk (Kd.R_below (by (with_reducible repeat (first | apply Kd.R_alloc | apply Kd.R_drewN | apply Kd.R_drew)); exact HO263.out) hb); have n2_ := Aside0.mk (Kd.S_elder' (by (with_reducible repeat (first | apply Kd.S_alloc | apply Kd.S_drewN | apply Kd.S_drew)); exact HO267.out) (Kd.S_base ho0) hb); have n3_ := Aside0.mk (Kd.R_below (by (with_reducible repeat (first | apply Kd.R_alloc | apply Kd.R_drewN | apply Kd.R_drew)); exact HO270.out) hb); have n4_ := Aside0.mk (Kd.R_below (by (with_reducible repeat (first | apply Kd.R_alloc | apply Kd.R_drewN | apply Kd.R_drew)); exact HO273.out) hb); have n5_ := Aside0.mk (Kd.S_lower (Kd.S_new' ho0 (Kd.S_lt (by (with_reducible repeat (first | apply Kd.S_alloc | apply Kd.S_drewN | apply Kd.S_drew)); exact HO267.out))) (below_size (by repeat (first | (with_reducible first | exact HB.out | apply below_alloc | apply pw_below_drewN | apply below_drew1) | exact HB.out)))); have n6_ := Aside0.mk (below_step (by repeat (first | (with_reducible first | exact HB.out | apply below_alloc | apply pw_below_drewN | apply below_drew1) | exact HB.out)) hb); clear HO260; clear HO263; clear HO267; clear HO270; clear HO273; clear HB; have HO260 := n0_; have HO263 := n1_; have HO267 := n2_; have HO270 := n3_; have HO273 := n4_; have HO277 := n5_; have HB := n6_; clear n0_ n1_ n2_ n3_ n4_ n5_ n6_; (try clear hb); (try clear hb2); (try clear hk); (try clear hi); (try clear ho0); obtain ⟨Ao24, co24, eo24⟩ := Kd.S_slice HO277.out; subst eo24; have p278 : 0 ≤ (0 : Int) := (by omega); have q278 : 0 < (t274.length : Int) := of_decide_eq_true (by first | (with_reducible assumption) | assumption); obtain ⟨ad278, A278_0, c278_0, e278, hx278_0, hl278_0, hi278_0⟩ := at_L7 (Kd.S_reads' HO277.out).2.2 0 p278 q278; cases e278; obtain ⟨ce278, hce278, hMe278, hcc278⟩ := Kd.S_get HO277.out [] 0 p278 (by first | exact q278 | exact of_decide_eq_true (by first | (with_reducible assumption) | assumption) | (have e_ := (Kd.S_reads' HO277.out).1; omega)); obtain ⟨ve278_0, rfl, ge278_0⟩ := hMe278; have hv278_0 := hcc278 0 _ rfl; rw [Nat.add_zero, show ((Kd.slice 3 (Kd.int .i64))).sz = 1 from rfl, Nat.mul_one] at hv278_0; replace hv278_0 := Option.some.inj (hv278_0.symm.trans hx278_0); rw [hv278_0] at ge278_0; have HL278_0 := Aside0.mk (show Kd.R (Kd.int .i64) 3 _ _ _ _ (rd_L7 t274 0) from ge278_0); clear hv278_0 ge278_0; clear hcc278 hce278; have qi278 : (0 < t274.length) = True := eq_true (by omega); (try rw [show ((0 : Int)).toNat = 0 from rfl] at hx278_0); (try rw [Addr.add_zero'] at hx278_0); have HR278_0 := Aside0.mk hi278_0; have HC278_0 := Aside0.mk hl278_0; clear hi278_0 hl278_0; replace p278 := eq_true p278; replace q278 := eq_true q278) | ((with_reducible refine gate_dst (N := 42) rfl ?_); (try (refine gate_guard (by rfl) ?_; dsimp only)); refine Kd.R_lit (Kd.int .i64) _ 3 ?hg (N := 42) ?hd (xs := ([0] : List Int)) (inner := [.int .i64 0]) (ok := fun _ => True) (okp := fun _ => True) ?hr ?hp (fun _ hk => hk) trivial (Below.refl _ _) (Nat.le_refl _) (by simp) ?_; (case hd => rfl); (case hg => rfl); (case hr => first | (go_simp; done) | (go_simp; rfl)); (case hp => exact (Reps.one (show Kd.M (Kd.int .i64) _ _ _ 0 [.int .i64 0] from rfl) (Reps.none _ _))); intro v280 w25 ho26 hb hg_ hnew_; clear hg_ hnew_; (first | rw [← Ny279.out] at ho26 | (simp only [Int.reduceToNat] at ho26; rw [← Ny279.out] at ho26)); have n0_ := Aside0.mk (Kd.R_below (by (with_reducible repeat (first | apply Kd.R_alloc | apply Kd.R_drewN | apply Kd.R_drew)); exact HO260.out) hb); have n1_ := Aside0.mk (Kd.R_below (by (with_reducible repeat (first | apply Kd.R_alloc | apply Kd.R_drewN | apply Kd.R_drew)); exact HO263.out) hb); have n2_ := Aside0.mk (Kd.S_elder' (by (with_reducible repeat (first | apply Kd.S_alloc | apply Kd.S_drewN | apply Kd.S_drew)); exact HO267.out) (Kd.R_base ho26) hb); have n3_ := Aside0.mk (Kd.R_below (by (with_reducible repeat (first | apply Kd.R_alloc | apply Kd.R_drewN | apply Kd.R_drew)); exact HO270.out) hb); have n4_ := Aside0.mk (Kd.R_below (by (with_reducible repeat (first | apply Kd.R_alloc | apply Kd.R_drewN | apply Kd.R_drew)); exact HO273.out) hb); have n5_ := Aside0.mk (Kd.S_elder' (by (with_reducible repeat (first | apply Kd.S_alloc | apply Kd.S_drewN | apply Kd.S_drew)); exact HO277.out) (Kd.R_base ho26) hb); have n6_ := Aside0.mk (Kd.R_elder' (by (with_reducible repeat (first | apply Kd.R_alloc | apply Kd.R_drewN | apply Kd.R_drew)); exact HL278_0.out) (Kd.R_base ho26) hb); have n7_ := Aside0.mk (Kd.R_lower (Kd.R_new' ho26 (Kd.R_lt (by (with_reducible repeat (first | apply Kd.R_alloc | apply Kd.R_drewN | apply Kd.R_drew)); exact HL278_0.out))) (below_size (by repeat (first | (with_reducible first | exact HB.out | apply below_alloc | apply pw_below_drewN | apply below_drew1) | exact HB.out)))); (first | have n8_ := Aside0.mk (Kd.C_below (Kd.C_drewN HR278_0.out _) hb) | have n8_ := Aside0.mk (Kd.C_below HR278_0.out hb) | have n8_ := Aside0.mk (Kd.C_below (by repeat (first | (with_reducible exact HR278_0.out) | (with_reducible refine Kd.C_alloc ?_ _) | (with_reducible refine Kd.C_drewN ?_ _) | (with_reducible refine Kd.C_drew ?_) | exact HR278_0.out)) hb)); have n9_ := Aside0.mk (below_step (by repeat (first | (with_reducible first | exact HB.out | apply below_alloc | apply pw_below_drewN | apply below_drew1) | exact HB.out)) hb); clear HO260; clear HO263; clear HO267; clear HO270; clear HO273; clear HO277; clear HL278_0; clear HR278_0; clear HB; have HO260 := n0_; have HO263 := n1_; have HO267 := n2_; have HO270 := n3_; have HO273 := n4_; have HO277 := n5_; have HL278_0 := n6_; have HO281 := n7_; have HR278_0 := n8_; have HB := n9_; clear n0_ n1_ n2_ n3_ n4_ n5_ n6_ n7_ n8_ n9_; clear hb ho26; obtain ⟨Ao27, co27, eo27⟩ := Kd.R_slice HO281.out; subst eo27) | (go_at_call 23; (with_reducible refine (bobbinetkeep_sameInts.calls k _ _ (rd_L7 t274 0) _ _ y279 t282 _ ?side1 ?side2 ?side3 ?side4 A11.out).mono ?_); (case side1 => repeat (first | exact (by repeat (first | (with_reducible exact HR278_0.out) | (with_reducible refine Kd.C_alloc ?_ _) | (with_reducible refine Kd.C_drewN ?_ _) | (with_reducible refine Kd.C_drew ?_) | exact HR278_0.out)) | (with_reducible refine Kd.C_alloc ?_ _) | (with_reducible refine Kd.C_drewN ?_ _) | (with_reducible refine Kd.C_drew ?_))); (case side2 => exact HC278_0.out); (case side3 => repeat (first | exact (Kd.R_reads' HO281.out).2.2 | (with_reducible refine Kd.C_alloc ?_ _) | (with_reducible refine Kd.C_drewN ?_ _) | (with_reducible refine Kd.C_drew ?_))); (case side4 => exact (Kd.R_reads' HO281.out).2.1); rintro e w' ⟨rfl, ⟨nd, rfl⟩⟩))
      go_ret2
      exact ⟨_, by first | rfl | (simp [errW_none, errW_some] <;> rfl) | (simp [*, errW_none, errW_some] <;> rfl), by (with_reducible repeat (first | apply Kd.S_alloc | apply Kd.S_drewN | apply Kd.S_drew)); exact Kd.S_mono HO267.out (fun _ hk => trivial), by repeat (first | (with_reducible first | exact HB.out | apply below_alloc | apply pw_below_drewN | apply below_drew1) | exact HB.out)⟩
     ·
      rw [if_neg c10] at H
      exact absurd H (by simp)
    ·
     rw [if_neg c9] at H
     have c9b0 : ((t274.length : Int) == 1) = false := beq_eq_false_iff_ne.mpr c9
     have c9b1 : ((t274.length : Int) != 1) = true := bne_iff_ne.mpr c9
     simp only [Option.some.injEq, Prod.mk.injEq] at H
     obtain ⟨rfl, rfl⟩ := H
     go_enter Try.func27, Try.ntmps27
     go_wp2_with (first | ((with_reducible refine gate_builtin (b := .append) (xs := #[.const (.slice none 0 0), .tmp 11]) rfl ?_); (try (refine gate_guard (by rfl) ?_; dsimp only)); at_builtin; refine Kd.R_append_rows k61 (w0 := w) w.heap.size rfl (.const (.slice none 0 0)) (.tmp 11) 56 61 (.agg #[(.string ⟨#[]⟩), (.string ⟨#[]⟩), (.bool false)]) 40 rfl Try.underlying56 info61 rfl (by decide) (by omega) (.slice none 0 0) ([] : List (S61)) l0 _ _ _ (fun _ => True) (fun _ => False) rfl rfl ?aO ?aR (fun _ _ h => h) (fun _ h => h.elim) ?aF ?aB ?aS ?aL ?_; (case aR => repeat (first | exact HR0.out | (with_reducible refine Kd.C_alloc ?_ _) | (with_reducible refine Kd.C_drewN ?_ _) | (with_reducible refine Kd.C_drew ?_))); (case aB => exact (by repeat (first | (with_reducible first | exact HB.out | apply below_alloc | apply pw_below_drewN | apply below_drew1) | exact HB.out))); (case aF => exact (fun _ _ => trivial)); (case aO => exact ((Kd.R_nil _ _ _ _ (fun _ => True)))); (case aS => exact (below_size (by repeat (first | (with_reducible first | exact HB.out | apply below_alloc | apply pw_below_drewN | apply below_drew1) | exact HB.out)))); (case aL => have := LMc3.out; omega); intro v259 w28 ho hb hg hat; rw [← Ny258.out] at ho; have n0_ := Aside0.mk (hb); have n1_ := Aside0.mk (ho); clear HB; have HB := n0_; have HO260 := n1_; clear n0_ n1_; clear ho hb hg hat) | ((with_reducible refine gate_callee (f := 14) rfl ?_); refine goesL_ (some 14) rfl rfl Try.func14 (by kernel_rfl) rfl #[.slice A1 l1.length c1] rfl (by (try simp only [List.map_toArray, List.map_cons, List.map_nil]); first | done | rfl | (simp only [List.length_drop, List.length_take]; rfl)) ?_; (with_reducible refine (bobbinetkeep_copiedNodes.calls k _ _ l1 t261 _ ?side1 ?side2 A4.out).mono ?_); (case side1 => repeat (first | exact (Kd.C_below HR1.out HB.out) | (with_reducible refine Kd.C_alloc ?_ _) | (with_reducible refine Kd.C_drewN ?_ _) | (with_reducible refine Kd.C_drew ?_))); (case side2 => exact HC1.out); rintro e w29 ⟨v262, rfl, ho0, hb⟩; refine ⟨_, rfl, ?_⟩; have n0_ := Aside0.mk (Kd.R_below (by (with_reducible repeat (first | apply Kd.R_alloc | apply Kd.R_drewN | apply Kd.R_drew)); exact HO260.out) hb); have n1_ := Aside0.mk (Kd.R_lower ho0 (below_size (by repeat (first | (with_reducible first | exact HB.out | apply below_alloc | apply pw_below_drewN | apply below_drew1) | exact HB.out)))); have n2_ := Aside0.mk (below_step (by repeat (first | (with_reducible first | exact HB.out | apply below_alloc | apply pw_below_drewN | apply below_drew1) | exact HB.out)) hb); clear HO260; clear HB; have HO260 := n0_; have HO263 := n1_; have HB := n2_; clear n0_ n1_ n2_; (try clear hb); (try clear hb2); (try clear hk); (try clear hi); (try clear ho0); obtain ⟨Ao30, co30, eo30⟩ := Kd.R_slice HO260.out; subst eo30; obtain ⟨Ao31, co31, eo31⟩ := Kd.R_slice HO263.out; subst eo31) | ((with_reducible refine gate_callee (f := 33) rfl ?_); refine goesL_ (some 15) rfl rfl Try.func33 (by kernel_rfl) rfl #[.slice Ao30 y258.length co30, .slice Ao31 t261.length co31] rfl (by (try simp only [List.map_toArray, List.map_cons, List.map_nil]); first | done | rfl | (simp only [List.length_drop, List.length_take]; rfl)) ?_; (with_reducible refine (pick_Find.calls k _ _ y258 _ _ t261 t264 t265 _ ?side1 ?side2 ?side3 ?side4 A5.out).mono ?_); (case side1 => repeat (first | exact (Kd.R_reads' HO260.out).2.2 | (with_reducible refine Kd.C_alloc ?_ _) | (with_reducible refine Kd.C_drewN ?_ _) | (with_reducible refine Kd.C_drew ?_))); (case side2 => exact (Kd.R_reads' HO260.out).2.1); (case side3 => repeat (first | exact (Kd.R_reads' HO263.out).2.2 | (with_reducible refine Kd.C_alloc ?_ _) | (with_reducible refine Kd.C_drewN ?_ _) | (with_reducible refine Kd.C_drew ?_))); (case side4 => exact (Kd.R_reads' HO263.out).2.1); rintro e w32 ⟨v266, rfl, ho0, hb⟩; refine ⟨_, rfl, ?_⟩; have n0_ := Aside0.mk (Kd.R_below (by (with_reducible repeat (first | apply Kd.R_alloc | apply Kd.R_drewN | apply Kd.R_drew)); exact HO260.out) hb); have n1_ := Aside0.mk (Kd.R_below (by (with_reducible repeat (first | apply Kd.R_alloc | apply Kd.R_drewN | apply Kd.R_drew)); exact HO263.out) hb); have n2_ := Aside0.mk (Kd.S_lower ho0 (below_size (by repeat (first | (with_reducible first | exact HB.out | apply below_alloc | apply pw_below_drewN | apply below_drew1) | exact HB.out)))); have n3_ := Aside0.mk (below_step (by repeat (first | (with_reducible first | exact HB.out | apply below_alloc | apply pw_below_drewN | apply below_drew1) | exact HB.out)) hb); clear HO260; clear HO263; clear HB; have HO260 := n0_; have HO263 := n1_; have HO267 := n2_; have HB := n3_; clear n0_ n1_ n2_ n3_; (try clear hb); (try clear hb2); (try clear hk); (try clear hi); (try clear ho0)) | ((with_reducible refine gate_dst (N := 20) rfl ?_); (try (refine gate_guard (by rfl) ?_; dsimp only)); refine Kd.R_lit k61 _ 61 ?hg (N := 20) ?hd (xs := ([(⟨(⟨#[]⟩ : ByteArray), (⟨#[]⟩ : ByteArray), false⟩ : S61)] : List (S61))) (inner := [.string (⟨#[]⟩ : ByteArray), .string (⟨#[]⟩ : ByteArray), .bool false]) (ok := fun _ => True) (okp := fun _ => True) ?hr ?hp (fun _ hk => hk) trivial (Below.refl _ _) (Nat.le_refl _) (by simp) ?_; (case hd => rfl); (case hg => rfl); (case hr => first | (go_simp; done) | (go_simp; rfl)); (case hp => exact (Reps.c3 (show Kd.M k61 _ _ _ (⟨(⟨#[]⟩ : ByteArray), (⟨#[]⟩ : ByteArray), false⟩ : S61) [.string (⟨#[]⟩ : ByteArray), .string (⟨#[]⟩ : ByteArray), .bool false] from (k61_mkM _ _ _ (⟨(⟨#[]⟩ : ByteArray), (⟨#[]⟩ : ByteArray), false⟩ : S61) )) (Reps.none _ _))); intro v269 w33 ho34 hb hg_ hnew_; clear hg_ hnew_; (first | rw [← Ny268.out] at ho34 | (simp only [Int.reduceToNat] at ho34; rw [← Ny268.out] at ho34)); have n0_ := Aside0.mk (Kd.R_elder' (by (with_reducible repeat (first | apply Kd.R_alloc | apply Kd.R_drewN | apply Kd.R_drew)); exact HO260.out) (Kd.R_base ho34) hb); have n1_ := Aside0.mk (Kd.R_below (by (with_reducible repeat (first | apply Kd.R_alloc | apply Kd.R_drewN | apply Kd.R_drew)); exact HO263.out) hb); have n2_ := Aside0.mk (Kd.S_below (by (with_reducible repeat (first | apply Kd.S_alloc | apply Kd.S_drewN | apply Kd.S_drew)); exact HO267.out) hb); have n3_ := Aside0.mk (Kd.R_lower (Kd.R_new' ho34 (Kd.R_lt (by (with_reducible repeat (first | apply Kd.R_alloc | apply Kd.R_drewN | apply Kd.R_drew)); exact HO260.out))) (below_size (by repeat (first | (with_reducible first | exact HB.out | apply below_alloc | apply pw_below_drewN | apply below_drew1) | exact HB.out)))); have n4_ := Aside0.mk (below_step (by repeat (first | (with_reducible first | exact HB.out | apply below_alloc | apply pw_below_drewN | apply below_drew1) | exact HB.out)) hb); clear HO260; clear HO263; clear HO267; clear HB; have HO260 := n0_; have HO263 := n1_; have HO267 := n2_; have HO270 := n3_; have HB := n4_; clear n0_ n1_ n2_ n3_ n4_; clear hb ho34) | ((with_reducible refine gate_dst (N := 22) rfl ?_); (try (refine gate_guard (by rfl) ?_; dsimp only)); refine Kd.R_lit k28 _ 28 ?hg (N := 22) ?hd (xs := ([(⟨(⟨#[98]⟩ : ByteArray), ([] : List (S68)), (⟨#[]⟩ : ByteArray), ([] : List (S28))⟩ : S28)] : List (S28))) (inner := [.string (⟨#[98]⟩ : ByteArray), .slice none 0 0, .string (⟨#[]⟩ : ByteArray), .slice none 0 0]) (ok := fun _ => True) (okp := fun _ => True) ?hr ?hp (fun _ hk => hk) trivial (Below.refl _ _) (Nat.le_refl _) (by simp) ?_; (case hd => rfl); (case hg => rfl); (case hr => first | (go_simp; done) | (go_simp; rfl)); (case hp => exact (Reps.c4 (show Kd.M k28 _ _ _ (⟨(⟨#[98]⟩ : ByteArray), ([] : List (S68)), (⟨#[]⟩ : ByteArray), ([] : List (S28))⟩ : S28) [.string (⟨#[98]⟩ : ByteArray), .slice none 0 0, .string (⟨#[]⟩ : ByteArray), .slice none 0 0] from (k28_mkM _ _ _ (⟨(⟨#[98]⟩ : ByteArray), ([] : List (S68)), (⟨#[]⟩ : ByteArray), ([] : List (S28))⟩ : S28) (Kd.R_nil _ _ _ _ _) (Kd.R_nil _ _ _ _ _))) (Reps.none _ _))); intro v272 w35 ho36 hb hg_ hnew_; clear hg_ hnew_; (first | rw [← Ny271.out] at ho36 | (simp only [Int.reduceToNat] at ho36; rw [← Ny271.out] at ho36)); have n0_ := Aside0.mk (Kd.R_below (by (with_reducible repeat (first | apply Kd.R_alloc | apply Kd.R_drewN | apply Kd.R_drew)); exact HO260.out) hb); have n1_ := Aside0.mk (Kd.R_elder' (by (with_reducible repeat (first | apply Kd.R_alloc | apply Kd.R_drewN | apply Kd.R_drew)); exact HO263.out) (Kd.R_base ho36) hb); have n2_ := Aside0.mk (Kd.S_below (by (with_reducible repeat (first | apply Kd.S_alloc | apply Kd.S_drewN | apply Kd.S_drew)); exact HO267.out) hb); have n3_ := Aside0.mk (Kd.R_below (by (with_reducible repeat (first | apply Kd.R_alloc | apply Kd.R_drewN | apply Kd.R_drew)); exact HO270.out) hb); have n4_ := Aside0.mk (Kd.R_lower (Kd.R_new' ho36 (Kd.R_lt (by (with_reducible repeat (first | apply Kd.R_alloc | apply Kd.R_drewN | apply Kd.R_drew)); exact HO263.out))) (below_size (by repeat (first | (with_reducible first | exact HB.out | apply below_alloc | apply pw_below_drewN | apply below_drew1) | exact HB.out)))); have n5_ := Aside0.mk (below_step (by repeat (first | (with_reducible first | exact HB.out | apply below_alloc | apply pw_below_drewN | apply below_drew1) | exact HB.out)) hb); clear HO260; clear HO263; clear HO267; clear HO270; clear HB; have HO260 := n0_; have HO263 := n1_; have HO267 := n2_; have HO270 := n3_; have HO273 := n4_; have HB := n5_; clear n0_ n1_ n2_ n3_ n4_ n5_; clear hb ho36; obtain ⟨Ao37, co37, eo37⟩ := Kd.R_slice HO270.out; subst eo37; obtain ⟨Ao38, co38, eo38⟩ := Kd.R_slice HO273.out; subst eo38) | ((with_reducible refine gate_callee (f := 33) rfl ?_); refine goesL_ (some 23) rfl rfl Try.func33 (by kernel_rfl) rfl #[.slice Ao37 y268.length co37, .slice Ao38 y271.length co38] rfl (by (try simp only [List.map_toArray, List.map_cons, List.map_nil]); first | done | rfl | (simp only [List.length_drop, List.length_take]; rfl)) ?_; (with_reducible refine (pick_Find.calls k _ _ y268 _ _ y271 t274 t275 _ ?side1 ?side2 ?side3 ?side4 A6.out).mono ?_); (case side1 => repeat (first | exact (Kd.R_reads' HO270.out).2.2 | (with_reducible refine Kd.C_alloc ?_ _) | (with_reducible refine Kd.C_drewN ?_ _) | (with_reducible refine Kd.C_drew ?_))); (case side2 => exact (Kd.R_reads' HO270.out).2.1); (case side3 => repeat (first | exact (Kd.R_reads' HO273.out).2.2 | (with_reducible refine Kd.C_alloc ?_ _) | (with_reducible refine Kd.C_drewN ?_ _) | (with_reducible refine Kd.C_drew ?_))); (case side4 => exact (Kd.R_reads' HO273.out).2.1); rintro e w39 ⟨v276, rfl, ho0, hb⟩; refine ⟨_, rfl, ?_⟩; have n0_ := Aside0.mk (Kd.R_below (by (with_reducible repeat (first | apply Kd.R_alloc | apply Kd.R_drewN | apply Kd.R_drew)); exact HO260.out) hb); have n1_ := Aside0.mk (Kd.R_below (by (with_reducible repeat (first | apply Kd.R_alloc | apply Kd.R_drewN | apply Kd.R_drew)); exact HO263.out) hb); have n2_ := Aside0.mk (Kd.S_elder' (by (with_reducible repeat (first | apply Kd.S_alloc | apply Kd.S_drewN | apply Kd.S_drew)); exact HO267.out) (Kd.S_base ho0) hb); have n3_ := Aside0.mk (Kd.R_below (by (with_reducible repeat (first | apply Kd.R_alloc | apply Kd.R_drewN | apply Kd.R_drew)); exact HO270.out) hb); have n4_ := Aside0.mk (Kd.R_below (by (with_reducible repeat (first | apply Kd.R_alloc | apply Kd.R_drewN | apply Kd.R_drew)); exact HO273.out) hb); have n5_ := Aside0.mk (Kd.S_lower (Kd.S_new' ho0 (Kd.S_lt (by (with_reducible repeat (first | apply Kd.S_alloc | apply Kd.S_drewN | apply Kd.S_drew)); exact HO267.out))) (below_size (by repeat (first | (with_reducible first | exact HB.out | apply below_alloc | apply pw_below_drewN | apply below_drew1) | exact HB.out)))); have n6_ := Aside0.mk (below_step (by repeat (first | (with_reducible first | exact HB.out | apply below_alloc | apply pw_below_drewN | apply below_drew1) | exact HB.out)) hb); clear HO260; clear HO263; clear HO267; clear HO270; clear HO273; clear HB; have HO260 := n0_; have HO263 := n1_; have HO267 := n2_; have HO270 := n3_; have HO273 := n4_; have HO277 := n5_; have HB := n6_; clear n0_ n1_ n2_ n3_ n4_ n5_ n6_; (try clear hb); (try clear hb2); (try clear hk); (try clear hi); (try clear ho0); obtain ⟨Ao40, co40, eo40⟩ := Kd.S_slice HO277.out; subst eo40))
     go_ret2
     exact ⟨_, by first | rfl | (simp [errW_none, errW_some] <;> rfl) | (simp [*, errW_none, errW_some] <;> rfl), by (with_reducible repeat (first | apply Kd.S_alloc | apply Kd.S_drewN | apply Kd.S_drew)); exact Kd.S_mono HO267.out (fun _ hk => trivial), by repeat (first | (with_reducible first | exact HB.out | apply below_alloc | apply pw_below_drewN | apply below_drew1) | exact HB.out)⟩
   ·
    rw [if_neg c8] at H
    have c8b0 : (t275 == 0) = false := beq_eq_false_iff_ne.mpr c8
    have c8b1 : (t275 != 0) = true := bne_iff_ne.mpr c8
    simp only [Option.some.injEq, Prod.mk.injEq] at H
    obtain ⟨rfl, rfl⟩ := H
    go_enter Try.func27, Try.ntmps27
    go_wp2_with (first | ((with_reducible refine gate_builtin (b := .append) (xs := #[.const (.slice none 0 0), .tmp 11]) rfl ?_); (try (refine gate_guard (by rfl) ?_; dsimp only)); at_builtin; refine Kd.R_append_rows k61 (w0 := w) w.heap.size rfl (.const (.slice none 0 0)) (.tmp 11) 56 61 (.agg #[(.string ⟨#[]⟩), (.string ⟨#[]⟩), (.bool false)]) 40 rfl Try.underlying56 info61 rfl (by decide) (by omega) (.slice none 0 0) ([] : List (S61)) l0 _ _ _ (fun _ => True) (fun _ => False) rfl rfl ?aO ?aR (fun _ _ h => h) (fun _ h => h.elim) ?aF ?aB ?aS ?aL ?_; (case aR => repeat (first | exact HR0.out | (with_reducible refine Kd.C_alloc ?_ _) | (with_reducible refine Kd.C_drewN ?_ _) | (with_reducible refine Kd.C_drew ?_))); (case aB => exact (by repeat (first | (with_reducible first | exact HB.out | apply below_alloc | apply pw_below_drewN | apply below_drew1) | exact HB.out))); (case aF => exact (fun _ _ => trivial)); (case aO => exact ((Kd.R_nil _ _ _ _ (fun _ => True)))); (case aS => exact (below_size (by repeat (first | (with_reducible first | exact HB.out | apply below_alloc | apply pw_below_drewN | apply below_drew1) | exact HB.out)))); (case aL => have := LMc3.out; omega); intro v259 w41 ho hb hg hat; rw [← Ny258.out] at ho; have n0_ := Aside0.mk (hb); have n1_ := Aside0.mk (ho); clear HB; have HB := n0_; have HO260 := n1_; clear n0_ n1_; clear ho hb hg hat) | ((with_reducible refine gate_callee (f := 14) rfl ?_); refine goesL_ (some 14) rfl rfl Try.func14 (by kernel_rfl) rfl #[.slice A1 l1.length c1] rfl (by (try simp only [List.map_toArray, List.map_cons, List.map_nil]); first | done | rfl | (simp only [List.length_drop, List.length_take]; rfl)) ?_; (with_reducible refine (bobbinetkeep_copiedNodes.calls k _ _ l1 t261 _ ?side1 ?side2 A4.out).mono ?_); (case side1 => repeat (first | exact (Kd.C_below HR1.out HB.out) | (with_reducible refine Kd.C_alloc ?_ _) | (with_reducible refine Kd.C_drewN ?_ _) | (with_reducible refine Kd.C_drew ?_))); (case side2 => exact HC1.out); rintro e w42 ⟨v262, rfl, ho0, hb⟩; refine ⟨_, rfl, ?_⟩; have n0_ := Aside0.mk (Kd.R_below (by (with_reducible repeat (first | apply Kd.R_alloc | apply Kd.R_drewN | apply Kd.R_drew)); exact HO260.out) hb); have n1_ := Aside0.mk (Kd.R_lower ho0 (below_size (by repeat (first | (with_reducible first | exact HB.out | apply below_alloc | apply pw_below_drewN | apply below_drew1) | exact HB.out)))); have n2_ := Aside0.mk (below_step (by repeat (first | (with_reducible first | exact HB.out | apply below_alloc | apply pw_below_drewN | apply below_drew1) | exact HB.out)) hb); clear HO260; clear HB; have HO260 := n0_; have HO263 := n1_; have HB := n2_; clear n0_ n1_ n2_; (try clear hb); (try clear hb2); (try clear hk); (try clear hi); (try clear ho0); obtain ⟨Ao43, co43, eo43⟩ := Kd.R_slice HO260.out; subst eo43; obtain ⟨Ao44, co44, eo44⟩ := Kd.R_slice HO263.out; subst eo44) | ((with_reducible refine gate_callee (f := 33) rfl ?_); refine goesL_ (some 15) rfl rfl Try.func33 (by kernel_rfl) rfl #[.slice Ao43 y258.length co43, .slice Ao44 t261.length co44] rfl (by (try simp only [List.map_toArray, List.map_cons, List.map_nil]); first | done | rfl | (simp only [List.length_drop, List.length_take]; rfl)) ?_; (with_reducible refine (pick_Find.calls k _ _ y258 _ _ t261 t264 t265 _ ?side1 ?side2 ?side3 ?side4 A5.out).mono ?_); (case side1 => repeat (first | exact (Kd.R_reads' HO260.out).2.2 | (with_reducible refine Kd.C_alloc ?_ _) | (with_reducible refine Kd.C_drewN ?_ _) | (with_reducible refine Kd.C_drew ?_))); (case side2 => exact (Kd.R_reads' HO260.out).2.1); (case side3 => repeat (first | exact (Kd.R_reads' HO263.out).2.2 | (with_reducible refine Kd.C_alloc ?_ _) | (with_reducible refine Kd.C_drewN ?_ _) | (with_reducible refine Kd.C_drew ?_))); (case side4 => exact (Kd.R_reads' HO263.out).2.1); rintro e w45 ⟨v266, rfl, ho0, hb⟩; refine ⟨_, rfl, ?_⟩; have n0_ := Aside0.mk (Kd.R_below (by (with_reducible repeat (first | apply Kd.R_alloc | apply Kd.R_drewN | apply Kd.R_drew)); exact HO260.out) hb); have n1_ := Aside0.mk (Kd.R_below (by (with_reducible repeat (first | apply Kd.R_alloc | apply Kd.R_drewN | apply Kd.R_drew)); exact HO263.out) hb); have n2_ := Aside0.mk (Kd.S_lower ho0 (below_size (by repeat (first | (with_reducible first | exact HB.out | apply below_alloc | apply pw_below_drewN | apply below_drew1) | exact HB.out)))); have n3_ := Aside0.mk (below_step (by repeat (first | (with_reducible first | exact HB.out | apply below_alloc | apply pw_below_drewN | apply below_drew1) | exact HB.out)) hb); clear HO260; clear HO263; clear HB; have HO260 := n0_; have HO263 := n1_; have HO267 := n2_; have HB := n3_; clear n0_ n1_ n2_ n3_; (try clear hb); (try clear hb2); (try clear hk); (try clear hi); (try clear ho0)) | ((with_reducible refine gate_dst (N := 20) rfl ?_); (try (refine gate_guard (by rfl) ?_; dsimp only)); refine Kd.R_lit k61 _ 61 ?hg (N := 20) ?hd (xs := ([(⟨(⟨#[]⟩ : ByteArray), (⟨#[]⟩ : ByteArray), false⟩ : S61)] : List (S61))) (inner := [.string (⟨#[]⟩ : ByteArray), .string (⟨#[]⟩ : ByteArray), .bool false]) (ok := fun _ => True) (okp := fun _ => True) ?hr ?hp (fun _ hk => hk) trivial (Below.refl _ _) (Nat.le_refl _) (by simp) ?_; (case hd => rfl); (case hg => rfl); (case hr => first | (go_simp; done) | (go_simp; rfl)); (case hp => exact (Reps.c3 (show Kd.M k61 _ _ _ (⟨(⟨#[]⟩ : ByteArray), (⟨#[]⟩ : ByteArray), false⟩ : S61) [.string (⟨#[]⟩ : ByteArray), .string (⟨#[]⟩ : ByteArray), .bool false] from (k61_mkM _ _ _ (⟨(⟨#[]⟩ : ByteArray), (⟨#[]⟩ : ByteArray), false⟩ : S61) )) (Reps.none _ _))); intro v269 w46 ho47 hb hg_ hnew_; clear hg_ hnew_; (first | rw [← Ny268.out] at ho47 | (simp only [Int.reduceToNat] at ho47; rw [← Ny268.out] at ho47)); have n0_ := Aside0.mk (Kd.R_elder' (by (with_reducible repeat (first | apply Kd.R_alloc | apply Kd.R_drewN | apply Kd.R_drew)); exact HO260.out) (Kd.R_base ho47) hb); have n1_ := Aside0.mk (Kd.R_below (by (with_reducible repeat (first | apply Kd.R_alloc | apply Kd.R_drewN | apply Kd.R_drew)); exact HO263.out) hb); have n2_ := Aside0.mk (Kd.S_below (by (with_reducible repeat (first | apply Kd.S_alloc | apply Kd.S_drewN | apply Kd.S_drew)); exact HO267.out) hb); have n3_ := Aside0.mk (Kd.R_lower (Kd.R_new' ho47 (Kd.R_lt (by (with_reducible repeat (first | apply Kd.R_alloc | apply Kd.R_drewN | apply Kd.R_drew)); exact HO260.out))) (below_size (by repeat (first | (with_reducible first | exact HB.out | apply below_alloc | apply pw_below_drewN | apply below_drew1) | exact HB.out)))); have n4_ := Aside0.mk (below_step (by repeat (first | (with_reducible first | exact HB.out | apply below_alloc | apply pw_below_drewN | apply below_drew1) | exact HB.out)) hb); clear HO260; clear HO263; clear HO267; clear HB; have HO260 := n0_; have HO263 := n1_; have HO267 := n2_; have HO270 := n3_; have HB := n4_; clear n0_ n1_ n2_ n3_ n4_; clear hb ho47) | ((with_reducible refine gate_dst (N := 22) rfl ?_); (try (refine gate_guard (by rfl) ?_; dsimp only)); refine Kd.R_lit k28 _ 28 ?hg (N := 22) ?hd (xs := ([(⟨(⟨#[98]⟩ : ByteArray), ([] : List (S68)), (⟨#[]⟩ : ByteArray), ([] : List (S28))⟩ : S28)] : List (S28))) (inner := [.string (⟨#[98]⟩ : ByteArray), .slice none 0 0, .string (⟨#[]⟩ : ByteArray), .slice none 0 0]) (ok := fun _ => True) (okp := fun _ => True) ?hr ?hp (fun _ hk => hk) trivial (Below.refl _ _) (Nat.le_refl _) (by simp) ?_; (case hd => rfl); (case hg => rfl); (case hr => first | (go_simp; done) | (go_simp; rfl)); (case hp => exact (Reps.c4 (show Kd.M k28 _ _ _ (⟨(⟨#[98]⟩ : ByteArray), ([] : List (S68)), (⟨#[]⟩ : ByteArray), ([] : List (S28))⟩ : S28) [.string (⟨#[98]⟩ : ByteArray), .slice none 0 0, .string (⟨#[]⟩ : ByteArray), .slice none 0 0] from (k28_mkM _ _ _ (⟨(⟨#[98]⟩ : ByteArray), ([] : List (S68)), (⟨#[]⟩ : ByteArray), ([] : List (S28))⟩ : S28) (Kd.R_nil _ _ _ _ _) (Kd.R_nil _ _ _ _ _))) (Reps.none _ _))); intro v272 w48 ho49 hb hg_ hnew_; clear hg_ hnew_; (first | rw [← Ny271.out] at ho49 | (simp only [Int.reduceToNat] at ho49; rw [← Ny271.out] at ho49)); have n0_ := Aside0.mk (Kd.R_below (by (with_reducible repeat (first | apply Kd.R_alloc | apply Kd.R_drewN | apply Kd.R_drew)); exact HO260.out) hb); have n1_ := Aside0.mk (Kd.R_elder' (by (with_reducible repeat (first | apply Kd.R_alloc | apply Kd.R_drewN | apply Kd.R_drew)); exact HO263.out) (Kd.R_base ho49) hb); have n2_ := Aside0.mk (Kd.S_below (by (with_reducible repeat (first | apply Kd.S_alloc | apply Kd.S_drewN | apply Kd.S_drew)); exact HO267.out) hb); have n3_ := Aside0.mk (Kd.R_below (by (with_reducible repeat (first | apply Kd.R_alloc | apply Kd.R_drewN | apply Kd.R_drew)); exact HO270.out) hb); have n4_ := Aside0.mk (Kd.R_lower (Kd.R_new' ho49 (Kd.R_lt (by (with_reducible repeat (first | apply Kd.R_alloc | apply Kd.R_drewN | apply Kd.R_drew)); exact HO263.out))) (below_size (by repeat (first | (with_reducible first | exact HB.out | apply below_alloc | apply pw_below_drewN | apply below_drew1) | exact HB.out)))); have n5_ := Aside0.mk (below_step (by repeat (first | (with_reducible first | exact HB.out | apply below_alloc | apply pw_below_drewN | apply below_drew1) | exact HB.out)) hb); clear HO260; clear HO263; clear HO267; clear HO270; clear HB; have HO260 := n0_; have HO263 := n1_; have HO267 := n2_; have HO270 := n3_; have HO273 := n4_; have HB := n5_; clear n0_ n1_ n2_ n3_ n4_ n5_; clear hb ho49; obtain ⟨Ao50, co50, eo50⟩ := Kd.R_slice HO270.out; subst eo50; obtain ⟨Ao51, co51, eo51⟩ := Kd.R_slice HO273.out; subst eo51) | ((with_reducible refine gate_callee (f := 33) rfl ?_); refine goesL_ (some 23) rfl rfl Try.func33 (by kernel_rfl) rfl #[.slice Ao50 y268.length co50, .slice Ao51 y271.length co51] rfl (by (try simp only [List.map_toArray, List.map_cons, List.map_nil]); first | done | rfl | (simp only [List.length_drop, List.length_take]; rfl)) ?_; (with_reducible refine (pick_Find.calls k _ _ y268 _ _ y271 t274 t275 _ ?side1 ?side2 ?side3 ?side4 A6.out).mono ?_); (case side1 => repeat (first | exact (Kd.R_reads' HO270.out).2.2 | (with_reducible refine Kd.C_alloc ?_ _) | (with_reducible refine Kd.C_drewN ?_ _) | (with_reducible refine Kd.C_drew ?_))); (case side2 => exact (Kd.R_reads' HO270.out).2.1); (case side3 => repeat (first | exact (Kd.R_reads' HO273.out).2.2 | (with_reducible refine Kd.C_alloc ?_ _) | (with_reducible refine Kd.C_drewN ?_ _) | (with_reducible refine Kd.C_drew ?_))); (case side4 => exact (Kd.R_reads' HO273.out).2.1); rintro e w52 ⟨v276, rfl, ho0, hb⟩; refine ⟨_, rfl, ?_⟩; have n0_ := Aside0.mk (Kd.R_below (by (with_reducible repeat (first | apply Kd.R_alloc | apply Kd.R_drewN | apply Kd.R_drew)); exact HO260.out) hb); have n1_ := Aside0.mk (Kd.R_below (by (with_reducible repeat (first | apply Kd.R_alloc | apply Kd.R_drewN | apply Kd.R_drew)); exact HO263.out) hb); have n2_ := Aside0.mk (Kd.S_elder' (by (with_reducible repeat (first | apply Kd.S_alloc | apply Kd.S_drewN | apply Kd.S_drew)); exact HO267.out) (Kd.S_base ho0) hb); have n3_ := Aside0.mk (Kd.R_below (by (with_reducible repeat (first | apply Kd.R_alloc | apply Kd.R_drewN | apply Kd.R_drew)); exact HO270.out) hb); have n4_ := Aside0.mk (Kd.R_below (by (with_reducible repeat (first | apply Kd.R_alloc | apply Kd.R_drewN | apply Kd.R_drew)); exact HO273.out) hb); have n5_ := Aside0.mk (Kd.S_lower (Kd.S_new' ho0 (Kd.S_lt (by (with_reducible repeat (first | apply Kd.S_alloc | apply Kd.S_drewN | apply Kd.S_drew)); exact HO267.out))) (below_size (by repeat (first | (with_reducible first | exact HB.out | apply below_alloc | apply pw_below_drewN | apply below_drew1) | exact HB.out)))); have n6_ := Aside0.mk (below_step (by repeat (first | (with_reducible first | exact HB.out | apply below_alloc | apply pw_below_drewN | apply below_drew1) | exact HB.out)) hb); clear HO260; clear HO263; clear HO267; clear HO270; clear HO273; clear HB; have HO260 := n0_; have HO263 := n1_; have HO267 := n2_; have HO270 := n3_; have HO273 := n4_; have HO277 := n5_; have HB := n6_; clear n0_ n1_ n2_ n3_ n4_ n5_ n6_; (try clear hb); (try clear hb2); (try clear hk); (try clear hi); (try clear ho0)))
    go_ret2
    exact ⟨_, by first | rfl | (simp [errW_none, errW_some] <;> rfl) | (simp [*, errW_none, errW_some] <;> rfl), by (with_reducible repeat (first | apply Kd.S_alloc | apply Kd.S_drewN | apply Kd.S_drew)); exact Kd.S_mono HO267.out (fun _ hk => trivial), by repeat (first | (with_reducible first | exact HB.out | apply below_alloc | apply pw_below_drewN | apply below_drew1) | exact HB.out)⟩
  ·
   rw [if_neg c7] at H
   have c7b0 : (t265 == 0) = false := beq_eq_false_iff_ne.mpr c7
   have c7b1 : (t265 != 0) = true := bne_iff_ne.mpr c7
   simp only [Option.some.injEq, Prod.mk.injEq] at H
   obtain ⟨rfl, rfl⟩ := H
   go_enter Try.func27, Try.ntmps27
   go_wp2_with (first | ((with_reducible refine gate_builtin (b := .append) (xs := #[.const (.slice none 0 0), .tmp 11]) rfl ?_); (try (refine gate_guard (by rfl) ?_; dsimp only)); at_builtin; refine Kd.R_append_rows k61 (w0 := w) w.heap.size rfl (.const (.slice none 0 0)) (.tmp 11) 56 61 (.agg #[(.string ⟨#[]⟩), (.string ⟨#[]⟩), (.bool false)]) 40 rfl Try.underlying56 info61 rfl (by decide) (by omega) (.slice none 0 0) ([] : List (S61)) l0 _ _ _ (fun _ => True) (fun _ => False) rfl rfl ?aO ?aR (fun _ _ h => h) (fun _ h => h.elim) ?aF ?aB ?aS ?aL ?_; (case aR => repeat (first | exact HR0.out | (with_reducible refine Kd.C_alloc ?_ _) | (with_reducible refine Kd.C_drewN ?_ _) | (with_reducible refine Kd.C_drew ?_))); (case aB => exact (by repeat (first | (with_reducible first | exact HB.out | apply below_alloc | apply pw_below_drewN | apply below_drew1) | exact HB.out))); (case aF => exact (fun _ _ => trivial)); (case aO => exact ((Kd.R_nil _ _ _ _ (fun _ => True)))); (case aS => exact (below_size (by repeat (first | (with_reducible first | exact HB.out | apply below_alloc | apply pw_below_drewN | apply below_drew1) | exact HB.out)))); (case aL => have := LMc3.out; omega); intro v259 w53 ho hb hg hat; rw [← Ny258.out] at ho; have n0_ := Aside0.mk (hb); have n1_ := Aside0.mk (ho); clear HB; have HB := n0_; have HO260 := n1_; clear n0_ n1_; clear ho hb hg hat) | ((with_reducible refine gate_callee (f := 14) rfl ?_); refine goesL_ (some 14) rfl rfl Try.func14 (by kernel_rfl) rfl #[.slice A1 l1.length c1] rfl (by (try simp only [List.map_toArray, List.map_cons, List.map_nil]); first | done | rfl | (simp only [List.length_drop, List.length_take]; rfl)) ?_; (with_reducible refine (bobbinetkeep_copiedNodes.calls k _ _ l1 t261 _ ?side1 ?side2 A4.out).mono ?_); (case side1 => repeat (first | exact (Kd.C_below HR1.out HB.out) | (with_reducible refine Kd.C_alloc ?_ _) | (with_reducible refine Kd.C_drewN ?_ _) | (with_reducible refine Kd.C_drew ?_))); (case side2 => exact HC1.out); rintro e w54 ⟨v262, rfl, ho0, hb⟩; refine ⟨_, rfl, ?_⟩; have n0_ := Aside0.mk (Kd.R_below (by (with_reducible repeat (first | apply Kd.R_alloc | apply Kd.R_drewN | apply Kd.R_drew)); exact HO260.out) hb); have n1_ := Aside0.mk (Kd.R_lower ho0 (below_size (by repeat (first | (with_reducible first | exact HB.out | apply below_alloc | apply pw_below_drewN | apply below_drew1) | exact HB.out)))); have n2_ := Aside0.mk (below_step (by repeat (first | (with_reducible first | exact HB.out | apply below_alloc | apply pw_below_drewN | apply below_drew1) | exact HB.out)) hb); clear HO260; clear HB; have HO260 := n0_; have HO263 := n1_; have HB := n2_; clear n0_ n1_ n2_; (try clear hb); (try clear hb2); (try clear hk); (try clear hi); (try clear ho0); obtain ⟨Ao55, co55, eo55⟩ := Kd.R_slice HO260.out; subst eo55; obtain ⟨Ao56, co56, eo56⟩ := Kd.R_slice HO263.out; subst eo56) | ((with_reducible refine gate_callee (f := 33) rfl ?_); refine goesL_ (some 15) rfl rfl Try.func33 (by kernel_rfl) rfl #[.slice Ao55 y258.length co55, .slice Ao56 t261.length co56] rfl (by (try simp only [List.map_toArray, List.map_cons, List.map_nil]); first | done | rfl | (simp only [List.length_drop, List.length_take]; rfl)) ?_; (with_reducible refine (pick_Find.calls k _ _ y258 _ _ t261 t264 t265 _ ?side1 ?side2 ?side3 ?side4 A5.out).mono ?_); (case side1 => repeat (first | exact (Kd.R_reads' HO260.out).2.2 | (with_reducible refine Kd.C_alloc ?_ _) | (with_reducible refine Kd.C_drewN ?_ _) | (with_reducible refine Kd.C_drew ?_))); (case side2 => exact (Kd.R_reads' HO260.out).2.1); (case side3 => repeat (first | exact (Kd.R_reads' HO263.out).2.2 | (with_reducible refine Kd.C_alloc ?_ _) | (with_reducible refine Kd.C_drewN ?_ _) | (with_reducible refine Kd.C_drew ?_))); (case side4 => exact (Kd.R_reads' HO263.out).2.1); rintro e w57 ⟨v266, rfl, ho0, hb⟩; refine ⟨_, rfl, ?_⟩; have n0_ := Aside0.mk (Kd.R_below (by (with_reducible repeat (first | apply Kd.R_alloc | apply Kd.R_drewN | apply Kd.R_drew)); exact HO260.out) hb); have n1_ := Aside0.mk (Kd.R_below (by (with_reducible repeat (first | apply Kd.R_alloc | apply Kd.R_drewN | apply Kd.R_drew)); exact HO263.out) hb); have n2_ := Aside0.mk (Kd.S_lower ho0 (below_size (by repeat (first | (with_reducible first | exact HB.out | apply below_alloc | apply pw_below_drewN | apply below_drew1) | exact HB.out)))); have n3_ := Aside0.mk (below_step (by repeat (first | (with_reducible first | exact HB.out | apply below_alloc | apply pw_below_drewN | apply below_drew1) | exact HB.out)) hb); clear HO260; clear HO263; clear HB; have HO260 := n0_; have HO263 := n1_; have HO267 := n2_; have HB := n3_; clear n0_ n1_ n2_ n3_; (try clear hb); (try clear hb2); (try clear hk); (try clear hi); (try clear ho0)) | ((with_reducible refine gate_dst (N := 20) rfl ?_); (try (refine gate_guard (by rfl) ?_; dsimp only)); refine Kd.R_lit k61 _ 61 ?hg (N := 20) ?hd (xs := ([(⟨(⟨#[]⟩ : ByteArray), (⟨#[]⟩ : ByteArray), false⟩ : S61)] : List (S61))) (inner := [.string (⟨#[]⟩ : ByteArray), .string (⟨#[]⟩ : ByteArray), .bool false]) (ok := fun _ => True) (okp := fun _ => True) ?hr ?hp (fun _ hk => hk) trivial (Below.refl _ _) (Nat.le_refl _) (by simp) ?_; (case hd => rfl); (case hg => rfl); (case hr => first | (go_simp; done) | (go_simp; rfl)); (case hp => exact (Reps.c3 (show Kd.M k61 _ _ _ (⟨(⟨#[]⟩ : ByteArray), (⟨#[]⟩ : ByteArray), false⟩ : S61) [.string (⟨#[]⟩ : ByteArray), .string (⟨#[]⟩ : ByteArray), .bool false] from (k61_mkM _ _ _ (⟨(⟨#[]⟩ : ByteArray), (⟨#[]⟩ : ByteArray), false⟩ : S61) )) (Reps.none _ _))); intro v269 w58 ho59 hb hg_ hnew_; clear hg_ hnew_; (first | rw [← Ny268.out] at ho59 | (simp only [Int.reduceToNat] at ho59; rw [← Ny268.out] at ho59)); have n0_ := Aside0.mk (Kd.R_elder' (by (with_reducible repeat (first | apply Kd.R_alloc | apply Kd.R_drewN | apply Kd.R_drew)); exact HO260.out) (Kd.R_base ho59) hb); have n1_ := Aside0.mk (Kd.R_below (by (with_reducible repeat (first | apply Kd.R_alloc | apply Kd.R_drewN | apply Kd.R_drew)); exact HO263.out) hb); have n2_ := Aside0.mk (Kd.S_below (by (with_reducible repeat (first | apply Kd.S_alloc | apply Kd.S_drewN | apply Kd.S_drew)); exact HO267.out) hb); have n3_ := Aside0.mk (Kd.R_lower (Kd.R_new' ho59 (Kd.R_lt (by (with_reducible repeat (first | apply Kd.R_alloc | apply Kd.R_drewN | apply Kd.R_drew)); exact HO260.out))) (below_size (by repeat (first | (with_reducible first | exact HB.out | apply below_alloc | apply pw_below_drewN | apply below_drew1) | exact HB.out)))); have n4_ := Aside0.mk (below_step (by repeat (first | (with_reducible first | exact HB.out | apply below_alloc | apply pw_below_drewN | apply below_drew1) | exact HB.out)) hb); clear HO260; clear HO263; clear HO267; clear HB; have HO260 := n0_; have HO263 := n1_; have HO267 := n2_; have HO270 := n3_; have HB := n4_; clear n0_ n1_ n2_ n3_ n4_; clear hb ho59) | ((with_reducible refine gate_dst (N := 22) rfl ?_); (try (refine gate_guard (by rfl) ?_; dsimp only)); refine Kd.R_lit k28 _ 28 ?hg (N := 22) ?hd (xs := ([(⟨(⟨#[98]⟩ : ByteArray), ([] : List (S68)), (⟨#[]⟩ : ByteArray), ([] : List (S28))⟩ : S28)] : List (S28))) (inner := [.string (⟨#[98]⟩ : ByteArray), .slice none 0 0, .string (⟨#[]⟩ : ByteArray), .slice none 0 0]) (ok := fun _ => True) (okp := fun _ => True) ?hr ?hp (fun _ hk => hk) trivial (Below.refl _ _) (Nat.le_refl _) (by simp) ?_; (case hd => rfl); (case hg => rfl); (case hr => first | (go_simp; done) | (go_simp; rfl)); (case hp => exact (Reps.c4 (show Kd.M k28 _ _ _ (⟨(⟨#[98]⟩ : ByteArray), ([] : List (S68)), (⟨#[]⟩ : ByteArray), ([] : List (S28))⟩ : S28) [.string (⟨#[98]⟩ : ByteArray), .slice none 0 0, .string (⟨#[]⟩ : ByteArray), .slice none 0 0] from (k28_mkM _ _ _ (⟨(⟨#[98]⟩ : ByteArray), ([] : List (S68)), (⟨#[]⟩ : ByteArray), ([] : List (S28))⟩ : S28) (Kd.R_nil _ _ _ _ _) (Kd.R_nil _ _ _ _ _))) (Reps.none _ _))); intro v272 w60 ho61 hb hg_ hnew_; clear hg_ hnew_; (first | rw [← Ny271.out] at ho61 | (simp only [Int.reduceToNat] at ho61; rw [← Ny271.out] at ho61)); have n0_ := Aside0.mk (Kd.R_below (by (with_reducible repeat (first | apply Kd.R_alloc | apply Kd.R_drewN | apply Kd.R_drew)); exact HO260.out) hb); have n1_ := Aside0.mk (Kd.R_elder' (by (with_reducible repeat (first | apply Kd.R_alloc | apply Kd.R_drewN | apply Kd.R_drew)); exact HO263.out) (Kd.R_base ho61) hb); have n2_ := Aside0.mk (Kd.S_below (by (with_reducible repeat (first | apply Kd.S_alloc | apply Kd.S_drewN | apply Kd.S_drew)); exact HO267.out) hb); have n3_ := Aside0.mk (Kd.R_below (by (with_reducible repeat (first | apply Kd.R_alloc | apply Kd.R_drewN | apply Kd.R_drew)); exact HO270.out) hb); have n4_ := Aside0.mk (Kd.R_lower (Kd.R_new' ho61 (Kd.R_lt (by (with_reducible repeat (first | apply Kd.R_alloc | apply Kd.R_drewN | apply Kd.R_drew)); exact HO263.out))) (below_size (by repeat (first | (with_reducible first | exact HB.out | apply below_alloc | apply pw_below_drewN | apply below_drew1) | exact HB.out)))); have n5_ := Aside0.mk (below_step (by repeat (first | (with_reducible first | exact HB.out | apply below_alloc | apply pw_below_drewN | apply below_drew1) | exact HB.out)) hb); clear HO260; clear HO263; clear HO267; clear HO270; clear HB; have HO260 := n0_; have HO263 := n1_; have HO267 := n2_; have HO270 := n3_; have HO273 := n4_; have HB := n5_; clear n0_ n1_ n2_ n3_ n4_ n5_; clear hb ho61; obtain ⟨Ao62, co62, eo62⟩ := Kd.R_slice HO270.out; subst eo62; obtain ⟨Ao63, co63, eo63⟩ := Kd.R_slice HO273.out; subst eo63) | ((with_reducible refine gate_callee (f := 33) rfl ?_); refine goesL_ (some 23) rfl rfl Try.func33 (by kernel_rfl) rfl #[.slice Ao62 y268.length co62, .slice Ao63 y271.length co63] rfl (by (try simp only [List.map_toArray, List.map_cons, List.map_nil]); first | done | rfl | (simp only [List.length_drop, List.length_take]; rfl)) ?_; (with_reducible refine (pick_Find.calls k _ _ y268 _ _ y271 t274 t275 _ ?side1 ?side2 ?side3 ?side4 A6.out).mono ?_); (case side1 => repeat (first | exact (Kd.R_reads' HO270.out).2.2 | (with_reducible refine Kd.C_alloc ?_ _) | (with_reducible refine Kd.C_drewN ?_ _) | (with_reducible refine Kd.C_drew ?_))); (case side2 => exact (Kd.R_reads' HO270.out).2.1); (case side3 => repeat (first | exact (Kd.R_reads' HO273.out).2.2 | (with_reducible refine Kd.C_alloc ?_ _) | (with_reducible refine Kd.C_drewN ?_ _) | (with_reducible refine Kd.C_drew ?_))); (case side4 => exact (Kd.R_reads' HO273.out).2.1); rintro e w64 ⟨v276, rfl, ho0, hb⟩; refine ⟨_, rfl, ?_⟩; have n0_ := Aside0.mk (Kd.R_below (by (with_reducible repeat (first | apply Kd.R_alloc | apply Kd.R_drewN | apply Kd.R_drew)); exact HO260.out) hb); have n1_ := Aside0.mk (Kd.R_below (by (with_reducible repeat (first | apply Kd.R_alloc | apply Kd.R_drewN | apply Kd.R_drew)); exact HO263.out) hb); have n2_ := Aside0.mk (Kd.S_elder' (by (with_reducible repeat (first | apply Kd.S_alloc | apply Kd.S_drewN | apply Kd.S_drew)); exact HO267.out) (Kd.S_base ho0) hb); have n3_ := Aside0.mk (Kd.R_below (by (with_reducible repeat (first | apply Kd.R_alloc | apply Kd.R_drewN | apply Kd.R_drew)); exact HO270.out) hb); have n4_ := Aside0.mk (Kd.R_below (by (with_reducible repeat (first | apply Kd.R_alloc | apply Kd.R_drewN | apply Kd.R_drew)); exact HO273.out) hb); have n5_ := Aside0.mk (Kd.S_lower (Kd.S_new' ho0 (Kd.S_lt (by (with_reducible repeat (first | apply Kd.S_alloc | apply Kd.S_drewN | apply Kd.S_drew)); exact HO267.out))) (below_size (by repeat (first | (with_reducible first | exact HB.out | apply below_alloc | apply pw_below_drewN | apply below_drew1) | exact HB.out)))); have n6_ := Aside0.mk (below_step (by repeat (first | (with_reducible first | exact HB.out | apply below_alloc | apply pw_below_drewN | apply below_drew1) | exact HB.out)) hb); clear HO260; clear HO263; clear HO267; clear HO270; clear HO273; clear HB; have HO260 := n0_; have HO263 := n1_; have HO267 := n2_; have HO270 := n3_; have HO273 := n4_; have HO277 := n5_; have HB := n6_; clear n0_ n1_ n2_ n3_ n4_ n5_ n6_; (try clear hb); (try clear hb2); (try clear hk); (try clear hi); (try clear ho0)))
   go_ret2
   exact ⟨_, by first | rfl | (simp [errW_none, errW_some] <;> rfl) | (simp [*, errW_none, errW_some] <;> rfl), by (with_reducible repeat (first | apply Kd.S_alloc | apply Kd.S_drewN | apply Kd.S_drew)); exact Kd.S_mono HO267.out (fun _ hk => trivial), by repeat (first | (with_reducible first | exact HB.out | apply below_alloc | apply pw_below_drewN | apply below_drew1) | exact HB.out)⟩
 ·
  rw [if_neg c3] at H
  exact absurd H (by simp)
end Go.Proofs.Ytaibikajpacemaa.X
end
section
namespace Go.Proofs.Ytaibikajpacemaa.X
open Go.RowKit Go.Proofs.YtaibikajpacemaaW.PrintWords Go.Proofs.YtaibikajpacemaaW.PrintLast Go.Proofs.YtaibikajpacemaaW.PrintMore
attribute [local go_sem] max2_int min2_int max_two min_two max_three min_three max_four min_four   -- for this text's walks alone
set_option linter.unusedVariables false
set_option linter.unusedSimpArgs false
def bobbinetkeep_hasPath.l0 : Nat → List (List Int) → List Int → Int → Option (Bool)
  | 0, _, _, _ => none
  | k + 1, x0, x1, x5 => if x5 < (x0.length : Int) then (if 0 ≤ x5 then ((bobbinetkeep_sameInts.f k (rd_L7 x0 x5) x1).bind fun t284 => (if t284 = true then (some true) else (bobbinetkeep_hasPath.l0 k x0 x1 (wrap64 (x5 + 1))))) else (none)) else (some false)
def bobbinetkeep_hasPath.f (k : Nat) (l0 : List (List Int)) (l1 : List Int) : Option (Bool) := bobbinetkeep_hasPath.l0 k l0 l1 0
set_option maxHeartbeats 8000000 in
set_option maxRecDepth 100000 in
theorem bobbinetkeep_hasPath.calls (k : Nat) (A0 : Option Addr) (c0 : Nat) (l0 : List (List Int)) (A1 : Option Addr) (c1 : Nat) (l1 : List Int) (r : Bool) (w : World) (hr0 : Kd.C (Kd.slice 3 (Kd.int .i64)) w A0 l0.length l0) (hc0 : l0.length ≤ c0) (hr1 : Kd.C (Kd.int .i64) w A1 l1.length l1) (hc1 : l1.length ≤ c1) (h : bobbinetkeep_hasPath.f k l0 l1 = some r) :
    Calls Try.prog 28 #[.slice A0 l0.length c0, .slice A1 l1.length c1] w fun e w' => e = .returned (.bool r) ∧ Drawn0 w w' := by
  have HR0 := Aside0.mk hr0
  have HC0 := Aside0.mk hc0
  clear hr0 hc0
  have HR1 := Aside0.mk hr1
  have HC1 := Aside0.mk hc1
  clear hr1 hc1
  have H : (bobbinetkeep_hasPath.l0 k l0 l1 0) = some r := h
  clear h
  have H' := Aside0.mk H
  clear H
  go_enter Try.func28, Try.ntmps28
  go_wp2
  go_loopg [5] k (fun kq v5 w' => ∃ (x5_1 : Int), v5 = .int .i64 x5_1 ∧ Aside0 (bobbinetkeep_hasPath.l0 kq l0 l1 x5_1 = some r) ∧ Aside0 (kq ≤ k) ∧ Drawn0 w w')
  case atStart => exact ⟨(0), (by first | rfl | (simp; done) | (simp [*]; done) | (simp [bne]; done)), H', ⟨Nat.le_refl _⟩, by repeat (first | exact Drawn0.refl _ | apply Drawn0.step)⟩
  case round =>
    clear H'
    try clear c1
    try clear c2
    try clear p2
    obtain ⟨x5_1, rfl, HA, HK1, ⟨m1, rfl⟩⟩ := hrel
    cases gk with
    | zero => exact absurd HA.out (by simp [bobbinetkeep_hasPath.l0])
    | succ k1 =>
      have H := HA.out
      clear HA
      simp only [bobbinetkeep_hasPath.l0] at H
      by_cases c3 : x5_1 < (l0.length : Int)
      · rw [if_pos c3] at H
        have c3b0 : decide (x5_1 < (l0.length : Int)) = true := decide_eq_true c3
        clear c3
        by_cases c4 : 0 ≤ x5_1
        · rw [if_pos c4] at H
          have c4b0 : decide (0 ≤ x5_1) = true := decide_eq_true c4
          clear c4
          replace H := Option.bind_eq_some_iff.mp H
          obtain ⟨t284, A50, H⟩ := H
          replace H : (if t284 = true then (some true) else (bobbinetkeep_hasPath.l0 k1 l0 l1 (wrap64 (x5_1 + 1)))) = some r := H
          have A5 := Aside0.mk A50
          clear A50
          by_cases c6 : t284 = true
          · subst c6
            have H1 : (some true) = some r := by rw [if_pos rfl] at H; exact H
            clear H
            have H := H1
            clear H1
            obtain rfl := Option.some.inj H
            have p283 : 0 ≤ (x5_1 : Int) := of_decide_eq_true (by first | (with_reducible assumption) | assumption)
            have q283 : x5_1 < (l0.length : Int) := of_decide_eq_true (by first | (with_reducible assumption) | assumption)
            obtain ⟨ad283, A283_0, c283_0, e283, hx283_0, hl283_0, hi283_0⟩ := at_L7 HR0.out x5_1 p283 q283
            cases e283
            have HR283_0 := Aside0.mk hi283_0
            have HC283_0 := Aside0.mk hl283_0
            clear hi283_0 hl283_0
            replace p283 := eq_true p283
            replace q283 := eq_true q283
            go_wp2_with (first | ((with_reducible refine gate_callee (f := 23) rfl ?_); refine goesL_ (some 17) rfl rfl Try.func23 (by kernel_rfl) rfl #[.slice A283_0 (rd_L7 l0 x5_1).length c283_0, .slice A1 l1.length c1] rfl (by (try simp only [List.map_toArray, List.map_cons, List.map_nil]); first | done | rfl | (simp only [List.length_drop, List.length_take]; rfl)) ?_; (with_reducible refine (bobbinetkeep_sameInts.calls k1 _ _ (rd_L7 l0 x5_1) _ _ l1 true _ ?side1 ?side2 ?side3 ?side4 A5.out).mono ?_); (case side1 => repeat (first | exact HR283_0.out | (with_reducible refine Kd.C_alloc ?_ _) | (with_reducible refine Kd.C_drewN ?_ _) | (with_reducible refine Kd.C_drew ?_))); (case side2 => exact HC283_0.out); (case side3 => repeat (first | exact HR1.out | (with_reducible refine Kd.C_alloc ?_ _) | (with_reducible refine Kd.C_drewN ?_ _) | (with_reducible refine Kd.C_drew ?_))); (case side4 => exact HC1.out); rintro e w' ⟨rfl, ⟨nd, rfl⟩⟩; refine ⟨_, rfl, ?_⟩))
            go_ret
            exact ⟨by first | rfl | (simp; done) | (simp [*]; done), by repeat (first | exact Drawn0.refl _ | apply Drawn0.step)⟩
          · replace c6 := Bool.eq_false_iff.mpr c6
            subst c6
            have H1 : (bobbinetkeep_hasPath.l0 k1 l0 l1 (wrap64 (x5_1 + 1))) = some r := by rw [if_neg (show ¬ (false = true) by decide)] at H; exact H
            clear H
            have H := H1
            clear H1
            have H' := Aside0.mk H
            clear H
            have p283 : 0 ≤ (x5_1 : Int) := of_decide_eq_true (by first | (with_reducible assumption) | assumption)
            have q283 : x5_1 < (l0.length : Int) := of_decide_eq_true (by first | (with_reducible assumption) | assumption)
            obtain ⟨ad283, A283_0, c283_0, e283, hx283_0, hl283_0, hi283_0⟩ := at_L7 HR0.out x5_1 p283 q283
            cases e283
            have HR283_0 := Aside0.mk hi283_0
            have HC283_0 := Aside0.mk hl283_0
            clear hi283_0 hl283_0
            replace p283 := eq_true p283
            replace q283 := eq_true q283
            go_wp2_with (first | ((with_reducible refine gate_callee (f := 23) rfl ?_); refine goesL_ (some 17) rfl rfl Try.func23 (by kernel_rfl) rfl #[.slice A283_0 (rd_L7 l0 x5_1).length c283_0, .slice A1 l1.length c1] rfl (by (try simp only [List.map_toArray, List.map_cons, List.map_nil]); first | done | rfl | (simp only [List.length_drop, List.length_take]; rfl)) ?_; (with_reducible refine (bobbinetkeep_sameInts.calls k1 _ _ (rd_L7 l0 x5_1) _ _ l1 false _ ?side1 ?side2 ?side3 ?side4 A5.out).mono ?_); (case side1 => repeat (first | exact HR283_0.out | (with_reducible refine Kd.C_alloc ?_ _) | (with_reducible refine Kd.C_drewN ?_ _) | (with_reducible refine Kd.C_drew ?_))); (case side2 => exact HC283_0.out); (case side3 => repeat (first | exact HR1.out | (with_reducible refine Kd.C_alloc ?_ _) | (with_reducible refine Kd.C_drewN ?_ _) | (with_reducible refine Kd.C_drew ?_))); (case side4 => exact HC1.out); rintro e w' ⟨rfl, ⟨nd, rfl⟩⟩; refine ⟨_, rfl, ?_⟩))
            go_roundg k1
            case measure => have := HK1.out; omega
            case rel => exact ⟨(wrap64 (x5_1 + 1)), (by first | rfl | (simp; done) | (simp [*]; done) | (simp [bne]; done)), H', ⟨by have := HK1.out; omega⟩, by repeat (first | exact Drawn0.refl _ | apply Drawn0.step)⟩
        · rw [if_neg c4] at H
          exact absurd H (by simp)
      · rw [if_neg c3] at H
        have c3b0 : decide (x5_1 < (l0.length : Int)) = false := decide_eq_false c3
        clear c3
        obtain rfl := Option.some.inj H
        go_wp2
        go_ret
        exact ⟨by first | rfl | (simp; done) | (simp [*]; done), by repeat (first | exact Drawn0.refl _ | apply Drawn0.step)⟩
end Go.Proofs.Ytaibikajpacemaa.X
end
