/- Parts of the proof of EmitParts that are needed, put together by pack.py. -/
import Derived.Test.YtjmhihadgpdiaaaQEmitPartsai
import Derived.Test.YtjmhihadgpdiaaaQEmitPartsaf
import Derived.Test.YtjmhihadgpdiaaaQEmitPartsah
import Derived.Test.YtjmhihadgpdiaaaQEmitPartsag
import Derived.Test.YtjmhihadgpdiaaaQEmitPartsaa
section
namespace Go.Proofs.Ytjmhihadgpdiaaa.X
open Go.RowKit Go.Proofs.YtjmhihadgpdiaaaW.PrintWords Go.Proofs.YtjmhihadgpdiaaaW.PrintLast Go.Proofs.YtjmhihadgpdiaaaW.PrintMore
attribute [local go_sem] max2_int min2_int max_two min_two max_three min_three max_four min_four   -- for this text's walks alone
set_option linter.unusedVariables false
set_option linter.unusedSimpArgs false
def emit_Name.bad (n : Nat) : Bool := !((decide (97 ≤ n) && decide (n ≤ 122)) || (decide (48 ≤ n) && decide (n ≤ 57)) || n == 45)
def emit_Name.f (a0 : ByteArray) : Option Bool := if a0.toList = ([] : List UInt8) then some false else if (a0.size : Int) > 12 then some false else if bt a0 0 < 97 then some false else if bt a0 0 > 122 then some false else some (!(decide (0 ≤ Lib.idxFunc emit_Name.bad true a0)))
theorem emit_Name.eg : ∀ args w, (callFunc 59 args).run Try.prog w = .ok (.enter 59 args) w := fun args w => enters_ Try.func59 (by kernel_rfl) rfl args w
set_option maxHeartbeats 1000000 in
set_option maxRecDepth 100000 in
theorem emit_Name.one (w W : World) (x : Nat) : FnGives Try.prog 59 #[] #[.int .i32 (x : Int)] (.bool (emit_Name.bad x)) W := by
  show Calls Try.prog 59 #[.int .i32 (x : Int)] W fun e w' => e = .returned (.bool (emit_Name.bad x)) ∧ ∃ q, w' = W.drewN q
  go_enter Try.func59, Try.ntmps59
  by_cases c1 : 97 ≤ x
  · have e1 : decide (97 ≤ (x : Int)) = true := decide_eq_true (by omega)
    by_cases c2 : x ≤ 122
    · have e2 : decide ((x : Int) ≤ 122) = true := decide_eq_true (by omega)
      go_wp2
      go_ret
      exact ⟨by simp [emit_Name.bad, c1, c2], 0, rfl⟩
    · have e2 : decide ((x : Int) ≤ 122) = false := decide_eq_false (by omega)
      have e3 : decide (48 ≤ (x : Int)) = true := decide_eq_true (by omega)
      have e4 : decide ((x : Int) ≤ 57) = false := decide_eq_false (by omega)
      have e5 : ((x : Int) == 45) = false := beq_eq_false_iff_ne.mpr (by omega)
      have e6 : decide ((x : Int) = 45) = false := decide_eq_false (by omega)
      go_wp2
      go_ret
      exact ⟨by simp [emit_Name.bad, c1, c2]; omega, 0, rfl⟩
  · have e1 : decide (97 ≤ (x : Int)) = false := decide_eq_false (by omega)
    by_cases c3 : 48 ≤ x
    · have e3 : decide (48 ≤ (x : Int)) = true := decide_eq_true (by omega)
      by_cases c4 : x ≤ 57
      · have e4 : decide ((x : Int) ≤ 57) = true := decide_eq_true (by omega)
        go_wp2
        go_ret
        exact ⟨by simp [emit_Name.bad, c1, c3, c4], 0, rfl⟩
      · have e4 : decide ((x : Int) ≤ 57) = false := decide_eq_false (by omega)
        have e5 : ((x : Int) == 45) = false := beq_eq_false_iff_ne.mpr (by omega)
        have e6 : decide ((x : Int) = 45) = false := decide_eq_false (by omega)
        go_wp2
        go_ret
        exact ⟨by simp [emit_Name.bad, c1, c3, c4]; omega, 0, rfl⟩
    · have e3 : decide (48 ≤ (x : Int)) = false := decide_eq_false (by omega)
      by_cases c5 : x = 45
      · subst c5
        go_wp2
        go_ret
        exact ⟨by simp [emit_Name.bad], 0, rfl⟩
      · have e5 : ((x : Int) == 45) = false := beq_eq_false_iff_ne.mpr (by omega)
        have e6 : decide ((x : Int) = 45) = false := decide_eq_false (by omega)
        go_wp2
        go_ret
        exact ⟨by simp [emit_Name.bad, c1, c3, c5], 0, rfl⟩
set_option maxHeartbeats 1000000 in
set_option maxRecDepth 100000 in
theorem emit_Name.calls (a0 : ByteArray) (r : Bool) (w : World) (h : emit_Name.f a0 = some r) :
    Calls Try.prog 41 #[.string a0] w fun e w' => e = .returned (.bool r) ∧ Below w.heap.size w w' := by
  unfold emit_Name.f at h
  have hbl : Below w.heap.size w w := Below.refl _ _
  go_enter Try.func41, Try.ntmps41
  by_cases c1 : a0.toList = ([] : List UInt8)
  · rw [if_pos c1] at h
    obtain rfl := Option.some.inj h
    have e1 : (a0.toList == ([] : List UInt8)) = true := beq_iff_eq.mpr c1
    go_wp2
    go_ret
    exact ⟨rfl, hbl⟩
  · rw [if_neg c1] at h
    have e1 : (a0.toList == ([] : List UInt8)) = false := beq_eq_false_iff_ne.mpr c1
    by_cases c2 : (a0.size : Int) > 12
    · rw [if_pos c2] at h
      obtain rfl := Option.some.inj h
      have e2 : decide (12 < (a0.size : Int)) = true := decide_eq_true c2
      have e3 : decide (12 < a0.size) = true := decide_eq_true (by omega)
      go_wp2
      go_ret
      exact ⟨rfl, hbl⟩
    · rw [if_neg c2] at h
      have e2 : decide (12 < (a0.size : Int)) = false := decide_eq_false c2
      have e3 : decide (12 < a0.size) = false := decide_eq_false (by omega)
      have hz : 0 < a0.size := by
        rcases Nat.eq_zero_or_pos a0.size with h0 | h0
        · exact absurd (by
            have h1 : a0 = ByteArray.empty := by
              cases a0 with | mk d =>
              have : d.size = 0 := h0
              have : d = #[] := Array.size_eq_zero_iff.1 this
              subst this; rfl
            rw [h1]; simp [ByteArray.toList, ByteArray.toList.loop]) c1
        · exact h0
      have hx : ∀ h : 0 < a0.size, ((a0[0]'h).toNat : Int) = bt a0 0 := fun h => by have := bt_at a0 0 (by simpa using h); simpa using this
      have q1 : ((0 : Int) < (a0.size : Int)) = True := eq_true (by omega)
      have q2 : (0 < a0.size) = True := eq_true hz
      by_cases c4 : bt a0 0 < 97
      · rw [if_pos c4] at h
        obtain rfl := Option.some.inj h
        have e4 : decide (bt a0 0 < 97) = true := decide_eq_true c4
        go_wp2
        go_ret
        exact ⟨rfl, hbl⟩
      · rw [if_neg c4] at h
        have e4 : decide (bt a0 0 < 97) = false := decide_eq_false c4
        by_cases c5 : bt a0 0 > 122
        · rw [if_pos c5] at h
          obtain rfl := Option.some.inj h
          have e5 : decide (122 < bt a0 0) = true := decide_eq_true c5
          go_wp2
          go_ret
          exact ⟨rfl, hbl⟩
        · rw [if_neg c5] at h
          obtain rfl := Option.some.inj h
          have e5 : decide (122 < bt a0 0) = false := decide_eq_false c5
          go_wp2_with (go_at_call 58; refine (CF.strings_ContainsFunc_runes 59 #[] emit_Name.eg emit_Name.bad a0 _ (fun W x _ _ => emit_Name.one w W x)).mono ?_; rintro e w' ⟨rfl, hb⟩)
          go_ret
          exact ⟨rfl, hb⟩
end Go.Proofs.Ytjmhihadgpdiaaa.X
end
section
namespace Go.Proofs.Ytjmhihadgpdiaaa.X
open Go.RowKit Go.Proofs.YtjmhihadgpdiaaaW.PrintWords Go.Proofs.YtjmhihadgpdiaaaW.PrintLast Go.Proofs.YtjmhihadgpdiaaaW.PrintMore
attribute [local go_sem] max2_int min2_int max_two min_two max_three min_three max_four min_four   -- for this text's walks alone
set_option linter.unusedVariables false
set_option linter.unusedSimpArgs false
def cf_emitAttrs1.f (l0 : List S63) : Option Bool := if (l0.all fun x => emit_Name.f x.f0 == some true) = true then some false else none
set_option maxHeartbeats 1000000 in
set_option maxRecDepth 100000 in
theorem cf_emitAttrs1.clo (x0 x1 : ByteArray) (w : World) (h : emit_Name.f x0 = some true) :
    Calls Try.prog 61 #[.agg #[.string x0, .string x1]] w fun e w' => e = .returned (.bool false) ∧ Below w.heap.size w w' := by
  have HN := Aside0.mk h
  clear h
  go_enter Try.func61, Try.ntmps61
  go_wp2_with (first | (go_at_call 41; (with_reducible refine (emit_Name.calls x0 true _ HN.out).mono ?_); rintro e w2 ⟨rfl, hb⟩; have HB2 := Aside0.mk (below_step (below_alloc (Below.refl _ _) _) hb); clear hb))
  go_ret
  exact ⟨rfl, HB2.out⟩
set_option maxHeartbeats 1000000 in
set_option maxRecDepth 100000 in
theorem cf_emitAttrs1.index (A0 : Option Addr) (c0 : Nat) (l0 : List S63) (w : World) (hr0 : Kd.C k63 w A0 l0.length l0) (hall : ∀ x ∈ l0, emit_Name.f x.f0 = some true) :
    Calls Try.prog 70 #[.slice A0 l0.length c0, .func (.func 61) #[] #[]] w fun e w' => e = .returned (.int .i64 (-1)) ∧ Below w.heap.size w w' := by
  have HR0 := Aside0.mk hr0
  have HA := Aside0.mk hall
  have hmax := Kd.C_max hr0
  clear hr0 hall
  go_enter Try.func70, Try.ntmps70
  go_wp2
  go_loopw [8] (fun v8 wr => ∃ x8 : Int, v8 = .int .i64 x8 ∧ Aside0 (0 ≤ x8 ∧ x8 ≤ l0.length) ∧ Aside0 (Below w.heap.size w wr)) (fun v8 _ => l0.length - (intOf v8).toNat)
  case atStart => exact ⟨0, rfl, ⟨by omega⟩, ⟨Below.refl _ _⟩⟩
  case round =>
    obtain ⟨x8, rfl, HI, HB⟩ := hrel
    have p0 := HI.out.1
    by_cases q0 : x8 < (l0.length : Int)
    · obtain ⟨ad, e0, hx0, hx1⟩ := at_T63 HR0.out x8 p0 q0
      cases e0
      replace hx0 := (HB.out.cell (World.block_lt_of_cell? w _ hx0)).trans hx0
      replace hx1 := (HB.out.cell (World.block_lt_of_cell? w _ hx1)).trans hx1
      have hmem : rd_T63 l0 x8 ∈ l0 := by
        have : x8.toNat < l0.length := by omega
        simp [rd_T63, List.getD, this]
      have HN := Aside0.mk (HA.out _ hmem)
      clear hmem
      have hw : wrap64 (x8 + 1) = x8 + 1 := by unfold wrap64; omega
      have HW := Aside0.mk hw
      clear hw
      have HQ := Aside0.mk q0
      have hb0 : decide (x8 < (l0.length : Int)) = true := decide_eq_true q0
      have hb1 : decide (0 ≤ x8) = true := decide_eq_true p0
      replace p0 := eq_true p0
      replace q0 := eq_true q0
      go_wp2_with (first | (go_at_call 61; (with_reducible refine (cf_emitAttrs1.clo (rd_T63 l0 x8).f0 (rd_T63 l0 x8).f1 _ HN.out).mono ?_); rintro e w2 ⟨rfl, hb⟩; have HB2 := Aside0.mk (below_step (by repeat (first | (with_reducible first | exact HB.out | apply below_alloc | apply pw_below_drewN | apply below_drew1) | exact HB.out)) hb); clear hb))
      go_roundw
      case rel => exact ⟨x8 + 1, by rw [HW.out], ⟨by have := HI.out; have := HQ.out; omega⟩, ⟨by repeat (first | (with_reducible first | exact HB2.out | apply below_alloc | apply pw_below_drewN | apply below_drew1) | exact HB2.out)⟩⟩
      case measure => have := HQ.out; have := HI.out; simp [intOf, HW.out]; omega
    · have hb0 : decide (x8 < (l0.length : Int)) = false := decide_eq_false q0
      go_wp2
      go_ret
      exact ⟨rfl, by repeat (first | (with_reducible first | exact HB.out | apply below_alloc | apply pw_below_drewN | apply below_drew1) | exact HB.out)⟩
set_option maxHeartbeats 4000000 in
set_option maxRecDepth 100000 in
theorem cf_emitAttrs1.calls (A0 : Option Addr) (c0 : Nat) (l0 : List S63) (r : Bool) (w : World) (hr0 : Kd.C k63 w A0 l0.length l0) (hc0 : l0.length ≤ c0) (h : cf_emitAttrs1.f l0 = some r) :
    Calls Try.prog 60 #[.slice A0 l0.length c0, .func (.func 61) #[] #[]] w fun e w' => e = .returned (.bool r) ∧ Below w.heap.size w w' := by
  have h2 : (∀ x ∈ l0, emit_Name.f x.f0 = some true) ∧ false = r := by
    unfold cf_emitAttrs1.f at h
    split at h
    · rename_i hc
      exact ⟨fun x hx => by simpa using (List.all_eq_true.1 hc) x hx, Option.some.inj h⟩
    · cases h
  obtain ⟨h2, rfl⟩ := h2
  have HC := Aside0.mk (cf_emitAttrs1.index A0 c0 l0 w hr0 h2)
  clear hr0 hc0 h h2
  go_enter Try.func60, Try.ntmps60
  go_wp2_with (go_at_call 70; (with_reducible refine HC.out.mono ?_); rintro e w1 ⟨rfl, hb⟩)
  go_ret
  exact ⟨rfl, hb⟩
end Go.Proofs.Ytjmhihadgpdiaaa.X
end
section
namespace Go.Proofs.Ytjmhihadgpdiaaa.X
open Go.RowKit Go.Proofs.YtjmhihadgpdiaaaW.PrintWords Go.Proofs.YtjmhihadgpdiaaaW.PrintLast Go.Proofs.YtjmhihadgpdiaaaW.PrintMore
attribute [local go_sem] max2_int min2_int max_two min_two max_three min_three max_four min_four   -- for this text's walks alone
set_option linter.unusedVariables false
set_option linter.unusedSimpArgs false
def cf_emitAttrs2.f (l0 : List S63) (s0 : ByteArray) (s1 : ByteArray) : Option Bool := some (l0.any fun x => x.f0.toList == s0.toList)
def cf_emitAttrs2.idx (l0 : List S63) (s0 : ByteArray) : Int := match l0.findIdx? (fun x => x.f0.toList == s0.toList) with | some i => i | none => -1
theorem cf_emitAttrs2.idx_none (l0 : List S63) (s0 : ByteArray) (h : ∀ j, j < l0.length → ((rd_T63 l0 (j : Int)).f0.toList == s0.toList) = false) : cf_emitAttrs2.idx l0 s0 = -1 := by
  have : l0.findIdx? (fun x => x.f0.toList == s0.toList) = none := by
    rw [List.findIdx?_eq_none_iff]
    intro x hx
    obtain ⟨j, hj, rfl⟩ := List.getElem_of_mem hx
    have := h j hj
    simpa [rd_T63, List.getD, hj] using this
  unfold cf_emitAttrs2.idx
  rw [this]
theorem cf_emitAttrs2.idx_some (l0 : List S63) (s0 : ByteArray) (i : Nat) (hi : i < l0.length) (h : ∀ j, j < i → ((rd_T63 l0 (j : Int)).f0.toList == s0.toList) = false) (ht : ((rd_T63 l0 (i : Int)).f0.toList == s0.toList) = true) : cf_emitAttrs2.idx l0 s0 = i := by
  have : l0.findIdx? (fun x => x.f0.toList == s0.toList) = some i := by
    rw [List.findIdx?_eq_some_iff_getElem]
    refine ⟨hi, ?_, ?_⟩
    · simpa [rd_T63, List.getD, hi] using ht
    · intro j hj
      have := h j hj
      have hjl : j < l0.length := by omega
      simp [rd_T63, List.getD, hjl] at this
      simpa using this
  unfold cf_emitAttrs2.idx
  rw [this]
set_option maxHeartbeats 4000000 in
set_option maxRecDepth 100000 in
theorem cf_emitAttrs2.index (A0 : Option Addr) (c0 : Nat) (l0 : List S63) (g : Nat) (s0 : ByteArray) (s1 : ByteArray) (w : World) (hr0 : Kd.C k63 w A0 l0.length l0) (hg : w.heap[g]? = some (.cells #[.string s0, .string s1] 63 (0, 0))) :
    Calls Try.prog 70 #[.slice A0 l0.length c0, .func (.func 62) #[] #[.pointer (some ⟨g, 0, none⟩)]] w fun e w' => e = .returned (.int .i64 (cf_emitAttrs2.idx l0 s0)) ∧ Below w.heap.size w w' := by
  have HR0 := Aside0.mk hr0
  have hc0 := blk_cell hg 0
  have hc1 := blk_cell hg 1
  have hmax := Kd.C_max hr0
  simp only [List.getElem?_toArray, List.getElem?_cons_zero, List.getElem?_cons_succ] at hc0 hc1
  clear hr0 hg
  go_enter Try.func70, Try.ntmps70
  go_wp2
  go_loopw [8] (fun v8 wr => ∃ x8 : Int, v8 = .int .i64 x8 ∧ Aside0 (0 ≤ x8 ∧ x8 ≤ l0.length) ∧ Aside0 (∀ j : Nat, (j : Int) < x8 → ((rd_T63 l0 (j : Int)).f0.toList == s0.toList) = false) ∧ Aside0 (Below w.heap.size w wr)) (fun v8 _ => l0.length - (intOf v8).toNat)
  case atStart => exact ⟨0, rfl, ⟨by omega⟩, ⟨fun j hj => absurd hj (by omega)⟩, ⟨Below.refl _ _⟩⟩
  case round =>
    obtain ⟨x8, rfl, HI, HN, HB⟩ := hrel
    have hcr0 := (HB.out.cell (World.block_lt_of_cell? w _ hc0)).trans hc0
    have hcr1 := (HB.out.cell (World.block_lt_of_cell? w _ hc1)).trans hc1
    have hca0 : ∀ o, (wr.alloc o).cell? ⟨g, 0, none⟩ = some (.string s0) := fun o => ((below_alloc (Below.refl _ _) o).cell (World.block_lt_of_cell? wr _ hcr0)).trans hcr0
    have p0 := HI.out.1
    by_cases q0 : x8 < (l0.length : Int)
    · obtain ⟨ad, e0, hx0, hx1⟩ := at_T63 HR0.out x8 p0 q0
      cases e0
      replace hx0 := (HB.out.cell (World.block_lt_of_cell? w _ hx0)).trans hx0
      replace hx1 := (HB.out.cell (World.block_lt_of_cell? w _ hx1)).trans hx1
      have hw : wrap64 (x8 + 1) = x8 + 1 := by unfold wrap64; omega
      have HW := Aside0.mk hw
      clear hw
      obtain ⟨j, HJ⟩ : ∃ j : Nat, Aside0 (x8 = (j : Int)) := ⟨x8.toNat, ⟨by omega⟩⟩
      have HQ := Aside0.mk q0
      have hb0 : decide (x8 < (l0.length : Int)) = true := decide_eq_true q0
      have hb1 : decide (0 ≤ x8) = true := decide_eq_true p0
      replace p0 := eq_true p0
      replace q0 := eq_true q0
      cases hp : (rd_T63 l0 x8).f0.toList == s0.toList with
      | true =>
        have hp2 : (s0.toList == (rd_T63 l0 x8).f0.toList) = true := beq_iff_eq.mpr (beq_iff_eq.mp hp).symm
        have HE : Aside0 (cf_emitAttrs2.idx l0 s0 = x8) := by
          constructor
          have hj := HJ.out
          have hq := HQ.out
          rw [hj] at hp ⊢
          exact cf_emitAttrs2.idx_some l0 s0 j (by omega) (fun k hk => HN.out k (by omega)) hp
        go_wp2
        repeat (go_quiet (fail); try go_wp2)
        go_ret
        exact ⟨by rw [HE.out]; rfl, by repeat (first | (with_reducible first | exact HB.out | apply below_alloc | apply pw_below_drewN | apply below_drew1) | exact HB.out)⟩
      | false =>
        have hp2 : (s0.toList == (rd_T63 l0 x8).f0.toList) = false := beq_eq_false_iff_ne.mpr (fun h => (beq_eq_false_iff_ne.mp hp) h.symm)
        have HP := Aside0.mk hp
        go_wp2
        repeat (go_quiet (fail); try go_wp2)
        go_roundw
        case rel =>
          refine ⟨x8 + 1, by rw [HW.out], ⟨by have := HI.out; have := HQ.out; omega⟩, ⟨fun k hk => ?_⟩, ⟨by repeat (first | (with_reducible first | exact HB.out | apply below_alloc | apply pw_below_drewN | apply below_drew1) | exact HB.out)⟩⟩
          by_cases hkx : (k : Int) < x8
          · exact HN.out k hkx
          · obtain rfl : x8 = (k : Int) := by omega
            exact HP.out
        case measure => have := HQ.out; have := HI.out; simp [intOf, HW.out]; omega
    · have hb0 : decide (x8 < (l0.length : Int)) = false := decide_eq_false q0
      have HE : Aside0 (cf_emitAttrs2.idx l0 s0 = -1) := ⟨cf_emitAttrs2.idx_none l0 s0 (fun j hj => HN.out j (by omega))⟩
      go_wp2
      repeat (go_quiet (fail); try go_wp2)
      go_ret
      exact ⟨by rw [HE.out]; rfl, by repeat (first | (with_reducible first | exact HB.out | apply below_alloc | apply pw_below_drewN | apply below_drew1) | exact HB.out)⟩
set_option maxHeartbeats 4000000 in
set_option maxRecDepth 100000 in
theorem cf_emitAttrs2.calls (A0 : Option Addr) (c0 : Nat) (l0 : List S63) (g : Nat) (s0 : ByteArray) (s1 : ByteArray) (r : Bool) (w : World) (hr0 : Kd.C k63 w A0 l0.length l0) (hc0 : l0.length ≤ c0) (hg : w.heap[g]? = some (.cells #[.string s0, .string s1] 63 (0, 0))) (h : cf_emitAttrs2.f l0 s0 s1 = some r) :
    Calls Try.prog 60 #[.slice A0 l0.length c0, .func (.func 62) #[] #[.pointer (some ⟨g, 0, none⟩)]] w fun e w' => e = .returned (.bool r) ∧ Below w.heap.size w w' := by
  have HC := Aside0.mk (cf_emitAttrs2.index A0 c0 l0 g s0 s1 w hr0 hg)
  have HB : Aside0 (r = decide (cf_emitAttrs2.idx l0 s0 ≥ 0)) := by
    constructor
    unfold cf_emitAttrs2.f at h
    obtain rfl := Option.some.inj h
    unfold cf_emitAttrs2.idx
    cases hf : l0.findIdx? (fun x => x.f0.toList == s0.toList) with
    | none =>
      rw [List.findIdx?_eq_none_iff] at hf
      rw [Bool.eq_iff_iff]
      simp only [List.any_eq_true, decide_eq_true_eq]
      constructor
      · rintro ⟨x, hx, ht⟩
        rw [hf x hx] at ht
        cases ht
      · intro h0
        omega
    | some i =>
      rw [List.findIdx?_eq_some_iff_getElem] at hf
      obtain ⟨hi, ht, _⟩ := hf
      rw [Bool.eq_iff_iff]
      simp only [List.any_eq_true, decide_eq_true_eq]
      exact ⟨fun _ => by omega, fun _ => ⟨_, List.getElem_mem hi, ht⟩⟩
  clear hr0 hc0 hg h
  go_enter Try.func60, Try.ntmps60
  go_wp2_with (go_at_call 70; (with_reducible refine HC.out.mono ?_); rintro e w1 ⟨rfl, hb⟩)
  go_ret
  exact ⟨by rw [HB.out]; rfl, hb⟩
end Go.Proofs.Ytjmhihadgpdiaaa.X
end
section
namespace Go.Proofs.Ytjmhihadgpdiaaa.X
open Go.RowKit Go.Proofs.YtjmhihadgpdiaaaW.PrintWords Go.Proofs.YtjmhihadgpdiaaaW.PrintLast Go.Proofs.YtjmhihadgpdiaaaW.PrintMore
attribute [local go_sem] max2_int min2_int max_two min_two max_three min_three max_four min_four   -- for this text's walks alone
set_option linter.unusedVariables false
set_option linter.unusedSimpArgs false
def emit_Attrs.l0 : Nat → List (S63) → List (S63) → Int → Int → Option (Int)
  | 0, _, _, _, _ => none
  | k + 1, x0, x10, x11, x12 => if x12 < x11 then (if 0 ≤ x12 then (if x12 < (x10.length : Int) then (if x12 ≤ (x0.length : Int) then ((cf_emitAttrs2.f (x0.take (x12 : Int).toNat) ((rd_T63 x10 x12).f0) ((rd_T63 x10 x12).f1)).bind fun t158 => (if t158 = true then (some 8) else (emit_Attrs.l0 k x0 x10 x11 (wrap64 (x12 + 1))))) else (none)) else (none)) else (none)) else (some 0)
def emit_Attrs.f (k : Nat) (l0 : List (S63)) : Option (Int) := (cf_emitAttrs1.f l0).bind fun t151 => (if t151 = true then (some 5) else (if (l0.length : Int) > 4 then (some 1) else (emit_Attrs.l0 k l0 l0 (l0.length : Int) 0)))
theorem emit_Attrs.mono_l : ∀ k, (∀ y0 y1 y2 y3, LeO (emit_Attrs.l0 k y0 y1 y2 y3) (emit_Attrs.l0 (k + 1) y0 y1 y2 y3))
  | 0 => fun _ _ _ _ r h => by simp [emit_Attrs.l0] at h
  | k + 1 => by
    have ih0 := emit_Attrs.mono_l k
    · intro y0 y1 y2 y3
      unfold emit_Attrs.l0
      repeat' first
      | (with_reducible exact ih0 _ _ _ _)
      | (with_reducible exact LeO.refl _)
      | (with_reducible exact LeO.none _)
      | (with_reducible refine LeO.ite ?_ ?_)
      | (with_reducible refine LeO.bind ?_ (fun _ => ?_))
      | exact ih0 _ _ _ _
      | exact LeO.none _
      | refine LeO.ite ?_ ?_
      | refine LeO.bind ?_ (fun _ => ?_)
theorem emit_Attrs.mono : ∀ a0 k, LeO (emit_Attrs.f k a0) (emit_Attrs.f (k + 1) a0) := by
  intro a0 k
  have ih0 := emit_Attrs.mono_l k
  unfold emit_Attrs.f
  repeat' first
      | (with_reducible exact ih0 _ _ _ _)
      | (with_reducible exact LeO.refl _)
      | (with_reducible exact LeO.none _)
      | (with_reducible refine LeO.ite ?_ ?_)
      | (with_reducible refine LeO.bind ?_ (fun _ => ?_))
      | exact ih0 _ _ _ _
      | exact LeO.none _
      | refine LeO.ite ?_ ?_
      | refine LeO.bind ?_ (fun _ => ?_)
set_option maxHeartbeats 8000000 in
set_option maxRecDepth 100000 in
theorem emit_Attrs.calls (k : Nat) (A0 : Option Addr) (c0 : Nat) (l0 : List (S63)) (r : Int) (w : World) (hr0 : Kd.C k63 w A0 l0.length l0) (hc0 : l0.length ≤ c0) (h : emit_Attrs.f k l0 = some r) :
    Calls Try.prog 42 #[.slice A0 l0.length c0] w fun e w' => e = .returned (.int .i64 r) ∧ Below w.heap.size w w' := by
  have hu63 := Try.underlying63
  have HR0 := Aside0.mk hr0
  have HC0 := Aside0.mk hc0
  clear hr0 hc0
  have HB := Aside0.mk (Below.refl w.heap.size w)
  have H : ((cf_emitAttrs1.f l0).bind fun t151 => (if t151 = true then (some 5) else (if (l0.length : Int) > 4 then (some 1) else (emit_Attrs.l0 k l0 l0 (l0.length : Int) 0)))) = some r := h
  clear h
  replace H := Option.bind_eq_some_iff.mp H
  obtain ⟨t151, A20, H⟩ := H
  replace H : (if t151 = true then (some 5) else (if (l0.length : Int) > 4 then (some 1) else (emit_Attrs.l0 k l0 l0 (l0.length : Int) 0))) = some r := H
  have A2 := Aside0.mk A20
  clear A20
  by_cases c3 : t151 = true
  · subst c3
    have H1 : (some 5) = some r := by rw [if_pos rfl] at H; exact H
    clear H
    have H := H1
    clear H1
    obtain rfl := Option.some.inj H
    go_enter Try.func42, Try.ntmps42
    go_wp2_with (first | ((with_reducible refine gate_callee (f := 60) rfl ?_); refine goesL_ (some 6) rfl rfl Try.func60 (by kernel_rfl) rfl #[.slice A0 l0.length c0, .func (.func 61) #[] #[]] rfl (by (try simp only [List.map_toArray, List.map_cons, List.map_nil]); first | done | rfl | (simp only [List.length_drop, List.length_take]; rfl)) ?_; (with_reducible refine (cf_emitAttrs1.calls _ _ l0  true _ ?side1 ?side2 A2.out).mono ?_); (case side1 => repeat (first | exact HR0.out | (with_reducible refine Kd.C_alloc ?_ _) | (with_reducible refine Kd.C_drewN ?_ _) | (with_reducible refine Kd.C_drew ?_))); (case side2 => exact HC0.out); rintro e w4 ⟨rfl, hb⟩; refine ⟨_, rfl, ?_⟩; have n0_ := Aside0.mk (below_step (by repeat (first | (with_reducible first | exact HB.out | apply below_alloc | apply pw_below_drewN | apply below_drew1) | exact HB.out)) hb); clear HB; have HB := n0_; clear n0_; (try clear hb); (try clear hb2); (try clear hk); (try clear hi)))
    go_ret
    exact ⟨by first | rfl | (simp [errW_none, errW_some] <;> rfl) | (simp [*, errW_none, errW_some] <;> rfl), by repeat (first | (with_reducible first | exact HB.out | apply below_alloc | apply pw_below_drewN | apply below_drew1) | exact HB.out)⟩
  · replace c3 := Bool.eq_false_iff.mpr c3
    subst c3
    have H1 : (if (l0.length : Int) > 4 then (some 1) else (emit_Attrs.l0 k l0 l0 (l0.length : Int) 0)) = some r := by rw [if_neg (show ¬ (false = true) by decide)] at H; exact H
    clear H
    have H := H1
    clear H1
    by_cases c5 : (l0.length : Int) > 4
    · rw [if_pos c5] at H
      have c5b0 : decide (4 < (l0.length : Int)) = true := decide_eq_true c5
      have c5b1 : decide (4 < l0.length) = true := decide_eq_true (by omega)
      clear c5
      obtain rfl := Option.some.inj H
      go_enter Try.func42, Try.ntmps42
      go_wp2_with (first | ((with_reducible refine gate_callee (f := 60) rfl ?_); refine goesL_ (some 6) rfl rfl Try.func60 (by kernel_rfl) rfl #[.slice A0 l0.length c0, .func (.func 61) #[] #[]] rfl (by (try simp only [List.map_toArray, List.map_cons, List.map_nil]); first | done | rfl | (simp only [List.length_drop, List.length_take]; rfl)) ?_; (with_reducible refine (cf_emitAttrs1.calls _ _ l0  false _ ?side1 ?side2 A2.out).mono ?_); (case side1 => repeat (first | exact HR0.out | (with_reducible refine Kd.C_alloc ?_ _) | (with_reducible refine Kd.C_drewN ?_ _) | (with_reducible refine Kd.C_drew ?_))); (case side2 => exact HC0.out); rintro e w6 ⟨rfl, hb⟩; refine ⟨_, rfl, ?_⟩; have n0_ := Aside0.mk (below_step (by repeat (first | (with_reducible first | exact HB.out | apply below_alloc | apply pw_below_drewN | apply below_drew1) | exact HB.out)) hb); clear HB; have HB := n0_; clear n0_; (try clear hb); (try clear hb2); (try clear hk); (try clear hi)))
      go_ret
      exact ⟨by first | rfl | (simp [errW_none, errW_some] <;> rfl) | (simp [*, errW_none, errW_some] <;> rfl), by repeat (first | (with_reducible first | exact HB.out | apply below_alloc | apply pw_below_drewN | apply below_drew1) | exact HB.out)⟩
    · rw [if_neg c5] at H
      have c5b0 : decide (4 < (l0.length : Int)) = false := decide_eq_false c5
      have c5b1 : decide (4 < l0.length) = false := decide_eq_false (by omega)
      clear c5
      have H' := Aside0.mk H
      clear H
      go_enter Try.func42, Try.ntmps42
      go_wp2_with (first | ((with_reducible refine gate_callee (f := 60) rfl ?_); refine goesL_ (some 6) rfl rfl Try.func60 (by kernel_rfl) rfl #[.slice A0 l0.length c0, .func (.func 61) #[] #[]] rfl (by (try simp only [List.map_toArray, List.map_cons, List.map_nil]); first | done | rfl | (simp only [List.length_drop, List.length_take]; rfl)) ?_; (with_reducible refine (cf_emitAttrs1.calls _ _ l0  false _ ?side1 ?side2 A2.out).mono ?_); (case side1 => repeat (first | exact HR0.out | (with_reducible refine Kd.C_alloc ?_ _) | (with_reducible refine Kd.C_drewN ?_ _) | (with_reducible refine Kd.C_drew ?_))); (case side2 => exact HC0.out); rintro e w7 ⟨rfl, hb⟩; refine ⟨_, rfl, ?_⟩; have n0_ := Aside0.mk (below_step (by repeat (first | (with_reducible first | exact HB.out | apply below_alloc | apply pw_below_drewN | apply below_drew1) | exact HB.out)) hb); clear HB; have HB := n0_; clear n0_; (try clear hb); (try clear hb2); (try clear hk); (try clear hi)))
      go_loopg [12] k (fun kq v12 w' => ∃ (x12_1 : Int), v12 = .int .i64 x12_1 ∧ Aside0 (emit_Attrs.l0 kq l0 l0 (l0.length : Int) x12_1 = some r) ∧ Aside0 (kq ≤ k) ∧ Aside0 (Below w.heap.size w w'))
      case atStart => exact ⟨(0), (by first | rfl | (simp; done) | (simp [*]; done) | (simp [bne]; done)), H', ⟨Nat.le_refl _⟩, ⟨by repeat (first | (with_reducible first | exact HB.out | apply below_alloc | apply pw_below_drewN | apply below_drew1) | exact HB.out)⟩⟩
      case round =>
        clear H'
        try clear p2
        try clear c3
        try clear c4
        try clear c5
        try clear c5b0
        try clear c5b1
        try clear c6
        obtain ⟨x12_1, rfl, HA, HK1, HB⟩ := hrel
        cases gk with
        | zero => exact absurd HA.out (by simp [emit_Attrs.l0])
        | succ k1 =>
          have H := HA.out
          clear HA
          simp only [emit_Attrs.l0] at H
          by_cases c8 : x12_1 < (l0.length : Int)
          · rw [if_pos c8] at H
            have c8b0 : decide (x12_1 < (l0.length : Int)) = true := decide_eq_true c8
            clear c8
            by_cases c9 : 0 ≤ x12_1
            · rw [if_pos c9] at H
              have c9b0 : decide (0 ≤ x12_1) = true := decide_eq_true c9
              clear c9
              by_cases c10 : x12_1 < (l0.length : Int)
              · rw [if_pos c10] at H
                have c10b0 : decide (x12_1 < (l0.length : Int)) = true := decide_eq_true c10
                clear c10
                have c11b0 := eq_true (of_decide_eq_true (by first | (with_reducible assumption) | assumption) : 0 ≤ x12_1)
                by_cases c12 : x12_1 ≤ (l0.length : Int)
                · rw [if_pos c12] at H
                  have c12b0 := eq_true c12
                  have c12b1 : decide (x12_1 ≤ (l0.length : Int)) = true := decide_eq_true c12
                  clear c12
                  obtain ⟨y154, hy154⟩ : ∃ y_ : List (S63), y_ = (l0.take (x12_1 : Int).toNat) := ⟨_, rfl⟩
                  replace H : ((cf_emitAttrs2.f y154 ((rd_T63 l0 x12_1).f0) ((rd_T63 l0 x12_1).f1)).bind fun t158 => (if t158 = true then (some 8) else (emit_Attrs.l0 k1 l0 l0 (l0.length : Int) (wrap64 (x12_1 + 1))))) = some r := by first | (rw [hy154]; with_reducible exact H) | (have H2_ := (Option.bind_some _ _).symm.trans H; rw [hy154]; with_reducible exact H2_) | (have H2_ := (Option.bind_some _ _).symm.trans H; with_reducible exact H2_) | with_reducible exact H | (rw [hy154]; exact H) | exact H
                  have Ny154 := Aside0.mk hy154
                  clear hy154
                  replace H := Option.bind_eq_some_iff.mp H
                  obtain ⟨t158, A130, H⟩ := H
                  replace H : (if t158 = true then (some 8) else (emit_Attrs.l0 k1 l0 l0 (l0.length : Int) (wrap64 (x12_1 + 1)))) = some r := H
                  have A13 := Aside0.mk A130
                  clear A130
                  by_cases c14 : t158 = true
                  · subst c14
                    have H1 : (some 8) = some r := by rw [if_pos rfl] at H; exact H
                    clear H
                    have H := H1
                    clear H1
                    obtain rfl := Option.some.inj H
                    have p152 : 0 ≤ (x12_1 : Int) := of_decide_eq_true (by first | (with_reducible assumption) | assumption)
                    have q152 : x12_1 < (l0.length : Int) := of_decide_eq_true (by first | (with_reducible assumption) | assumption)
                    obtain ⟨ad152, e152, hx152_0, hx152_1⟩ := at_T63 HR0.out x12_1 p152 q152
                    cases e152
                    replace hx152_0 := (HB.out.cell (World.block_lt_of_cell? w _ hx152_0)).trans hx152_0
                    replace hx152_1 := (HB.out.cell (World.block_lt_of_cell? w _ hx152_1)).trans hx152_1
                    replace p152 := eq_true p152
                    replace q152 := eq_true q152
                    go_wp2_with (first | ((with_reducible refine gate_dst (N := 4) rfl ?_); refine box_event ?hg (N := 4) ?hd (cs := #[.string (⟨#[]⟩ : ByteArray), .string (⟨#[]⟩ : ByteArray)]) (t := 63) ?hr ?_; (case hd => rfl); (case hg => rfl); (case hr => first | (go_simp; done) | (go_simp; rfl)); intro gb153 hg w15 hbox hb; have n0_ := Aside0.mk (below_step (by repeat (first | (with_reducible first | exact HB.out | apply below_alloc | apply pw_below_drewN | apply below_drew1) | exact HB.out)) hb); have n1_ := Aside0.mk (hbox); have n2_ := Aside0.mk ((by rw [hg]; exact (below_size (by repeat (first | (with_reducible first | exact HB.out | apply below_alloc | apply pw_below_drewN | apply below_drew1) | exact HB.out))) : w.heap.size ≤ gb153)); have n3_ := Aside0.mk ((by rw [hg]; exact (below_size (by repeat (first | (with_reducible first | exact HB.out | apply below_alloc | apply pw_below_drewN | apply below_drew1) | exact HB.out))) : w.heap.size ≤ gb153)); clear HB; have HB := n0_; have BK153 := n1_; have GW153 := n2_; have GE153 := n3_; clear n0_ n1_ n2_ n3_; clear hb hbox hg; have hcz16_0 : w15.cell? ⟨gb153, 0, none⟩ = some (.string (⟨#[]⟩ : ByteArray)) := (blk_cell BK153.out 0).trans rfl; have hcz16_1 : w15.cell? ⟨gb153, 1, none⟩ = some (.string (⟨#[]⟩ : ByteArray)) := (blk_cell BK153.out 1).trans rfl; have hfz16_0 := blk_frozen BK153.out 0; have hfz16_1 := blk_frozen BK153.out 1) | ((with_reducible refine gate_store (t := 63) (p := 4) rfl ?_); refine store_event (t := 63) (p := 4) (v := ?vo_w17) (w1 := ((w15.setCell ⟨gb153, 0, none⟩ (.string ((rd_T63 l0 x12_1).f0))).setCell ⟨gb153, 1, none⟩ (.string ((rd_T63 l0 x12_1).f1)))) ?hg ?ho ?hn ?hr ?_; (case ho => rfl); (case hg => rfl); (case hn => rfl); (case hr => first | (go_simp; done) | (go_simp; rfl)); intro w17 hw; have n0_ : Aside0 (w17.heap[gb153]? = some (.cells #[.string ((rd_T63 l0 x12_1).f0), .string ((rd_T63 l0 x12_1).f1)] 63 (0, 0))) := ⟨(by rw [hw]; exact (by (with_reducible repeat (first | refine blk_drewN ?_ _ | refine blk_drew ?_ | refine blk_alloc ?_ _)); refine blk_put (cs := #[.string ((rd_T63 l0 x12_1).f0), .string (⟨#[]⟩ : ByteArray)]) ?_ 1 _ rfl; (with_reducible repeat (first | refine blk_drewN ?_ _ | refine blk_drew ?_ | refine blk_alloc ?_ _)); refine blk_put (cs := #[.string (⟨#[]⟩ : ByteArray), .string (⟨#[]⟩ : ByteArray)]) ?_ 0 _ rfl; (with_reducible repeat (first | refine blk_drewN ?_ _ | refine blk_drew ?_ | refine blk_alloc ?_ _)); exact BK153.out))⟩; have n1_ : Aside0 (Below w.heap.size w w17) := ⟨(by rw [hw]; exact (by repeat (first | (with_reducible first | exact HB.out | apply below_alloc | apply pw_below_drewN | apply below_drew1 | refine below_set ?_ GE153.out) | exact HB.out)))⟩; clear hw; clear BK153; clear HB; have BK153 := n0_; have HB := n1_; clear n0_ n1_; have q18 : (x12_1 : Int) ≤ ((l0.length : Int) : Int) := of_decide_eq_true (by first | (with_reducible assumption) | assumption); obtain ⟨i018, hi018, _, hsz18, _⟩ := info_parts info63; have hroom18 : l0.length ≤ c0 := HC0.out; have hC18 : Kd.C k63 _ (some ad152) l0.length l0 := HR0.out; have hcut18 := cut_to (P := Try.prog) 45 63 .i64 Try.underlying45 hi018 (some ad152) l0.length c0 x12_1 (of_decide_eq_true (by first | (with_reducible assumption) | assumption)) q18 hroom18; have hr18 := Kd.C_take (m := (x12_1 : Int).toNat) hC18 (by omega); have hy18 : y154.length = (x12_1 : Int).toNat := (by rw [Ny154.out, List.length_take]; omega); rw [← Ny154.out] at hr18; rw [← hy18] at hcut18; have HR157 := Aside0.mk hr18; have HC157 := Aside0.mk (show y154.length ≤ c0 from by omega); clear hr18 hC18 hroom18 hi018 hsz18; have KY18 := Aside0.mk hy18; clear hy18; replace q18 := eq_true q18) | ((with_reducible refine gate_callee (f := 60) rfl ?_); refine goesL_ (some 21) rfl rfl Try.func60 (by kernel_rfl) rfl #[.slice (some ad152) y154.length c0, .func (.func 62) #[] #[.pointer (some ⟨gb153, 0, none⟩)]] rfl (by (try simp only [List.map_toArray, List.map_cons, List.map_nil]); first | done | rfl | (simp only [List.length_drop, List.length_take]; rfl)) ?_; (with_reducible refine (cf_emitAttrs2.calls _ _ y154 gb153 ((rd_T63 l0 x12_1).f0) ((rd_T63 l0 x12_1).f1) true _ ?side1 ?side2 ?side3 A13.out).mono ?_); (case side1 => repeat (first | exact (Kd.C_below HR157.out HB.out) | (with_reducible refine Kd.C_alloc ?_ _) | (with_reducible refine Kd.C_drewN ?_ _) | (with_reducible refine Kd.C_drew ?_))); (case side2 => exact HC157.out); (case side3 => exact (by (with_reducible repeat (first | refine blk_drewN ?_ _ | refine blk_drew ?_ | refine blk_alloc ?_ _)); exact BK153.out)); rintro e w19 ⟨rfl, hb⟩; refine ⟨_, rfl, ?_⟩; have n0_ := Aside0.mk (blk_below (g := gb153) (o := .cells #[.string ((rd_T63 l0 x12_1).f0), .string ((rd_T63 l0 x12_1).f1)] 63 (0, 0)) (by (with_reducible repeat (first | refine blk_drewN ?_ _ | refine blk_drew ?_ | refine blk_alloc ?_ _)); exact BK153.out) hb); have n1_ := Aside0.mk (below_step (by repeat (first | (with_reducible first | exact HB.out | apply below_alloc | apply pw_below_drewN | apply below_drew1 | refine below_set ?_ GE153.out) | exact HB.out)) hb); clear BK153; clear HB; have BK153 := n0_; have HB := n1_; clear n0_ n1_; (try clear hb); (try clear hb2); (try clear hk); (try clear hi)))
                    go_ret
                    exact ⟨by first | rfl | (simp [errW_none, errW_some] <;> rfl) | (simp [*, errW_none, errW_some] <;> rfl), by repeat (first | (with_reducible first | exact HB.out | apply below_alloc | apply pw_below_drewN | apply below_drew1 | refine below_set ?_ GE153.out) | exact HB.out)⟩
                  · replace c14 := Bool.eq_false_iff.mpr c14
                    subst c14
                    have H1 : (emit_Attrs.l0 k1 l0 l0 (l0.length : Int) (wrap64 (x12_1 + 1))) = some r := by rw [if_neg (show ¬ (false = true) by decide)] at H; exact H
                    clear H
                    have H := H1
                    clear H1
                    have H' := Aside0.mk H
                    clear H
                    have p152 : 0 ≤ (x12_1 : Int) := of_decide_eq_true (by first | (with_reducible assumption) | assumption)
                    have q152 : x12_1 < (l0.length : Int) := of_decide_eq_true (by first | (with_reducible assumption) | assumption)
                    obtain ⟨ad152, e152, hx152_0, hx152_1⟩ := at_T63 HR0.out x12_1 p152 q152
                    cases e152
                    replace hx152_0 := (HB.out.cell (World.block_lt_of_cell? w _ hx152_0)).trans hx152_0
                    replace hx152_1 := (HB.out.cell (World.block_lt_of_cell? w _ hx152_1)).trans hx152_1
                    replace p152 := eq_true p152
                    replace q152 := eq_true q152
                    go_wp2_with (first | ((with_reducible refine gate_dst (N := 4) rfl ?_); refine box_event ?hg (N := 4) ?hd (cs := #[.string (⟨#[]⟩ : ByteArray), .string (⟨#[]⟩ : ByteArray)]) (t := 63) ?hr ?_; (case hd => rfl); (case hg => rfl); (case hr => first | (go_simp; done) | (go_simp; rfl)); intro gb153 hg w20 hbox hb; have n0_ := Aside0.mk (below_step (by repeat (first | (with_reducible first | exact HB.out | apply below_alloc | apply pw_below_drewN | apply below_drew1) | exact HB.out)) hb); have n1_ := Aside0.mk (hbox); have n2_ := Aside0.mk ((by rw [hg]; exact (below_size (by repeat (first | (with_reducible first | exact HB.out | apply below_alloc | apply pw_below_drewN | apply below_drew1) | exact HB.out))) : w.heap.size ≤ gb153)); have n3_ := Aside0.mk ((by rw [hg]; exact (below_size (by repeat (first | (with_reducible first | exact HB.out | apply below_alloc | apply pw_below_drewN | apply below_drew1) | exact HB.out))) : w.heap.size ≤ gb153)); clear HB; have HB := n0_; have BK153 := n1_; have GW153 := n2_; have GE153 := n3_; clear n0_ n1_ n2_ n3_; clear hb hbox hg; have hcz21_0 : w20.cell? ⟨gb153, 0, none⟩ = some (.string (⟨#[]⟩ : ByteArray)) := (blk_cell BK153.out 0).trans rfl; have hcz21_1 : w20.cell? ⟨gb153, 1, none⟩ = some (.string (⟨#[]⟩ : ByteArray)) := (blk_cell BK153.out 1).trans rfl; have hfz21_0 := blk_frozen BK153.out 0; have hfz21_1 := blk_frozen BK153.out 1) | ((with_reducible refine gate_store (t := 63) (p := 4) rfl ?_); refine store_event (t := 63) (p := 4) (v := ?vo_w22) (w1 := ((w20.setCell ⟨gb153, 0, none⟩ (.string ((rd_T63 l0 x12_1).f0))).setCell ⟨gb153, 1, none⟩ (.string ((rd_T63 l0 x12_1).f1)))) ?hg ?ho ?hn ?hr ?_; (case ho => rfl); (case hg => rfl); (case hn => rfl); (case hr => first | (go_simp; done) | (go_simp; rfl)); intro w22 hw; have n0_ : Aside0 (w22.heap[gb153]? = some (.cells #[.string ((rd_T63 l0 x12_1).f0), .string ((rd_T63 l0 x12_1).f1)] 63 (0, 0))) := ⟨(by rw [hw]; exact (by (with_reducible repeat (first | refine blk_drewN ?_ _ | refine blk_drew ?_ | refine blk_alloc ?_ _)); refine blk_put (cs := #[.string ((rd_T63 l0 x12_1).f0), .string (⟨#[]⟩ : ByteArray)]) ?_ 1 _ rfl; (with_reducible repeat (first | refine blk_drewN ?_ _ | refine blk_drew ?_ | refine blk_alloc ?_ _)); refine blk_put (cs := #[.string (⟨#[]⟩ : ByteArray), .string (⟨#[]⟩ : ByteArray)]) ?_ 0 _ rfl; (with_reducible repeat (first | refine blk_drewN ?_ _ | refine blk_drew ?_ | refine blk_alloc ?_ _)); exact BK153.out))⟩; have n1_ : Aside0 (Below w.heap.size w w22) := ⟨(by rw [hw]; exact (by repeat (first | (with_reducible first | exact HB.out | apply below_alloc | apply pw_below_drewN | apply below_drew1 | refine below_set ?_ GE153.out) | exact HB.out)))⟩; clear hw; clear BK153; clear HB; have BK153 := n0_; have HB := n1_; clear n0_ n1_; have q23 : (x12_1 : Int) ≤ ((l0.length : Int) : Int) := of_decide_eq_true (by first | (with_reducible assumption) | assumption); obtain ⟨i023, hi023, _, hsz23, _⟩ := info_parts info63; have hroom23 : l0.length ≤ c0 := HC0.out; have hC23 : Kd.C k63 _ (some ad152) l0.length l0 := HR0.out; have hcut23 := cut_to (P := Try.prog) 45 63 .i64 Try.underlying45 hi023 (some ad152) l0.length c0 x12_1 (of_decide_eq_true (by first | (with_reducible assumption) | assumption)) q23 hroom23; have hr23 := Kd.C_take (m := (x12_1 : Int).toNat) hC23 (by omega); have hy23 : y154.length = (x12_1 : Int).toNat := (by rw [Ny154.out, List.length_take]; omega); rw [← Ny154.out] at hr23; rw [← hy23] at hcut23; have HR157 := Aside0.mk hr23; have HC157 := Aside0.mk (show y154.length ≤ c0 from by omega); clear hr23 hC23 hroom23 hi023 hsz23; have KY23 := Aside0.mk hy23; clear hy23; replace q23 := eq_true q23) | ((with_reducible refine gate_callee (f := 60) rfl ?_); refine goesL_ (some 21) rfl rfl Try.func60 (by kernel_rfl) rfl #[.slice (some ad152) y154.length c0, .func (.func 62) #[] #[.pointer (some ⟨gb153, 0, none⟩)]] rfl (by (try simp only [List.map_toArray, List.map_cons, List.map_nil]); first | done | rfl | (simp only [List.length_drop, List.length_take]; rfl)) ?_; (with_reducible refine (cf_emitAttrs2.calls _ _ y154 gb153 ((rd_T63 l0 x12_1).f0) ((rd_T63 l0 x12_1).f1) false _ ?side1 ?side2 ?side3 A13.out).mono ?_); (case side1 => repeat (first | exact (Kd.C_below HR157.out HB.out) | (with_reducible refine Kd.C_alloc ?_ _) | (with_reducible refine Kd.C_drewN ?_ _) | (with_reducible refine Kd.C_drew ?_))); (case side2 => exact HC157.out); (case side3 => exact (by (with_reducible repeat (first | refine blk_drewN ?_ _ | refine blk_drew ?_ | refine blk_alloc ?_ _)); exact BK153.out)); rintro e w24 ⟨rfl, hb⟩; refine ⟨_, rfl, ?_⟩; have n0_ := Aside0.mk (blk_below (g := gb153) (o := .cells #[.string ((rd_T63 l0 x12_1).f0), .string ((rd_T63 l0 x12_1).f1)] 63 (0, 0)) (by (with_reducible repeat (first | refine blk_drewN ?_ _ | refine blk_drew ?_ | refine blk_alloc ?_ _)); exact BK153.out) hb); have n1_ := Aside0.mk (below_step (by repeat (first | (with_reducible first | exact HB.out | apply below_alloc | apply pw_below_drewN | apply below_drew1 | refine below_set ?_ GE153.out) | exact HB.out)) hb); clear BK153; clear HB; have BK153 := n0_; have HB := n1_; clear n0_ n1_; (try clear hb); (try clear hb2); (try clear hk); (try clear hi)))
                    go_roundg k1
                    case measure => have := HK1.out; omega
                    case rel => exact ⟨(wrap64 (x12_1 + 1)), (by first | rfl | (simp; done) | (simp [*]; done) | (simp [bne]; done)), H', ⟨by have := HK1.out; omega⟩, ⟨by repeat (first | (with_reducible first | exact HB.out | apply below_alloc | apply pw_below_drewN | apply below_drew1 | refine below_set ?_ GE153.out) | exact HB.out)⟩⟩
                · rw [if_neg c12] at H
                  exact absurd H (by simp)
              · rw [if_neg c10] at H
                exact absurd H (by simp)
            · rw [if_neg c9] at H
              exact absurd H (by simp)
          · rw [if_neg c8] at H
            have c8b0 : decide (x12_1 < (l0.length : Int)) = false := decide_eq_false c8
            clear c8
            obtain rfl := Option.some.inj H
            go_wp2
            go_ret
            exact ⟨by first | rfl | (simp [errW_none, errW_some] <;> rfl) | (simp [*, errW_none, errW_some] <;> rfl), by repeat (first | (with_reducible first | exact HB.out | apply below_alloc | apply pw_below_drewN | apply below_drew1) | exact HB.out)⟩
end Go.Proofs.Ytjmhihadgpdiaaa.X
end
section
namespace Go.Proofs.Ytjmhihadgpdiaaa.X
open Go.RowKit Go.Proofs.YtjmhihadgpdiaaaW.PrintWords Go.Proofs.YtjmhihadgpdiaaaW.PrintLast Go.Proofs.YtjmhihadgpdiaaaW.PrintMore
attribute [local go_sem] max2_int min2_int max_two min_two max_three min_three max_four min_four   -- for this text's walks alone
set_option linter.unusedVariables false
set_option linter.unusedSimpArgs false
def slices_Index_string_string.l0 : Nat → List ByteArray → ByteArray → Int → Int → Option (Int)
  | 0, _, _, _, _ => none
  | k + 1, x0, x1, x7, x8 => if x8 < x7 then (if 0 ≤ x8 then (if x8 < (x0.length : Int) then (if x1.toList = (rdOf ByteArray.empty x0 x8).toList then (some x8) else (slices_Index_string_string.l0 k x0 x1 x7 (wrap64 (x8 + 1)))) else (none)) else (none)) else (some (-1))
def slices_Index_string_string.f (k : Nat) (l0 : List ByteArray) (a1 : ByteArray) : Option (Int) := slices_Index_string_string.l0 k l0 a1 (l0.length : Int) 0
theorem slices_Index_string_string.mono_l : ∀ k, (∀ y0 y1 y2 y3, LeO (slices_Index_string_string.l0 k y0 y1 y2 y3) (slices_Index_string_string.l0 (k + 1) y0 y1 y2 y3))
  | 0 => fun _ _ _ _ r h => by simp [slices_Index_string_string.l0] at h
  | k + 1 => by
    have ih0 := slices_Index_string_string.mono_l k
    · intro y0 y1 y2 y3
      unfold slices_Index_string_string.l0
      repeat' first
      | (with_reducible exact ih0 _ _ _ _)
      | (with_reducible exact LeO.refl _)
      | (with_reducible exact LeO.none _)
      | (with_reducible refine LeO.ite ?_ ?_)
      | (with_reducible refine LeO.bind ?_ (fun _ => ?_))
      | exact ih0 _ _ _ _
      | exact LeO.none _
      | refine LeO.ite ?_ ?_
      | refine LeO.bind ?_ (fun _ => ?_)
theorem slices_Index_string_string.mono : ∀ a0 a1 k, LeO (slices_Index_string_string.f k a0 a1) (slices_Index_string_string.f (k + 1) a0 a1) := by
  intro a0 a1 k
  have ih0 := slices_Index_string_string.mono_l k
  unfold slices_Index_string_string.f
  repeat' first
      | (with_reducible exact ih0 _ _ _ _)
      | (with_reducible exact LeO.refl _)
      | (with_reducible exact LeO.none _)
      | (with_reducible refine LeO.ite ?_ ?_)
      | (with_reducible refine LeO.bind ?_ (fun _ => ?_))
      | exact ih0 _ _ _ _
      | exact LeO.none _
      | refine LeO.ite ?_ ?_
      | refine LeO.bind ?_ (fun _ => ?_)
set_option maxHeartbeats 8000000 in
set_option maxRecDepth 100000 in
theorem slices_Index_string_string.calls (k : Nat) (A0 : Option Addr) (c0 : Nat) (l0 : List ByteArray) (a1 : ByteArray) (r : Int) (w : World) (hr0 : Kd.C Kd.string w A0 l0.length l0) (hc0 : l0.length ≤ c0) (h : slices_Index_string_string.f k l0 a1 = some r) :
    Calls Try.prog 71 #[.slice A0 l0.length c0, .string a1] w fun e w' => e = .returned (.int .i64 r) ∧ Drawn0 w w' := by
  have HR0 := Aside0.mk hr0
  have HC0 := Aside0.mk hc0
  clear hr0 hc0
  have H : (slices_Index_string_string.l0 k l0 a1 (l0.length : Int) 0) = some r := h
  clear h
  have H' := Aside0.mk H
  clear H
  go_enter Try.func71, Try.ntmps71
  go_wp2
  go_loopg [8] k (fun kq v8 w' => ∃ (x8_1 : Int), v8 = .int .i64 x8_1 ∧ Aside0 (slices_Index_string_string.l0 kq l0 a1 (l0.length : Int) x8_1 = some r) ∧ Aside0 (kq ≤ k) ∧ Drawn0 w w')
  case atStart => exact ⟨(0), (by first | rfl | (simp; done) | (simp [*]; done) | (simp [bne]; done)), H', ⟨Nat.le_refl _⟩, by repeat (first | exact Drawn0.refl _ | apply Drawn0.step)⟩
  case round =>
    clear H'
    try clear p2
    obtain ⟨x8_1, rfl, HA, HK1, ⟨m1, rfl⟩⟩ := hrel
    cases gk with
    | zero => exact absurd HA.out (by simp [slices_Index_string_string.l0])
    | succ k1 =>
      have H := HA.out
      clear HA
      simp only [slices_Index_string_string.l0] at H
      by_cases c3 : x8_1 < (l0.length : Int)
      · rw [if_pos c3] at H
        have c3b0 : decide (x8_1 < (l0.length : Int)) = true := decide_eq_true c3
        clear c3
        by_cases c4 : 0 ≤ x8_1
        · rw [if_pos c4] at H
          have c4b0 : decide (0 ≤ x8_1) = true := decide_eq_true c4
          clear c4
          by_cases c5 : x8_1 < (l0.length : Int)
          · rw [if_pos c5] at H
            have c5b0 : decide (x8_1 < (l0.length : Int)) = true := decide_eq_true c5
            clear c5
            by_cases c6 : a1.toList = (rdOf ByteArray.empty l0 x8_1).toList
            · rw [if_pos c6] at H
              have c6b0 : (a1.toList == (rdOf ByteArray.empty l0 x8_1).toList) = true := beq_iff_eq.mpr c6
              have c6b1 : (a1.toList != (rdOf ByteArray.empty l0 x8_1).toList) = false := bne_eq_false_iff_eq.mpr c6
              clear c6
              obtain rfl := Option.some.inj H
              have p159 : 0 ≤ (x8_1 : Int) := of_decide_eq_true (by first | (with_reducible assumption) | assumption)
              have q159 : x8_1 < (l0.length : Int) := of_decide_eq_true (by first | (with_reducible assumption) | assumption)
              obtain ⟨ad159, e159, hx159_0⟩ := Kd.at_string HR0.out x8_1 p159 q159
              cases e159
              replace p159 := eq_true p159
              replace q159 := eq_true q159
              go_wp2
              go_ret
              exact ⟨by first | rfl | (simp; done) | (simp [*]; done), by repeat (first | exact Drawn0.refl _ | apply Drawn0.step)⟩
            · rw [if_neg c6] at H
              have c6b0 : (a1.toList == (rdOf ByteArray.empty l0 x8_1).toList) = false := beq_eq_false_iff_ne.mpr c6
              have c6b1 : (a1.toList != (rdOf ByteArray.empty l0 x8_1).toList) = true := bne_iff_ne.mpr c6
              have H' := Aside0.mk H
              clear H
              have p159 : 0 ≤ (x8_1 : Int) := of_decide_eq_true (by first | (with_reducible assumption) | assumption)
              have q159 : x8_1 < (l0.length : Int) := of_decide_eq_true (by first | (with_reducible assumption) | assumption)
              obtain ⟨ad159, e159, hx159_0⟩ := Kd.at_string HR0.out x8_1 p159 q159
              cases e159
              replace p159 := eq_true p159
              replace q159 := eq_true q159
              go_wp2
              go_roundg k1
              case measure => have := HK1.out; omega
              case rel => exact ⟨(wrap64 (x8_1 + 1)), (by first | rfl | (simp; done) | (simp [*]; done) | (simp [bne]; done)), H', ⟨by have := HK1.out; omega⟩, by repeat (first | exact Drawn0.refl _ | apply Drawn0.step)⟩
          · rw [if_neg c5] at H
            exact absurd H (by simp)
        · rw [if_neg c4] at H
          exact absurd H (by simp)
      · rw [if_neg c3] at H
        have c3b0 : decide (x8_1 < (l0.length : Int)) = false := decide_eq_false c3
        clear c3
        obtain rfl := Option.some.inj H
        go_wp2
        go_ret
        exact ⟨by first | rfl | (simp; done) | (simp [*]; done), by repeat (first | exact Drawn0.refl _ | apply Drawn0.step)⟩
end Go.Proofs.Ytjmhihadgpdiaaa.X
end
section
namespace Go.Proofs.Ytjmhihadgpdiaaa.X
open Go.RowKit Go.Proofs.YtjmhihadgpdiaaaW.PrintWords Go.Proofs.YtjmhihadgpdiaaaW.PrintLast Go.Proofs.YtjmhihadgpdiaaaW.PrintMore
attribute [local go_sem] max2_int min2_int max_two min_two max_three min_three max_four min_four   -- for this text's walks alone
set_option linter.unusedVariables false
set_option linter.unusedSimpArgs false
def slices_Contains_string_string.f (k : Nat) (l0 : List ByteArray) (a1 : ByteArray) : Option (Bool) := (slices_Index_string_string.f k l0 a1).bind fun t160 => (some (decide (t160 ≥ 0)))
theorem slices_Contains_string_string.mono : ∀ a0 a1 k, LeO (slices_Contains_string_string.f k a0 a1) (slices_Contains_string_string.f (k + 1) a0 a1) := by
  intro a0 a1 k
  unfold slices_Contains_string_string.f
  repeat' first
      | (with_reducible exact slices_Index_string_string.mono _ _ _)
      | (with_reducible exact LeO.refl _)
      | (with_reducible exact LeO.none _)
      | (with_reducible refine LeO.ite ?_ ?_)
      | (with_reducible refine LeO.bind ?_ (fun _ => ?_))
      | exact slices_Index_string_string.mono _ _ _
      | exact LeO.none _
      | refine LeO.ite ?_ ?_
      | refine LeO.bind ?_ (fun _ => ?_)
set_option maxHeartbeats 8000000 in
set_option maxRecDepth 100000 in
theorem slices_Contains_string_string.calls (k : Nat) (A0 : Option Addr) (c0 : Nat) (l0 : List ByteArray) (a1 : ByteArray) (r : Bool) (w : World) (hr0 : Kd.C Kd.string w A0 l0.length l0) (hc0 : l0.length ≤ c0) (h : slices_Contains_string_string.f k l0 a1 = some r) :
    Calls Try.prog 65 #[.slice A0 l0.length c0, .string a1] w fun e w' => e = .returned (.bool r) ∧ Drawn0 w w' := by
  have HR0 := Aside0.mk hr0
  have HC0 := Aside0.mk hc0
  clear hr0 hc0
  have H : ((slices_Index_string_string.f k l0 a1).bind fun t160 => (some (decide (t160 ≥ 0)))) = some r := h
  clear h
  replace H := Option.bind_eq_some_iff.mp H
  obtain ⟨t160, A30, H⟩ := H
  replace H : (some (decide (t160 ≥ 0))) = some r := H
  have A3 := Aside0.mk A30
  clear A30
  obtain rfl := Option.some.inj H
  go_enter Try.func65, Try.ntmps65
  go_wp2_with (first | ((with_reducible refine gate_callee (f := 71) rfl ?_); refine goesL_ (some 7) rfl rfl Try.func71 (by kernel_rfl) rfl #[.slice A0 l0.length c0, .string a1] rfl (by (try simp only [List.map_toArray, List.map_cons, List.map_nil]); first | done | rfl | (simp only [List.length_drop, List.length_take]; rfl)) ?_; (with_reducible refine (slices_Index_string_string.calls k _ _ l0 a1 t160 _ ?side1 ?side2 A3.out).mono ?_); (case side1 => repeat (first | exact HR0.out | (with_reducible refine Kd.C_alloc ?_ _) | (with_reducible refine Kd.C_drewN ?_ _) | (with_reducible refine Kd.C_drew ?_))); (case side2 => exact HC0.out); rintro e w' ⟨rfl, ⟨nd, rfl⟩⟩; refine ⟨_, rfl, ?_⟩))
  go_ret
  exact ⟨by first | rfl | (simp; done) | (simp [*]; done), by repeat (first | exact Drawn0.refl _ | apply Drawn0.step)⟩
end Go.Proofs.Ytjmhihadgpdiaaa.X
end
section
namespace Go.Proofs.Ytjmhihadgpdiaaa.X
open Go.RowKit Go.Proofs.YtjmhihadgpdiaaaW.PrintWords Go.Proofs.YtjmhihadgpdiaaaW.PrintLast Go.Proofs.YtjmhihadgpdiaaaW.PrintMore
attribute [local go_sem] max2_int min2_int max_two min_two max_three min_three max_four min_four   -- for this text's walks alone
set_option linter.unusedVariables false
set_option linter.unusedSimpArgs false
def emit_raw.f (k : Nat) (a0 : ByteArray) : Option (Bool) := (slices_Contains_string_string.f k (([(⟨#[115, 99, 114, 105, 112, 116]⟩ : ByteArray), (⟨#[115, 116, 121, 108, 101]⟩ : ByteArray), (⟨#[116, 101, 120, 116, 97, 114, 101, 97]⟩ : ByteArray), (⟨#[116, 105, 116, 108, 101]⟩ : ByteArray)] : List ByteArray)) a0).bind fun t164 => (some t164)
theorem emit_raw.mono : ∀ a0 k, LeO (emit_raw.f k a0) (emit_raw.f (k + 1) a0) := by
  intro a0 k
  unfold emit_raw.f
  repeat' first
      | (with_reducible exact slices_Contains_string_string.mono _ _ _)
      | (with_reducible exact LeO.refl _)
      | (with_reducible exact LeO.none _)
      | (with_reducible refine LeO.ite ?_ ?_)
      | (with_reducible refine LeO.bind ?_ (fun _ => ?_))
      | exact slices_Contains_string_string.mono _ _ _
      | exact LeO.none _
      | refine LeO.ite ?_ ?_
      | refine LeO.bind ?_ (fun _ => ?_)
set_option maxHeartbeats 8000000 in
set_option maxRecDepth 100000 in
theorem emit_raw.calls (k : Nat) (a0 : ByteArray) (r : Bool) (w : World) (h : emit_raw.f k a0 = some r) :
    Calls Try.prog 63 #[.string a0] w fun e w' => e = .returned (.bool r) ∧ Below w.heap.size w w' := by
  have HB := Aside0.mk (Below.refl w.heap.size w)
  have H : ((slices_Contains_string_string.f k (([(⟨#[115, 99, 114, 105, 112, 116]⟩ : ByteArray), (⟨#[115, 116, 121, 108, 101]⟩ : ByteArray), (⟨#[116, 101, 120, 116, 97, 114, 101, 97]⟩ : ByteArray), (⟨#[116, 105, 116, 108, 101]⟩ : ByteArray)] : List ByteArray)) a0).bind fun t164 => (some t164)) = some r := h
  clear h
  obtain ⟨y161, hy161⟩ : ∃ y_ : List ByteArray, y_ = (([(⟨#[115, 99, 114, 105, 112, 116]⟩ : ByteArray), (⟨#[115, 116, 121, 108, 101]⟩ : ByteArray), (⟨#[116, 101, 120, 116, 97, 114, 101, 97]⟩ : ByteArray), (⟨#[116, 105, 116, 108, 101]⟩ : ByteArray)] : List ByteArray)) := ⟨_, rfl⟩
  replace H : ((slices_Contains_string_string.f k y161 a0).bind fun t164 => (some t164)) = some r := by first | (rw [hy161]; with_reducible exact H) | (have H2_ := (Option.bind_some _ _).symm.trans H; rw [hy161]; with_reducible exact H2_) | (have H2_ := (Option.bind_some _ _).symm.trans H; with_reducible exact H2_) | with_reducible exact H | (rw [hy161]; exact H) | exact H
  have Ny161 := Aside0.mk hy161
  clear hy161
  replace H := Option.bind_eq_some_iff.mp H
  obtain ⟨t164, A20, H⟩ := H
  replace H : (some t164) = some r := H
  have A2 := Aside0.mk A20
  clear A20
  obtain rfl := Option.some.inj H
  go_enter Try.func63, Try.ntmps63
  go_wp2_with (first | ((with_reducible refine gate_dst (N := 3) rfl ?_); refine Kd.R_lit Kd.string _ 9 ?hg (N := 3) ?hd (xs := ([(⟨#[115, 99, 114, 105, 112, 116]⟩ : ByteArray), (⟨#[115, 116, 121, 108, 101]⟩ : ByteArray), (⟨#[116, 101, 120, 116, 97, 114, 101, 97]⟩ : ByteArray), (⟨#[116, 105, 116, 108, 101]⟩ : ByteArray)] : List ByteArray)) (inner := [.string (⟨#[115, 99, 114, 105, 112, 116]⟩ : ByteArray), .string (⟨#[115, 116, 121, 108, 101]⟩ : ByteArray), .string (⟨#[116, 101, 120, 116, 97, 114, 101, 97]⟩ : ByteArray), .string (⟨#[116, 105, 116, 108, 101]⟩ : ByteArray)]) (ok := fun _ => True) (okp := fun _ => True) ?hr ?hp (fun _ hk => hk) trivial (Below.refl _ _) (Nat.le_refl _) (by simp) ?_; (case hd => rfl); (case hg => rfl); (case hr => first | (go_simp; done) | (go_simp; rfl)); (case hp => exact (Reps.one (show Kd.M Kd.string _ _ _ (⟨#[115, 99, 114, 105, 112, 116]⟩ : ByteArray) [.string (⟨#[115, 99, 114, 105, 112, 116]⟩ : ByteArray)] from rfl) (Reps.one (show Kd.M Kd.string _ _ _ (⟨#[115, 116, 121, 108, 101]⟩ : ByteArray) [.string (⟨#[115, 116, 121, 108, 101]⟩ : ByteArray)] from rfl) (Reps.one (show Kd.M Kd.string _ _ _ (⟨#[116, 101, 120, 116, 97, 114, 101, 97]⟩ : ByteArray) [.string (⟨#[116, 101, 120, 116, 97, 114, 101, 97]⟩ : ByteArray)] from rfl) (Reps.one (show Kd.M Kd.string _ _ _ (⟨#[116, 105, 116, 108, 101]⟩ : ByteArray) [.string (⟨#[116, 105, 116, 108, 101]⟩ : ByteArray)] from rfl) (Reps.none _ _)))))); intro v162 w3 ho4 hb hg_ hnew_; clear hg_ hnew_; (first | rw [← Ny161.out] at ho4 | (simp only [Int.reduceToNat] at ho4; rw [← Ny161.out] at ho4)); have n0_ := Aside0.mk (Kd.R_lower ho4 (below_size (by repeat (first | (with_reducible first | exact HB.out | apply below_alloc | apply pw_below_drewN | apply below_drew1) | exact HB.out)))); have n1_ := Aside0.mk (below_step (by repeat (first | (with_reducible first | exact HB.out | apply below_alloc | apply pw_below_drewN | apply below_drew1) | exact HB.out)) hb); clear HB; have HO163 := n0_; have HB := n1_; clear n0_ n1_; clear hb ho4; obtain ⟨Ao5, co5, eo5⟩ := Kd.R_slice HO163.out; subst eo5) | ((with_reducible refine gate_callee (f := 65) rfl ?_); refine goesL_ (some 5) rfl rfl Try.func65 (by kernel_rfl) rfl #[.slice Ao5 y161.length co5, .string a0] rfl (by (try simp only [List.map_toArray, List.map_cons, List.map_nil]); first | done | rfl | (simp only [List.length_drop, List.length_take]; rfl)) ?_; (with_reducible refine (slices_Contains_string_string.calls k _ _ y161 a0 t164 _ ?side1 ?side2 A2.out).mono ?_); (case side1 => repeat (first | exact (Kd.R_reads' HO163.out).2.2 | (with_reducible refine Kd.C_alloc ?_ _) | (with_reducible refine Kd.C_drewN ?_ _) | (with_reducible refine Kd.C_drew ?_))); (case side2 => exact (Kd.R_reads' HO163.out).2.1); rintro e w' ⟨rfl, ⟨nd, rfl⟩⟩; refine ⟨_, rfl, ?_⟩))
  go_ret
  exact ⟨by first | rfl | (simp [errW_none, errW_some] <;> rfl) | (simp [*, errW_none, errW_some] <;> rfl), by repeat (first | (with_reducible first | exact HB.out | apply below_alloc | apply pw_below_drewN | apply below_drew1) | exact HB.out)⟩
end Go.Proofs.Ytjmhihadgpdiaaa.X
end
section
namespace Go.Proofs.Ytjmhihadgpdiaaa.X
open Go.RowKit Go.Proofs.YtjmhihadgpdiaaaW.PrintWords Go.Proofs.YtjmhihadgpdiaaaW.PrintLast Go.Proofs.YtjmhihadgpdiaaaW.PrintMore
attribute [local go_sem] max2_int min2_int max_two min_two max_three min_three max_four min_four   -- for this text's walks alone
set_option linter.unusedVariables false
set_option linter.unusedSimpArgs false
/-- told for tokens that may be, alone -/
def emit_odd.f (k : Nat) (a0_0 : Int) (a0_1 : ByteArray) (l0_2 : List S63) (a0_3 : Bool) (a0_4 : ByteArray) (a1 : Int) (l2 : List S47) : Option Bool :=
  if a0_0 = 1 then (if a0_4.toList = ([] : List UInt8) then ((emit_raw.f k a0_1).bind fun t => if t = true then none else some false) else none)
  else if a0_0 = 2 then (if l0_2.length = 0 then (if a0_3 = false then (if a0_4.toList = ([] : List UInt8) then some false else none) else none) else none)
  else if a0_0 = 3 then (if a0_4.toList = ([] : List UInt8) then none else (if a0_1.toList = ([] : List UInt8) then (if l0_2.length = 0 then (if a0_3 = false then (if a1 = 3 then none else some false) else none) else none) else none))
  else none
set_option maxHeartbeats 4000000 in
set_option maxRecDepth 100000 in
theorem emit_odd.calls (k : Nat) (a0_0 : Int) (a0_1 : ByteArray) (A0_2 : Option Addr) (c0_2 : Nat) (l0_2 : List S63) (a0_3 : Bool) (a0_4 : ByteArray) (a1 : Int) (A2 : Option Addr) (c2 : Nat) (l2 : List S47) (r : Bool) (w : World) (hr0_2 : Kd.C k63 w A0_2 l0_2.length l0_2) (hc0_2 : l0_2.length ≤ c0_2) (hr2 : Kd.C k47 w A2 l2.length l2) (hc2 : l2.length ≤ c2) (h : emit_odd.f k a0_0 a0_1 l0_2 a0_3 a0_4 a1 l2 = some r) :
    Calls Try.prog 43 #[.agg #[.int .i64 a0_0, .string a0_1, .slice A0_2 l0_2.length c0_2, .bool a0_3, .string a0_4], .int .i64 a1, .slice A2 l2.length c2] w fun e w' => e = .returned (.bool r) ∧ Below w.heap.size w w' := by
  have HR := Aside0.mk hr2
  have HC := Aside0.mk hc2
  clear hr0_2 hr2 hc2
  unfold emit_odd.f at h
  by_cases k1 : a0_0 = 1
  · subst k1
    rw [if_pos rfl] at h
    by_cases c4 : a0_4.toList = ([] : List UInt8)
    · rw [if_pos c4] at h
      obtain ⟨t, ht, h⟩ := Option.bind_eq_some_iff.1 h
      cases t with
      | true => simp at h
      | false =>
        simp only [Bool.false_eq_true, if_false] at h
        obtain rfl := Option.some.inj h
        have HT := Aside0.mk ht
        have e4 : (a0_4.toList == ([] : List UInt8)) = true := beq_iff_eq.mpr c4
        have e5 : (a0_4.toList != ([] : List UInt8)) = false := bne_eq_false_iff_eq.mpr c4
        have e6 : a0_4.toList.isEmpty = true := by rw [c4]; rfl
        clear ht h c4
        by_cases hl : l2.length = 0
        · have hl0 : l2 = [] := List.length_eq_zero_iff.1 hl
          subst hl0
          go_enter Try.func43, Try.ntmps43
          go_wp2
          go_quiet (fail)
          go_wp2_with (go_at_call 63; (with_reducible refine (emit_raw.calls k a0_1 false _ HT.out).mono ?_); rintro e w2 ⟨rfl, hb⟩; have HB2 : Aside0 (Below w.heap.size w w2) := ⟨Below.trans (by repeat (first | exact Below.refl _ _ | apply below_alloc | apply pw_below_drewN | apply below_drew1)) (hb.mono (below_size (by repeat (first | exact Below.refl _ _ | apply below_alloc | apply pw_below_drewN | apply below_drew1))))⟩; clear hb)
          go_ret
          exact ⟨rfl, HB2.out⟩
        · obtain ⟨ad, A1, d1, eA, hx0, hx1, _, _, _, _, _⟩ := at_T47 HR.out 0 (by omega) (by omega)
          subst eA
          have y0 : ∀ o, (w.alloc o).cell? ad = some (.int .i64 (rd_T47 l2 0).f0) := fun o => ((below_alloc (Below.refl _ _) o).cell (World.block_lt_of_cell? w _ hx0)).trans hx0
          have y1 : ∀ o, (w.alloc o).cell? ⟨ad.block, ad.off + 1, none⟩ = some (.string (rd_T47 l2 0).f1) := fun o => ((below_alloc (Below.refl _ _) o).cell (World.block_lt_of_cell? w _ hx1)).trans hx1
          have hpos : decide ((0 : Int) < (l2.length : Int)) = true := decide_eq_true (by omega)
          have hpos2 : decide (0 < l2.length) = true := decide_eq_true (by omega)
          have hp3 : (0 : Int) < (l2.length : Int) := by omega
          have hp4 : 0 < l2.length := by omega
          by_cases q2 : (rd_T47 l2 0).f0 = 2
          · have b0 : ((rd_T47 l2 0).f0 == 2) = true := beq_iff_eq.mpr q2
            by_cases q3 : (rd_T47 l2 0).f1.toList = a0_1.toList
            · have b1 : ((rd_T47 l2 0).f1.toList == a0_1.toList) = true := beq_iff_eq.mpr q3
              clear q2 q3 hl
              go_enter Try.func43, Try.ntmps43
              go_wp2
              go_quiet (fail)
              go_wp2_with (go_at_call 63; (with_reducible refine (emit_raw.calls k a0_1 false _ HT.out).mono ?_); rintro e w2 ⟨rfl, hb⟩; have HB2 : Aside0 (Below w.heap.size w w2) := ⟨Below.trans (by repeat (first | exact Below.refl _ _ | apply below_alloc | apply pw_below_drewN | apply below_drew1)) (hb.mono (below_size (by repeat (first | exact Below.refl _ _ | apply below_alloc | apply pw_below_drewN | apply below_drew1))))⟩; clear hb)
              go_ret
              exact ⟨rfl, HB2.out⟩
            · have b1 : ((rd_T47 l2 0).f1.toList == a0_1.toList) = false := beq_eq_false_iff_ne.mpr q3
              clear q2 q3 hl
              go_enter Try.func43, Try.ntmps43
              go_wp2
              go_quiet (fail)
              go_wp2_with (go_at_call 63; (with_reducible refine (emit_raw.calls k a0_1 false _ HT.out).mono ?_); rintro e w2 ⟨rfl, hb⟩; have HB2 : Aside0 (Below w.heap.size w w2) := ⟨Below.trans (by repeat (first | exact Below.refl _ _ | apply below_alloc | apply pw_below_drewN | apply below_drew1)) (hb.mono (below_size (by repeat (first | exact Below.refl _ _ | apply below_alloc | apply pw_below_drewN | apply below_drew1))))⟩; clear hb)
              go_ret
              exact ⟨rfl, HB2.out⟩
          · have b0 : ((rd_T47 l2 0).f0 == 2) = false := beq_eq_false_iff_ne.mpr q2
            clear q2 hl
            go_enter Try.func43, Try.ntmps43
            go_wp2
            go_quiet (fail)
            go_wp2_with (go_at_call 63; (with_reducible refine (emit_raw.calls k a0_1 false _ HT.out).mono ?_); rintro e w2 ⟨rfl, hb⟩; have HB2 : Aside0 (Below w.heap.size w w2) := ⟨Below.trans (by repeat (first | exact Below.refl _ _ | apply below_alloc | apply pw_below_drewN | apply below_drew1)) (hb.mono (below_size (by repeat (first | exact Below.refl _ _ | apply below_alloc | apply pw_below_drewN | apply below_drew1))))⟩; clear hb)
            go_ret
            exact ⟨rfl, HB2.out⟩
    · rw [if_neg c4] at h; cases h
  · rw [if_neg k1] at h
    have n1 : (a0_0 == 1) = false := beq_eq_false_iff_ne.mpr k1
    by_cases k2 : a0_0 = 2
    · subst k2
      rw [if_pos rfl] at h
      by_cases c2' : l0_2.length = 0
      · rw [if_pos c2'] at h
        have hl0 : l0_2 = [] := List.length_eq_zero_iff.1 c2'
        subst hl0
        cases a0_3 with
        | true => simp at h
        | false =>
          rw [if_pos rfl] at h
          by_cases c4 : a0_4.toList = ([] : List UInt8)
          · rw [if_pos c4] at h
            obtain rfl := Option.some.inj h
            have e4 : (a0_4.toList == ([] : List UInt8)) = true := beq_iff_eq.mpr c4
            have e5 : (a0_4.toList != ([] : List UInt8)) = false := bne_eq_false_iff_eq.mpr c4
            have e6 : a0_4.toList.isEmpty = true := by rw [c4]; rfl
            clear h c2'
            go_enter Try.func43, Try.ntmps43
            go_wp2
            go_ret
            exact ⟨rfl, (by repeat (first | exact Below.refl _ _ | apply below_alloc | apply pw_below_drewN | apply below_drew1))⟩
          · rw [if_neg c4] at h; cases h
      · rw [if_neg c2'] at h; cases h
    · rw [if_neg k2] at h
      have n2 : (a0_0 == 2) = false := beq_eq_false_iff_ne.mpr k2
      by_cases k3 : a0_0 = 3
      · subst k3
        rw [if_pos rfl] at h
        by_cases c4 : a0_4.toList = ([] : List UInt8)
        · rw [if_pos c4] at h; cases h
        · rw [if_neg c4] at h
          by_cases c5 : a0_1.toList = ([] : List UInt8)
          · rw [if_pos c5] at h
            by_cases c2' : l0_2.length = 0
            · rw [if_pos c2'] at h
              have hl0 : l0_2 = [] := List.length_eq_zero_iff.1 c2'
              subst hl0
              cases a0_3 with
              | true => simp at h
              | false =>
                rw [if_pos rfl] at h
                by_cases c6 : a1 = 3
                · rw [if_pos c6] at h; cases h
                · rw [if_neg c6] at h
                  obtain rfl := Option.some.inj h
                  have e4 : (a0_4.toList == ([] : List UInt8)) = false := beq_eq_false_iff_ne.mpr c4
                  have e6 : a0_4.toList.isEmpty = false := by cases hq : a0_4.toList with | nil => exact absurd hq c4 | cons a b => rfl
                  have e7 : (a0_1.toList == ([] : List UInt8)) = true := beq_iff_eq.mpr c5
                  have e8 : a0_1.toList.isEmpty = true := by rw [c5]; rfl
                  have e9 : (a1 == 3) = false := beq_eq_false_iff_ne.mpr c6
                  clear h c2' c4 c5 c6 k1 k2
                  go_enter Try.func43, Try.ntmps43
                  go_wp2
                  go_ret
                  exact ⟨rfl, (by repeat (first | exact Below.refl _ _ | apply below_alloc | apply pw_below_drewN | apply below_drew1))⟩
            · rw [if_neg c2'] at h; cases h
          · rw [if_neg c5] at h; cases h
      · rw [if_neg k3] at h; cases h
end Go.Proofs.Ytjmhihadgpdiaaa.X
end
section
namespace Go.Proofs.Ytjmhihadgpdiaaa.X
open Go.RowKit Go.Proofs.YtjmhihadgpdiaaaW.PrintWords Go.Proofs.YtjmhihadgpdiaaaW.PrintLast Go.Proofs.YtjmhihadgpdiaaaW.PrintMore
attribute [local go_sem] max2_int min2_int max_two min_two max_three min_three max_four min_four   -- for this text's walks alone
set_option linter.unusedVariables false
set_option linter.unusedSimpArgs false
mutual
def emit_Check.l0 : Nat → List (S47) → Int → List (S47) → Int → Int → Option (Int)
 | 0, _, _, _, _, _ => none
 | k + 1, x0, x3, x10, x11, x12 => if x12 < x11 then (if 0 ≤ x12 then (if x12 < (x10.length : Int) then (if ((rd_T47 x10 x12).f0) < 1 then (emit_Check.j1 k x0 x3 x12 x10 x11 x12 true ((rd_T47 x10 x12).f0) ((rd_T47 x10 x12).f1) ((rd_T47 x10 x12).f2) ((rd_T47 x10 x12).f3) ((rd_T47 x10 x12).f4)) else (emit_Check.j1 k x0 x3 x12 x10 x11 x12 (decide (((rd_T47 x10 x12).f0) > 4)) ((rd_T47 x10 x12).f0) ((rd_T47 x10 x12).f1) ((rd_T47 x10 x12).f2) ((rd_T47 x10 x12).f3) ((rd_T47 x10 x12).f4))) else (none)) else (none)) else (some 0)
def emit_Check.j1 : Nat → List (S47) → Int → Int → List (S47) → Int → Int → Bool → Int → ByteArray → List (S63) → Bool → ByteArray → Option (Int)
 | 0, _, _, _, _, _, _, _, _, _, _, _, _ => none
 | k + 1, x0, x3, x4, x10, x11, x12, x24, x173000, x173001, x173002, x173003, x173004 => if x24 = true then (some 3) else (if x173000 ≤ 2 then ((emit_Name.f x173001).bind fun t173 => (if t173 = true then ((emit_Attrs.f k x173002).bind fun t174 => (if t174 = 0 then (if 0 ≤ (wrap64 (x4 + 1)) then (if (wrap64 (x4 + 1)) ≤ (x0.length : Int) then ((emit_odd.f k x173000 x173001 x173002 x173003 x173004 x3 (x0.drop ((wrap64 (x4 + 1)) : Int).toNat)).bind fun t179 => (if t179 = true then (some 4) else (emit_Check.l0 k x0 x173000 x10 x11 (wrap64 (x12 + 1))))) else (none)) else (none)) else (some t174))) else (some 5))) else (if 0 ≤ (wrap64 (x4 + 1)) then (if (wrap64 (x4 + 1)) ≤ (x0.length : Int) then ((emit_odd.f k x173000 x173001 x173002 x173003 x173004 x3 (x0.drop ((wrap64 (x4 + 1)) : Int).toNat)).bind fun t184 => (if t184 = true then (some 4) else (emit_Check.l0 k x0 x173000 x10 x11 (wrap64 (x12 + 1))))) else (none)) else (none)))
end
def emit_Check.f (k : Nat) (l0 : List (S47)) : Option (Int) := if (l0.length : Int) > 300 then (some 1) else (emit_Check.l0 k l0 0 l0 (l0.length : Int) 0)
set_option maxHeartbeats 8000000 in
set_option maxRecDepth 100000 in
theorem emit_Check.calls (k : Nat) (A0 : Option Addr) (c0 : Nat) (l0 : List (S47)) (r : Int) (w : World) (hr0 : Kd.C k47 w A0 l0.length l0) (hc0 : l0.length ≤ c0) (h : emit_Check.f k l0 = some r) :
  Calls Try.prog 26 #[.slice A0 l0.length c0] w fun e w' => e = .returned (.int .i64 r) ∧ Below w.heap.size w w' := by
 have hu47 := Try.underlying47
 have HR0 := Aside0.mk hr0
 have HC0 := Aside0.mk hc0
 clear hr0 hc0
 have HB := Aside0.mk (Below.refl w.heap.size w)
 have H : (if (l0.length : Int) > 300 then (some 1) else (emit_Check.l0 k l0 0 l0 (l0.length : Int) 0)) = some r := h
 clear h
 by_cases c2 : (l0.length : Int) > 300
 ·
  rw [if_pos c2] at H
  have c2b0 : decide (300 < (l0.length : Int)) = true := decide_eq_true c2
  have c2b1 : decide (300 < l0.length) = true := decide_eq_true (by omega)
  clear c2
  obtain rfl := Option.some.inj H
  go_enter Try.func26, Try.ntmps26
  go_wp2
  go_ret
  exact ⟨by first | rfl | (simp [errW_none, errW_some] <;> rfl) | (simp [*, errW_none, errW_some] <;> rfl), by repeat (first | (with_reducible first | exact HB.out | apply below_alloc | apply pw_below_drewN | apply below_drew1) | exact HB.out)⟩
 ·
  rw [if_neg c2] at H
  have c2b0 : decide (300 < (l0.length : Int)) = false := decide_eq_false c2
  have c2b1 : decide (300 < l0.length) = false := decide_eq_false (by omega)
  clear c2
  have H' := Aside0.mk H
  clear H
  go_enter Try.func26, Try.ntmps26
  go_wp2
  go_loopg [3, 12] k (fun kq v3 v12 w' => ∃ (x3_1 : Int) (x12_1 : Int), v3 = .int .i64 x3_1 ∧ v12 = .int .i64 x12_1 ∧ Aside0 (emit_Check.l0 kq l0 x3_1 l0 (l0.length : Int) x12_1 = some r) ∧ Aside0 (kq ≤ k) ∧ Aside0 (Below w.heap.size w w'))
  case atStart => exact ⟨(0), (0), (by first | rfl | (simp; done) | (simp [*]; done) | (simp [bne]; done)), (by first | rfl | (simp; done) | (simp [*]; done) | (simp [bne]; done)), H', ⟨Nat.le_refl _⟩, ⟨by repeat (first | (with_reducible first | exact HB.out | apply below_alloc | apply pw_below_drewN | apply below_drew1) | exact HB.out)⟩⟩
  case round =>
   clear H'
   try clear c2
   try clear c2b0
   try clear c2b1
   try clear p2
   obtain ⟨x3_1, x12_1, rfl, rfl, HA, HK1, HB⟩ := hrel
   cases gk with
   | zero => exact absurd HA.out (by simp [emit_Check.l0])
   | succ k1 =>
    have H := HA.out
    clear HA
    simp only [emit_Check.l0] at H
    by_cases c3 : x12_1 < (l0.length : Int)
    ·
     rw [if_pos c3] at H
     have c3b0 : decide (x12_1 < (l0.length : Int)) = true := decide_eq_true c3
     clear c3
     by_cases c4 : 0 ≤ x12_1
     ·
      rw [if_pos c4] at H
      have c4b0 : decide (0 ≤ x12_1) = true := decide_eq_true c4
      clear c4
      by_cases c5 : x12_1 < (l0.length : Int)
      ·
       rw [if_pos c5] at H
       have c5b0 : decide (x12_1 < (l0.length : Int)) = true := decide_eq_true c5
       clear c5
       have HC6 := Aside0.mk H
       clear H
       have p171 : 0 ≤ (x12_1 : Int) := of_decide_eq_true (by first | (with_reducible assumption) | assumption)
       have q171 : x12_1 < (l0.length : Int) := of_decide_eq_true (by first | (with_reducible assumption) | assumption)
       obtain ⟨ad171, A171_2, c171_2, e171, hx171_0, hx171_1, hx171_2, hx171_3, hx171_4, hl171_2, hi171_2⟩ := at_T47 HR0.out x12_1 p171 q171
       cases e171
       replace hx171_0 := (HB.out.cell (World.block_lt_of_cell? w _ hx171_0)).trans hx171_0
       replace hx171_1 := (HB.out.cell (World.block_lt_of_cell? w _ hx171_1)).trans hx171_1
       replace hx171_2 := (HB.out.cell (World.block_lt_of_cell? w _ hx171_2)).trans hx171_2
       replace hx171_3 := (HB.out.cell (World.block_lt_of_cell? w _ hx171_3)).trans hx171_3
       replace hx171_4 := (HB.out.cell (World.block_lt_of_cell? w _ hx171_4)).trans hx171_4
       have HR171_2 := Aside0.mk hi171_2
       have HC171_2 := Aside0.mk hl171_2
       clear hi171_2 hl171_2
       replace p171 := eq_true p171
       replace q171 := eq_true q171
       go_upto_region 7 with (first | ((with_reducible refine gate_dst (N := 5) rfl ?_); refine box_event ?hg (N := 5) ?hd (cs := #[.int .i64 0, .string (⟨#[]⟩ : ByteArray), .slice none 0 0, .bool false, .string (⟨#[]⟩ : ByteArray)]) (t := 47) ?hr ?_; (case hd => rfl); (case hg => rfl); (case hr => first | (go_simp; done) | (go_simp; rfl)); intro gb172 hg w7 hbox hb; have n0_ := Aside0.mk (below_step (by repeat (first | (with_reducible first | exact HB.out | apply below_alloc | apply pw_below_drewN | apply below_drew1) | exact HB.out)) hb); have n1_ := Aside0.mk (hbox); have n2_ := Aside0.mk ((by rw [hg]; exact (below_size (by repeat (first | (with_reducible first | exact HB.out | apply below_alloc | apply pw_below_drewN | apply below_drew1) | exact HB.out))) : w.heap.size ≤ gb172)); have n3_ := Aside0.mk ((by rw [hg]; exact (below_size (by repeat (first | (with_reducible first | exact HB.out | apply below_alloc | apply pw_below_drewN | apply below_drew1) | exact HB.out))) : w.heap.size ≤ gb172)); clear HB; have HB := n0_; have BK172 := n1_; have GW172 := n2_; have GE172 := n3_; clear n0_ n1_ n2_ n3_; clear hb hbox hg; have hcz8_0 : w7.cell? ⟨gb172, 0, none⟩ = some (.int .i64 0) := (blk_cell BK172.out 0).trans rfl; have hcz8_1 : w7.cell? ⟨gb172, 1, none⟩ = some (.string (⟨#[]⟩ : ByteArray)) := (blk_cell BK172.out 1).trans rfl; have hcz8_2 : w7.cell? ⟨gb172, 2, none⟩ = some (.slice none 0 0) := (blk_cell BK172.out 2).trans rfl; have hcz8_3 : w7.cell? ⟨gb172, 3, none⟩ = some (.bool false) := (blk_cell BK172.out 3).trans rfl; have hcz8_4 : w7.cell? ⟨gb172, 4, none⟩ = some (.string (⟨#[]⟩ : ByteArray)) := (blk_cell BK172.out 4).trans rfl; have hfz8_0 := blk_frozen BK172.out 0; have hfz8_1 := blk_frozen BK172.out 1; have hfz8_2 := blk_frozen BK172.out 2; have hfz8_3 := blk_frozen BK172.out 3; have hfz8_4 := blk_frozen BK172.out 4))
       (try simp only [Act.put, List.setIfInBounds_toArray, List.set_cons_zero, List.set_cons_succ])
       go_cut [24] (fun v24 wc => ∃ (kq : Nat) (x24_5 : Bool), v24 = .bool x24_5 ∧ Aside0 (emit_Check.j1 kq l0 x3_1 x12_1 l0 (l0.length : Int) x12_1 x24_5 ((rd_T47 l0 x12_1).f0) ((rd_T47 l0 x12_1).f1) ((rd_T47 l0 x12_1).f2) ((rd_T47 l0 x12_1).f3) ((rd_T47 l0 x12_1).f4) = some r) ∧ Aside0 (kq ≤ k1) ∧ Aside0 (wc.heap[gb172]? = some (.cells #[.int .i64 ((rd_T47 l0 x12_1).f0), .string ((rd_T47 l0 x12_1).f1), (.slice A171_2 ((rd_T47 l0 x12_1).f2).length c171_2), .bool ((rd_T47 l0 x12_1).f3), .string ((rd_T47 l0 x12_1).f4)] 47 (0, 0))) ∧ Aside0 (Below w.heap.size w wc))
       case first =>
        have H := HC6.out
        clear HC6
        by_cases c9 : ((rd_T47 l0 x12_1).f0) < 1
        ·
         rw [if_pos c9] at H
         have c9b0 : decide (((rd_T47 l0 x12_1).f0) < 1) = true := decide_eq_true c9
         clear c9
         (first | rw [c9b0] | (simp only [i64_w, i32_w]; rw [c9b0]) | rw [c9b1] | skip)
         have H' := Aside0.mk H
         clear H
         have hcz10_0 : w7.cell? ⟨gb172, 0, none⟩ = some (.int .i64 0) := (blk_cell BK172.out 0).trans rfl
         have hcz10_1 : w7.cell? ⟨gb172, 1, none⟩ = some (.string (⟨#[]⟩ : ByteArray)) := (blk_cell BK172.out 1).trans rfl
         have hcz10_2 : w7.cell? ⟨gb172, 2, none⟩ = some (.slice none 0 0) := (blk_cell BK172.out 2).trans rfl
         have hcz10_3 : w7.cell? ⟨gb172, 3, none⟩ = some (.bool false) := (blk_cell BK172.out 3).trans rfl
         have hcz10_4 : w7.cell? ⟨gb172, 4, none⟩ = some (.string (⟨#[]⟩ : ByteArray)) := (blk_cell BK172.out 4).trans rfl
         have hfz10_0 := blk_frozen BK172.out 0
         have hfz10_1 := blk_frozen BK172.out 1
         have hfz10_2 := blk_frozen BK172.out 2
         have hfz10_3 := blk_frozen BK172.out 3
         have hfz10_4 := blk_frozen BK172.out 4
         go_wp2
         go_meet
         case rel => exact ⟨_, (true), (by first | rfl | (simp; done) | (simp [*]; done) | (simp [bne]; done)), H', ⟨by have := HK1.out; first | omega | exact Nat.le_refl _⟩, ⟨by (with_reducible repeat (first | refine blk_drewN ?_ _ | refine blk_drew ?_ | refine blk_alloc ?_ _)); refine blk_put (cs := #[.int .i64 ((rd_T47 l0 x12_1).f0), .string ((rd_T47 l0 x12_1).f1), .slice A171_2 ((rd_T47 l0 x12_1).f2).length c171_2, .bool ((rd_T47 l0 x12_1).f3), .string (⟨#[]⟩ : ByteArray)]) ?_ 4 _ rfl; (with_reducible repeat (first | refine blk_drewN ?_ _ | refine blk_drew ?_ | refine blk_alloc ?_ _)); refine blk_put (cs := #[.int .i64 ((rd_T47 l0 x12_1).f0), .string ((rd_T47 l0 x12_1).f1), .slice A171_2 ((rd_T47 l0 x12_1).f2).length c171_2, .bool false, .string (⟨#[]⟩ : ByteArray)]) ?_ 3 _ rfl; (with_reducible repeat (first | refine blk_drewN ?_ _ | refine blk_drew ?_ | refine blk_alloc ?_ _)); refine blk_put (cs := #[.int .i64 ((rd_T47 l0 x12_1).f0), .string ((rd_T47 l0 x12_1).f1), .slice none 0 0, .bool false, .string (⟨#[]⟩ : ByteArray)]) ?_ 2 _ rfl; (with_reducible repeat (first | refine blk_drewN ?_ _ | refine blk_drew ?_ | refine blk_alloc ?_ _)); refine blk_put (cs := #[.int .i64 ((rd_T47 l0 x12_1).f0), .string (⟨#[]⟩ : ByteArray), .slice none 0 0, .bool false, .string (⟨#[]⟩ : ByteArray)]) ?_ 1 _ rfl; (with_reducible repeat (first | refine blk_drewN ?_ _ | refine blk_drew ?_ | refine blk_alloc ?_ _)); refine blk_put (cs := #[.int .i64 0, .string (⟨#[]⟩ : ByteArray), .slice none 0 0, .bool false, .string (⟨#[]⟩ : ByteArray)]) ?_ 0 _ rfl; (with_reducible repeat (first | refine blk_drewN ?_ _ | refine blk_drew ?_ | refine blk_alloc ?_ _)); exact BK172.out⟩, ⟨by repeat (first | (with_reducible first | exact HB.out | apply below_alloc | apply pw_below_drewN | apply below_drew1 | refine below_set ?_ GE172.out) | exact HB.out)⟩⟩
        ·
         rw [if_neg c9] at H
         have c9b0 : decide (((rd_T47 l0 x12_1).f0) < 1) = false := decide_eq_false c9
         clear c9
         (first | rw [c9b0] | (simp only [i64_w, i32_w]; rw [c9b0]) | rw [c9b1] | skip)
         have H' := Aside0.mk H
         clear H
         have hcz11_0 : w7.cell? ⟨gb172, 0, none⟩ = some (.int .i64 0) := (blk_cell BK172.out 0).trans rfl
         have hcz11_1 : w7.cell? ⟨gb172, 1, none⟩ = some (.string (⟨#[]⟩ : ByteArray)) := (blk_cell BK172.out 1).trans rfl
         have hcz11_2 : w7.cell? ⟨gb172, 2, none⟩ = some (.slice none 0 0) := (blk_cell BK172.out 2).trans rfl
         have hcz11_3 : w7.cell? ⟨gb172, 3, none⟩ = some (.bool false) := (blk_cell BK172.out 3).trans rfl
         have hcz11_4 : w7.cell? ⟨gb172, 4, none⟩ = some (.string (⟨#[]⟩ : ByteArray)) := (blk_cell BK172.out 4).trans rfl
         have hfz11_0 := blk_frozen BK172.out 0
         have hfz11_1 := blk_frozen BK172.out 1
         have hfz11_2 := blk_frozen BK172.out 2
         have hfz11_3 := blk_frozen BK172.out 3
         have hfz11_4 := blk_frozen BK172.out 4
         go_wp2
         go_meet
         case rel => exact ⟨_, (decide (((rd_T47 l0 x12_1).f0) > 4)), (by first | rfl | (simp; done) | (simp [*]; done) | (simp [bne]; done)), H', ⟨by have := HK1.out; first | omega | exact Nat.le_refl _⟩, ⟨by (with_reducible repeat (first | refine blk_drewN ?_ _ | refine blk_drew ?_ | refine blk_alloc ?_ _)); refine blk_put (cs := #[.int .i64 ((rd_T47 l0 x12_1).f0), .string ((rd_T47 l0 x12_1).f1), .slice A171_2 ((rd_T47 l0 x12_1).f2).length c171_2, .bool ((rd_T47 l0 x12_1).f3), .string (⟨#[]⟩ : ByteArray)]) ?_ 4 _ rfl; (with_reducible repeat (first | refine blk_drewN ?_ _ | refine blk_drew ?_ | refine blk_alloc ?_ _)); refine blk_put (cs := #[.int .i64 ((rd_T47 l0 x12_1).f0), .string ((rd_T47 l0 x12_1).f1), .slice A171_2 ((rd_T47 l0 x12_1).f2).length c171_2, .bool false, .string (⟨#[]⟩ : ByteArray)]) ?_ 3 _ rfl; (with_reducible repeat (first | refine blk_drewN ?_ _ | refine blk_drew ?_ | refine blk_alloc ?_ _)); refine blk_put (cs := #[.int .i64 ((rd_T47 l0 x12_1).f0), .string ((rd_T47 l0 x12_1).f1), .slice none 0 0, .bool false, .string (⟨#[]⟩ : ByteArray)]) ?_ 2 _ rfl; (with_reducible repeat (first | refine blk_drewN ?_ _ | refine blk_drew ?_ | refine blk_alloc ?_ _)); refine blk_put (cs := #[.int .i64 ((rd_T47 l0 x12_1).f0), .string (⟨#[]⟩ : ByteArray), .slice none 0 0, .bool false, .string (⟨#[]⟩ : ByteArray)]) ?_ 1 _ rfl; (with_reducible repeat (first | refine blk_drewN ?_ _ | refine blk_drew ?_ | refine blk_alloc ?_ _)); refine blk_put (cs := #[.int .i64 0, .string (⟨#[]⟩ : ByteArray), .slice none 0 0, .bool false, .string (⟨#[]⟩ : ByteArray)]) ?_ 0 _ rfl; (with_reducible repeat (first | refine blk_drewN ?_ _ | refine blk_drew ?_ | refine blk_alloc ?_ _)); exact BK172.out⟩, ⟨by repeat (first | (with_reducible first | exact HB.out | apply below_alloc | apply pw_below_drewN | apply below_drew1 | refine below_set ?_ GE172.out) | exact HB.out)⟩⟩
       case rest =>
        clear HC6
        try clear c1
        try clear p1
        try clear q1
        try clear hx1
        try clear c2
        try clear c2b0
        try clear c2b1
        try clear p2
        try clear c3
        try clear c3b0
        try clear c4
        try clear c4b0
        try clear c5
        try clear c5b0
        try clear c9
        try clear c9b0
        try clear hcz10_0
        try clear hcz10_1
        try clear hcz10_2
        try clear hcz10_3
        try clear hcz10_4
        try clear hcz11_0
        try clear hcz11_1
        try clear hcz11_2
        try clear hcz11_3
        try clear hcz11_4
        try clear hcz8_0
        try clear hcz8_1
        try clear hcz8_2
        try clear hcz8_3
        try clear hcz8_4
        try clear hfz10_0
        try clear hfz10_1
        try clear hfz10_2
        try clear hfz10_3
        try clear hfz10_4
        try clear hfz11_0
        try clear hfz11_1
        try clear hfz11_2
        try clear hfz11_3
        try clear hfz11_4
        try clear hfz8_0
        try clear hfz8_1
        try clear hfz8_2
        try clear hfz8_3
        try clear hfz8_4
        try clear hx171_0
        try clear hx171_1
        try clear hx171_2
        try clear hx171_3
        try clear hx171_4
        try clear p171
        try clear p2
        try clear q171
        obtain ⟨kq, x24_5, rfl, HA, HJ5, BK172, HB⟩ := hcut
        cases kq with
        | zero => exact absurd HA.out (by simp [emit_Check.j1])
        | succ kj5 =>
         have H := HA.out
         clear HA
         simp only [emit_Check.j1] at H
         by_cases c12 : x24_5 = true
         ·
          subst c12
          have H1 : (some 3) = some r := by rw [if_pos rfl] at H; exact H
          clear H
          have H := H1
          clear H1
          obtain rfl := Option.some.inj H
          go_wp2
          go_ret
          exact ⟨by first | rfl | (simp [errW_none, errW_some] <;> rfl) | (simp [*, errW_none, errW_some] <;> rfl), by repeat (first | (with_reducible first | exact HB.out | apply below_alloc | apply pw_below_drewN | apply below_drew1 | refine below_set ?_ GE172.out) | exact HB.out)⟩
         ·
          replace c12 := Bool.eq_false_iff.mpr c12
          subst c12
          have H1 : (if ((rd_T47 l0 x12_1).f0) ≤ 2 then ((emit_Name.f ((rd_T47 l0 x12_1).f1)).bind fun t173 => (if t173 = true then ((emit_Attrs.f kj5 ((rd_T47 l0 x12_1).f2)).bind fun t174 => (if t174 = 0 then (if 0 ≤ (wrap64 (x12_1 + 1)) then (if (wrap64 (x12_1 + 1)) ≤ (l0.length : Int) then ((emit_odd.f kj5 ((rd_T47 l0 x12_1).f0) ((rd_T47 l0 x12_1).f1) ((rd_T47 l0 x12_1).f2) ((rd_T47 l0 x12_1).f3) ((rd_T47 l0 x12_1).f4) x3_1 (l0.drop ((wrap64 (x12_1 + 1)) : Int).toNat)).bind fun t179 => (if t179 = true then (some 4) else (emit_Check.l0 kj5 l0 ((rd_T47 l0 x12_1).f0) l0 (l0.length : Int) (wrap64 (x12_1 + 1))))) else (none)) else (none)) else (some t174))) else (some 5))) else (if 0 ≤ (wrap64 (x12_1 + 1)) then (if (wrap64 (x12_1 + 1)) ≤ (l0.length : Int) then ((emit_odd.f kj5 ((rd_T47 l0 x12_1).f0) ((rd_T47 l0 x12_1).f1) ((rd_T47 l0 x12_1).f2) ((rd_T47 l0 x12_1).f3) ((rd_T47 l0 x12_1).f4) x3_1 (l0.drop ((wrap64 (x12_1 + 1)) : Int).toNat)).bind fun t184 => (if t184 = true then (some 4) else (emit_Check.l0 kj5 l0 ((rd_T47 l0 x12_1).f0) l0 (l0.length : Int) (wrap64 (x12_1 + 1))))) else (none)) else (none))) = some r := by rw [if_neg (show ¬ (false = true) by decide)] at H; exact H
          clear H
          have H := H1
          clear H1
          by_cases c13 : ((rd_T47 l0 x12_1).f0) ≤ 2
          ·
           rw [if_pos c13] at H
           have c13b0 : decide (((rd_T47 l0 x12_1).f0) ≤ 2) = true := decide_eq_true c13
           clear c13
           replace H := Option.bind_eq_some_iff.mp H
           obtain ⟨t173, A140, H⟩ := H
           replace H : (if t173 = true then ((emit_Attrs.f kj5 ((rd_T47 l0 x12_1).f2)).bind fun t174 => (if t174 = 0 then (if 0 ≤ (wrap64 (x12_1 + 1)) then (if (wrap64 (x12_1 + 1)) ≤ (l0.length : Int) then ((emit_odd.f kj5 ((rd_T47 l0 x12_1).f0) ((rd_T47 l0 x12_1).f1) ((rd_T47 l0 x12_1).f2) ((rd_T47 l0 x12_1).f3) ((rd_T47 l0 x12_1).f4) x3_1 (l0.drop ((wrap64 (x12_1 + 1)) : Int).toNat)).bind fun t179 => (if t179 = true then (some 4) else (emit_Check.l0 kj5 l0 ((rd_T47 l0 x12_1).f0) l0 (l0.length : Int) (wrap64 (x12_1 + 1))))) else (none)) else (none)) else (some t174))) else (some 5)) = some r := H
           have A14 := Aside0.mk A140
           clear A140
           by_cases c15 : t173 = true
           ·
            subst c15
            have H1 : ((emit_Attrs.f kj5 ((rd_T47 l0 x12_1).f2)).bind fun t174 => (if t174 = 0 then (if 0 ≤ (wrap64 (x12_1 + 1)) then (if (wrap64 (x12_1 + 1)) ≤ (l0.length : Int) then ((emit_odd.f kj5 ((rd_T47 l0 x12_1).f0) ((rd_T47 l0 x12_1).f1) ((rd_T47 l0 x12_1).f2) ((rd_T47 l0 x12_1).f3) ((rd_T47 l0 x12_1).f4) x3_1 (l0.drop ((wrap64 (x12_1 + 1)) : Int).toNat)).bind fun t179 => (if t179 = true then (some 4) else (emit_Check.l0 kj5 l0 ((rd_T47 l0 x12_1).f0) l0 (l0.length : Int) (wrap64 (x12_1 + 1))))) else (none)) else (none)) else (some t174))) = some r := by rw [if_pos rfl] at H; exact H
            clear H
            have H := H1
            clear H1
            replace H := Option.bind_eq_some_iff.mp H
            obtain ⟨t174, A160, H⟩ := H
            replace H : (if t174 = 0 then (if 0 ≤ (wrap64 (x12_1 + 1)) then (if (wrap64 (x12_1 + 1)) ≤ (l0.length : Int) then ((emit_odd.f kj5 ((rd_T47 l0 x12_1).f0) ((rd_T47 l0 x12_1).f1) ((rd_T47 l0 x12_1).f2) ((rd_T47 l0 x12_1).f3) ((rd_T47 l0 x12_1).f4) x3_1 (l0.drop ((wrap64 (x12_1 + 1)) : Int).toNat)).bind fun t179 => (if t179 = true then (some 4) else (emit_Check.l0 kj5 l0 ((rd_T47 l0 x12_1).f0) l0 (l0.length : Int) (wrap64 (x12_1 + 1))))) else (none)) else (none)) else (some t174)) = some r := H
            have A16 := Aside0.mk A160
            clear A160
            by_cases c17 : t174 = 0
            ·
             rw [if_pos c17] at H
             have c17b0 : (t174 == 0) = true := beq_iff_eq.mpr c17
             have c17b1 : (t174 != 0) = false := bne_eq_false_iff_eq.mpr c17
             clear c17
             obtain ⟨ji18, hji18⟩ : ∃ j_ : Int, (wrap64 (x12_1 + 1)) = j_ := ⟨_, rfl⟩
             replace H : (if 0 ≤ (ji18) then (if (ji18) ≤ (l0.length : Int) then ((emit_odd.f kj5 ((rd_T47 l0 x12_1).f0) ((rd_T47 l0 x12_1).f1) ((rd_T47 l0 x12_1).f2) ((rd_T47 l0 x12_1).f3) ((rd_T47 l0 x12_1).f4) x3_1 (l0.drop ((ji18) : Int).toNat)).bind fun t179 => (if t179 = true then (some 4) else (emit_Check.l0 kj5 l0 ((rd_T47 l0 x12_1).f0) l0 (l0.length : Int) ji18))) else (none)) else (none)) = some r := by first | (rw [hji18] at H; exact H) | (simp only [hji18] at H ⊢; exact H)
             (try rw [hji18] at A14)
             (try rw [hji18] at A16)
             have hji18w : (IntKind.i64.wrap (x12_1 + 1)) = ji18 := (i64_w _).trans hji18
             by_cases c19 : 0 ≤ (ji18)
             ·
              rw [if_pos c19] at H
              have c19b0 := eq_true c19
              have c19b1 : decide (0 ≤ (ji18)) = true := decide_eq_true c19
              clear c19
              by_cases c20 : (ji18) ≤ (l0.length : Int)
              ·
               rw [if_pos c20] at H
               have c20b0 := eq_true c20
               have c20b1 : decide ((ji18) ≤ (l0.length : Int)) = true := decide_eq_true c20
               clear c20
               obtain ⟨y175, hy175⟩ : ∃ y_ : List (S47), y_ = (l0.drop ((ji18) : Int).toNat) := ⟨_, rfl⟩
               replace H : ((emit_odd.f kj5 ((rd_T47 l0 x12_1).f0) ((rd_T47 l0 x12_1).f1) ((rd_T47 l0 x12_1).f2) ((rd_T47 l0 x12_1).f3) ((rd_T47 l0 x12_1).f4) x3_1 y175).bind fun t179 => (if t179 = true then (some 4) else (emit_Check.l0 kj5 l0 ((rd_T47 l0 x12_1).f0) l0 (l0.length : Int) ji18))) = some r := by first | (rw [hy175]; with_reducible exact H) | (have H2_ := (Option.bind_some _ _).symm.trans H; rw [hy175]; with_reducible exact H2_) | (have H2_ := (Option.bind_some _ _).symm.trans H; with_reducible exact H2_) | with_reducible exact H | (rw [hy175]; exact H) | exact H
               have Ny175 := Aside0.mk hy175
               clear hy175
               replace H := Option.bind_eq_some_iff.mp H
               obtain ⟨t179, A210, H⟩ := H
               replace H : (if t179 = true then (some 4) else (emit_Check.l0 kj5 l0 ((rd_T47 l0 x12_1).f0) l0 (l0.length : Int) ji18)) = some r := H
               have A21 := Aside0.mk A210
               clear A210
               by_cases c22 : t179 = true
               ·
                subst c22
                have H1 : (some 4) = some r := by rw [if_pos rfl] at H; exact H
                clear H
                have H := H1
                clear H1
                obtain rfl := Option.some.inj H
                have hcz23_0 : wc.cell? ⟨gb172, 0, none⟩ = some (.int .i64 ((rd_T47 l0 x12_1).f0)) := (blk_cell BK172.out 0).trans rfl
                have hcz23_1 : wc.cell? ⟨gb172, 1, none⟩ = some (.string ((rd_T47 l0 x12_1).f1)) := (blk_cell BK172.out 1).trans rfl
                have hcz23_2 : wc.cell? ⟨gb172, 2, none⟩ = some (.slice A171_2 ((rd_T47 l0 x12_1).f2).length c171_2) := (blk_cell BK172.out 2).trans rfl
                have hcz23_3 : wc.cell? ⟨gb172, 3, none⟩ = some (.bool ((rd_T47 l0 x12_1).f3)) := (blk_cell BK172.out 3).trans rfl
                have hcz23_4 : wc.cell? ⟨gb172, 4, none⟩ = some (.string ((rd_T47 l0 x12_1).f4)) := (blk_cell BK172.out 4).trans rfl
                have hfz23_0 := blk_frozen BK172.out 0
                have hfz23_1 := blk_frozen BK172.out 1
                have hfz23_2 := blk_frozen BK172.out 2
                have hfz23_3 := blk_frozen BK172.out 3
                have hfz23_4 := blk_frozen BK172.out 4
                try go_wp2_with (first | ((with_reducible refine gate_callee (f := 41) rfl ?_); refine goesL_ (some 30) rfl rfl Try.func41 (by kernel_rfl) rfl #[.string ((rd_T47 l0 x12_1).f1)] rfl (by (try simp only [List.map_toArray, List.map_cons, List.map_nil]); first | done | rfl | (simp only [List.length_drop, List.length_take]; rfl)) ?_; (with_reducible refine (emit_Name.calls ((rd_T47 l0 x12_1).f1) true _ A14.out).mono ?_); rintro e w24 ⟨rfl, hb⟩; refine ⟨_, rfl, ?_⟩; have n0_ := Aside0.mk (blk_below (g := gb172) (o := .cells #[.int .i64 ((rd_T47 l0 x12_1).f0), .string ((rd_T47 l0 x12_1).f1), .slice A171_2 ((rd_T47 l0 x12_1).f2).length c171_2, .bool ((rd_T47 l0 x12_1).f3), .string ((rd_T47 l0 x12_1).f4)] 47 (0, 0)) (by (with_reducible repeat (first | refine blk_drewN ?_ _ | refine blk_drew ?_ | refine blk_alloc ?_ _)); exact BK172.out) hb); have n1_ := Aside0.mk (below_step (by repeat (first | (with_reducible first | exact HB.out | apply below_alloc | apply pw_below_drewN | apply below_drew1 | refine below_set ?_ GE172.out) | exact HB.out)) hb); clear BK172; clear HB; have BK172 := n0_; have HB := n1_; clear n0_ n1_; (try clear hb); (try clear hb2); (try clear hk); (try clear hi); have hcz25_0 : w24.cell? ⟨gb172, 0, none⟩ = some (.int .i64 ((rd_T47 l0 x12_1).f0)) := (blk_cell BK172.out 0).trans rfl; have hcz25_1 : w24.cell? ⟨gb172, 1, none⟩ = some (.string ((rd_T47 l0 x12_1).f1)) := (blk_cell BK172.out 1).trans rfl; have hcz25_2 : w24.cell? ⟨gb172, 2, none⟩ = some (.slice A171_2 ((rd_T47 l0 x12_1).f2).length c171_2) := (blk_cell BK172.out 2).trans rfl; have hcz25_3 : w24.cell? ⟨gb172, 3, none⟩ = some (.bool ((rd_T47 l0 x12_1).f3)) := (blk_cell BK172.out 3).trans rfl; have hcz25_4 : w24.cell? ⟨gb172, 4, none⟩ = some (.string ((rd_T47 l0 x12_1).f4)) := (blk_cell BK172.out 4).trans rfl; have hfz25_0 := blk_frozen BK172.out 0; have hfz25_1 := blk_frozen BK172.out 1; have hfz25_2 := blk_frozen BK172.out 2; have hfz25_3 := blk_frozen BK172.out 3; have hfz25_4 := blk_frozen BK172.out 4) | ((with_reducible refine gate_callee (f := 42) rfl ?_); refine goesL_ (some 34) rfl rfl Try.func42 (by kernel_rfl) rfl #[.slice A171_2 ((rd_T47 l0 x12_1).f2).length c171_2] rfl (by (try simp only [List.map_toArray, List.map_cons, List.map_nil]); first | done | rfl | (simp only [List.length_drop, List.length_take]; rfl)) ?_; (with_reducible refine (emit_Attrs.calls kj5 _ _ ((rd_T47 l0 x12_1).f2) t174 _ ?side1 ?side2 A16.out).mono ?_); (case side1 => repeat (first | exact (Kd.C_below HR171_2.out HB.out) | (with_reducible refine Kd.C_alloc ?_ _) | (with_reducible refine Kd.C_drewN ?_ _) | (with_reducible refine Kd.C_drew ?_))); (case side2 => exact HC171_2.out); rintro e w26 ⟨rfl, hb⟩; refine ⟨_, rfl, ?_⟩; have n0_ := Aside0.mk (blk_below (g := gb172) (o := .cells #[.int .i64 ((rd_T47 l0 x12_1).f0), .string ((rd_T47 l0 x12_1).f1), .slice A171_2 ((rd_T47 l0 x12_1).f2).length c171_2, .bool ((rd_T47 l0 x12_1).f3), .string ((rd_T47 l0 x12_1).f4)] 47 (0, 0)) (by (with_reducible repeat (first | refine blk_drewN ?_ _ | refine blk_drew ?_ | refine blk_alloc ?_ _)); exact BK172.out) hb); have n1_ := Aside0.mk (below_step (by repeat (first | (with_reducible first | exact HB.out | apply below_alloc | apply pw_below_drewN | apply below_drew1 | refine below_set ?_ GE172.out) | exact HB.out)) hb); clear BK172; clear HB; have BK172 := n0_; have HB := n1_; clear n0_ n1_; (try clear hb); (try clear hb2); (try clear hk); (try clear hi)))
                have n0_ := Aside0.mk (blk_drew BK172.out)
                have n1_ := Aside0.mk (below_drew1 HB.out)
                clear BK172
                clear HB
                have BK172 := n0_
                have HB := n1_
                clear n0_ n1_
                have q28 : ((ji18) : Int) ≤ ((l0.length : Int) : Int) := of_decide_eq_true (by first | (with_reducible assumption) | assumption)
                obtain ⟨i028, hi028, _, hsz28, _⟩ := info_parts info47
                have hroom28 : l0.length ≤ c0 := HC0.out
                have hC28 : Kd.C k47 _ (some ad171) l0.length l0 := HR0.out
                have q028 : (0 : Int) ≤ ((ji18) : Int) := of_decide_eq_true (by first | (with_reducible assumption) | assumption)
                have hcut28 := cut_from (P := Try.prog) 42 47 .i64 Try.underlying42 hi028 5 hsz28 (some ad171) l0.length c0 (ji18) q028 q28
                have hr28 := Kd.C_drop (m := ((ji18) : Int).toNat) (c := c0) hC28 (by omega) hroom28
                obtain ⟨A28, hA28⟩ : ∃ A1, A1 = (if c0 = ((ji18) : Int).toNat then (some ad171) else ((some ad171) : Option Addr).map (·.add (((ji18) : Int).toNat * 5))) := ⟨_, rfl⟩
                obtain ⟨c28, hc28⟩ : ∃ c1, c1 = c0 - ((ji18) : Int).toNat := ⟨_, rfl⟩
                have hy28 : y175.length = l0.length - ((ji18) : Int).toNat := (by rw [Ny175.out, List.length_drop] <;> omega)
                rw [show (l0).drop ((ji18) : Int).toNat = y175 from Ny175.out.symm] at hr28
                replace hr28 : Kd.C k47 _ A28 y175.length y175 := (by rw [hA28]; exact hr28)
                rw [← hy28, ← hA28, ← hc28] at hcut28
                have HR178 := Aside0.mk hr28
                have HC178 := Aside0.mk (show y175.length ≤ c28 from by rw [hy28, hc28]; exact Nat.sub_le_sub_right hroom28 _)
                clear hr28 hC28 hroom28 hi028 hsz28 hc28
                have KY28 := Aside0.mk hy28
                have KA28 := Aside0.mk hA28
                clear hy28 hA28
                replace q28 := eq_true q28
                refine start_ (n := 7) (S := fun w' => w'.cell? ⟨gb172, 0, none⟩ = some (.int .i64 ((rd_T47 l0 x12_1).f0)) ∧ w'.cell? ⟨gb172, 1, none⟩ = some (.string ((rd_T47 l0 x12_1).f1)) ∧ w'.cell? ⟨gb172, 2, none⟩ = some (.slice A171_2 ((rd_T47 l0 x12_1).f2).length c171_2) ∧ w'.cell? ⟨gb172, 3, none⟩ = some (.bool ((rd_T47 l0 x12_1).f3)) ∧ w'.cell? ⟨gb172, 4, none⟩ = some (.string ((rd_T47 l0 x12_1).f4))) (ds := []) #[false, false, false, false, false, false, false] (by kernel_rfl) rfl rfl ⟨(blk_cell BK172.out 0).trans rfl, (blk_cell BK172.out 1).trans rfl, (blk_cell BK172.out 2).trans rfl, (blk_cell BK172.out 3).trans rfl, (blk_cell BK172.out 4).trans rfl⟩ (fun hHeld => ?_)
                generalize w26.drew = w27 at BK172 HB HR178 hHeld ⊢
                refine pure_ (i := 1) (N := some 39) (v := ?_) (a' := ?_) #[false, true, false, false, false, false, false] rfl rfl (by kernel_rfl) (fun _ _ _ h => h) (Or.inl ⟨by rfl, ?_⟩) ?_ ?_
                rotate_left
                ·
                 intro w'
                 go_simp
                 with_reducible rfl
                rotate_left
                ·
                 simp only [Act.put, List.setIfInBounds_toArray, List.set_cons_zero, List.set_cons_succ, i64_w, i32_w]
                 rfl
                refine pure_ (i := 2) (N := some 40) (v := ?_) (a' := ?_) #[false, true, true, false, false, false, false] rfl rfl (by kernel_rfl) (fun _ _ _ h => h) (Or.inl ⟨by rfl, ?_⟩) ?_ ?_
                rotate_left
                ·
                 intro w'
                 go_simp
                 with_reducible rfl
                rotate_left
                ·
                 simp only [Act.put, List.setIfInBounds_toArray, List.set_cons_zero, List.set_cons_succ, i64_w, i32_w]
                 rfl
                refine pure_ (i := 3) (N := some 41) (v := ?_) (a' := ?_) #[false, true, true, true, false, false, false] rfl rfl (by kernel_rfl) (fun _ _ _ h => h) (Or.inl ⟨by rfl, ?_⟩) ?_ ?_
                rotate_left
                ·
                 intro w'
                 go_simp
                 with_reducible rfl
                rotate_left
                ·
                 simp only [Act.put, List.setIfInBounds_toArray, List.set_cons_zero, List.set_cons_succ, i64_w, i32_w]
                 rfl
                refine pure_ (i := 4) (N := some 42) (v := ?_) (a' := ?_) #[false, true, true, true, true, false, false] rfl rfl (by kernel_rfl) (fun _ _ _ h => h) (Or.inl ⟨by rfl, ?_⟩) ?_ ?_
                rotate_left
                ·
                 intro w'
                 go_simp
                 with_reducible rfl
                rotate_left
                ·
                 simp only [Act.put, List.setIfInBounds_toArray, List.set_cons_zero, List.set_cons_succ, i64_w, i32_w]
                 rfl
                refine pure_ (i := 5) (N := some 43) (v := ?_) (a' := ?_) #[false, true, true, true, true, true, false] rfl rfl (by kernel_rfl) (fun _ _ _ h => h) (Or.inl ⟨by rfl, ?_⟩) ?_ ?_
                rotate_left
                ·
                 intro w'
                 go_simp
                 with_reducible rfl
                rotate_left
                ·
                 simp only [Act.put, List.setIfInBounds_toArray, List.set_cons_zero, List.set_cons_succ, i64_w, i32_w]
                 rfl
                refine take_ (i := 0) (N := some 38) (v := ?_) (a' := ?_) #[true, true, true, true, true, true, false] rfl rfl (by kernel_rfl) (fun _ _ _ h => h) (Or.inl ⟨by rfl, ?_⟩) hHeld ?_ ?_
                rotate_left
                ·
                 rintro w' ⟨s0, s1, s2, s3, s4⟩
                 go_simp
                 with_reducible rfl
                rotate_left
                ·
                 simp only [Act.put, List.setIfInBounds_toArray, List.set_cons_zero, List.set_cons_succ, i64_w, i32_w]
                 rfl
                refine one_ (i := 6) (N := some 44) #[true, true, true, true, true, true, true] rfl rfl (by kernel_rfl) (by decide) (fun K hK => ?_)
                refine goes_ Try.func43 (by kernel_rfl) rfl #[.agg #[.int .i64 ((rd_T47 l0 x12_1).f0), .string ((rd_T47 l0 x12_1).f1), .slice A171_2 ((rd_T47 l0 x12_1).f2).length c171_2, .bool ((rd_T47 l0 x12_1).f3), .string ((rd_T47 l0 x12_1).f4)], .int .i64 x3_1, .slice A28 y175.length c28] (by rfl) rfl rfl (by (try simp only [List.map_toArray, List.map_cons, List.map_nil]); first | done | rfl | (simp only [List.length_drop, List.length_take]; rfl)) ?_
                with_reducible refine (emit_odd.calls kj5 ((rd_T47 l0 x12_1).f0) ((rd_T47 l0 x12_1).f1) _ _ ((rd_T47 l0 x12_1).f2) ((rd_T47 l0 x12_1).f3) ((rd_T47 l0 x12_1).f4) x3_1 _ _ y175 true _ ?side1 ?side2 ?side3 ?side4 A21.out).mono ?_
                (case side1 => repeat (first | exact (Kd.C_below HR171_2.out HB.out) | (with_reducible refine Kd.C_alloc ?_ _) | (with_reducible refine Kd.C_drewN ?_ _) | (with_reducible refine Kd.C_drew ?_)))
                (case side2 => exact HC171_2.out)
                (case side3 => repeat (first | exact (Kd.C_below HR178.out HB.out) | (with_reducible refine Kd.C_alloc ?_ _) | (with_reducible refine Kd.C_drewN ?_ _) | (with_reducible refine Kd.C_drew ?_)))
                (case side4 => exact HC178.out)
                rintro e w29 ⟨rfl, hb⟩
                refine ⟨_, rfl, ?_⟩
                have n0_ := Aside0.mk (blk_below (g := gb172) (o := .cells #[.int .i64 ((rd_T47 l0 x12_1).f0), .string ((rd_T47 l0 x12_1).f1), .slice A171_2 ((rd_T47 l0 x12_1).f2).length c171_2, .bool ((rd_T47 l0 x12_1).f3), .string ((rd_T47 l0 x12_1).f4)] 47 (0, 0)) (by (with_reducible repeat (first | refine blk_drewN ?_ _ | refine blk_drew ?_ | refine blk_alloc ?_ _)); exact BK172.out) hb)
                have n1_ := Aside0.mk (below_step (by repeat (first | (with_reducible first | exact HB.out | apply below_alloc | apply pw_below_drewN | apply below_drew1 | refine below_set ?_ GE172.out) | exact HB.out)) hb)
                clear BK172
                clear HB
                have BK172 := n0_
                have HB := n1_
                clear n0_ n1_
                (try clear hb)
                (try clear hb2)
                (try clear hk)
                (try clear hi)
                refine hK.out _ _ ⟨(blk_cell BK172.out 0).trans rfl, (blk_cell BK172.out 1).trans rfl, (blk_cell BK172.out 2).trans rfl, (blk_cell BK172.out 3).trans rfl, (blk_cell BK172.out 4).trans rfl⟩ (fun hHeld => ?_)
                clear hK K
                refine norm_ (a' := ?_) ?_ ?_
                rotate_left
                ·
                 show Act.put _ (some 44) _ = _
                 simp only [Act.put, List.setIfInBounds_toArray, List.set_cons_zero, List.set_cons_succ, i64_w, i32_w]
                 rfl
                refine done_ (by kernel_rfl) ?_
                try go_wp2
                go_ret
                exact ⟨by first | rfl | (simp [errW_none, errW_some] <;> rfl) | (simp only [← hji18]; first | rfl | (simp [errW_none, errW_some] <;> rfl)) | (simp [*, errW_none, errW_some] <;> rfl), by repeat (first | (with_reducible first | exact HB.out | apply below_alloc | apply pw_below_drewN | apply below_drew1 | refine below_set ?_ GE172.out) | exact HB.out)⟩
               ·
                replace c22 := Bool.eq_false_iff.mpr c22
                subst c22
                have H1 : (emit_Check.l0 kj5 l0 ((rd_T47 l0 x12_1).f0) l0 (l0.length : Int) ji18) = some r := by rw [if_neg (show ¬ (false = true) by decide)] at H; exact H
                clear H
                have H := H1
                clear H1
                have H' := Aside0.mk H
                clear H
                have hcz30_0 : wc.cell? ⟨gb172, 0, none⟩ = some (.int .i64 ((rd_T47 l0 x12_1).f0)) := (blk_cell BK172.out 0).trans rfl
                have hcz30_1 : wc.cell? ⟨gb172, 1, none⟩ = some (.string ((rd_T47 l0 x12_1).f1)) := (blk_cell BK172.out 1).trans rfl
                have hcz30_2 : wc.cell? ⟨gb172, 2, none⟩ = some (.slice A171_2 ((rd_T47 l0 x12_1).f2).length c171_2) := (blk_cell BK172.out 2).trans rfl
                have hcz30_3 : wc.cell? ⟨gb172, 3, none⟩ = some (.bool ((rd_T47 l0 x12_1).f3)) := (blk_cell BK172.out 3).trans rfl
                have hcz30_4 : wc.cell? ⟨gb172, 4, none⟩ = some (.string ((rd_T47 l0 x12_1).f4)) := (blk_cell BK172.out 4).trans rfl
                have hfz30_0 := blk_frozen BK172.out 0
                have hfz30_1 := blk_frozen BK172.out 1
                have hfz30_2 := blk_frozen BK172.out 2
                have hfz30_3 := blk_frozen BK172.out 3
                have hfz30_4 := blk_frozen BK172.out 4
                try go_wp2_with (first | ((with_reducible refine gate_callee (f := 41) rfl ?_); refine goesL_ (some 30) rfl rfl Try.func41 (by kernel_rfl) rfl #[.string ((rd_T47 l0 x12_1).f1)] rfl (by (try simp only [List.map_toArray, List.map_cons, List.map_nil]); first | done | rfl | (simp only [List.length_drop, List.length_take]; rfl)) ?_; (with_reducible refine (emit_Name.calls ((rd_T47 l0 x12_1).f1) true _ A14.out).mono ?_); rintro e w31 ⟨rfl, hb⟩; refine ⟨_, rfl, ?_⟩; have n0_ := Aside0.mk (blk_below (g := gb172) (o := .cells #[.int .i64 ((rd_T47 l0 x12_1).f0), .string ((rd_T47 l0 x12_1).f1), .slice A171_2 ((rd_T47 l0 x12_1).f2).length c171_2, .bool ((rd_T47 l0 x12_1).f3), .string ((rd_T47 l0 x12_1).f4)] 47 (0, 0)) (by (with_reducible repeat (first | refine blk_drewN ?_ _ | refine blk_drew ?_ | refine blk_alloc ?_ _)); exact BK172.out) hb); have n1_ := Aside0.mk (below_step (by repeat (first | (with_reducible first | exact HB.out | apply below_alloc | apply pw_below_drewN | apply below_drew1 | refine below_set ?_ GE172.out) | exact HB.out)) hb); clear BK172; clear HB; have BK172 := n0_; have HB := n1_; clear n0_ n1_; (try clear hb); (try clear hb2); (try clear hk); (try clear hi); have hcz32_0 : w31.cell? ⟨gb172, 0, none⟩ = some (.int .i64 ((rd_T47 l0 x12_1).f0)) := (blk_cell BK172.out 0).trans rfl; have hcz32_1 : w31.cell? ⟨gb172, 1, none⟩ = some (.string ((rd_T47 l0 x12_1).f1)) := (blk_cell BK172.out 1).trans rfl; have hcz32_2 : w31.cell? ⟨gb172, 2, none⟩ = some (.slice A171_2 ((rd_T47 l0 x12_1).f2).length c171_2) := (blk_cell BK172.out 2).trans rfl; have hcz32_3 : w31.cell? ⟨gb172, 3, none⟩ = some (.bool ((rd_T47 l0 x12_1).f3)) := (blk_cell BK172.out 3).trans rfl; have hcz32_4 : w31.cell? ⟨gb172, 4, none⟩ = some (.string ((rd_T47 l0 x12_1).f4)) := (blk_cell BK172.out 4).trans rfl; have hfz32_0 := blk_frozen BK172.out 0; have hfz32_1 := blk_frozen BK172.out 1; have hfz32_2 := blk_frozen BK172.out 2; have hfz32_3 := blk_frozen BK172.out 3; have hfz32_4 := blk_frozen BK172.out 4) | ((with_reducible refine gate_callee (f := 42) rfl ?_); refine goesL_ (some 34) rfl rfl Try.func42 (by kernel_rfl) rfl #[.slice A171_2 ((rd_T47 l0 x12_1).f2).length c171_2] rfl (by (try simp only [List.map_toArray, List.map_cons, List.map_nil]); first | done | rfl | (simp only [List.length_drop, List.length_take]; rfl)) ?_; (with_reducible refine (emit_Attrs.calls kj5 _ _ ((rd_T47 l0 x12_1).f2) t174 _ ?side1 ?side2 A16.out).mono ?_); (case side1 => repeat (first | exact (Kd.C_below HR171_2.out HB.out) | (with_reducible refine Kd.C_alloc ?_ _) | (with_reducible refine Kd.C_drewN ?_ _) | (with_reducible refine Kd.C_drew ?_))); (case side2 => exact HC171_2.out); rintro e w33 ⟨rfl, hb⟩; refine ⟨_, rfl, ?_⟩; have n0_ := Aside0.mk (blk_below (g := gb172) (o := .cells #[.int .i64 ((rd_T47 l0 x12_1).f0), .string ((rd_T47 l0 x12_1).f1), .slice A171_2 ((rd_T47 l0 x12_1).f2).length c171_2, .bool ((rd_T47 l0 x12_1).f3), .string ((rd_T47 l0 x12_1).f4)] 47 (0, 0)) (by (with_reducible repeat (first | refine blk_drewN ?_ _ | refine blk_drew ?_ | refine blk_alloc ?_ _)); exact BK172.out) hb); have n1_ := Aside0.mk (below_step (by repeat (first | (with_reducible first | exact HB.out | apply below_alloc | apply pw_below_drewN | apply below_drew1 | refine below_set ?_ GE172.out) | exact HB.out)) hb); clear BK172; clear HB; have BK172 := n0_; have HB := n1_; clear n0_ n1_; (try clear hb); (try clear hb2); (try clear hk); (try clear hi)))
                have n0_ := Aside0.mk (blk_drew BK172.out)
                have n1_ := Aside0.mk (below_drew1 HB.out)
                clear BK172
                clear HB
                have BK172 := n0_
                have HB := n1_
                clear n0_ n1_
                have q35 : ((ji18) : Int) ≤ ((l0.length : Int) : Int) := of_decide_eq_true (by first | (with_reducible assumption) | assumption)
                obtain ⟨i035, hi035, _, hsz35, _⟩ := info_parts info47
                have hroom35 : l0.length ≤ c0 := HC0.out
                have hC35 : Kd.C k47 _ (some ad171) l0.length l0 := HR0.out
                have q035 : (0 : Int) ≤ ((ji18) : Int) := of_decide_eq_true (by first | (with_reducible assumption) | assumption)
                have hcut35 := cut_from (P := Try.prog) 42 47 .i64 Try.underlying42 hi035 5 hsz35 (some ad171) l0.length c0 (ji18) q035 q35
                have hr35 := Kd.C_drop (m := ((ji18) : Int).toNat) (c := c0) hC35 (by omega) hroom35
                obtain ⟨A35, hA35⟩ : ∃ A1, A1 = (if c0 = ((ji18) : Int).toNat then (some ad171) else ((some ad171) : Option Addr).map (·.add (((ji18) : Int).toNat * 5))) := ⟨_, rfl⟩
                obtain ⟨c35, hc35⟩ : ∃ c1, c1 = c0 - ((ji18) : Int).toNat := ⟨_, rfl⟩
                have hy35 : y175.length = l0.length - ((ji18) : Int).toNat := (by rw [Ny175.out, List.length_drop] <;> omega)
                rw [show (l0).drop ((ji18) : Int).toNat = y175 from Ny175.out.symm] at hr35
                replace hr35 : Kd.C k47 _ A35 y175.length y175 := (by rw [hA35]; exact hr35)
                rw [← hy35, ← hA35, ← hc35] at hcut35
                have HR178 := Aside0.mk hr35
                have HC178 := Aside0.mk (show y175.length ≤ c35 from by rw [hy35, hc35]; exact Nat.sub_le_sub_right hroom35 _)
                clear hr35 hC35 hroom35 hi035 hsz35 hc35
                have KY35 := Aside0.mk hy35
                have KA35 := Aside0.mk hA35
                clear hy35 hA35
                replace q35 := eq_true q35
                refine start_ (n := 7) (S := fun w' => w'.cell? ⟨gb172, 0, none⟩ = some (.int .i64 ((rd_T47 l0 x12_1).f0)) ∧ w'.cell? ⟨gb172, 1, none⟩ = some (.string ((rd_T47 l0 x12_1).f1)) ∧ w'.cell? ⟨gb172, 2, none⟩ = some (.slice A171_2 ((rd_T47 l0 x12_1).f2).length c171_2) ∧ w'.cell? ⟨gb172, 3, none⟩ = some (.bool ((rd_T47 l0 x12_1).f3)) ∧ w'.cell? ⟨gb172, 4, none⟩ = some (.string ((rd_T47 l0 x12_1).f4))) (ds := []) #[false, false, false, false, false, false, false] (by kernel_rfl) rfl rfl ⟨(blk_cell BK172.out 0).trans rfl, (blk_cell BK172.out 1).trans rfl, (blk_cell BK172.out 2).trans rfl, (blk_cell BK172.out 3).trans rfl, (blk_cell BK172.out 4).trans rfl⟩ (fun hHeld => ?_)
                generalize w33.drew = w34 at BK172 HB HR178 hHeld ⊢
                refine pure_ (i := 1) (N := some 39) (v := ?_) (a' := ?_) #[false, true, false, false, false, false, false] rfl rfl (by kernel_rfl) (fun _ _ _ h => h) (Or.inl ⟨by rfl, ?_⟩) ?_ ?_
                rotate_left
                ·
                 intro w'
                 go_simp
                 with_reducible rfl
                rotate_left
                ·
                 simp only [Act.put, List.setIfInBounds_toArray, List.set_cons_zero, List.set_cons_succ, i64_w, i32_w]
                 rfl
                refine pure_ (i := 2) (N := some 40) (v := ?_) (a' := ?_) #[false, true, true, false, false, false, false] rfl rfl (by kernel_rfl) (fun _ _ _ h => h) (Or.inl ⟨by rfl, ?_⟩) ?_ ?_
                rotate_left
                ·
                 intro w'
                 go_simp
                 with_reducible rfl
                rotate_left
                ·
                 simp only [Act.put, List.setIfInBounds_toArray, List.set_cons_zero, List.set_cons_succ, i64_w, i32_w]
                 rfl
                refine pure_ (i := 3) (N := some 41) (v := ?_) (a' := ?_) #[false, true, true, true, false, false, false] rfl rfl (by kernel_rfl) (fun _ _ _ h => h) (Or.inl ⟨by rfl, ?_⟩) ?_ ?_
                rotate_left
                ·
                 intro w'
                 go_simp
                 with_reducible rfl
                rotate_left
                ·
                 simp only [Act.put, List.setIfInBounds_toArray, List.set_cons_zero, List.set_cons_succ, i64_w, i32_w]
                 rfl
                refine pure_ (i := 4) (N := some 42) (v := ?_) (a' := ?_) #[false, true, true, true, true, false, false] rfl rfl (by kernel_rfl) (fun _ _ _ h => h) (Or.inl ⟨by rfl, ?_⟩) ?_ ?_
                rotate_left
                ·
                 intro w'
                 go_simp
                 with_reducible rfl
                rotate_left
                ·
                 simp only [Act.put, List.setIfInBounds_toArray, List.set_cons_zero, List.set_cons_succ, i64_w, i32_w]
                 rfl
                refine pure_ (i := 5) (N := some 43) (v := ?_) (a' := ?_) #[false, true, true, true, true, true, false] rfl rfl (by kernel_rfl) (fun _ _ _ h => h) (Or.inl ⟨by rfl, ?_⟩) ?_ ?_
                rotate_left
                ·
                 intro w'
                 go_simp
                 with_reducible rfl
                rotate_left
                ·
                 simp only [Act.put, List.setIfInBounds_toArray, List.set_cons_zero, List.set_cons_succ, i64_w, i32_w]
                 rfl
                refine take_ (i := 0) (N := some 38) (v := ?_) (a' := ?_) #[true, true, true, true, true, true, false] rfl rfl (by kernel_rfl) (fun _ _ _ h => h) (Or.inl ⟨by rfl, ?_⟩) hHeld ?_ ?_
                rotate_left
                ·
                 rintro w' ⟨s0, s1, s2, s3, s4⟩
                 go_simp
                 with_reducible rfl
                rotate_left
                ·
                 simp only [Act.put, List.setIfInBounds_toArray, List.set_cons_zero, List.set_cons_succ, i64_w, i32_w]
                 rfl
                refine one_ (i := 6) (N := some 44) #[true, true, true, true, true, true, true] rfl rfl (by kernel_rfl) (by decide) (fun K hK => ?_)
                refine goes_ Try.func43 (by kernel_rfl) rfl #[.agg #[.int .i64 ((rd_T47 l0 x12_1).f0), .string ((rd_T47 l0 x12_1).f1), .slice A171_2 ((rd_T47 l0 x12_1).f2).length c171_2, .bool ((rd_T47 l0 x12_1).f3), .string ((rd_T47 l0 x12_1).f4)], .int .i64 x3_1, .slice A35 y175.length c35] (by rfl) rfl rfl (by (try simp only [List.map_toArray, List.map_cons, List.map_nil]); first | done | rfl | (simp only [List.length_drop, List.length_take]; rfl)) ?_
                with_reducible refine (emit_odd.calls kj5 ((rd_T47 l0 x12_1).f0) ((rd_T47 l0 x12_1).f1) _ _ ((rd_T47 l0 x12_1).f2) ((rd_T47 l0 x12_1).f3) ((rd_T47 l0 x12_1).f4) x3_1 _ _ y175 false _ ?side1 ?side2 ?side3 ?side4 A21.out).mono ?_
                (case side1 => repeat (first | exact (Kd.C_below HR171_2.out HB.out) | (with_reducible refine Kd.C_alloc ?_ _) | (with_reducible refine Kd.C_drewN ?_ _) | (with_reducible refine Kd.C_drew ?_)))
                (case side2 => exact HC171_2.out)
                (case side3 => repeat (first | exact (Kd.C_below HR178.out HB.out) | (with_reducible refine Kd.C_alloc ?_ _) | (with_reducible refine Kd.C_drewN ?_ _) | (with_reducible refine Kd.C_drew ?_)))
                (case side4 => exact HC178.out)
                rintro e w36 ⟨rfl, hb⟩
                refine ⟨_, rfl, ?_⟩
                have n0_ := Aside0.mk (blk_below (g := gb172) (o := .cells #[.int .i64 ((rd_T47 l0 x12_1).f0), .string ((rd_T47 l0 x12_1).f1), .slice A171_2 ((rd_T47 l0 x12_1).f2).length c171_2, .bool ((rd_T47 l0 x12_1).f3), .string ((rd_T47 l0 x12_1).f4)] 47 (0, 0)) (by (with_reducible repeat (first | refine blk_drewN ?_ _ | refine blk_drew ?_ | refine blk_alloc ?_ _)); exact BK172.out) hb)
                have n1_ := Aside0.mk (below_step (by repeat (first | (with_reducible first | exact HB.out | apply below_alloc | apply pw_below_drewN | apply below_drew1 | refine below_set ?_ GE172.out) | exact HB.out)) hb)
                clear BK172
                clear HB
                have BK172 := n0_
                have HB := n1_
                clear n0_ n1_
                (try clear hb)
                (try clear hb2)
                (try clear hk)
                (try clear hi)
                refine hK.out _ _ ⟨(blk_cell BK172.out 0).trans rfl, (blk_cell BK172.out 1).trans rfl, (blk_cell BK172.out 2).trans rfl, (blk_cell BK172.out 3).trans rfl, (blk_cell BK172.out 4).trans rfl⟩ (fun hHeld => ?_)
                clear hK K
                refine norm_ (a' := ?_) ?_ ?_
                rotate_left
                ·
                 show Act.put _ (some 44) _ = _
                 simp only [Act.put, List.setIfInBounds_toArray, List.set_cons_zero, List.set_cons_succ, i64_w, i32_w]
                 rfl
                refine done_ (by kernel_rfl) ?_
                have hcz37_0 : w36.cell? ⟨gb172, 0, none⟩ = some (.int .i64 ((rd_T47 l0 x12_1).f0)) := (blk_cell BK172.out 0).trans rfl
                have hcz37_1 : w36.cell? ⟨gb172, 1, none⟩ = some (.string ((rd_T47 l0 x12_1).f1)) := (blk_cell BK172.out 1).trans rfl
                have hcz37_2 : w36.cell? ⟨gb172, 2, none⟩ = some (.slice A171_2 ((rd_T47 l0 x12_1).f2).length c171_2) := (blk_cell BK172.out 2).trans rfl
                have hcz37_3 : w36.cell? ⟨gb172, 3, none⟩ = some (.bool ((rd_T47 l0 x12_1).f3)) := (blk_cell BK172.out 3).trans rfl
                have hcz37_4 : w36.cell? ⟨gb172, 4, none⟩ = some (.string ((rd_T47 l0 x12_1).f4)) := (blk_cell BK172.out 4).trans rfl
                have hfz37_0 := blk_frozen BK172.out 0
                have hfz37_1 := blk_frozen BK172.out 1
                have hfz37_2 := blk_frozen BK172.out 2
                have hfz37_3 := blk_frozen BK172.out 3
                have hfz37_4 := blk_frozen BK172.out 4
                try go_wp2
                go_roundg kj5
                case measure => have := HK1.out; have := HJ5.out; omega
                case rel => exact ⟨(((rd_T47 l0 x12_1).f0)), (ji18), (by first | rfl | (simp; done) | (simp [*]; done) | (simp [bne]; done)), (by first | rfl | (simp; done) | (simp only [← hji18] <;> (first | rfl | simp)) | (simp [*]; done)), H', ⟨by have := HK1.out; have := HJ5.out; omega⟩, ⟨by repeat (first | (with_reducible first | exact HB.out | apply below_alloc | apply pw_below_drewN | apply below_drew1 | refine below_set ?_ GE172.out) | exact HB.out)⟩⟩
              ·
               rw [if_neg c20] at H
               exact absurd H (by simp)
             ·
              rw [if_neg c19] at H
              exact absurd H (by simp)
            ·
             rw [if_neg c17] at H
             have c17b0 : (t174 == 0) = false := beq_eq_false_iff_ne.mpr c17
             have c17b1 : (t174 != 0) = true := bne_iff_ne.mpr c17
             obtain rfl := Option.some.inj H
             have hcz38_0 : wc.cell? ⟨gb172, 0, none⟩ = some (.int .i64 ((rd_T47 l0 x12_1).f0)) := (blk_cell BK172.out 0).trans rfl
             have hcz38_1 : wc.cell? ⟨gb172, 1, none⟩ = some (.string ((rd_T47 l0 x12_1).f1)) := (blk_cell BK172.out 1).trans rfl
             have hcz38_2 : wc.cell? ⟨gb172, 2, none⟩ = some (.slice A171_2 ((rd_T47 l0 x12_1).f2).length c171_2) := (blk_cell BK172.out 2).trans rfl
             have hcz38_3 : wc.cell? ⟨gb172, 3, none⟩ = some (.bool ((rd_T47 l0 x12_1).f3)) := (blk_cell BK172.out 3).trans rfl
             have hcz38_4 : wc.cell? ⟨gb172, 4, none⟩ = some (.string ((rd_T47 l0 x12_1).f4)) := (blk_cell BK172.out 4).trans rfl
             have hfz38_0 := blk_frozen BK172.out 0
             have hfz38_1 := blk_frozen BK172.out 1
             have hfz38_2 := blk_frozen BK172.out 2
             have hfz38_3 := blk_frozen BK172.out 3
             have hfz38_4 := blk_frozen BK172.out 4
             go_wp2_with (first | ((with_reducible refine gate_callee (f := 41) rfl ?_); refine goesL_ (some 30) rfl rfl Try.func41 (by kernel_rfl) rfl #[.string ((rd_T47 l0 x12_1).f1)] rfl (by (try simp only [List.map_toArray, List.map_cons, List.map_nil]); first | done | rfl | (simp only [List.length_drop, List.length_take]; rfl)) ?_; (with_reducible refine (emit_Name.calls ((rd_T47 l0 x12_1).f1) true _ A14.out).mono ?_); rintro e w39 ⟨rfl, hb⟩; refine ⟨_, rfl, ?_⟩; have n0_ := Aside0.mk (blk_below (g := gb172) (o := .cells #[.int .i64 ((rd_T47 l0 x12_1).f0), .string ((rd_T47 l0 x12_1).f1), .slice A171_2 ((rd_T47 l0 x12_1).f2).length c171_2, .bool ((rd_T47 l0 x12_1).f3), .string ((rd_T47 l0 x12_1).f4)] 47 (0, 0)) (by (with_reducible repeat (first | refine blk_drewN ?_ _ | refine blk_drew ?_ | refine blk_alloc ?_ _)); exact BK172.out) hb); have n1_ := Aside0.mk (below_step (by repeat (first | (with_reducible first | exact HB.out | apply below_alloc | apply pw_below_drewN | apply below_drew1 | refine below_set ?_ GE172.out) | exact HB.out)) hb); clear BK172; clear HB; have BK172 := n0_; have HB := n1_; clear n0_ n1_; (try clear hb); (try clear hb2); (try clear hk); (try clear hi); have hcz40_0 : w39.cell? ⟨gb172, 0, none⟩ = some (.int .i64 ((rd_T47 l0 x12_1).f0)) := (blk_cell BK172.out 0).trans rfl; have hcz40_1 : w39.cell? ⟨gb172, 1, none⟩ = some (.string ((rd_T47 l0 x12_1).f1)) := (blk_cell BK172.out 1).trans rfl; have hcz40_2 : w39.cell? ⟨gb172, 2, none⟩ = some (.slice A171_2 ((rd_T47 l0 x12_1).f2).length c171_2) := (blk_cell BK172.out 2).trans rfl; have hcz40_3 : w39.cell? ⟨gb172, 3, none⟩ = some (.bool ((rd_T47 l0 x12_1).f3)) := (blk_cell BK172.out 3).trans rfl; have hcz40_4 : w39.cell? ⟨gb172, 4, none⟩ = some (.string ((rd_T47 l0 x12_1).f4)) := (blk_cell BK172.out 4).trans rfl; have hfz40_0 := blk_frozen BK172.out 0; have hfz40_1 := blk_frozen BK172.out 1; have hfz40_2 := blk_frozen BK172.out 2; have hfz40_3 := blk_frozen BK172.out 3; have hfz40_4 := blk_frozen BK172.out 4) | ((with_reducible refine gate_callee (f := 42) rfl ?_); refine goesL_ (some 34) rfl rfl Try.func42 (by kernel_rfl) rfl #[.slice A171_2 ((rd_T47 l0 x12_1).f2).length c171_2] rfl (by (try simp only [List.map_toArray, List.map_cons, List.map_nil]); first | done | rfl | (simp only [List.length_drop, List.length_take]; rfl)) ?_; (with_reducible refine (emit_Attrs.calls kj5 _ _ ((rd_T47 l0 x12_1).f2) t174 _ ?side1 ?side2 A16.out).mono ?_); (case side1 => repeat (first | exact (Kd.C_below HR171_2.out HB.out) | (with_reducible refine Kd.C_alloc ?_ _) | (with_reducible refine Kd.C_drewN ?_ _) | (with_reducible refine Kd.C_drew ?_))); (case side2 => exact HC171_2.out); rintro e w41 ⟨rfl, hb⟩; refine ⟨_, rfl, ?_⟩; have n0_ := Aside0.mk (blk_below (g := gb172) (o := .cells #[.int .i64 ((rd_T47 l0 x12_1).f0), .string ((rd_T47 l0 x12_1).f1), .slice A171_2 ((rd_T47 l0 x12_1).f2).length c171_2, .bool ((rd_T47 l0 x12_1).f3), .string ((rd_T47 l0 x12_1).f4)] 47 (0, 0)) (by (with_reducible repeat (first | refine blk_drewN ?_ _ | refine blk_drew ?_ | refine blk_alloc ?_ _)); exact BK172.out) hb); have n1_ := Aside0.mk (below_step (by repeat (first | (with_reducible first | exact HB.out | apply below_alloc | apply pw_below_drewN | apply below_drew1 | refine below_set ?_ GE172.out) | exact HB.out)) hb); clear BK172; clear HB; have BK172 := n0_; have HB := n1_; clear n0_ n1_; (try clear hb); (try clear hb2); (try clear hk); (try clear hi)))
             go_ret
             exact ⟨by first | rfl | (simp [errW_none, errW_some] <;> rfl) | (simp [*, errW_none, errW_some] <;> rfl), by repeat (first | (with_reducible first | exact HB.out | apply below_alloc | apply pw_below_drewN | apply below_drew1 | refine below_set ?_ GE172.out) | exact HB.out)⟩
           ·
            replace c15 := Bool.eq_false_iff.mpr c15
            subst c15
            have H1 : (some 5) = some r := by rw [if_neg (show ¬ (false = true) by decide)] at H; exact H
            clear H
            have H := H1
            clear H1
            obtain rfl := Option.some.inj H
            have hcz42_0 : wc.cell? ⟨gb172, 0, none⟩ = some (.int .i64 ((rd_T47 l0 x12_1).f0)) := (blk_cell BK172.out 0).trans rfl
            have hcz42_1 : wc.cell? ⟨gb172, 1, none⟩ = some (.string ((rd_T47 l0 x12_1).f1)) := (blk_cell BK172.out 1).trans rfl
            have hcz42_2 : wc.cell? ⟨gb172, 2, none⟩ = some (.slice A171_2 ((rd_T47 l0 x12_1).f2).length c171_2) := (blk_cell BK172.out 2).trans rfl
            have hcz42_3 : wc.cell? ⟨gb172, 3, none⟩ = some (.bool ((rd_T47 l0 x12_1).f3)) := (blk_cell BK172.out 3).trans rfl
            have hcz42_4 : wc.cell? ⟨gb172, 4, none⟩ = some (.string ((rd_T47 l0 x12_1).f4)) := (blk_cell BK172.out 4).trans rfl
            have hfz42_0 := blk_frozen BK172.out 0
            have hfz42_1 := blk_frozen BK172.out 1
            have hfz42_2 := blk_frozen BK172.out 2
            have hfz42_3 := blk_frozen BK172.out 3
            have hfz42_4 := blk_frozen BK172.out 4
            go_wp2_with (first | ((with_reducible refine gate_callee (f := 41) rfl ?_); refine goesL_ (some 30) rfl rfl Try.func41 (by kernel_rfl) rfl #[.string ((rd_T47 l0 x12_1).f1)] rfl (by (try simp only [List.map_toArray, List.map_cons, List.map_nil]); first | done | rfl | (simp only [List.length_drop, List.length_take]; rfl)) ?_; (with_reducible refine (emit_Name.calls ((rd_T47 l0 x12_1).f1) false _ A14.out).mono ?_); rintro e w43 ⟨rfl, hb⟩; refine ⟨_, rfl, ?_⟩; have n0_ := Aside0.mk (blk_below (g := gb172) (o := .cells #[.int .i64 ((rd_T47 l0 x12_1).f0), .string ((rd_T47 l0 x12_1).f1), .slice A171_2 ((rd_T47 l0 x12_1).f2).length c171_2, .bool ((rd_T47 l0 x12_1).f3), .string ((rd_T47 l0 x12_1).f4)] 47 (0, 0)) (by (with_reducible repeat (first | refine blk_drewN ?_ _ | refine blk_drew ?_ | refine blk_alloc ?_ _)); exact BK172.out) hb); have n1_ := Aside0.mk (below_step (by repeat (first | (with_reducible first | exact HB.out | apply below_alloc | apply pw_below_drewN | apply below_drew1 | refine below_set ?_ GE172.out) | exact HB.out)) hb); clear BK172; clear HB; have BK172 := n0_; have HB := n1_; clear n0_ n1_; (try clear hb); (try clear hb2); (try clear hk); (try clear hi)))
            go_ret
            exact ⟨by first | rfl | (simp [errW_none, errW_some] <;> rfl) | (simp [*, errW_none, errW_some] <;> rfl), by repeat (first | (with_reducible first | exact HB.out | apply below_alloc | apply pw_below_drewN | apply below_drew1 | refine below_set ?_ GE172.out) | exact HB.out)⟩
          ·
           rw [if_neg c13] at H
           have c13b0 : decide (((rd_T47 l0 x12_1).f0) ≤ 2) = false := decide_eq_false c13
           clear c13
           obtain ⟨ji44, hji44⟩ : ∃ j_ : Int, (wrap64 (x12_1 + 1)) = j_ := ⟨_, rfl⟩
           replace H : (if 0 ≤ (ji44) then (if (ji44) ≤ (l0.length : Int) then ((emit_odd.f kj5 ((rd_T47 l0 x12_1).f0) ((rd_T47 l0 x12_1).f1) ((rd_T47 l0 x12_1).f2) ((rd_T47 l0 x12_1).f3) ((rd_T47 l0 x12_1).f4) x3_1 (l0.drop ((ji44) : Int).toNat)).bind fun t184 => (if t184 = true then (some 4) else (emit_Check.l0 kj5 l0 ((rd_T47 l0 x12_1).f0) l0 (l0.length : Int) ji44))) else (none)) else (none)) = some r := by first | (rw [hji44] at H; exact H) | (simp only [hji44] at H ⊢; exact H)
           have hji44w : (IntKind.i64.wrap (x12_1 + 1)) = ji44 := (i64_w _).trans hji44
           by_cases c45 : 0 ≤ (ji44)
           ·
            rw [if_pos c45] at H
            have c45b0 := eq_true c45
            have c45b1 : decide (0 ≤ (ji44)) = true := decide_eq_true c45
            clear c45
            by_cases c46 : (ji44) ≤ (l0.length : Int)
            ·
             rw [if_pos c46] at H
             have c46b0 := eq_true c46
             have c46b1 : decide ((ji44) ≤ (l0.length : Int)) = true := decide_eq_true c46
             clear c46
             obtain ⟨y180, hy180⟩ : ∃ y_ : List (S47), y_ = (l0.drop ((ji44) : Int).toNat) := ⟨_, rfl⟩
             replace H : ((emit_odd.f kj5 ((rd_T47 l0 x12_1).f0) ((rd_T47 l0 x12_1).f1) ((rd_T47 l0 x12_1).f2) ((rd_T47 l0 x12_1).f3) ((rd_T47 l0 x12_1).f4) x3_1 y180).bind fun t184 => (if t184 = true then (some 4) else (emit_Check.l0 kj5 l0 ((rd_T47 l0 x12_1).f0) l0 (l0.length : Int) ji44))) = some r := by first | (rw [hy180]; with_reducible exact H) | (have H2_ := (Option.bind_some _ _).symm.trans H; rw [hy180]; with_reducible exact H2_) | (have H2_ := (Option.bind_some _ _).symm.trans H; with_reducible exact H2_) | with_reducible exact H | (rw [hy180]; exact H) | exact H
             have Ny180 := Aside0.mk hy180
             clear hy180
             replace H := Option.bind_eq_some_iff.mp H
             obtain ⟨t184, A470, H⟩ := H
             replace H : (if t184 = true then (some 4) else (emit_Check.l0 kj5 l0 ((rd_T47 l0 x12_1).f0) l0 (l0.length : Int) ji44)) = some r := H
             have A47 := Aside0.mk A470
             clear A470
             by_cases c48 : t184 = true
             ·
              subst c48
              have H1 : (some 4) = some r := by rw [if_pos rfl] at H; exact H
              clear H
              have H := H1
              clear H1
              obtain rfl := Option.some.inj H
              have hcz49_0 : wc.cell? ⟨gb172, 0, none⟩ = some (.int .i64 ((rd_T47 l0 x12_1).f0)) := (blk_cell BK172.out 0).trans rfl
              have hcz49_1 : wc.cell? ⟨gb172, 1, none⟩ = some (.string ((rd_T47 l0 x12_1).f1)) := (blk_cell BK172.out 1).trans rfl
              have hcz49_2 : wc.cell? ⟨gb172, 2, none⟩ = some (.slice A171_2 ((rd_T47 l0 x12_1).f2).length c171_2) := (blk_cell BK172.out 2).trans rfl
              have hcz49_3 : wc.cell? ⟨gb172, 3, none⟩ = some (.bool ((rd_T47 l0 x12_1).f3)) := (blk_cell BK172.out 3).trans rfl
              have hcz49_4 : wc.cell? ⟨gb172, 4, none⟩ = some (.string ((rd_T47 l0 x12_1).f4)) := (blk_cell BK172.out 4).trans rfl
              have hfz49_0 := blk_frozen BK172.out 0
              have hfz49_1 := blk_frozen BK172.out 1
              have hfz49_2 := blk_frozen BK172.out 2
              have hfz49_3 := blk_frozen BK172.out 3
              have hfz49_4 := blk_frozen BK172.out 4
              try go_wp2
              have n0_ := Aside0.mk (blk_drew BK172.out)
              have n1_ := Aside0.mk (below_drew1 HB.out)
              clear BK172
              clear HB
              have BK172 := n0_
              have HB := n1_
              clear n0_ n1_
              have q51 : ((ji44) : Int) ≤ ((l0.length : Int) : Int) := of_decide_eq_true (by first | (with_reducible assumption) | assumption)
              obtain ⟨i051, hi051, _, hsz51, _⟩ := info_parts info47
              have hroom51 : l0.length ≤ c0 := HC0.out
              have hC51 : Kd.C k47 _ (some ad171) l0.length l0 := HR0.out
              have q051 : (0 : Int) ≤ ((ji44) : Int) := of_decide_eq_true (by first | (with_reducible assumption) | assumption)
              have hcut51 := cut_from (P := Try.prog) 42 47 .i64 Try.underlying42 hi051 5 hsz51 (some ad171) l0.length c0 (ji44) q051 q51
              have hr51 := Kd.C_drop (m := ((ji44) : Int).toNat) (c := c0) hC51 (by omega) hroom51
              obtain ⟨A51, hA51⟩ : ∃ A1, A1 = (if c0 = ((ji44) : Int).toNat then (some ad171) else ((some ad171) : Option Addr).map (·.add (((ji44) : Int).toNat * 5))) := ⟨_, rfl⟩
              obtain ⟨c51, hc51⟩ : ∃ c1, c1 = c0 - ((ji44) : Int).toNat := ⟨_, rfl⟩
              have hy51 : y180.length = l0.length - ((ji44) : Int).toNat := (by rw [Ny180.out, List.length_drop] <;> omega)
              rw [show (l0).drop ((ji44) : Int).toNat = y180 from Ny180.out.symm] at hr51
              replace hr51 : Kd.C k47 _ A51 y180.length y180 := (by rw [hA51]; exact hr51)
              rw [← hy51, ← hA51, ← hc51] at hcut51
              have HR183 := Aside0.mk hr51
              have HC183 := Aside0.mk (show y180.length ≤ c51 from by rw [hy51, hc51]; exact Nat.sub_le_sub_right hroom51 _)
              clear hr51 hC51 hroom51 hi051 hsz51 hc51
              have KY51 := Aside0.mk hy51
              have KA51 := Aside0.mk hA51
              clear hy51 hA51
              replace q51 := eq_true q51
              refine start_ (n := 7) (S := fun w' => w'.cell? ⟨gb172, 0, none⟩ = some (.int .i64 ((rd_T47 l0 x12_1).f0)) ∧ w'.cell? ⟨gb172, 1, none⟩ = some (.string ((rd_T47 l0 x12_1).f1)) ∧ w'.cell? ⟨gb172, 2, none⟩ = some (.slice A171_2 ((rd_T47 l0 x12_1).f2).length c171_2) ∧ w'.cell? ⟨gb172, 3, none⟩ = some (.bool ((rd_T47 l0 x12_1).f3)) ∧ w'.cell? ⟨gb172, 4, none⟩ = some (.string ((rd_T47 l0 x12_1).f4))) (ds := []) #[false, false, false, false, false, false, false] (by kernel_rfl) rfl rfl ⟨(blk_cell BK172.out 0).trans rfl, (blk_cell BK172.out 1).trans rfl, (blk_cell BK172.out 2).trans rfl, (blk_cell BK172.out 3).trans rfl, (blk_cell BK172.out 4).trans rfl⟩ (fun hHeld => ?_)
              generalize wc.drew = w50 at BK172 HB HR183 hHeld ⊢
              refine pure_ (i := 1) (N := some 39) (v := ?_) (a' := ?_) #[false, true, false, false, false, false, false] rfl rfl (by kernel_rfl) (fun _ _ _ h => h) (Or.inl ⟨by rfl, ?_⟩) ?_ ?_
              rotate_left
              ·
               intro w'
               go_simp
               with_reducible rfl
              rotate_left
              ·
               simp only [Act.put, List.setIfInBounds_toArray, List.set_cons_zero, List.set_cons_succ, i64_w, i32_w]
               rfl
              refine pure_ (i := 2) (N := some 40) (v := ?_) (a' := ?_) #[false, true, true, false, false, false, false] rfl rfl (by kernel_rfl) (fun _ _ _ h => h) (Or.inl ⟨by rfl, ?_⟩) ?_ ?_
              rotate_left
              ·
               intro w'
               go_simp
               with_reducible rfl
              rotate_left
              ·
               simp only [Act.put, List.setIfInBounds_toArray, List.set_cons_zero, List.set_cons_succ, i64_w, i32_w]
               rfl
              refine pure_ (i := 3) (N := some 41) (v := ?_) (a' := ?_) #[false, true, true, true, false, false, false] rfl rfl (by kernel_rfl) (fun _ _ _ h => h) (Or.inl ⟨by rfl, ?_⟩) ?_ ?_
              rotate_left
              ·
               intro w'
               go_simp
               with_reducible rfl
              rotate_left
              ·
               simp only [Act.put, List.setIfInBounds_toArray, List.set_cons_zero, List.set_cons_succ, i64_w, i32_w]
               rfl
              refine pure_ (i := 4) (N := some 42) (v := ?_) (a' := ?_) #[false, true, true, true, true, false, false] rfl rfl (by kernel_rfl) (fun _ _ _ h => h) (Or.inl ⟨by rfl, ?_⟩) ?_ ?_
              rotate_left
              ·
               intro w'
               go_simp
               with_reducible rfl
              rotate_left
              ·
               simp only [Act.put, List.setIfInBounds_toArray, List.set_cons_zero, List.set_cons_succ, i64_w, i32_w]
               rfl
              refine pure_ (i := 5) (N := some 43) (v := ?_) (a' := ?_) #[false, true, true, true, true, true, false] rfl rfl (by kernel_rfl) (fun _ _ _ h => h) (Or.inl ⟨by rfl, ?_⟩) ?_ ?_
              rotate_left
              ·
               intro w'
               go_simp
               with_reducible rfl
              rotate_left
              ·
               simp only [Act.put, List.setIfInBounds_toArray, List.set_cons_zero, List.set_cons_succ, i64_w, i32_w]
               rfl
              refine take_ (i := 0) (N := some 38) (v := ?_) (a' := ?_) #[true, true, true, true, true, true, false] rfl rfl (by kernel_rfl) (fun _ _ _ h => h) (Or.inl ⟨by rfl, ?_⟩) hHeld ?_ ?_
              rotate_left
              ·
               rintro w' ⟨s0, s1, s2, s3, s4⟩
               go_simp
               with_reducible rfl
              rotate_left
              ·
               simp only [Act.put, List.setIfInBounds_toArray, List.set_cons_zero, List.set_cons_succ, i64_w, i32_w]
               rfl
              refine one_ (i := 6) (N := some 44) #[true, true, true, true, true, true, true] rfl rfl (by kernel_rfl) (by decide) (fun K hK => ?_)
              refine goes_ Try.func43 (by kernel_rfl) rfl #[.agg #[.int .i64 ((rd_T47 l0 x12_1).f0), .string ((rd_T47 l0 x12_1).f1), .slice A171_2 ((rd_T47 l0 x12_1).f2).length c171_2, .bool ((rd_T47 l0 x12_1).f3), .string ((rd_T47 l0 x12_1).f4)], .int .i64 x3_1, .slice A51 y180.length c51] (by rfl) rfl rfl (by (try simp only [List.map_toArray, List.map_cons, List.map_nil]); first | done | rfl | (simp only [List.length_drop, List.length_take]; rfl)) ?_
              with_reducible refine (emit_odd.calls kj5 ((rd_T47 l0 x12_1).f0) ((rd_T47 l0 x12_1).f1) _ _ ((rd_T47 l0 x12_1).f2) ((rd_T47 l0 x12_1).f3) ((rd_T47 l0 x12_1).f4) x3_1 _ _ y180 true _ ?side1 ?side2 ?side3 ?side4 A47.out).mono ?_
              (case side1 => repeat (first | exact (Kd.C_below HR171_2.out HB.out) | (with_reducible refine Kd.C_alloc ?_ _) | (with_reducible refine Kd.C_drewN ?_ _) | (with_reducible refine Kd.C_drew ?_)))
              (case side2 => exact HC171_2.out)
              (case side3 => repeat (first | exact (Kd.C_below HR183.out HB.out) | (with_reducible refine Kd.C_alloc ?_ _) | (with_reducible refine Kd.C_drewN ?_ _) | (with_reducible refine Kd.C_drew ?_)))
              (case side4 => exact HC183.out)
              rintro e w52 ⟨rfl, hb⟩
              refine ⟨_, rfl, ?_⟩
              have n0_ := Aside0.mk (blk_below (g := gb172) (o := .cells #[.int .i64 ((rd_T47 l0 x12_1).f0), .string ((rd_T47 l0 x12_1).f1), .slice A171_2 ((rd_T47 l0 x12_1).f2).length c171_2, .bool ((rd_T47 l0 x12_1).f3), .string ((rd_T47 l0 x12_1).f4)] 47 (0, 0)) (by (with_reducible repeat (first | refine blk_drewN ?_ _ | refine blk_drew ?_ | refine blk_alloc ?_ _)); exact BK172.out) hb)
              have n1_ := Aside0.mk (below_step (by repeat (first | (with_reducible first | exact HB.out | apply below_alloc | apply pw_below_drewN | apply below_drew1 | refine below_set ?_ GE172.out) | exact HB.out)) hb)
              clear BK172
              clear HB
              have BK172 := n0_
              have HB := n1_
              clear n0_ n1_
              (try clear hb)
              (try clear hb2)
              (try clear hk)
              (try clear hi)
              refine hK.out _ _ ⟨(blk_cell BK172.out 0).trans rfl, (blk_cell BK172.out 1).trans rfl, (blk_cell BK172.out 2).trans rfl, (blk_cell BK172.out 3).trans rfl, (blk_cell BK172.out 4).trans rfl⟩ (fun hHeld => ?_)
              clear hK K
              refine norm_ (a' := ?_) ?_ ?_
              rotate_left
              ·
               show Act.put _ (some 44) _ = _
               simp only [Act.put, List.setIfInBounds_toArray, List.set_cons_zero, List.set_cons_succ, i64_w, i32_w]
               rfl
              refine done_ (by kernel_rfl) ?_
              try go_wp2
              go_ret
              exact ⟨by first | rfl | (simp [errW_none, errW_some] <;> rfl) | (simp only [← hji44]; first | rfl | (simp [errW_none, errW_some] <;> rfl)) | (simp [*, errW_none, errW_some] <;> rfl), by repeat (first | (with_reducible first | exact HB.out | apply below_alloc | apply pw_below_drewN | apply below_drew1 | refine below_set ?_ GE172.out) | exact HB.out)⟩
             ·
              replace c48 := Bool.eq_false_iff.mpr c48
              subst c48
              have H1 : (emit_Check.l0 kj5 l0 ((rd_T47 l0 x12_1).f0) l0 (l0.length : Int) ji44) = some r := by rw [if_neg (show ¬ (false = true) by decide)] at H; exact H
              clear H
              have H := H1
              clear H1
              have H' := Aside0.mk H
              clear H
              have hcz53_0 : wc.cell? ⟨gb172, 0, none⟩ = some (.int .i64 ((rd_T47 l0 x12_1).f0)) := (blk_cell BK172.out 0).trans rfl
              have hcz53_1 : wc.cell? ⟨gb172, 1, none⟩ = some (.string ((rd_T47 l0 x12_1).f1)) := (blk_cell BK172.out 1).trans rfl
              have hcz53_2 : wc.cell? ⟨gb172, 2, none⟩ = some (.slice A171_2 ((rd_T47 l0 x12_1).f2).length c171_2) := (blk_cell BK172.out 2).trans rfl
              have hcz53_3 : wc.cell? ⟨gb172, 3, none⟩ = some (.bool ((rd_T47 l0 x12_1).f3)) := (blk_cell BK172.out 3).trans rfl
              have hcz53_4 : wc.cell? ⟨gb172, 4, none⟩ = some (.string ((rd_T47 l0 x12_1).f4)) := (blk_cell BK172.out 4).trans rfl
              have hfz53_0 := blk_frozen BK172.out 0
              have hfz53_1 := blk_frozen BK172.out 1
              have hfz53_2 := blk_frozen BK172.out 2
              have hfz53_3 := blk_frozen BK172.out 3
              have hfz53_4 := blk_frozen BK172.out 4
              try go_wp2
              have n0_ := Aside0.mk (blk_drew BK172.out)
              have n1_ := Aside0.mk (below_drew1 HB.out)
              clear BK172
              clear HB
              have BK172 := n0_
              have HB := n1_
              clear n0_ n1_
              have q55 : ((ji44) : Int) ≤ ((l0.length : Int) : Int) := of_decide_eq_true (by first | (with_reducible assumption) | assumption)
              obtain ⟨i055, hi055, _, hsz55, _⟩ := info_parts info47
              have hroom55 : l0.length ≤ c0 := HC0.out
              have hC55 : Kd.C k47 _ (some ad171) l0.length l0 := HR0.out
              have q055 : (0 : Int) ≤ ((ji44) : Int) := of_decide_eq_true (by first | (with_reducible assumption) | assumption)
              have hcut55 := cut_from (P := Try.prog) 42 47 .i64 Try.underlying42 hi055 5 hsz55 (some ad171) l0.length c0 (ji44) q055 q55
              have hr55 := Kd.C_drop (m := ((ji44) : Int).toNat) (c := c0) hC55 (by omega) hroom55
              obtain ⟨A55, hA55⟩ : ∃ A1, A1 = (if c0 = ((ji44) : Int).toNat then (some ad171) else ((some ad171) : Option Addr).map (·.add (((ji44) : Int).toNat * 5))) := ⟨_, rfl⟩
              obtain ⟨c55, hc55⟩ : ∃ c1, c1 = c0 - ((ji44) : Int).toNat := ⟨_, rfl⟩
              have hy55 : y180.length = l0.length - ((ji44) : Int).toNat := (by rw [Ny180.out, List.length_drop] <;> omega)
              rw [show (l0).drop ((ji44) : Int).toNat = y180 from Ny180.out.symm] at hr55
              replace hr55 : Kd.C k47 _ A55 y180.length y180 := (by rw [hA55]; exact hr55)
              rw [← hy55, ← hA55, ← hc55] at hcut55
              have HR183 := Aside0.mk hr55
              have HC183 := Aside0.mk (show y180.length ≤ c55 from by rw [hy55, hc55]; exact Nat.sub_le_sub_right hroom55 _)
              clear hr55 hC55 hroom55 hi055 hsz55 hc55
              have KY55 := Aside0.mk hy55
              have KA55 := Aside0.mk hA55
              clear hy55 hA55
              replace q55 := eq_true q55
              refine start_ (n := 7) (S := fun w' => w'.cell? ⟨gb172, 0, none⟩ = some (.int .i64 ((rd_T47 l0 x12_1).f0)) ∧ w'.cell? ⟨gb172, 1, none⟩ = some (.string ((rd_T47 l0 x12_1).f1)) ∧ w'.cell? ⟨gb172, 2, none⟩ = some (.slice A171_2 ((rd_T47 l0 x12_1).f2).length c171_2) ∧ w'.cell? ⟨gb172, 3, none⟩ = some (.bool ((rd_T47 l0 x12_1).f3)) ∧ w'.cell? ⟨gb172, 4, none⟩ = some (.string ((rd_T47 l0 x12_1).f4))) (ds := []) #[false, false, false, false, false, false, false] (by kernel_rfl) rfl rfl ⟨(blk_cell BK172.out 0).trans rfl, (blk_cell BK172.out 1).trans rfl, (blk_cell BK172.out 2).trans rfl, (blk_cell BK172.out 3).trans rfl, (blk_cell BK172.out 4).trans rfl⟩ (fun hHeld => ?_)
              generalize wc.drew = w54 at BK172 HB HR183 hHeld ⊢
              refine pure_ (i := 1) (N := some 39) (v := ?_) (a' := ?_) #[false, true, false, false, false, false, false] rfl rfl (by kernel_rfl) (fun _ _ _ h => h) (Or.inl ⟨by rfl, ?_⟩) ?_ ?_
              rotate_left
              ·
               intro w'
               go_simp
               with_reducible rfl
              rotate_left
              ·
               simp only [Act.put, List.setIfInBounds_toArray, List.set_cons_zero, List.set_cons_succ, i64_w, i32_w]
               rfl
              refine pure_ (i := 2) (N := some 40) (v := ?_) (a' := ?_) #[false, true, true, false, false, false, false] rfl rfl (by kernel_rfl) (fun _ _ _ h => h) (Or.inl ⟨by rfl, ?_⟩) ?_ ?_
              rotate_left
              ·
               intro w'
               go_simp
               with_reducible rfl
              rotate_left
              ·
               simp only [Act.put, List.setIfInBounds_toArray, List.set_cons_zero, List.set_cons_succ, i64_w, i32_w]
               rfl
              refine pure_ (i := 3) (N := some 41) (v := ?_) (a' := ?_) #[false, true, true, true, false, false, false] rfl rfl (by kernel_rfl) (fun _ _ _ h => h) (Or.inl ⟨by rfl, ?_⟩) ?_ ?_
              rotate_left
              ·
               intro w'
               go_simp
               with_reducible rfl
              rotate_left
              ·
               simp only [Act.put, List.setIfInBounds_toArray, List.set_cons_zero, List.set_cons_succ, i64_w, i32_w]
               rfl
              refine pure_ (i := 4) (N := some 42) (v := ?_) (a' := ?_) #[false, true, true, true, true, false, false] rfl rfl (by kernel_rfl) (fun _ _ _ h => h) (Or.inl ⟨by rfl, ?_⟩) ?_ ?_
              rotate_left
              ·
               intro w'
               go_simp
               with_reducible rfl
              rotate_left
              ·
               simp only [Act.put, List.setIfInBounds_toArray, List.set_cons_zero, List.set_cons_succ, i64_w, i32_w]
               rfl
              refine pure_ (i := 5) (N := some 43) (v := ?_) (a' := ?_) #[false, true, true, true, true, true, false] rfl rfl (by kernel_rfl) (fun _ _ _ h => h) (Or.inl ⟨by rfl, ?_⟩) ?_ ?_
              rotate_left
              ·
               intro w'
               go_simp
               with_reducible rfl
              rotate_left
              ·
               simp only [Act.put, List.setIfInBounds_toArray, List.set_cons_zero, List.set_cons_succ, i64_w, i32_w]
               rfl
              refine take_ (i := 0) (N := some 38) (v := ?_) (a' := ?_) #[true, true, true, true, true, true, false] rfl rfl (by kernel_rfl) (fun _ _ _ h => h) (Or.inl ⟨by rfl, ?_⟩) hHeld ?_ ?_
              rotate_left
              ·
               rintro w' ⟨s0, s1, s2, s3, s4⟩
               go_simp
               with_reducible rfl
              rotate_left
              ·
               simp only [Act.put, List.setIfInBounds_toArray, List.set_cons_zero, List.set_cons_succ, i64_w, i32_w]
               rfl
              refine one_ (i := 6) (N := some 44) #[true, true, true, true, true, true, true] rfl rfl (by kernel_rfl) (by decide) (fun K hK => ?_)
              refine goes_ Try.func43 (by kernel_rfl) rfl #[.agg #[.int .i64 ((rd_T47 l0 x12_1).f0), .string ((rd_T47 l0 x12_1).f1), .slice A171_2 ((rd_T47 l0 x12_1).f2).length c171_2, .bool ((rd_T47 l0 x12_1).f3), .string ((rd_T47 l0 x12_1).f4)], .int .i64 x3_1, .slice A55 y180.length c55] (by rfl) rfl rfl (by (try simp only [List.map_toArray, List.map_cons, List.map_nil]); first | done | rfl | (simp only [List.length_drop, List.length_take]; rfl)) ?_
              with_reducible refine (emit_odd.calls kj5 ((rd_T47 l0 x12_1).f0) ((rd_T47 l0 x12_1).f1) _ _ ((rd_T47 l0 x12_1).f2) ((rd_T47 l0 x12_1).f3) ((rd_T47 l0 x12_1).f4) x3_1 _ _ y180 false _ ?side1 ?side2 ?side3 ?side4 A47.out).mono ?_
              (case side1 => repeat (first | exact (Kd.C_below HR171_2.out HB.out) | (with_reducible refine Kd.C_alloc ?_ _) | (with_reducible refine Kd.C_drewN ?_ _) | (with_reducible refine Kd.C_drew ?_)))
              (case side2 => exact HC171_2.out)
              (case side3 => repeat (first | exact (Kd.C_below HR183.out HB.out) | (with_reducible refine Kd.C_alloc ?_ _) | (with_reducible refine Kd.C_drewN ?_ _) | (with_reducible refine Kd.C_drew ?_)))
              (case side4 => exact HC183.out)
              rintro e w56 ⟨rfl, hb⟩
              refine ⟨_, rfl, ?_⟩
              have n0_ := Aside0.mk (blk_below (g := gb172) (o := .cells #[.int .i64 ((rd_T47 l0 x12_1).f0), .string ((rd_T47 l0 x12_1).f1), .slice A171_2 ((rd_T47 l0 x12_1).f2).length c171_2, .bool ((rd_T47 l0 x12_1).f3), .string ((rd_T47 l0 x12_1).f4)] 47 (0, 0)) (by (with_reducible repeat (first | refine blk_drewN ?_ _ | refine blk_drew ?_ | refine blk_alloc ?_ _)); exact BK172.out) hb)
              have n1_ := Aside0.mk (below_step (by repeat (first | (with_reducible first | exact HB.out | apply below_alloc | apply pw_below_drewN | apply below_drew1 | refine below_set ?_ GE172.out) | exact HB.out)) hb)
              clear BK172
              clear HB
              have BK172 := n0_
              have HB := n1_
              clear n0_ n1_
              (try clear hb)
              (try clear hb2)
              (try clear hk)
              (try clear hi)
              refine hK.out _ _ ⟨(blk_cell BK172.out 0).trans rfl, (blk_cell BK172.out 1).trans rfl, (blk_cell BK172.out 2).trans rfl, (blk_cell BK172.out 3).trans rfl, (blk_cell BK172.out 4).trans rfl⟩ (fun hHeld => ?_)
              clear hK K
              refine norm_ (a' := ?_) ?_ ?_
              rotate_left
              ·
               show Act.put _ (some 44) _ = _
               simp only [Act.put, List.setIfInBounds_toArray, List.set_cons_zero, List.set_cons_succ, i64_w, i32_w]
               rfl
              refine done_ (by kernel_rfl) ?_
              have hcz57_0 : w56.cell? ⟨gb172, 0, none⟩ = some (.int .i64 ((rd_T47 l0 x12_1).f0)) := (blk_cell BK172.out 0).trans rfl
              have hcz57_1 : w56.cell? ⟨gb172, 1, none⟩ = some (.string ((rd_T47 l0 x12_1).f1)) := (blk_cell BK172.out 1).trans rfl
              have hcz57_2 : w56.cell? ⟨gb172, 2, none⟩ = some (.slice A171_2 ((rd_T47 l0 x12_1).f2).length c171_2) := (blk_cell BK172.out 2).trans rfl
              have hcz57_3 : w56.cell? ⟨gb172, 3, none⟩ = some (.bool ((rd_T47 l0 x12_1).f3)) := (blk_cell BK172.out 3).trans rfl
              have hcz57_4 : w56.cell? ⟨gb172, 4, none⟩ = some (.string ((rd_T47 l0 x12_1).f4)) := (blk_cell BK172.out 4).trans rfl
              have hfz57_0 := blk_frozen BK172.out 0
              have hfz57_1 := blk_frozen BK172.out 1
              have hfz57_2 := blk_frozen BK172.out 2
              have hfz57_3 := blk_frozen BK172.out 3
              have hfz57_4 := blk_frozen BK172.out 4
              try go_wp2
              go_roundg kj5
              case measure => have := HK1.out; have := HJ5.out; omega
              case rel => exact ⟨(((rd_T47 l0 x12_1).f0)), (ji44), (by first | rfl | (simp; done) | (simp [*]; done) | (simp [bne]; done)), (by first | rfl | (simp; done) | (simp only [← hji44] <;> (first | rfl | simp)) | (simp [*]; done)), H', ⟨by have := HK1.out; have := HJ5.out; omega⟩, ⟨by repeat (first | (with_reducible first | exact HB.out | apply below_alloc | apply pw_below_drewN | apply below_drew1 | refine below_set ?_ GE172.out) | exact HB.out)⟩⟩
            ·
             rw [if_neg c46] at H
             exact absurd H (by simp)
           ·
            rw [if_neg c45] at H
            exact absurd H (by simp)
      ·
       rw [if_neg c5] at H
       exact absurd H (by simp)
     ·
      rw [if_neg c4] at H
      exact absurd H (by simp)
    ·
     rw [if_neg c3] at H
     have c3b0 : decide (x12_1 < (l0.length : Int)) = false := decide_eq_false c3
     clear c3
     obtain rfl := Option.some.inj H
     go_wp2
     go_ret
     exact ⟨by first | rfl | (simp [errW_none, errW_some] <;> rfl) | (simp [*, errW_none, errW_some] <;> rfl), by repeat (first | (with_reducible first | exact HB.out | apply below_alloc | apply pw_below_drewN | apply below_drew1) | exact HB.out)⟩
end Go.Proofs.Ytjmhihadgpdiaaa.X
end
section
namespace Go.Proofs.Ytjmhihadgpdiaaa.X
open Go.RowKit Go.Proofs.YtjmhihadgpdiaaaW.PrintWords Go.Proofs.YtjmhihadgpdiaaaW.PrintLast Go.Proofs.YtjmhihadgpdiaaaW.PrintMore
attribute [local go_sem] max2_int min2_int max_two min_two max_three min_three max_four min_four   -- for this text's walks alone
set_option linter.unusedVariables false
set_option linter.unusedSimpArgs false
def ref_Escape.esc (q : Bool) (c : UInt8) : List UInt8 := if c = 38 then [38, 97, 109, 112, 59] else if c = 60 then [38, 108, 116, 59] else if c = 62 then [38, 103, 116, 59] else if c = 34 ∧ q = true then [38, 113, 117, 111, 116, 59] else [c]
def ref_Escape.go (l : List UInt8) (q : Bool) : List UInt8 := l.flatMap (ref_Escape.esc q)
def ref_Escape.f (a0 : ByteArray) (a1 : Bool) : Option ByteArray := if a0.size ≤ 17592186044416 then some ⟨(ref_Escape.go a0.data.toList a1).toArray⟩ else none
def ref_Escape.iv : Value → Nat
  | .int _ i => i.toNat
  | _ => 0
theorem ref_Escape.esc_len (q : Bool) (c : UInt8) : (ref_Escape.esc q c).length ≤ 6 := by
  unfold ref_Escape.esc
  repeat' split
  all_goals simp
theorem ref_Escape.byte (c : UInt8) (n : Nat) (hn : n < 256) : ((c.toNat : Int) = n) ↔ c = UInt8.ofNat n := by
  constructor
  · intro h
    apply UInt8.toNat_inj.1
    rw [UInt8.toNat_ofNat']
    omega
  · rintro rfl
    rw [UInt8.toNat_ofNat']
    omega
theorem ref_Escape.cells (acc l : List UInt8) (s : ByteArray) (h : s.data.toList = l) : Lib.byteCells acc ++ Lib.strCells s = Lib.byteCells (acc ++ l) := by
  subst h
  simp [Lib.byteCells, Lib.strCells]
set_option maxHeartbeats 4000000 in
set_option maxRecDepth 100000 in
theorem ref_Escape.calls (a0 : ByteArray) (a1 : Bool) (r : ByteArray) (w : World) (h : ref_Escape.f a0 a1 = some r) :
    Calls Try.prog 29 #[.string a0, .bool a1] w fun e w' => e = .returned (.string r) ∧ Below w.heap.size w w' := by
  have hr : (⟨(ref_Escape.go a0.data.toList a1).toArray⟩ : ByteArray) = r ∧ a0.size ≤ 17592186044416 := by
    unfold ref_Escape.f at h
    split at h
    · cases h; exact ⟨rfl, by assumption⟩
    · cases h
  obtain ⟨rfl, hz⟩ := hr
  have HZ := Aside0.mk hz
  clear h hz
  go_enter Try.func29, Try.ntmps29
  go_wp2
  go_loopw [10] (fun v10 wr => ∃ (i : Nat) (acc : List UInt8), v10 = .int .i64 (i : Int) ∧ Aside0 (Bld.IsB w.heap.size w.heap.size (Lib.byteCells acc) wr) ∧ Aside0 (Below w.heap.size w wr) ∧ Aside0 (acc ++ ref_Escape.go (a0.data.toList.drop i) a1 = ref_Escape.go a0.data.toList a1) ∧ Aside0 (i ≤ a0.size) ∧ Aside0 (acc.length ≤ 6 * i)) (fun v10 wr => a0.size - ref_Escape.iv v10)
  case atStart =>
    refine ⟨0, [], rfl, ⟨?_⟩, ⟨?_⟩, ⟨by simp⟩, ⟨by omega⟩, ⟨by simp⟩⟩
    · exact Lib.IsBuilderF.of (Lib.fresh_isBuilder 68 5 w)
    · exact (Below.refl _ w).alloc (Nat.le_refl _) _
  case round =>
    obtain ⟨i, acc, rfl, HI, HB, HS, HL, HA⟩ := hrel
    have hbs : w.heap.size ≤ wr.heap.size := HB.out.size
    have hlen : a0.data.toList.length = a0.size := Array.length_toList
    by_cases hi : i < a0.size
    · obtain ⟨c, l, hcl⟩ : ∃ c l, a0.data.toList.drop i = c :: l := by
        cases e : a0.data.toList.drop i with
        | nil => have := congrArg List.length e; simp at this; omega
        | cons c l => exact ⟨c, l, rfl⟩
      have hdl : a0.data.toList.drop (i + 1) = l := by
        have : a0.data.toList.drop (i + 1) = (a0.data.toList.drop i).drop 1 := by rw [List.drop_drop]
        rw [this, hcl]; rfl
      have hx1 : ∀ h : i < a0.size, ((a0[i]'h).toNat : Int) = (c.toNat : Int) := by
        intro h
        have h2 : i < a0.data.toList.length := by omega
        have h3 : a0.data.toList[i]? = some c := by
          have := congrArg (fun z => z[0]?) hcl
          simpa [List.getElem?_drop] using this
        have h4 := List.getElem?_eq_getElem h2
        rw [h3] at h4
        have h5 : a0[i]'h = c := by
          have := Option.some.inj h4
          rw [this]
          simp
          rfl
        rw [h5]
      have ew : wrap64 ((i : Int) + 1) = ((i + 1 : Nat) : Int) := by have := HZ.out; unfold wrap64; omega
      have c1 : decide ((i : Int) < (a0.size : Int)) = true := decide_eq_true (by omega)
      have p1 : (0 ≤ (i : Int)) = True := eq_true (by omega)
      have q1 : ((i : Int) < (a0.size : Int)) = True := eq_true (by omega)
      have hl1 : (Lib.byteCells acc).length + 6 ≤ 140737488355328 := by rw [Lib.byteCells_length]; have := HZ.out; have := HA.out; omega
      have hl0 : (Lib.byteCells acc).length + 1 ≤ 140737488355328 := Nat.le_trans (Nat.add_le_add_left (n := 1) (m := 6) (by decide) (Lib.byteCells acc).length) hl1
      have hz4 : (Lib.byteCells acc).length + 4 ≤ 140737488355328 := Nat.le_trans (Nat.add_le_add_left (n := 4) (m := 6) (by decide) (Lib.byteCells acc).length) hl1
      have hz5 : (Lib.byteCells acc).length + 5 ≤ 140737488355328 := Nat.le_trans (Nat.add_le_add_left (n := 5) (m := 6) (by decide) (Lib.byteCells acc).length) hl1
      have hz6 := hl1
      have HEL := Aside0.mk (ref_Escape.esc_len a1 c)
      have HS2 : Aside0 ((acc ++ ref_Escape.esc a1 c) ++ ref_Escape.go l a1 = ref_Escape.go a0.data.toList a1) := ⟨by rw [← HS.out, hcl]; simp [ref_Escape.go]⟩
      clear HS
      have b1 : (c.toNat : Int) = 38 ↔ c = 38 := ref_Escape.byte c 38 (by decide)
      have b2 : (c.toNat : Int) = 60 ↔ c = 60 := ref_Escape.byte c 60 (by decide)
      have b3 : (c.toNat : Int) = 62 ↔ c = 62 := ref_Escape.byte c 62 (by decide)
      have b4 : (c.toNat : Int) = 34 ↔ c = 34 := ref_Escape.byte c 34 (by decide)
      by_cases k38 : (c.toNat : Int) = 38
      · have he : ref_Escape.esc a1 c = [38, 97, 109, 112, 59] := by unfold ref_Escape.esc; rw [if_pos (b1.1 k38)]
        have f38 : ((c.toNat : Int) == 38) = true := beq_iff_eq.mpr k38
        have g38 : decide ((c.toNat : Int) = 38) = true := decide_eq_true k38
        replace he := Aside0.mk he
        clear b1 b2 b3 b4 hcl hlen
        go_wp2_with (go_at_call 27; refine (Bld.writeString w.heap.size w.heap.size (Lib.byteCells acc) (⟨#[38, 97, 109, 112, 59]⟩ : ByteArray) wr HI.out hz5 hbs).mono ?_; rintro e w2 ⟨rfl, HI2, HB2, _⟩; rw [ref_Escape.cells acc [38, 97, 109, 112, 59] (⟨#[38, 97, 109, 112, 59]⟩ : ByteArray) rfl] at HI2; have HI3 : Bld.IsB w.heap.size w.heap.size (Lib.byteCells (acc ++ ref_Escape.esc a1 c)) w2 := (by rw [he.out]; exact HI2))
        go_roundw
        case rel => exact ⟨i + 1, acc ++ ref_Escape.esc a1 c, by rw [← ew], ⟨HI3⟩, ⟨HB.out.trans HB2⟩, ⟨by rw [hdl]; exact HS2.out⟩, ⟨by omega⟩, ⟨by have := HA.out; have := HEL.out; simp; omega⟩⟩
        case measure => simp only [ref_Escape.iv, ew]; omega
      · have f38 : ((c.toNat : Int) == 38) = false := beq_eq_false_iff_ne.mpr k38
        have g38 : decide ((c.toNat : Int) = 38) = false := decide_eq_false k38
        by_cases k60 : (c.toNat : Int) = 60
        · have he : ref_Escape.esc a1 c = [38, 108, 116, 59] := by unfold ref_Escape.esc; rw [if_neg (fun z => k38 (b1.2 z)), if_pos (b2.1 k60)]
          have f60 : ((c.toNat : Int) == 60) = true := beq_iff_eq.mpr k60
          have g60 : decide ((c.toNat : Int) = 60) = true := decide_eq_true k60
          replace he := Aside0.mk he
          clear b1 b2 b3 b4 hcl hlen
          go_wp2_with (go_at_call 27; refine (Bld.writeString w.heap.size w.heap.size (Lib.byteCells acc) (⟨#[38, 108, 116, 59]⟩ : ByteArray) wr HI.out hz4 hbs).mono ?_; rintro e w2 ⟨rfl, HI2, HB2, _⟩; rw [ref_Escape.cells acc [38, 108, 116, 59] (⟨#[38, 108, 116, 59]⟩ : ByteArray) rfl] at HI2; have HI3 : Bld.IsB w.heap.size w.heap.size (Lib.byteCells (acc ++ ref_Escape.esc a1 c)) w2 := (by rw [he.out]; exact HI2))
          go_roundw
          case rel => exact ⟨i + 1, acc ++ ref_Escape.esc a1 c, by rw [← ew], ⟨HI3⟩, ⟨HB.out.trans HB2⟩, ⟨by rw [hdl]; exact HS2.out⟩, ⟨by omega⟩, ⟨by have := HA.out; have := HEL.out; simp; omega⟩⟩
          case measure => simp only [ref_Escape.iv, ew]; omega
        · have f60 : ((c.toNat : Int) == 60) = false := beq_eq_false_iff_ne.mpr k60
          have g60 : decide ((c.toNat : Int) = 60) = false := decide_eq_false k60
          by_cases k62 : (c.toNat : Int) = 62
          · have he : ref_Escape.esc a1 c = [38, 103, 116, 59] := by unfold ref_Escape.esc; rw [if_neg (fun z => k38 (b1.2 z)), if_neg (fun z => k60 (b2.2 z)), if_pos (b3.1 k62)]
            have f62 : ((c.toNat : Int) == 62) = true := beq_iff_eq.mpr k62
            have g62 : decide ((c.toNat : Int) = 62) = true := decide_eq_true k62
            replace he := Aside0.mk he
            clear b1 b2 b3 b4 hcl hlen
            go_wp2_with (go_at_call 27; refine (Bld.writeString w.heap.size w.heap.size (Lib.byteCells acc) (⟨#[38, 103, 116, 59]⟩ : ByteArray) wr HI.out hz4 hbs).mono ?_; rintro e w2 ⟨rfl, HI2, HB2, _⟩; rw [ref_Escape.cells acc [38, 103, 116, 59] (⟨#[38, 103, 116, 59]⟩ : ByteArray) rfl] at HI2; have HI3 : Bld.IsB w.heap.size w.heap.size (Lib.byteCells (acc ++ ref_Escape.esc a1 c)) w2 := (by rw [he.out]; exact HI2))
            go_roundw
            case rel => exact ⟨i + 1, acc ++ ref_Escape.esc a1 c, by rw [← ew], ⟨HI3⟩, ⟨HB.out.trans HB2⟩, ⟨by rw [hdl]; exact HS2.out⟩, ⟨by omega⟩, ⟨by have := HA.out; have := HEL.out; simp; omega⟩⟩
            case measure => simp only [ref_Escape.iv, ew]; omega
          · have f62 : ((c.toNat : Int) == 62) = false := beq_eq_false_iff_ne.mpr k62
            have g62 : decide ((c.toNat : Int) = 62) = false := decide_eq_false k62
            by_cases k34 : (c.toNat : Int) = 34
            · have f34 : ((c.toNat : Int) == 34) = true := beq_iff_eq.mpr k34
              have g34 : decide ((c.toNat : Int) = 34) = true := decide_eq_true k34
              cases a1 with
              | true =>
                have he : ref_Escape.esc true c = [38, 113, 117, 111, 116, 59] := by unfold ref_Escape.esc; rw [if_neg (fun z => k38 (b1.2 z)), if_neg (fun z => k60 (b2.2 z)), if_neg (fun z => k62 (b3.2 z)), if_pos ⟨b4.1 k34, rfl⟩]
                replace he := Aside0.mk he
                clear b1 b2 b3 b4 hcl hlen
                go_wp2_with (go_at_call 27; refine (Bld.writeString w.heap.size w.heap.size (Lib.byteCells acc) (⟨#[38, 113, 117, 111, 116, 59]⟩ : ByteArray) wr HI.out hz6 hbs).mono ?_; rintro e w2 ⟨rfl, HI2, HB2, _⟩; rw [ref_Escape.cells acc [38, 113, 117, 111, 116, 59] (⟨#[38, 113, 117, 111, 116, 59]⟩ : ByteArray) rfl] at HI2; have HI3 : Bld.IsB w.heap.size w.heap.size (Lib.byteCells (acc ++ ref_Escape.esc true c)) w2 := (by rw [he.out]; exact HI2))
                go_roundw
                case rel => exact ⟨i + 1, acc ++ ref_Escape.esc true c, by rw [← ew], ⟨HI3⟩, ⟨HB.out.trans HB2⟩, ⟨by rw [hdl]; exact HS2.out⟩, ⟨by omega⟩, ⟨by have := HA.out; have := HEL.out; simp; omega⟩⟩
                case measure => simp only [ref_Escape.iv, ew]; omega
              | false =>
                have he : ref_Escape.esc false c = [c] := by unfold ref_Escape.esc; rw [if_neg (fun z => k38 (b1.2 z)), if_neg (fun z => k60 (b2.2 z)), if_neg (fun z => k62 (b3.2 z)), if_neg (by simp)]
                replace he := Aside0.mk he
                clear b1 b2 b3 b4 hcl hlen
                go_wp2_with (go_at_call 45; refine (Bld.writeByte w.heap.size w.heap.size (Lib.byteCells acc) 34 wr HI.out hl0 hbs).mono ?_; rintro e w2 ⟨rfl, HI2, HB2, _⟩; have HI3 : Bld.IsB w.heap.size w.heap.size (Lib.byteCells (acc ++ ref_Escape.esc false c)) w2 := (by rw [he.out, Lib.byteCells_append]; have e34 : Lib.byteCells [c] = [Value.int .u8 34] := (by simp only [Lib.byteCells, List.map_cons, List.map_nil]; rw [k34]); rw [e34]; exact HI2))
                go_roundw
                case rel => exact ⟨i + 1, acc ++ ref_Escape.esc false c, by rw [← ew], ⟨HI3⟩, ⟨HB.out.trans HB2⟩, ⟨by rw [hdl]; exact HS2.out⟩, ⟨by omega⟩, ⟨by have := HA.out; have := HEL.out; simp; omega⟩⟩
                case measure => simp only [ref_Escape.iv, ew]; omega
            · have f34 : ((c.toNat : Int) == 34) = false := beq_eq_false_iff_ne.mpr k34
              have g34 : decide ((c.toNat : Int) = 34) = false := decide_eq_false k34
              have he : ref_Escape.esc a1 c = [c] := by unfold ref_Escape.esc; rw [if_neg (fun z => k38 (b1.2 z)), if_neg (fun z => k60 (b2.2 z)), if_neg (fun z => k62 (b3.2 z)), if_neg (fun z => k34 (b4.2 z.1))]
              replace he := Aside0.mk he
              clear b1 b2 b3 b4 hcl hlen
              go_wp2_with (go_at_call 45; refine (Bld.writeByte w.heap.size w.heap.size (Lib.byteCells acc) (c.toNat : Int) wr HI.out hl0 hbs).mono ?_; rintro e w2 ⟨rfl, HI2, HB2, _⟩; have HI3 : Bld.IsB w.heap.size w.heap.size (Lib.byteCells (acc ++ ref_Escape.esc a1 c)) w2 := (by rw [he.out, Lib.byteCells_append]; exact HI2))
              go_roundw
              case rel => exact ⟨i + 1, acc ++ ref_Escape.esc a1 c, by rw [← ew], ⟨HI3⟩, ⟨HB.out.trans HB2⟩, ⟨by rw [hdl]; exact HS2.out⟩, ⟨by omega⟩, ⟨by have := HA.out; have := HEL.out; simp; omega⟩⟩
              case measure => simp only [ref_Escape.iv, ew]; omega
    · have c1 : decide ((i : Int) < (a0.size : Int)) = false := decide_eq_false (by omega)
      have hd : a0.data.toList.drop i = [] := List.drop_eq_nil_of_le (by omega)
      have HE : acc = ref_Escape.go a0.data.toList a1 := by
        have := HS.out
        rw [hd] at this
        simpa [ref_Escape.go] using this
      go_wp2_with (first | (go_at_call 31; refine (Bld.string_of w.heap.size w.heap.size acc _ HI.out hbs).mono ?_; rintro e w2 ⟨rfl, HI2, HB2, _⟩))
      go_ret
      exact ⟨by rw [← HE]; rfl, HB.out.trans HB2⟩
end Go.Proofs.Ytjmhihadgpdiaaa.X
end
section
namespace Go.Proofs.Ytjmhihadgpdiaaa.X
open Go.RowKit Go.Proofs.YtjmhihadgpdiaaaW.PrintWords Go.Proofs.YtjmhihadgpdiaaaW.PrintLast Go.Proofs.YtjmhihadgpdiaaaW.PrintMore
attribute [local go_sem] max2_int min2_int max_two min_two max_three min_three max_four min_four   -- for this text's walks alone
set_option linter.unusedVariables false
set_option linter.unusedSimpArgs false
def emit_Tag.l0 : Nat → Bool → ByteArray → List (S63) → Int → Int → Option (ByteArray)
  | 0, _, _, _, _, _ => none
  | k + 1, x2, x7, x12, x13, x14 => if x14 < x13 then (if 0 ≤ x14 then (if x14 < (x12.length : Int) then (if 1 + ((rd_T63 x12 x14).f0).size ≤ 9223372036854775807 then (if ((⟨#[32]⟩ : ByteArray) ++ ((rd_T63 x12 x14).f0)).size + 2 ≤ 9223372036854775807 then ((ref_Escape.f ((rd_T63 x12 x14).f1) true).bind fun t187 => (if (((⟨#[32]⟩ : ByteArray) ++ ((rd_T63 x12 x14).f0)) ++ (⟨#[61, 34]⟩ : ByteArray)).size + t187.size ≤ 9223372036854775807 then (if ((((⟨#[32]⟩ : ByteArray) ++ ((rd_T63 x12 x14).f0)) ++ (⟨#[61, 34]⟩ : ByteArray)) ++ t187).size + 1 ≤ 9223372036854775807 then (if x7.size + (((((⟨#[32]⟩ : ByteArray) ++ ((rd_T63 x12 x14).f0)) ++ (⟨#[61, 34]⟩ : ByteArray)) ++ t187) ++ (⟨#[34]⟩ : ByteArray)).size ≤ 9223372036854775807 then (emit_Tag.l0 k x2 (x7 ++ (((((⟨#[32]⟩ : ByteArray) ++ ((rd_T63 x12 x14).f0)) ++ (⟨#[61, 34]⟩ : ByteArray)) ++ t187) ++ (⟨#[34]⟩ : ByteArray))) x12 x13 (wrap64 (x14 + 1))) else (none)) else (none)) else (none))) else (none)) else (none)) else (none)) else (none)) else (if x2 = true then (if x7.size + 1 ≤ 9223372036854775807 then (if (x7 ++ (⟨#[47]⟩ : ByteArray)).size + 1 ≤ 9223372036854775807 then (some ((x7 ++ (⟨#[47]⟩ : ByteArray)) ++ (⟨#[62]⟩ : ByteArray))) else (none)) else (none)) else (if x7.size + 1 ≤ 9223372036854775807 then (some (x7 ++ (⟨#[62]⟩ : ByteArray))) else (none)))
def emit_Tag.f (k : Nat) (a0 : ByteArray) (l1 : List (S63)) (a2 : Bool) : Option (ByteArray) := if 1 + a0.size ≤ 9223372036854775807 then (emit_Tag.l0 k a2 ((⟨#[60]⟩ : ByteArray) ++ a0) l1 (l1.length : Int) 0) else (none)
def emit_Tag.T5 : Bool × List (List Nat × List Nat) := (true, [([], []), ([], []), ([1], [1]), ([2], [2]), ([3], [3]), ([], []), ([5], [5]), ([6], [6]), ([4, 7], [4, 7]), ([8], [8]), ([0, 9], [0, 9]), ([10, 7, 0, 1, 2, 3, 4, 5, 6, 7, 8, 9, 10], [0, 10])])
def emit_Tag.B5 : List Nat := [0, 0, 2, 6, 14, 0, 32, 96, 254, 510, 1023, 2047]
theorem emit_Tag.tab5 : rtab .any (opsOf Try.f28 5) = emit_Tag.T5 := by kernel_rfl
theorem emit_Tag.bits5 : waitsOk emit_Tag.T5.2 emit_Tag.B5 = true := by kernel_rfl
set_option maxHeartbeats 8000000 in
set_option maxRecDepth 100000 in
theorem emit_Tag.calls (k : Nat) (a0 : ByteArray) (A1 : Option Addr) (c1 : Nat) (l1 : List (S63)) (a2 : Bool) (r : ByteArray) (w : World) (hr1 : Kd.C k63 w A1 l1.length l1) (hc1 : l1.length ≤ c1) (h : emit_Tag.f k a0 l1 a2 = some r) :
    Calls Try.prog 28 #[.string a0, .slice A1 l1.length c1, .bool a2] w fun e w' => e = .returned (.string r) ∧ Below w.heap.size w w' := by
  have hu63 := Try.underlying63
  have HR1 := Aside0.mk hr1
  have HC1 := Aside0.mk hc1
  clear hr1 hc1
  have HB := Aside0.mk (Below.refl w.heap.size w)
  have H : (if 1 + a0.size ≤ 9223372036854775807 then (emit_Tag.l0 k a2 ((⟨#[60]⟩ : ByteArray) ++ a0) l1 (l1.length : Int) 0) else (none)) = some r := h
  clear h
  by_cases c4 : 1 + a0.size ≤ 9223372036854775807
  · rw [if_pos c4] at H
    have c4b0 := eq_true c4
    have c4b1 : decide (1 + a0.size ≤ 9223372036854775807) = true := decide_eq_true c4
    try have c4b2 : (9223372036854775807 < 1 + a0.size) = False := eq_false (Nat.not_lt.2 c4)
    have H' := Aside0.mk H
    clear H
    go_enter Try.func28, Try.ntmps28
    go_wp2
    go_loopg [7, 14] k (fun kq v7 v14 w' => ∃ (x7_1 : ByteArray) (x14_1 : Int), v7 = .string x7_1 ∧ v14 = .int .i64 x14_1 ∧ Aside0 (emit_Tag.l0 kq a2 x7_1 l1 (l1.length : Int) x14_1 = some r) ∧ Aside0 (kq ≤ k) ∧ Aside0 (Below w.heap.size w w'))
    case atStart => exact ⟨((⟨#[60]⟩ : ByteArray) ++ a0), (0), (by first | rfl | (simp; done) | (simp [*]; done) | (simp [bne]; done)), (by first | rfl | (simp; done) | (simp [*]; done) | (simp [bne]; done)), H', ⟨Nat.le_refl _⟩, ⟨by repeat (first | (with_reducible first | exact HB.out | apply below_alloc | apply pw_below_drewN | apply below_drew1) | exact HB.out)⟩⟩
    case round =>
      clear H'
      try clear c1
      try clear c2
      try clear p2
      try clear c4
      try clear c4b0
      try clear c4b1
      try clear c4b2
      obtain ⟨x7_1, x14_1, rfl, rfl, HA, HK1, HB⟩ := hrel
      cases gk with
      | zero => exact absurd HA.out (by simp [emit_Tag.l0])
      | succ k1 =>
        have H := HA.out
        clear HA
        simp only [emit_Tag.l0] at H
        by_cases c5 : x14_1 < (l1.length : Int)
        · rw [if_pos c5] at H
          have c5b0 : decide (x14_1 < (l1.length : Int)) = true := decide_eq_true c5
          clear c5
          by_cases c6 : 0 ≤ x14_1
          · rw [if_pos c6] at H
            have c6b0 : decide (0 ≤ x14_1) = true := decide_eq_true c6
            clear c6
            by_cases c7 : x14_1 < (l1.length : Int)
            · rw [if_pos c7] at H
              have c7b0 : decide (x14_1 < (l1.length : Int)) = true := decide_eq_true c7
              clear c7
              by_cases c8 : 1 + ((rd_T63 l1 x14_1).f0).size ≤ 9223372036854775807
              · rw [if_pos c8] at H
                have c8b0 := eq_true c8
                have c8b1 : decide (1 + ((rd_T63 l1 x14_1).f0).size ≤ 9223372036854775807) = true := decide_eq_true c8
                try have c8b2 : (9223372036854775807 < 1 + ((rd_T63 l1 x14_1).f0).size) = False := eq_false (Nat.not_lt.2 c8)
                by_cases c9 : ((⟨#[32]⟩ : ByteArray) ++ ((rd_T63 l1 x14_1).f0)).size + 2 ≤ 9223372036854775807
                · rw [if_pos c9] at H
                  have c9b0 := eq_true c9
                  have c9b1 : decide (((⟨#[32]⟩ : ByteArray) ++ ((rd_T63 l1 x14_1).f0)).size + 2 ≤ 9223372036854775807) = true := decide_eq_true c9
                  try have c9b2 : (9223372036854775807 < ((⟨#[32]⟩ : ByteArray) ++ ((rd_T63 l1 x14_1).f0)).size + 2) = False := eq_false (Nat.not_lt.2 c9)
                  try (have c9b3 := c9b2; simp only [ByteArray.size_append] at c9b3)
                  try (have c9b4 := c9b2; simp only [ByteArray.size_append, show (⟨#[32]⟩ : ByteArray).size = 1 from rfl] at c9b4)
                  replace H := Option.bind_eq_some_iff.mp H
                  obtain ⟨t187, A100, H⟩ := H
                  replace H : (if (((⟨#[32]⟩ : ByteArray) ++ ((rd_T63 l1 x14_1).f0)) ++ (⟨#[61, 34]⟩ : ByteArray)).size + t187.size ≤ 9223372036854775807 then (if ((((⟨#[32]⟩ : ByteArray) ++ ((rd_T63 l1 x14_1).f0)) ++ (⟨#[61, 34]⟩ : ByteArray)) ++ t187).size + 1 ≤ 9223372036854775807 then (if x7_1.size + (((((⟨#[32]⟩ : ByteArray) ++ ((rd_T63 l1 x14_1).f0)) ++ (⟨#[61, 34]⟩ : ByteArray)) ++ t187) ++ (⟨#[34]⟩ : ByteArray)).size ≤ 9223372036854775807 then (emit_Tag.l0 k1 a2 (x7_1 ++ (((((⟨#[32]⟩ : ByteArray) ++ ((rd_T63 l1 x14_1).f0)) ++ (⟨#[61, 34]⟩ : ByteArray)) ++ t187) ++ (⟨#[34]⟩ : ByteArray))) l1 (l1.length : Int) (wrap64 (x14_1 + 1))) else (none)) else (none)) else (none)) = some r := H
                  have A10 := Aside0.mk A100
                  clear A100
                  by_cases c11 : (((⟨#[32]⟩ : ByteArray) ++ ((rd_T63 l1 x14_1).f0)) ++ (⟨#[61, 34]⟩ : ByteArray)).size + t187.size ≤ 9223372036854775807
                  · rw [if_pos c11] at H
                    have c11b0 := eq_true c11
                    have c11b1 : decide ((((⟨#[32]⟩ : ByteArray) ++ ((rd_T63 l1 x14_1).f0)) ++ (⟨#[61, 34]⟩ : ByteArray)).size + t187.size ≤ 9223372036854775807) = true := decide_eq_true c11
                    try have c11b2 : (9223372036854775807 < (((⟨#[32]⟩ : ByteArray) ++ ((rd_T63 l1 x14_1).f0)) ++ (⟨#[61, 34]⟩ : ByteArray)).size + t187.size) = False := eq_false (Nat.not_lt.2 c11)
                    try (have c11b3 := c11b2; simp only [ByteArray.size_append] at c11b3)
                    try (have c11b4 := c11b2; simp only [ByteArray.size_append, show (⟨#[32]⟩ : ByteArray).size = 1 from rfl, show (⟨#[61, 34]⟩ : ByteArray).size = 2 from rfl] at c11b4)
                    by_cases c12 : ((((⟨#[32]⟩ : ByteArray) ++ ((rd_T63 l1 x14_1).f0)) ++ (⟨#[61, 34]⟩ : ByteArray)) ++ t187).size + 1 ≤ 9223372036854775807
                    · rw [if_pos c12] at H
                      have c12b0 := eq_true c12
                      have c12b1 : decide (((((⟨#[32]⟩ : ByteArray) ++ ((rd_T63 l1 x14_1).f0)) ++ (⟨#[61, 34]⟩ : ByteArray)) ++ t187).size + 1 ≤ 9223372036854775807) = true := decide_eq_true c12
                      try have c12b2 : (9223372036854775807 < ((((⟨#[32]⟩ : ByteArray) ++ ((rd_T63 l1 x14_1).f0)) ++ (⟨#[61, 34]⟩ : ByteArray)) ++ t187).size + 1) = False := eq_false (Nat.not_lt.2 c12)
                      try (have c12b3 := c12b2; simp only [ByteArray.size_append] at c12b3)
                      try (have c12b4 := c12b2; simp only [ByteArray.size_append, show (⟨#[32]⟩ : ByteArray).size = 1 from rfl, show (⟨#[61, 34]⟩ : ByteArray).size = 2 from rfl] at c12b4)
                      by_cases c13 : x7_1.size + (((((⟨#[32]⟩ : ByteArray) ++ ((rd_T63 l1 x14_1).f0)) ++ (⟨#[61, 34]⟩ : ByteArray)) ++ t187) ++ (⟨#[34]⟩ : ByteArray)).size ≤ 9223372036854775807
                      · rw [if_pos c13] at H
                        have c13b0 := eq_true c13
                        have c13b1 : decide (x7_1.size + (((((⟨#[32]⟩ : ByteArray) ++ ((rd_T63 l1 x14_1).f0)) ++ (⟨#[61, 34]⟩ : ByteArray)) ++ t187) ++ (⟨#[34]⟩ : ByteArray)).size ≤ 9223372036854775807) = true := decide_eq_true c13
                        try have c13b2 : (9223372036854775807 < x7_1.size + (((((⟨#[32]⟩ : ByteArray) ++ ((rd_T63 l1 x14_1).f0)) ++ (⟨#[61, 34]⟩ : ByteArray)) ++ t187) ++ (⟨#[34]⟩ : ByteArray)).size) = False := eq_false (Nat.not_lt.2 c13)
                        try (have c13b3 := c13b2; simp only [ByteArray.size_append] at c13b3)
                        try (have c13b4 := c13b2; simp only [ByteArray.size_append, show (⟨#[32]⟩ : ByteArray).size = 1 from rfl, show (⟨#[34]⟩ : ByteArray).size = 1 from rfl, show (⟨#[61, 34]⟩ : ByteArray).size = 2 from rfl] at c13b4)
                        have H' := Aside0.mk H
                        clear H
                        have p185 : 0 ≤ (x14_1 : Int) := of_decide_eq_true (by first | (with_reducible assumption) | assumption)
                        have q185 : x14_1 < (l1.length : Int) := of_decide_eq_true (by first | (with_reducible assumption) | assumption)
                        obtain ⟨ad185, e185, hx185_0, hx185_1⟩ := at_T63 HR1.out x14_1 p185 q185
                        cases e185
                        replace hx185_0 := (HB.out.cell (World.block_lt_of_cell? w _ hx185_0)).trans hx185_0
                        replace hx185_1 := (HB.out.cell (World.block_lt_of_cell? w _ hx185_1)).trans hx185_1
                        replace p185 := eq_true p185
                        replace q185 := eq_true q185
                        try go_wp2_with (first | ((with_reducible refine gate_dst (N := 9) rfl ?_); refine box_event ?hg (N := 9) ?hd (cs := #[.string (⟨#[]⟩ : ByteArray), .string (⟨#[]⟩ : ByteArray)]) (t := 63) ?hr ?_; (case hd => rfl); (case hg => rfl); (case hr => first | (go_simp; done) | (go_simp; rfl)); intro gb186 hg w14 hbox hb; have n0_ := Aside0.mk (below_step (by repeat (first | (with_reducible first | exact HB.out | apply below_alloc | apply pw_below_drewN | apply below_drew1) | exact HB.out)) hb); have n1_ := Aside0.mk (hbox); have n2_ := Aside0.mk ((by rw [hg]; exact (below_size (by repeat (first | (with_reducible first | exact HB.out | apply below_alloc | apply pw_below_drewN | apply below_drew1) | exact HB.out))) : w.heap.size ≤ gb186)); have n3_ := Aside0.mk ((by rw [hg]; exact (below_size (by repeat (first | (with_reducible first | exact HB.out | apply below_alloc | apply pw_below_drewN | apply below_drew1) | exact HB.out))) : w.heap.size ≤ gb186)); clear HB; have HB := n0_; have BK186 := n1_; have GW186 := n2_; have GE186 := n3_; clear n0_ n1_ n2_ n3_; clear hb hbox hg; have hcz15_0 : w14.cell? ⟨gb186, 0, none⟩ = some (.string (⟨#[]⟩ : ByteArray)) := (blk_cell BK186.out 0).trans rfl; have hcz15_1 : w14.cell? ⟨gb186, 1, none⟩ = some (.string (⟨#[]⟩ : ByteArray)) := (blk_cell BK186.out 1).trans rfl; have hfz15_0 := blk_frozen BK186.out 0; have hfz15_1 := blk_frozen BK186.out 1))
                        have n0_ : Aside0 (((w14.setCell ⟨gb186, 0, none⟩ (.string ((rd_T63 l1 x14_1).f0))).setCell ⟨gb186, 1, none⟩ (.string ((rd_T63 l1 x14_1).f1))).heap[gb186]? = some (.cells #[.string ((rd_T63 l1 x14_1).f0), .string ((rd_T63 l1 x14_1).f1)] 63 (0, 0))) := ⟨by (with_reducible repeat (first | refine blk_drewN ?_ _ | refine blk_drew ?_ | refine blk_alloc ?_ _)); refine blk_put (cs := #[.string ((rd_T63 l1 x14_1).f0), .string (⟨#[]⟩ : ByteArray)]) ?_ 1 _ rfl; (with_reducible repeat (first | refine blk_drewN ?_ _ | refine blk_drew ?_ | refine blk_alloc ?_ _)); refine blk_put (cs := #[.string (⟨#[]⟩ : ByteArray), .string (⟨#[]⟩ : ByteArray)]) ?_ 0 _ rfl; (with_reducible repeat (first | refine blk_drewN ?_ _ | refine blk_drew ?_ | refine blk_alloc ?_ _)); exact BK186.out⟩
                        have n1_ : Aside0 (Below w.heap.size w ((w14.setCell ⟨gb186, 0, none⟩ (.string ((rd_T63 l1 x14_1).f0))).setCell ⟨gb186, 1, none⟩ (.string ((rd_T63 l1 x14_1).f1)))) := ⟨by repeat (first | (with_reducible first | exact HB.out | apply below_alloc | apply pw_below_drewN | apply below_drew1 | refine below_set ?_ GE186.out) | exact HB.out)⟩
                        (try clear BK186)
                        (try clear HB)
                        generalize ((w14.setCell ⟨gb186, 0, none⟩ (.string ((rd_T63 l1 x14_1).f0))).setCell ⟨gb186, 1, none⟩ (.string ((rd_T63 l1 x14_1).f1))) = w16 at n0_ n1_ ⊢
                        have BK186 := n0_
                        have HB := n1_
                        clear n0_ n1_
                        have n0_ := Aside0.mk (blk_drew BK186.out)
                        have n1_ := Aside0.mk (below_drew1 HB.out)
                        clear BK186
                        clear HB
                        have BK186 := n0_
                        have HB := n1_
                        clear n0_ n1_
                        refine start_ (n := 12) (S := fun w' => w'.cell? ⟨gb186, 0, none⟩ = some (.string ((rd_T63 l1 x14_1).f0)) ∧ w'.cell? ⟨gb186, 1, none⟩ = some (.string ((rd_T63 l1 x14_1).f1))) (ds := []) #[false, false, false, false, false, false, false, false, false, false, false, false] (by kernel_rfl) rfl rfl ⟨(blk_cell BK186.out 0).trans rfl, (blk_cell BK186.out 1).trans rfl⟩ (fun hHeld => ?_); refine with_tabW emit_Tag.tab5 emit_Tag.bits5 (fun HT_ HW_ => ?_)
                        generalize w16.drew = w17 at BK186 HB hHeld ⊢
                        refine pure_ (i := 0) (N := some 18) (v := ?_) (a' := ?_) #[true, false, false, false, false, false, false, false, false, false, false, false] rfl rfl (any_of HT_.out (by kernel_rfl)) (fun _ _ _ h => h) (Or.inl ⟨by rfl, ?_⟩) ?_ ?_
                        rotate_left
                        · intro w'
                          go_simp
                          with_reducible rfl
                        rotate_left
                        · simp only [Act.put, List.setIfInBounds_toArray, List.set_cons_zero, List.set_cons_succ, i64_w, i32_w]
                          rfl
                        refine pure_ (i := 1) (N := some 19) (v := ?_) (a' := ?_) #[true, true, false, false, false, false, false, false, false, false, false, false] rfl rfl (any_of HT_.out (by kernel_rfl)) (fun _ _ _ h => h) (Or.inl ⟨by rfl, ?_⟩) ?_ ?_
                        rotate_left
                        · intro w'
                          go_simp
                          with_reducible rfl
                        rotate_left
                        · simp only [Act.put, List.setIfInBounds_toArray, List.set_cons_zero, List.set_cons_succ, i64_w, i32_w]
                          rfl
                        refine pure_ (i := 5) (N := some 23) (v := ?_) (a' := ?_) #[true, true, false, false, false, true, false, false, false, false, false, false] rfl rfl (any_of HT_.out (by kernel_rfl)) (fun _ _ _ h => h) (Or.inl ⟨by rfl, ?_⟩) ?_ ?_
                        rotate_left
                        · intro w'
                          go_simp
                          with_reducible rfl
                        rotate_left
                        · simp only [Act.put, List.setIfInBounds_toArray, List.set_cons_zero, List.set_cons_succ, i64_w, i32_w]
                          rfl
                        refine take_ (i := 2) (N := some 20) (v := ?_) (a' := ?_) #[true, true, true, false, false, true, false, false, false, false, false, false] rfl rfl (take_ofW HT_.out HW_.out (by kernel_rfl)) (fun _ _ _ h => h) (Or.inl ⟨by rfl, ?_⟩) hHeld ?_ ?_
                        rotate_left
                        · rintro w' ⟨s0, s1⟩
                          go_simp
                          with_reducible rfl
                        rotate_left
                        · simp only [Act.put, List.setIfInBounds_toArray, List.set_cons_zero, List.set_cons_succ, i64_w, i32_w]
                          rfl
                        refine pure_ (i := 3) (N := some 21) (v := ?_) (a' := ?_) #[true, true, true, true, false, true, false, false, false, false, false, false] rfl rfl (any_of HT_.out (by kernel_rfl)) (fun _ _ _ h => h) (Or.inl ⟨by rfl, ?_⟩) ?_ ?_
                        rotate_left
                        · intro w'
                          go_simp
                          with_reducible rfl
                        rotate_left
                        · simp only [Act.put, List.setIfInBounds_toArray, List.set_cons_zero, List.set_cons_succ, i64_w, i32_w]
                          rfl
                        refine pure_ (i := 4) (N := some 22) (v := ?_) (a' := ?_) #[true, true, true, true, true, true, false, false, false, false, false, false] rfl rfl (any_of HT_.out (by kernel_rfl)) (fun _ _ _ h => h) (Or.inl ⟨by rfl, ?_⟩) ?_ ?_
                        rotate_left
                        · intro w'
                          go_simp
                          with_reducible rfl
                        rotate_left
                        · simp only [Act.put, List.setIfInBounds_toArray, List.set_cons_zero, List.set_cons_succ, i64_w, i32_w]
                          rfl
                        refine take_ (i := 6) (N := some 24) (v := ?_) (a' := ?_) #[true, true, true, true, true, true, true, false, false, false, false, false] rfl rfl (take_ofW HT_.out HW_.out (by kernel_rfl)) (fun _ _ _ h => h) (Or.inl ⟨by rfl, ?_⟩) hHeld ?_ ?_
                        rotate_left
                        · rintro w' ⟨s0, s1⟩
                          go_simp
                          with_reducible rfl
                        rotate_left
                        · simp only [Act.put, List.setIfInBounds_toArray, List.set_cons_zero, List.set_cons_succ, i64_w, i32_w]
                          rfl
                        refine one_ (i := 7) (N := some 25) #[true, true, true, true, true, true, true, true, false, false, false, false] rfl rfl (one_of HT_.out (by kernel_rfl)) (by decide) (fun K hK => ?_)
                        refine goes_ Try.func29 (by kernel_rfl) rfl #[.string ((rd_T63 l1 x14_1).f1), .bool true] (by rfl) rfl rfl (by (try simp only [List.map_toArray, List.map_cons, List.map_nil]); first | done | rfl | (simp only [List.length_drop, List.length_take]; rfl)) ?_
                        with_reducible refine (ref_Escape.calls ((rd_T63 l1 x14_1).f1) true t187 _ A10.out).mono ?_
                        rintro e w18 ⟨rfl, hb⟩
                        refine ⟨_, rfl, ?_⟩
                        have n0_ := Aside0.mk (blk_below (g := gb186) (o := .cells #[.string ((rd_T63 l1 x14_1).f0), .string ((rd_T63 l1 x14_1).f1)] 63 (0, 0)) (by (with_reducible repeat (first | refine blk_drewN ?_ _ | refine blk_drew ?_ | refine blk_alloc ?_ _)); exact BK186.out) hb)
                        have n1_ := Aside0.mk (below_step (by repeat (first | (with_reducible first | exact HB.out | apply below_alloc | apply pw_below_drewN | apply below_drew1 | refine below_set ?_ GE186.out) | exact HB.out)) hb)
                        clear BK186
                        clear HB
                        have BK186 := n0_
                        have HB := n1_
                        clear n0_ n1_
                        (try clear hb)
                        (try clear hb2)
                        (try clear hk)
                        (try clear hi)
                        refine hK.out _ _ ⟨(blk_cell BK186.out 0).trans rfl, (blk_cell BK186.out 1).trans rfl⟩ (fun hHeld => ?_)
                        clear hK K
                        refine norm_ (a' := ?_) ?_ ?_
                        rotate_left
                        · show Act.put _ (some 25) _ = _
                          simp only [Act.put, List.setIfInBounds_toArray, List.set_cons_zero, List.set_cons_succ, i64_w, i32_w]
                          rfl
                        refine pure_ (i := 8) (N := some 26) (v := ?_) (a' := ?_) #[true, true, true, true, true, true, true, true, true, false, false, false] rfl rfl (any_of HT_.out (by kernel_rfl)) (fun _ _ _ h => h) (Or.inl ⟨by rfl, ?_⟩) ?_ ?_
                        rotate_left
                        · intro w'
                          go_simp
                          with_reducible rfl
                        rotate_left
                        · simp only [Act.put, List.setIfInBounds_toArray, List.set_cons_zero, List.set_cons_succ, i64_w, i32_w]
                          rfl
                        refine pure_ (i := 9) (N := some 27) (v := ?_) (a' := ?_) #[true, true, true, true, true, true, true, true, true, true, false, false] rfl rfl (any_of HT_.out (by kernel_rfl)) (fun _ _ _ h => h) (Or.inl ⟨by rfl, ?_⟩) ?_ ?_
                        rotate_left
                        · intro w'
                          go_simp
                          with_reducible rfl
                        rotate_left
                        · simp only [Act.put, List.setIfInBounds_toArray, List.set_cons_zero, List.set_cons_succ, i64_w, i32_w]
                          rfl
                        refine pure_ (i := 10) (N := some 28) (v := ?_) (a' := ?_) #[true, true, true, true, true, true, true, true, true, true, true, false] rfl rfl (any_of HT_.out (by kernel_rfl)) (fun _ _ _ h => h) (Or.inl ⟨by rfl, ?_⟩) ?_ ?_
                        rotate_left
                        · intro w'
                          go_simp
                          with_reducible rfl
                        rotate_left
                        · simp only [Act.put, List.setIfInBounds_toArray, List.set_cons_zero, List.set_cons_succ, i64_w, i32_w]
                          rfl
                        refine pure_ (i := 11) (N := some 7) (v := ?_) (a' := ?_) #[true, true, true, true, true, true, true, true, true, true, true, true] rfl rfl (any_of HT_.out (by kernel_rfl)) (fun _ _ _ h => h) (Or.inl ⟨by rfl, ?_⟩) ?_ ?_
                        rotate_left
                        · intro w'
                          go_simp
                          with_reducible rfl
                        rotate_left
                        · simp only [Act.put, List.setIfInBounds_toArray, List.set_cons_zero, List.set_cons_succ, i64_w, i32_w]
                          rfl
                        refine done_ (done_of HT_.out (by kernel_rfl)) ?_
                        try go_wp2
                        go_roundg k1
                        case measure => have := HK1.out; omega
                        case rel => exact ⟨(x7_1 ++ (((((⟨#[32]⟩ : ByteArray) ++ ((rd_T63 l1 x14_1).f0)) ++ (⟨#[61, 34]⟩ : ByteArray)) ++ t187) ++ (⟨#[34]⟩ : ByteArray))), (wrap64 (x14_1 + 1)), (by first | rfl | (simp; done) | (simp [*]; done) | (simp [bne]; done)), (by first | rfl | (simp; done) | (simp [*]; done) | (simp [bne]; done)), H', ⟨by have := HK1.out; omega⟩, ⟨by repeat (first | (with_reducible first | exact HB.out | apply below_alloc | apply pw_below_drewN | apply below_drew1 | refine below_set ?_ GE186.out) | exact HB.out)⟩⟩
                      · rw [if_neg c13] at H
                        exact absurd H (by simp)
                    · rw [if_neg c12] at H
                      exact absurd H (by simp)
                  · rw [if_neg c11] at H
                    exact absurd H (by simp)
                · rw [if_neg c9] at H
                  exact absurd H (by simp)
              · rw [if_neg c8] at H
                exact absurd H (by simp)
            · rw [if_neg c7] at H
              exact absurd H (by simp)
          · rw [if_neg c6] at H
            exact absurd H (by simp)
        · rw [if_neg c5] at H
          have c5b0 : decide (x14_1 < (l1.length : Int)) = false := decide_eq_false c5
          clear c5
          by_cases c19 : a2 = true
          · subst c19
            have H1 : (if x7_1.size + 1 ≤ 9223372036854775807 then (if (x7_1 ++ (⟨#[47]⟩ : ByteArray)).size + 1 ≤ 9223372036854775807 then (some ((x7_1 ++ (⟨#[47]⟩ : ByteArray)) ++ (⟨#[62]⟩ : ByteArray))) else (none)) else (none)) = some r := by rw [if_pos rfl] at H; exact H
            clear H
            have H := H1
            clear H1
            by_cases c20 : x7_1.size + 1 ≤ 9223372036854775807
            · rw [if_pos c20] at H
              have c20b0 := eq_true c20
              have c20b1 : decide (x7_1.size + 1 ≤ 9223372036854775807) = true := decide_eq_true c20
              try have c20b2 : (9223372036854775807 < x7_1.size + 1) = False := eq_false (Nat.not_lt.2 c20)
              by_cases c21 : (x7_1 ++ (⟨#[47]⟩ : ByteArray)).size + 1 ≤ 9223372036854775807
              · rw [if_pos c21] at H
                have c21b0 := eq_true c21
                have c21b1 : decide ((x7_1 ++ (⟨#[47]⟩ : ByteArray)).size + 1 ≤ 9223372036854775807) = true := decide_eq_true c21
                try have c21b2 : (9223372036854775807 < (x7_1 ++ (⟨#[47]⟩ : ByteArray)).size + 1) = False := eq_false (Nat.not_lt.2 c21)
                try (have c21b3 := c21b2; simp only [ByteArray.size_append] at c21b3)
                try (have c21b4 := c21b2; simp only [ByteArray.size_append, show (⟨#[47]⟩ : ByteArray).size = 1 from rfl] at c21b4)
                obtain rfl := Option.some.inj H
                go_wp2
                go_ret
                exact ⟨by first | rfl | (simp [errW_none, errW_some] <;> rfl) | (simp [*, errW_none, errW_some] <;> rfl), by repeat (first | (with_reducible first | exact HB.out | apply below_alloc | apply pw_below_drewN | apply below_drew1) | exact HB.out)⟩
              · rw [if_neg c21] at H
                exact absurd H (by simp)
            · rw [if_neg c20] at H
              exact absurd H (by simp)
          · replace c19 := Bool.eq_false_iff.mpr c19
            subst c19
            have H1 : (if x7_1.size + 1 ≤ 9223372036854775807 then (some (x7_1 ++ (⟨#[62]⟩ : ByteArray))) else (none)) = some r := by rw [if_neg (show ¬ (false = true) by decide)] at H; exact H
            clear H
            have H := H1
            clear H1
            by_cases c22 : x7_1.size + 1 ≤ 9223372036854775807
            · rw [if_pos c22] at H
              have c22b0 := eq_true c22
              have c22b1 : decide (x7_1.size + 1 ≤ 9223372036854775807) = true := decide_eq_true c22
              try have c22b2 : (9223372036854775807 < x7_1.size + 1) = False := eq_false (Nat.not_lt.2 c22)
              obtain rfl := Option.some.inj H
              go_wp2
              go_ret
              exact ⟨by first | rfl | (simp [errW_none, errW_some] <;> rfl) | (simp [*, errW_none, errW_some] <;> rfl), by repeat (first | (with_reducible first | exact HB.out | apply below_alloc | apply pw_below_drewN | apply below_drew1) | exact HB.out)⟩
            · rw [if_neg c22] at H
              exact absurd H (by simp)
  · rw [if_neg c4] at H
    exact absurd H (by simp)
end Go.Proofs.Ytjmhihadgpdiaaa.X
end
section
namespace Go.Proofs.Ytjmhihadgpdiaaa.X
open Go.RowKit Go.Proofs.YtjmhihadgpdiaaaW.PrintWords Go.Proofs.YtjmhihadgpdiaaaW.PrintLast Go.Proofs.YtjmhihadgpdiaaaW.PrintMore
attribute [local go_sem] max2_int min2_int max_two min_two max_three min_three max_four min_four   -- for this text's walks alone
set_option linter.unusedVariables false
set_option linter.unusedSimpArgs false
def emit_Text.piece (k : Nat) (t : S47) : Option ByteArray := if t.f0 = 1 then emit_Tag.f k t.f1 t.f2 t.f3 else if t.f0 = 2 then (if t.f1.size ≤ 1099511627776 then some (((⟨#[60, 47]⟩ : ByteArray) ++ t.f1) ++ (⟨#[62]⟩ : ByteArray)) else none) else ref_Escape.f t.f4 false
def emit_Text.go (k : Nat) : List S47 → List UInt8 → Option (List UInt8)
  | [], acc => some acc
  | t :: l, acc => (emit_Text.piece k t).bind fun b => if acc.length + b.size ≤ 70368744177664 then emit_Text.go k l (acc ++ b.data.toList) else none
def emit_Text.f (k : Nat) (a0 : List S47) : Option (ByteArray × Int) := (emit_Check.f k a0).bind fun e => if e = 0 then ((emit_Text.go k a0 []).bind fun out => if (out.length : Int) > 600 then some ((⟨#[]⟩ : ByteArray), 1) else some ((⟨out.toArray⟩ : ByteArray), 0)) else some ((⟨#[]⟩ : ByteArray), e)
theorem emit_Text.cells (acc : List UInt8) (s : ByteArray) : Lib.byteCells acc ++ Lib.strCells s = Lib.byteCells (acc ++ s.data.toList) := by
  simp [Lib.byteCells, Lib.strCells]
def emit_Text.iv : Value → Nat
  | .int _ i => i.toNat
  | _ => 0
set_option maxHeartbeats 4000000 in
set_option maxRecDepth 100000 in
theorem emit_Text.calls (k : Nat) (A0 : Option Addr) (c0 : Nat) (l0 : List S47) (r1 : ByteArray) (r2 : Int) (w : World) (hr0 : Kd.C k47 w A0 l0.length l0) (hc0 : l0.length ≤ c0) (h : emit_Text.f k l0 = some (r1, r2)) :
    Calls Try.prog 18 #[.slice A0 l0.length c0] w fun e w' => e = .returned (.tuple #[.string r1, .int .i64 r2]) ∧ Below w.heap.size w w' := by
  have HC := Aside0.mk hr0
  have HC0 := Aside0.mk hc0
  have hmx := Kd.C_max hr0
  obtain ⟨e0, hE, h⟩ := Option.bind_eq_some_iff.1 h
  have HE := Aside0.mk hE
  clear hr0 hc0 hE
  by_cases hz : e0 = 0
  · subst hz
    rw [if_pos rfl] at h
    obtain ⟨out, hgo, h⟩ := Option.bind_eq_some_iff.1 h
    have HG := Aside0.mk hgo
    have HH := Aside0.mk h
    clear hgo h
    go_enter Try.func18, Try.ntmps18
    go_wp2_with (go_at_call 26; (with_reducible refine (emit_Check.calls k _ _ l0 0 _ HC.out HC0.out HE.out).mono ?_); rintro e w1 ⟨rfl, hb⟩; have HB1 := Aside0.mk hb; clear hb)
    have hbb := HB1.out.size
    go_loopw [15] (fun v15 wr => ∃ (i : Nat) (acc : List UInt8), v15 = .int .i64 (i : Int) ∧ Aside0 (i ≤ l0.length) ∧ Aside0 (Bld.IsB w1.heap.size w1.heap.size (Lib.byteCells acc) wr) ∧ Aside0 (Below w.heap.size w wr) ∧ Aside0 (emit_Text.go k (l0.drop i) acc = some out)) (fun v15 wr => l0.length - emit_Text.iv v15)
    case atStart =>
      refine ⟨0, [], rfl, ⟨by omega⟩, ⟨?_⟩, ⟨?_⟩, HG⟩
      · exact Lib.IsBuilderF.of (Lib.fresh_isBuilder 68 5 w1)
      · exact HB1.out.alloc hbb _
    case round =>
      obtain ⟨i, acc, rfl, HI, HW, HB, HS⟩ := hrel
      by_cases hi : i < l0.length
      · have hi0 : (0 : Int) ≤ (i : Int) := by omega
        have hi1 : (i : Int) < (l0.length : Int) := by omega
        have hlt : decide ((i : Int) < (l0.length : Int)) = true := decide_eq_true hi1
        have hCr : Kd.C k47 wr A0 l0.length l0 := Kd.C_below HC.out HB.out
        obtain ⟨ad, A2, c2, eA, hx0, hx1, hx2, hx3, hx4, hl2, hC2⟩ := at_T47 hCr (i : Int) hi0 hi1
        subst eA
        obtain ⟨t, ht⟩ : ∃ t, rd_T47 l0 (i : Int) = t := ⟨_, rfl⟩
        have hdr : l0.drop i = t :: l0.drop (i + 1) := by
          rw [List.drop_eq_getElem_cons hi]
          congr 1
          rw [← ht]
          simp [rd_T47, List.getD, hi]
        rw [ht] at hx0 hx1 hx2 hx3 hx4 hl2 hC2
        simp only [Int.toNat_natCast] at hx0 hx1 hx2 hx3 hx4
        have hs := HS.out
        rw [hdr, emit_Text.go] at hs
        obtain ⟨b, hp, hs⟩ := Option.bind_eq_some_iff.1 hs
        by_cases hsz : acc.length + b.size ≤ 70368744177664
        · rw [if_pos hsz] at hs
          have HS2 := Aside0.mk hs
          have hlen : (Lib.byteCells acc).length + b.size ≤ 140737488355328 := by rw [Lib.byteCells_length]; omega
          have HII := Aside0.mk hi
          have HL2 := Aside0.mk hl2
          have HC2 := Aside0.mk hC2
          clear hs hdr ht HS hsz hCr hl2 hC2
          obtain ⟨f0, f1, f2, f3, f4⟩ := t
          simp only at hx0 hx1 hx2 hx3 hx4 hp HL2 HC2
          have fin : ∀ w3, Bld.IsB w1.heap.size w1.heap.size (Lib.byteCells acc ++ Lib.strCells b) w3 → Below w.heap.size w w3 → ∃ acc2 : List UInt8, Aside0 (Bld.IsB w1.heap.size w1.heap.size (Lib.byteCells acc2) w3) ∧ Aside0 (Below w.heap.size w w3) ∧ Aside0 (emit_Text.go k (l0.drop (i + 1)) acc2 = some out) := fun w3 h1 h2 => ⟨acc ++ b.data.toList, ⟨by rw [← emit_Text.cells]; exact h1⟩, ⟨h2⟩, HS2⟩
          have FIN := Aside0.mk fin
          clear fin
          by_cases k1 : f0 = 1
          · subst k1
            have hp : emit_Tag.f k f1 f2 f3 = some b := by simpa [emit_Text.piece] using hp
            have HT := Aside0.mk hp
            clear hp
            go_wp2_with (first
              | (go_at_call 28; (with_reducible refine (emit_Tag.calls k f1 A2 c2 f2 f3 b _ ?side1 HL2.out HT.out).mono ?_); (case side1 => exact Kd.C_below HC2.out (by repeat (first | exact Below.refl _ _ | apply below_alloc | apply pw_below_drewN | apply below_drew1))); rintro e w2 ⟨rfl, hb⟩; have HB2 : Aside0 (Below wr.heap.size wr w2) := ⟨Below.trans (by repeat (first | exact Below.refl _ _ | apply below_alloc | apply pw_below_drewN | apply below_drew1)) (hb.mono (below_size (by repeat (first | exact Below.refl _ _ | apply below_alloc | apply pw_below_drewN | apply below_drew1))))⟩; clear hb)
              | (go_at_call 27; refine (Bld.writeString w1.heap.size w1.heap.size (Lib.byteCells acc) b w2 (Bld.kept HW.out HB2.out) hlen ?sz).mono ?_; (case sz => have q1 := HB2.out.size; have q2 := HB.out.size; have := Bld.lt HW.out; omega); rintro e w3 ⟨rfl, HI2, HB3, _⟩))
            obtain ⟨acc2, F1, F2, F3⟩ := FIN.out w3 HI2 ((HB.out.trans (HB2.out.mono HB.out.size)).trans (HB3.mono hbb))
            go_roundw
            case rel => exact ⟨i + 1, acc2, by first | rfl | simp, ⟨by have := HII.out; omega⟩, F1, F2, F3⟩
            case measure => have := HII.out; simp [emit_Text.iv]; omega
          · have n1 : ((f0 : Int) == 1) = false := beq_eq_false_iff_ne.mpr k1
            have d1 : decide ((f0 : Int) = 1) = false := decide_eq_false k1
            by_cases k2 : f0 = 2
            · subst k2
              have hp : (if f1.size ≤ 1099511627776 then some (((⟨#[60, 47]⟩ : ByteArray) ++ f1) ++ (⟨#[62]⟩ : ByteArray)) else none) = some b := by simpa [emit_Text.piece] using hp
              by_cases hf : f1.size ≤ 1099511627776
              · rw [if_pos hf] at hp
                obtain rfl := Option.some.inj hp
                have z1 : (⟨#[60, 47]⟩ : ByteArray).size = 2 := rfl
                have z2 : (⟨#[62]⟩ : ByteArray).size = 1 := rfl
                have y1 : (⟨#[60, 47]⟩ : ByteArray).size + f1.size ≤ 9223372036854775807 := by omega
                have y2 : ((⟨#[60, 47]⟩ : ByteArray) ++ f1).size + (⟨#[62]⟩ : ByteArray).size ≤ 9223372036854775807 := by rw [ByteArray.size_append]; omega
                have HF := Aside0.mk hf
                clear hf hp n1 d1 k1
                go_wp2_with (first
                  | (go_at_call 27; refine (Bld.writeString w1.heap.size w1.heap.size (Lib.byteCells acc) (((⟨#[60, 47]⟩ : ByteArray) ++ f1) ++ (⟨#[62]⟩ : ByteArray)) _ (Bld.kept HW.out (by repeat (first | exact Below.refl _ _ | apply below_alloc | apply pw_below_drewN | apply below_drew1))) hlen ?sz).mono ?_; (case sz => have q2 := HB.out.size; have := Bld.lt HW.out; simp; omega); rintro e w3 ⟨rfl, HI2, HB3, _⟩))
                obtain ⟨acc2, F1, F2, F3⟩ := FIN.out w3 HI2 ((HB.out.trans (Below.mono (B := wr.heap.size) (by repeat (first | exact Below.refl _ _ | apply below_alloc | apply pw_below_drewN | apply below_drew1)) HB.out.size)).trans (HB3.mono hbb))
                go_roundw
                case rel => exact ⟨i + 1, acc2, by first | rfl | simp, ⟨by have := HII.out; omega⟩, F1, F2, F3⟩
                case measure => have := HII.out; simp [emit_Text.iv]; omega
              · rw [if_neg hf] at hp; cases hp
            · have n2 : ((f0 : Int) == 2) = false := beq_eq_false_iff_ne.mpr k2
              have d2 : decide ((f0 : Int) = 2) = false := decide_eq_false k2
              have hp : ref_Escape.f f4 false = some b := by simpa [emit_Text.piece, k1, k2] using hp
              have HT := Aside0.mk hp
              clear hp k1 k2
              go_wp2_with (first
                | (go_at_call 29; (with_reducible refine (ref_Escape.calls f4 false b _ HT.out).mono ?_); rintro e w2 ⟨rfl, hb⟩; have HB2 : Aside0 (Below wr.heap.size wr w2) := ⟨Below.trans (by repeat (first | exact Below.refl _ _ | apply below_alloc | apply pw_below_drewN | apply below_drew1)) (hb.mono (below_size (by repeat (first | exact Below.refl _ _ | apply below_alloc | apply pw_below_drewN | apply below_drew1))))⟩; clear hb)
                | (go_at_call 27; refine (Bld.writeString w1.heap.size w1.heap.size (Lib.byteCells acc) b w2 (Bld.kept HW.out HB2.out) hlen ?sz).mono ?_; (case sz => have q1 := HB2.out.size; have q2 := HB.out.size; have := Bld.lt HW.out; omega); rintro e w3 ⟨rfl, HI2, HB3, _⟩))
              obtain ⟨acc2, F1, F2, F3⟩ := FIN.out w3 HI2 ((HB.out.trans (HB2.out.mono HB.out.size)).trans (HB3.mono hbb))
              go_roundw
              case rel => exact ⟨i + 1, acc2, by first | rfl | simp, ⟨by have := HII.out; omega⟩, F1, F2, F3⟩
              case measure => have := HII.out; simp [emit_Text.iv]; omega
        · rw [if_neg hsz] at hs; cases hs
      · have hlt : decide ((i : Int) < (l0.length : Int)) = false := decide_eq_false (by omega)
        have hout : acc = out := by
          have := HS.out
          rw [List.drop_eq_nil_of_le (by omega), emit_Text.go] at this
          exact Option.some.inj this
        subst hout
        have hbw : w1.heap.size ≤ wr.heap.size := Nat.le_of_lt (Bld.lt HW.out)
        have hln : (Lib.byteCells acc).length = acc.length := Lib.byteCells_length _
        by_cases hbig : (acc.length : Int) > 600
        · have H := HH.out
          rw [if_pos hbig] at H
          obtain ⟨rfl, rfl⟩ := Prod.mk.inj (Option.some.inj H)
          have g1 : decide ((600 : Int) < (acc.length : Int)) = true := decide_eq_true (by omega)
          have g2 : decide (600 < acc.length) = true := decide_eq_true (by omega)
          clear H hbig
          go_wp2_with (go_at_call 30; refine (Bld.len w1.heap.size w1.heap.size (Lib.byteCells acc) _ HW.out).mono ?_; rw [hln]; rintro e w2 ⟨rfl, rfl⟩)
          go_ret2
          exact ⟨rfl, HB.out⟩
        · have H := HH.out
          rw [if_neg hbig] at H
          obtain ⟨rfl, rfl⟩ := Prod.mk.inj (Option.some.inj H)
          have g1 : decide ((600 : Int) < (acc.length : Int)) = false := decide_eq_false (by omega)
          have g2 : decide (600 < acc.length) = false := decide_eq_false (by omega)
          clear H hbig
          go_wp2_with (first
            | (go_at_call 30; refine (Bld.len w1.heap.size w1.heap.size (Lib.byteCells acc) _ HW.out).mono ?_; rw [hln]; rintro e w2 ⟨rfl, rfl⟩)
            | (go_at_call 31; refine (Bld.string_of w1.heap.size w1.heap.size acc _ HW.out hbw).mono ?_; rintro e w3 ⟨rfl, HI2, HB3, _⟩))
          go_ret2
          exact ⟨rfl, HB.out.trans (HB3.mono hbb)⟩
  · rw [if_neg hz] at h
    obtain ⟨rfl, rfl⟩ := Prod.mk.inj (Option.some.inj h)
    have g1 : ((e0 : Int) != 0) = true := bne_iff_ne.mpr hz
    have g2 : ((e0 : Int) == 0) = false := beq_eq_false_iff_ne.mpr hz
    have g3 : decide ((e0 : Int) = 0) = false := decide_eq_false hz
    clear h
    go_enter Try.func18, Try.ntmps18
    go_wp2_with (go_at_call 26; (with_reducible refine (emit_Check.calls k _ _ l0 e0 _ HC.out HC0.out HE.out).mono ?_); rintro e w1 ⟨rfl, hb⟩; have HB1 := Aside0.mk hb; clear hb)
    go_ret2
    exact ⟨rfl, HB1.out⟩
end Go.Proofs.Ytjmhihadgpdiaaa.X
end
section
namespace Go.Proofs.Ytjmhihadgpdiaaa.X
open Go.RowKit Go.Proofs.YtjmhihadgpdiaaaW.PrintWords Go.Proofs.YtjmhihadgpdiaaaW.PrintLast Go.Proofs.YtjmhihadgpdiaaaW.PrintMore
attribute [local go_sem] max2_int min2_int max_two min_two max_three min_three max_four min_four   -- for this text's walks alone
set_option linter.unusedVariables false
set_option linter.unusedSimpArgs false
def bobbinetkeep_EmitParts.f (k : Nat) (l0 : List Int) (a1 : Int) : Option (Bool) := (bobbinetkeep_Tokens.f k l0 10).bind fun t188 => ((bobbinetkeep_Picked.f a1 (wrap64 ((t188.length : Int) + 1))).bind fun t191 => ((emit_Text.f k t188).bind fun bt192 => (if 0 ≤ t191 then (if t191 ≤ (t188.length : Int) then ((some (t188.take (t191 : Int).toNat : List (S47))).bind fun y194 => (if ([] : List (S47)).length + y194.length < 1954687338268 then ((emit_Text.f k (([] : List (S47)) ++ y194)).bind fun bt202 => ((some (t188.drop (t191 : Int).toNat : List (S47))).bind fun y204 => (if ([] : List (S47)).length + y204.length < 1954687338268 then ((emit_Text.f k (([] : List (S47)) ++ y204)).bind fun bt212 => ((emit_Text.f k (([(⟨2, (⟨#[112]⟩ : ByteArray), ([] : List (S63)), false, (⟨#[]⟩ : ByteArray)⟩ : S47)] : List (S47)))).bind fun bt217 => (if bt192.2 = 1 then (some (decide ((t188.length : Int) > 5))) else (if bt192.2 = 0 then (if bt202.2 = 0 then (if bt212.2 = 0 then (if bt217.2 = 0 then (if bt217.1.toList = ([60, 47, 112, 62] : List UInt8) then (if bt202.1.size + bt212.1.size ≤ 9223372036854775807 then (some (bt192.1.toList == (bt202.1 ++ bt212.1).toList)) else (none)) else (none)) else (none)) else (none)) else (none)) else (none))))) else (none)))) else (none))) else (none)) else (none))))
set_option maxHeartbeats 8000000 in
set_option maxRecDepth 100000 in
theorem bobbinetkeep_EmitParts.calls (k : Nat) (A0 : Option Addr) (c0 : Nat) (l0 : List Int) (a1 : Int) (r : Bool) (w : World) (hr0 : Kd.C (Kd.int .i64) w A0 l0.length l0) (hc0 : l0.length ≤ c0) (h : bobbinetkeep_EmitParts.f k l0 a1 = some r) :
  Calls Try.prog 7 #[.slice A0 l0.length c0, .int .i64 a1] w fun e w' => e = .returned (.bool r) ∧ Below w.heap.size w w' := by
 have hu47 := Try.underlying47
 have HR0 := Aside0.mk hr0
 have HC0 := Aside0.mk hc0
 clear hr0 hc0
 have HB := Aside0.mk (Below.refl w.heap.size w)
 have H : ((bobbinetkeep_Tokens.f k l0 10).bind fun t188 => ((bobbinetkeep_Picked.f a1 (wrap64 ((t188.length : Int) + 1))).bind fun t191 => ((emit_Text.f k t188).bind fun bt192 => (if 0 ≤ t191 then (if t191 ≤ (t188.length : Int) then ((some (t188.take (t191 : Int).toNat : List (S47))).bind fun y194 => (if ([] : List (S47)).length + y194.length < 1954687338268 then ((emit_Text.f k (([] : List (S47)) ++ y194)).bind fun bt202 => ((some (t188.drop (t191 : Int).toNat : List (S47))).bind fun y204 => (if ([] : List (S47)).length + y204.length < 1954687338268 then ((emit_Text.f k (([] : List (S47)) ++ y204)).bind fun bt212 => ((emit_Text.f k (([(⟨2, (⟨#[112]⟩ : ByteArray), ([] : List (S63)), false, (⟨#[]⟩ : ByteArray)⟩ : S47)] : List (S47)))).bind fun bt217 => (if bt192.2 = 1 then (some (decide ((t188.length : Int) > 5))) else (if bt192.2 = 0 then (if bt202.2 = 0 then (if bt212.2 = 0 then (if bt217.2 = 0 then (if bt217.1.toList = ([60, 47, 112, 62] : List UInt8) then (if bt202.1.size + bt212.1.size ≤ 9223372036854775807 then (some (bt192.1.toList == (bt202.1 ++ bt212.1).toList)) else (none)) else (none)) else (none)) else (none)) else (none)) else (none))))) else (none)))) else (none))) else (none)) else (none))))) = some r := h
 clear h
 replace H := Option.bind_eq_some_iff.mp H
 obtain ⟨t188, A30, H⟩ := H
 replace H : ((bobbinetkeep_Picked.f a1 (wrap64 ((t188.length : Int) + 1))).bind fun t191 => ((emit_Text.f k t188).bind fun bt192 => (if 0 ≤ t191 then (if t191 ≤ (t188.length : Int) then ((some (t188.take (t191 : Int).toNat : List (S47))).bind fun y194 => (if ([] : List (S47)).length + y194.length < 1954687338268 then ((emit_Text.f k (([] : List (S47)) ++ y194)).bind fun bt202 => ((some (t188.drop (t191 : Int).toNat : List (S47))).bind fun y204 => (if ([] : List (S47)).length + y204.length < 1954687338268 then ((emit_Text.f k (([] : List (S47)) ++ y204)).bind fun bt212 => ((emit_Text.f k (([(⟨2, (⟨#[112]⟩ : ByteArray), ([] : List (S63)), false, (⟨#[]⟩ : ByteArray)⟩ : S47)] : List (S47)))).bind fun bt217 => (if bt192.2 = 1 then (some (decide ((t188.length : Int) > 5))) else (if bt192.2 = 0 then (if bt202.2 = 0 then (if bt212.2 = 0 then (if bt217.2 = 0 then (if bt217.1.toList = ([60, 47, 112, 62] : List UInt8) then (if bt202.1.size + bt212.1.size ≤ 9223372036854775807 then (some (bt192.1.toList == (bt202.1 ++ bt212.1).toList)) else (none)) else (none)) else (none)) else (none)) else (none)) else (none))))) else (none)))) else (none))) else (none)) else (none)))) = some r := H
 have A3 := Aside0.mk A30
 clear A30
 replace H := Option.bind_eq_some_iff.mp H
 obtain ⟨t191, A40, H⟩ := H
 replace H : ((emit_Text.f k t188).bind fun bt192 => (if 0 ≤ t191 then (if t191 ≤ (t188.length : Int) then ((some (t188.take (t191 : Int).toNat : List (S47))).bind fun y194 => (if ([] : List (S47)).length + y194.length < 1954687338268 then ((emit_Text.f k (([] : List (S47)) ++ y194)).bind fun bt202 => ((some (t188.drop (t191 : Int).toNat : List (S47))).bind fun y204 => (if ([] : List (S47)).length + y204.length < 1954687338268 then ((emit_Text.f k (([] : List (S47)) ++ y204)).bind fun bt212 => ((emit_Text.f k (([(⟨2, (⟨#[112]⟩ : ByteArray), ([] : List (S63)), false, (⟨#[]⟩ : ByteArray)⟩ : S47)] : List (S47)))).bind fun bt217 => (if bt192.2 = 1 then (some (decide ((t188.length : Int) > 5))) else (if bt192.2 = 0 then (if bt202.2 = 0 then (if bt212.2 = 0 then (if bt217.2 = 0 then (if bt217.1.toList = ([60, 47, 112, 62] : List UInt8) then (if bt202.1.size + bt212.1.size ≤ 9223372036854775807 then (some (bt192.1.toList == (bt202.1 ++ bt212.1).toList)) else (none)) else (none)) else (none)) else (none)) else (none)) else (none))))) else (none)))) else (none))) else (none)) else (none))) = some r := H
 have A4 := Aside0.mk A40
 clear A40
 replace H := Option.bind_eq_some_iff.mp H
 obtain ⟨⟨t192, t193⟩, A50, H⟩ := H
 replace H : (if 0 ≤ t191 then (if t191 ≤ (t188.length : Int) then ((some (t188.take (t191 : Int).toNat : List (S47))).bind fun y194 => (if ([] : List (S47)).length + y194.length < 1954687338268 then ((emit_Text.f k (([] : List (S47)) ++ y194)).bind fun bt202 => ((some (t188.drop (t191 : Int).toNat : List (S47))).bind fun y204 => (if ([] : List (S47)).length + y204.length < 1954687338268 then ((emit_Text.f k (([] : List (S47)) ++ y204)).bind fun bt212 => ((emit_Text.f k (([(⟨2, (⟨#[112]⟩ : ByteArray), ([] : List (S63)), false, (⟨#[]⟩ : ByteArray)⟩ : S47)] : List (S47)))).bind fun bt217 => (if t193 = 1 then (some (decide ((t188.length : Int) > 5))) else (if t193 = 0 then (if bt202.2 = 0 then (if bt212.2 = 0 then (if bt217.2 = 0 then (if bt217.1.toList = ([60, 47, 112, 62] : List UInt8) then (if bt202.1.size + bt212.1.size ≤ 9223372036854775807 then (some (t192.toList == (bt202.1 ++ bt212.1).toList)) else (none)) else (none)) else (none)) else (none)) else (none)) else (none))))) else (none)))) else (none))) else (none)) else (none)) = some r := H
 have A5 := Aside0.mk A50
 clear A50
 by_cases c6 : 0 ≤ t191
 ·
  rw [if_pos c6] at H
  have c6b0 := eq_true c6
  have c6b1 : decide (0 ≤ t191) = true := decide_eq_true c6
  clear c6
  by_cases c7 : t191 ≤ (t188.length : Int)
  ·
   rw [if_pos c7] at H
   have c7b0 := eq_true c7
   have c7b1 : decide (t191 ≤ (t188.length : Int)) = true := decide_eq_true c7
   clear c7
   obtain ⟨y194, hy194⟩ : ∃ y_ : List (S47), y_ = (t188.take (t191 : Int).toNat) := ⟨_, rfl⟩
   replace H : (if ([] : List (S47)).length + y194.length < 1954687338268 then ((emit_Text.f k (([] : List (S47)) ++ y194)).bind fun bt202 => ((some (t188.drop (t191 : Int).toNat : List (S47))).bind fun y204 => (if ([] : List (S47)).length + y204.length < 1954687338268 then ((emit_Text.f k (([] : List (S47)) ++ y204)).bind fun bt212 => ((emit_Text.f k (([(⟨2, (⟨#[112]⟩ : ByteArray), ([] : List (S63)), false, (⟨#[]⟩ : ByteArray)⟩ : S47)] : List (S47)))).bind fun bt217 => (if t193 = 1 then (some (decide ((t188.length : Int) > 5))) else (if t193 = 0 then (if bt202.2 = 0 then (if bt212.2 = 0 then (if bt217.2 = 0 then (if bt217.1.toList = ([60, 47, 112, 62] : List UInt8) then (if bt202.1.size + bt212.1.size ≤ 9223372036854775807 then (some (t192.toList == (bt202.1 ++ bt212.1).toList)) else (none)) else (none)) else (none)) else (none)) else (none)) else (none))))) else (none)))) else (none)) = some r := by first | (rw [hy194]; with_reducible exact H) | (have H2_ := (Option.bind_some _ _).symm.trans H; rw [hy194]; with_reducible exact H2_) | (have H2_ := (Option.bind_some _ _).symm.trans H; with_reducible exact H2_) | with_reducible exact H | (rw [hy194]; exact H) | exact H
   have Ny194 := Aside0.mk hy194
   clear hy194
   by_cases c8 : ([] : List (S47)).length + y194.length < 1954687338268
   ·
    rw [if_pos c8] at H
    have LMc8 := Aside0.mk c8
    clear c8
    obtain ⟨y199, hy199⟩ : ∃ y_ : List (S47), y_ = (([] : List (S47)) ++ y194) := ⟨_, rfl⟩
    replace H : ((emit_Text.f k y199).bind fun bt202 => ((some (t188.drop (t191 : Int).toNat : List (S47))).bind fun y204 => (if ([] : List (S47)).length + y204.length < 1954687338268 then ((emit_Text.f k (([] : List (S47)) ++ y204)).bind fun bt212 => ((emit_Text.f k (([(⟨2, (⟨#[112]⟩ : ByteArray), ([] : List (S63)), false, (⟨#[]⟩ : ByteArray)⟩ : S47)] : List (S47)))).bind fun bt217 => (if t193 = 1 then (some (decide ((t188.length : Int) > 5))) else (if t193 = 0 then (if bt202.2 = 0 then (if bt212.2 = 0 then (if bt217.2 = 0 then (if bt217.1.toList = ([60, 47, 112, 62] : List UInt8) then (if bt202.1.size + bt212.1.size ≤ 9223372036854775807 then (some (t192.toList == (bt202.1 ++ bt212.1).toList)) else (none)) else (none)) else (none)) else (none)) else (none)) else (none))))) else (none)))) = some r := by first | (rw [hy199]; with_reducible exact H) | (have H2_ := (Option.bind_some _ _).symm.trans H; rw [hy199]; with_reducible exact H2_) | (have H2_ := (Option.bind_some _ _).symm.trans H; with_reducible exact H2_) | with_reducible exact H | (rw [hy199]; exact H) | exact H
    have Ny199 := Aside0.mk hy199
    clear hy199
    replace H := Option.bind_eq_some_iff.mp H
    obtain ⟨⟨t202, t203⟩, A90, H⟩ := H
    replace H : ((some (t188.drop (t191 : Int).toNat : List (S47))).bind fun y204 => (if ([] : List (S47)).length + y204.length < 1954687338268 then ((emit_Text.f k (([] : List (S47)) ++ y204)).bind fun bt212 => ((emit_Text.f k (([(⟨2, (⟨#[112]⟩ : ByteArray), ([] : List (S63)), false, (⟨#[]⟩ : ByteArray)⟩ : S47)] : List (S47)))).bind fun bt217 => (if t193 = 1 then (some (decide ((t188.length : Int) > 5))) else (if t193 = 0 then (if t203 = 0 then (if bt212.2 = 0 then (if bt217.2 = 0 then (if bt217.1.toList = ([60, 47, 112, 62] : List UInt8) then (if t202.size + bt212.1.size ≤ 9223372036854775807 then (some (t192.toList == (t202 ++ bt212.1).toList)) else (none)) else (none)) else (none)) else (none)) else (none)) else (none))))) else (none))) = some r := H
    have A9 := Aside0.mk A90
    clear A90
    have c10b0 := eq_true (of_decide_eq_true (by first | (with_reducible assumption) | assumption) : 0 ≤ t191)
    have c11b0 := eq_true (of_decide_eq_true (by first | (with_reducible assumption) | assumption) : t191 ≤ (t188.length : Int))
    obtain ⟨y204, hy204⟩ : ∃ y_ : List (S47), y_ = (t188.drop (t191 : Int).toNat) := ⟨_, rfl⟩
    replace H : (if ([] : List (S47)).length + y204.length < 1954687338268 then ((emit_Text.f k (([] : List (S47)) ++ y204)).bind fun bt212 => ((emit_Text.f k (([(⟨2, (⟨#[112]⟩ : ByteArray), ([] : List (S63)), false, (⟨#[]⟩ : ByteArray)⟩ : S47)] : List (S47)))).bind fun bt217 => (if t193 = 1 then (some (decide ((t188.length : Int) > 5))) else (if t193 = 0 then (if t203 = 0 then (if bt212.2 = 0 then (if bt217.2 = 0 then (if bt217.1.toList = ([60, 47, 112, 62] : List UInt8) then (if t202.size + bt212.1.size ≤ 9223372036854775807 then (some (t192.toList == (t202 ++ bt212.1).toList)) else (none)) else (none)) else (none)) else (none)) else (none)) else (none))))) else (none)) = some r := by first | (rw [hy204]; with_reducible exact H) | (have H2_ := (Option.bind_some _ _).symm.trans H; rw [hy204]; with_reducible exact H2_) | (have H2_ := (Option.bind_some _ _).symm.trans H; with_reducible exact H2_) | with_reducible exact H | (rw [hy204]; exact H) | exact H
    have Ny204 := Aside0.mk hy204
    clear hy204
    by_cases c12 : ([] : List (S47)).length + y204.length < 1954687338268
    ·
     rw [if_pos c12] at H
     have LMc12 := Aside0.mk c12
     clear c12
     obtain ⟨y209, hy209⟩ : ∃ y_ : List (S47), y_ = (([] : List (S47)) ++ y204) := ⟨_, rfl⟩
     replace H : ((emit_Text.f k y209).bind fun bt212 => ((emit_Text.f k (([(⟨2, (⟨#[112]⟩ : ByteArray), ([] : List (S63)), false, (⟨#[]⟩ : ByteArray)⟩ : S47)] : List (S47)))).bind fun bt217 => (if t193 = 1 then (some (decide ((t188.length : Int) > 5))) else (if t193 = 0 then (if t203 = 0 then (if bt212.2 = 0 then (if bt217.2 = 0 then (if bt217.1.toList = ([60, 47, 112, 62] : List UInt8) then (if t202.size + bt212.1.size ≤ 9223372036854775807 then (some (t192.toList == (t202 ++ bt212.1).toList)) else (none)) else (none)) else (none)) else (none)) else (none)) else (none))))) = some r := by first | (rw [hy209]; with_reducible exact H) | (have H2_ := (Option.bind_some _ _).symm.trans H; rw [hy209]; with_reducible exact H2_) | (have H2_ := (Option.bind_some _ _).symm.trans H; with_reducible exact H2_) | with_reducible exact H | (rw [hy209]; exact H) | exact H
     have Ny209 := Aside0.mk hy209
     clear hy209
     replace H := Option.bind_eq_some_iff.mp H
     obtain ⟨⟨t212, t213⟩, A130, H⟩ := H
     replace H : ((emit_Text.f k (([(⟨2, (⟨#[112]⟩ : ByteArray), ([] : List (S63)), false, (⟨#[]⟩ : ByteArray)⟩ : S47)] : List (S47)))).bind fun bt217 => (if t193 = 1 then (some (decide ((t188.length : Int) > 5))) else (if t193 = 0 then (if t203 = 0 then (if t213 = 0 then (if bt217.2 = 0 then (if bt217.1.toList = ([60, 47, 112, 62] : List UInt8) then (if t202.size + t212.size ≤ 9223372036854775807 then (some (t192.toList == (t202 ++ t212).toList)) else (none)) else (none)) else (none)) else (none)) else (none)) else (none)))) = some r := H
     have A13 := Aside0.mk A130
     clear A130
     obtain ⟨y214, hy214⟩ : ∃ y_ : List (S47), y_ = (([(⟨2, (⟨#[112]⟩ : ByteArray), ([] : List (S63)), false, (⟨#[]⟩ : ByteArray)⟩ : S47)] : List (S47))) := ⟨_, rfl⟩
     replace H : ((emit_Text.f k y214).bind fun bt217 => (if t193 = 1 then (some (decide ((t188.length : Int) > 5))) else (if t193 = 0 then (if t203 = 0 then (if t213 = 0 then (if bt217.2 = 0 then (if bt217.1.toList = ([60, 47, 112, 62] : List UInt8) then (if t202.size + t212.size ≤ 9223372036854775807 then (some (t192.toList == (t202 ++ t212).toList)) else (none)) else (none)) else (none)) else (none)) else (none)) else (none)))) = some r := by first | (rw [hy214]; with_reducible exact H) | (have H2_ := (Option.bind_some _ _).symm.trans H; rw [hy214]; with_reducible exact H2_) | (have H2_ := (Option.bind_some _ _).symm.trans H; with_reducible exact H2_) | with_reducible exact H | (rw [hy214]; exact H) | exact H
     have Ny214 := Aside0.mk hy214
     clear hy214
     replace H := Option.bind_eq_some_iff.mp H
     obtain ⟨⟨t217, t218⟩, A140, H⟩ := H
     replace H : (if t193 = 1 then (some (decide ((t188.length : Int) > 5))) else (if t193 = 0 then (if t203 = 0 then (if t213 = 0 then (if t218 = 0 then (if t217.toList = ([60, 47, 112, 62] : List UInt8) then (if t202.size + t212.size ≤ 9223372036854775807 then (some (t192.toList == (t202 ++ t212).toList)) else (none)) else (none)) else (none)) else (none)) else (none)) else (none))) = some r := H
     have A14 := Aside0.mk A140
     clear A140
     by_cases c15 : t193 = 1
     ·
      rw [if_pos c15] at H
      have c15b0 : (t193 == 1) = true := beq_iff_eq.mpr c15
      have c15b1 : (t193 != 1) = false := bne_eq_false_iff_eq.mpr c15
      clear c15
      obtain rfl := Option.some.inj H
      go_enter Try.func7, Try.ntmps7
      go_wp2_with (first | ((with_reducible refine gate_callee (f := 17) rfl ?_); refine goesL_ (some 16) rfl rfl Try.func17 (by kernel_rfl) rfl #[.slice A0 l0.length c0, .int .i64 10] rfl (by (try simp only [List.map_toArray, List.map_cons, List.map_nil]); first | done | rfl | (simp only [List.length_drop, List.length_take]; rfl)) ?_; (with_reducible refine (bobbinetkeep_Tokens.calls k _ _ l0 10 t188 _ ?side1 ?side2 A3.out).mono ?_); (case side1 => repeat (first | exact HR0.out | (with_reducible refine Kd.C_alloc ?_ _) | (with_reducible refine Kd.C_drewN ?_ _) | (with_reducible refine Kd.C_drew ?_))); (case side2 => exact HC0.out); rintro e w16 ⟨v189, rfl, ho0, hb⟩; refine ⟨_, rfl, ?_⟩; have n0_ := Aside0.mk (Kd.N_lower (Kd.N_mono (ok' := fun k_ => True) (Kd.S_N (Kd.S_bound ho0)) (fun k_ hk_ => trivial)) (below_size (by repeat (first | (with_reducible first | exact HB.out | apply below_alloc | apply pw_below_drewN | apply below_drew1) | exact HB.out)))); have n1_ := Aside0.mk (below_step (by repeat (first | (with_reducible first | exact HB.out | apply below_alloc | apply pw_below_drewN | apply below_drew1) | exact HB.out)) hb); clear HB; have HO190 := n0_; have HB := n1_; clear n0_ n1_; (try clear hb); (try clear hb2); (try clear hk); (try clear hi); (try clear ho0); obtain ⟨Ao17, co17, eo17⟩ := Kd.N_slice HO190.out; subst eo17) | ((with_reducible refine gate_callee (f := 10) rfl ?_); refine goesL_ (some 21) rfl rfl Try.func10 (by kernel_rfl) rfl #[.int .i64 a1, .int .i64 (wrap64 ((t188.length : Int) + 1))] rfl (by (try simp only [List.map_toArray, List.map_cons, List.map_nil]); first | done | rfl | (simp only [List.length_drop, List.length_take]; rfl)) ?_; (with_reducible refine (bobbinetkeep_Picked.calls a1 (wrap64 ((t188.length : Int) + 1)) t191 _ A4.out).mono ?_); rintro e w' ⟨rfl, ⟨nd, rfl⟩⟩; refine ⟨_, rfl, ?_⟩) | ((with_reducible refine gate_callee (f := 18) rfl ?_); refine goesL_ (some 24) rfl rfl Try.func18 (by kernel_rfl) rfl #[.slice Ao17 t188.length co17] rfl (by (try simp only [List.map_toArray, List.map_cons, List.map_nil]); first | done | rfl | (simp only [List.length_drop, List.length_take]; rfl)) ?_; (with_reducible refine (emit_Text.calls k _ _ t188 t192 t193 _ ?side1 ?side2 A5.out).mono ?_); (case side1 => repeat (first | exact (Kd.N_reads' HO190.out).2.2 | (with_reducible refine Kd.C_alloc ?_ _) | (with_reducible refine Kd.C_drewN ?_ _) | (with_reducible refine Kd.C_drew ?_))); (case side2 => exact (Kd.N_reads' HO190.out).2.1); rintro e w18 ⟨rfl, hb⟩; refine ⟨_, rfl, ?_⟩; have n0_ := Aside0.mk (Kd.N_below (by (with_reducible repeat (first | apply Kd.N_alloc | apply Kd.N_drewN | apply Kd.N_drew)); exact HO190.out) hb); have n1_ := Aside0.mk (below_step (by repeat (first | (with_reducible first | exact HB.out | apply below_alloc | apply pw_below_drewN | apply below_drew1) | exact HB.out)) hb); clear HO190; clear HB; have HO190 := n0_; have HB := n1_; clear n0_ n1_; (try clear hb); (try clear hb2); (try clear hk); (try clear hi); have q19 : (t191 : Int) ≤ ((t188.length : Int) : Int) := of_decide_eq_true (by first | (with_reducible assumption) | assumption); obtain ⟨i019, hi019, _, hsz19, _⟩ := info_parts info47; have hroom19 : t188.length ≤ co17 := (Kd.N_reads' HO190.out).2.1; have hC19 : Kd.F k47 _ _ Ao17 t188.length t188 := (Kd.V_at (base := w.heap.size) (Kd.N_V HO190.out)).2.2; have hcut19 := cut_to (P := Try.prog) 42 47 .i64 Try.underlying42 hi019 Ao17 t188.length co17 t191 (of_decide_eq_true (by first | (with_reducible assumption) | assumption)) q19 hroom19; have hr19 := Kd.F_take (m := (t191 : Int).toNat) hC19 (by omega); have hy19 : y194.length = (t191 : Int).toNat := (by rw [Ny194.out, List.length_take]; omega); rw [← Ny194.out] at hr19; rw [← hy19] at hcut19; have HO198 := Aside0.mk (show Kd.V k47 47 _ w.heap.size _ (.slice Ao17 y194.length co17) y194 from Kd.V_mk (by omega) hr19); have HC198 := Aside0.mk (show y194.length ≤ co17 from by omega); clear hr19 hC19 hroom19 hi019 hsz19; have KY19 := Aside0.mk hy19; clear hy19; replace q19 := eq_true q19) | ((with_reducible refine gate_builtin (b := .append) (xs := #[.const (.slice none 0 0), .tmp 30]) rfl ?_); at_builtin; refine Kd.N_append_rows k47 (w0 := w) w.heap.size rfl (.const (.slice none 0 0)) (.tmp 30) 42 47 (.agg #[(.int .i64 0), (.string ⟨#[]⟩), (.slice none 0 0), (.bool false), (.string ⟨#[]⟩)]) 72 rfl Try.underlying42 info47 rfl (by decide) (by omega) (.slice none 0 0) ([] : List (S47)) y194 _ _ _ (fun _ => True) (fun k_ => ((fun _ => True)) k_ ∧ some k_ ≠ (.slice none 0 0 : Value).ownBlock) rfl rfl ?aO ?aR (fun _ hk => hk) ?aF ?aB ?aS ?aL ?_; (case aR => exact (by skip; exact Kd.V_F (Kd.V_mono (ok' := (fun k_ => ((fun _ => True)) k_ ∧ some k_ ≠ (.slice none 0 0 : Value).ownBlock)) (HO198.out) (fun k_ hk => ⟨trivial, (by simp [Value.ownBlock])⟩)))); (case aB => exact (by repeat (first | (with_reducible first | exact HB.out | apply below_alloc | apply pw_below_drewN | apply below_drew1) | exact HB.out))); (case aF => exact (fun _ _ => trivial)); (case aO => exact ((Kd.N_nil _ _ _ _ (fun _ => True)))); (case aS => exact (below_size (by repeat (first | (with_reducible first | exact HB.out | apply below_alloc | apply pw_below_drewN | apply below_drew1) | exact HB.out)))); (case aL => have := LMc8.out; omega); intro v200 w20 ho hb hg hat; rw [← Ny199.out] at ho; have n0_ := Aside0.mk (Kd.N_afterv (Kd.N_apart_nil (by (with_reducible repeat (first | apply Kd.N_alloc | apply Kd.N_drewN | apply Kd.N_drew)); exact HO190.out)) hg hat); have n1_ := Aside0.mk (Kd.V_afterv (Kd.V_apart_nil (by (with_reducible repeat (first | apply Kd.V_alloc | apply Kd.V_drewN | apply Kd.V_drew)); exact HO198.out)) hg hat); have n2_ := Aside0.mk (hb); have n3_ := Aside0.mk (ho); clear HO190; clear HO198; clear HB; have HO190 := n0_; have HO198 := n1_; have HB := n2_; have HO201 := n3_; clear n0_ n1_ n2_ n3_; clear ho hb hg hat; obtain ⟨Ao21, co21, eo21⟩ := Kd.N_slice HO201.out; subst eo21) | ((with_reducible refine gate_callee (f := 18) rfl ?_); refine goesL_ (some 32) rfl rfl Try.func18 (by kernel_rfl) rfl #[.slice Ao21 y199.length co21] rfl (by (try simp only [List.map_toArray, List.map_cons, List.map_nil]); first | done | rfl | (simp only [List.length_drop, List.length_take]; rfl)) ?_; (with_reducible refine (emit_Text.calls k _ _ y199 t202 t203 _ ?side1 ?side2 A9.out).mono ?_); (case side1 => repeat (first | exact (Kd.N_reads' HO201.out).2.2 | (with_reducible refine Kd.C_alloc ?_ _) | (with_reducible refine Kd.C_drewN ?_ _) | (with_reducible refine Kd.C_drew ?_))); (case side2 => exact (Kd.N_reads' HO201.out).2.1); rintro e w22 ⟨rfl, hb⟩; refine ⟨_, rfl, ?_⟩; have n0_ := Aside0.mk (Kd.N_below (by (with_reducible repeat (first | apply Kd.N_alloc | apply Kd.N_drewN | apply Kd.N_drew)); exact HO190.out) hb); have n1_ := Aside0.mk (Kd.V_below (by (with_reducible repeat (first | apply Kd.V_alloc | apply Kd.V_drewN | apply Kd.V_drew)); exact HO198.out) hb); have n2_ := Aside0.mk (Kd.N_below (by (with_reducible repeat (first | apply Kd.N_alloc | apply Kd.N_drewN | apply Kd.N_drew)); exact HO201.out) hb); have n3_ := Aside0.mk (below_step (by repeat (first | (with_reducible first | exact HB.out | apply below_alloc | apply pw_below_drewN | apply below_drew1) | exact HB.out)) hb); clear HO190; clear HO198; clear HO201; clear HB; have HO190 := n0_; have HO198 := n1_; have HO201 := n2_; have HB := n3_; clear n0_ n1_ n2_ n3_; (try clear hb); (try clear hb2); (try clear hk); (try clear hi); have q23 : (t191 : Int) ≤ ((t188.length : Int) : Int) := of_decide_eq_true (by first | (with_reducible assumption) | assumption); obtain ⟨i023, hi023, _, hsz23, _⟩ := info_parts info47; have hroom23 : t188.length ≤ co17 := (Kd.N_reads' HO190.out).2.1; have hC23 : Kd.F k47 _ _ Ao17 t188.length t188 := (Kd.V_at (base := w.heap.size) (Kd.N_V HO190.out)).2.2; have q023 : (0 : Int) ≤ (t191 : Int) := of_decide_eq_true (by first | (with_reducible assumption) | assumption); have hcut23 := cut_from (P := Try.prog) 42 47 .i64 Try.underlying42 hi023 5 hsz23 Ao17 t188.length co17 t191 q023 q23; have hr23 := Kd.F_cut (m := (t191 : Int).toNat) (c := co17) hC23 (by omega) hroom23; obtain ⟨A23, hA23⟩ : ∃ A1, A1 = (if co17 = (t191 : Int).toNat then Ao17 else (Ao17 : Option Addr).map (·.add ((t191 : Int).toNat * 5))) := ⟨_, rfl⟩; obtain ⟨c23, hc23⟩ : ∃ c1, c1 = co17 - (t191 : Int).toNat := ⟨_, rfl⟩; have hy23 : y204.length = t188.length - (t191 : Int).toNat := (by rw [Ny204.out, List.length_drop] <;> omega); rw [show (t188).drop (t191 : Int).toNat = y204 from Ny204.out.symm] at hr23; replace hr23 : Kd.F k47 _ _ A23 y204.length y204 := (by rw [hA23]; exact hr23); rw [← hy23, ← hA23, ← hc23] at hcut23; have HO208 := Aside0.mk (show Kd.V k47 47 _ w.heap.size _ (.slice A23 y204.length c23) y204 from Kd.V_mk (by rw [hy23, hc23]; exact Nat.sub_le_sub_right hroom23 _) hr23); have HC208 := Aside0.mk (show y204.length ≤ c23 from by rw [hy23, hc23]; exact Nat.sub_le_sub_right hroom23 _); clear hr23 hC23 hroom23 hi023 hsz23 hc23; have KY23 := Aside0.mk hy23; have KA23 := Aside0.mk hA23; clear hy23 hA23; replace q23 := eq_true q23) | ((with_reducible refine gate_builtin (b := .append) (xs := #[.const (.slice none 0 0), .tmp 38]) rfl ?_); at_builtin; refine Kd.N_append_rows k47 (w0 := w) w.heap.size rfl (.const (.slice none 0 0)) (.tmp 38) 42 47 (.agg #[(.int .i64 0), (.string ⟨#[]⟩), (.slice none 0 0), (.bool false), (.string ⟨#[]⟩)]) 72 rfl Try.underlying42 info47 rfl (by decide) (by omega) (.slice none 0 0) ([] : List (S47)) y204 _ _ _ (fun k_ => some k_ ≠ (.slice Ao21 y199.length co21 : Value).ownBlock) (fun k_ => ((fun k_ => some k_ ≠ (.slice Ao21 y199.length co21 : Value).ownBlock)) k_ ∧ some k_ ≠ (.slice none 0 0 : Value).ownBlock) rfl rfl ?aO ?aR (fun _ hk => hk) ?aF ?aB ?aS ?aL ?_; (case aR => exact (by skip; exact Kd.V_F (Kd.V_mono (ok' := (fun k_ => ((fun k_ => some k_ ≠ (.slice Ao21 y199.length co21 : Value).ownBlock)) k_ ∧ some k_ ≠ (.slice none 0 0 : Value).ownBlock)) (HO208.out) (fun k_ hk => (by first | exact ⟨hk.2, (by simp [Value.ownBlock])⟩ | grind))))); (case aB => exact (by repeat (first | (with_reducible first | exact HB.out | apply below_alloc | apply pw_below_drewN | apply below_drew1) | exact HB.out))); (case aF => exact (fun k_ hk => Kd.fresh' (Kd.N_lt (by (with_reducible repeat (first | apply Kd.N_alloc | apply Kd.N_drewN | apply Kd.N_drew)); exact HO201.out)) k_ hk)); (case aO => exact ((Kd.N_nil _ _ _ _ (fun k_ => some k_ ≠ (.slice Ao21 y199.length co21 : Value).ownBlock)))); (case aS => exact (below_size (by repeat (first | (with_reducible first | exact HB.out | apply below_alloc | apply pw_below_drewN | apply below_drew1) | exact HB.out)))); (case aL => have := LMc12.out; omega); intro v210 w24 ho hb hg hat; rw [← Ny209.out] at ho; have n0_ := Aside0.mk (Kd.N_afterv (Kd.N_apart_nil (by (with_reducible repeat (first | apply Kd.N_alloc | apply Kd.N_drewN | apply Kd.N_drew)); exact HO190.out)) hg hat); have n1_ := Aside0.mk (Kd.V_afterv (Kd.V_apart_nil (by (with_reducible repeat (first | apply Kd.V_alloc | apply Kd.V_drewN | apply Kd.V_drew)); exact HO198.out)) hg hat); have n2_ := Aside0.mk (Kd.N_afterv (Kd.N_apart_nil (by (with_reducible repeat (first | apply Kd.N_alloc | apply Kd.N_drewN | apply Kd.N_drew)); exact HO201.out)) hg hat); have n3_ := Aside0.mk (Kd.V_afterv (Kd.V_apart_nil (by (with_reducible repeat (first | apply Kd.V_alloc | apply Kd.V_drewN | apply Kd.V_drew)); exact HO208.out)) hg hat); have n4_ := Aside0.mk (hb); have n5_ := Aside0.mk (ho); clear HO190; clear HO198; clear HO201; clear HO208; clear HB; have HO190 := n0_; have HO198 := n1_; have HO201 := n2_; have HO208 := n3_; have HB := n4_; have HO211 := n5_; clear n0_ n1_ n2_ n3_ n4_ n5_; clear ho hb hg hat; obtain ⟨Ao25, co25, eo25⟩ := Kd.N_slice HO211.out; subst eo25) | ((with_reducible refine gate_callee (f := 18) rfl ?_); refine goesL_ (some 40) rfl rfl Try.func18 (by kernel_rfl) rfl #[.slice Ao25 y209.length co25] rfl (by (try simp only [List.map_toArray, List.map_cons, List.map_nil]); first | done | rfl | (simp only [List.length_drop, List.length_take]; rfl)) ?_; (with_reducible refine (emit_Text.calls k _ _ y209 t212 t213 _ ?side1 ?side2 A13.out).mono ?_); (case side1 => repeat (first | exact (Kd.N_reads' HO211.out).2.2 | (with_reducible refine Kd.C_alloc ?_ _) | (with_reducible refine Kd.C_drewN ?_ _) | (with_reducible refine Kd.C_drew ?_))); (case side2 => exact (Kd.N_reads' HO211.out).2.1); rintro e w26 ⟨rfl, hb⟩; refine ⟨_, rfl, ?_⟩; have n0_ := Aside0.mk (Kd.N_below (by (with_reducible repeat (first | apply Kd.N_alloc | apply Kd.N_drewN | apply Kd.N_drew)); exact HO190.out) hb); have n1_ := Aside0.mk (Kd.V_below (by (with_reducible repeat (first | apply Kd.V_alloc | apply Kd.V_drewN | apply Kd.V_drew)); exact HO198.out) hb); have n2_ := Aside0.mk (Kd.N_below (by (with_reducible repeat (first | apply Kd.N_alloc | apply Kd.N_drewN | apply Kd.N_drew)); exact HO201.out) hb); have n3_ := Aside0.mk (Kd.V_below (by (with_reducible repeat (first | apply Kd.V_alloc | apply Kd.V_drewN | apply Kd.V_drew)); exact HO208.out) hb); have n4_ := Aside0.mk (Kd.N_below (by (with_reducible repeat (first | apply Kd.N_alloc | apply Kd.N_drewN | apply Kd.N_drew)); exact HO211.out) hb); have n5_ := Aside0.mk (below_step (by repeat (first | (with_reducible first | exact HB.out | apply below_alloc | apply pw_below_drewN | apply below_drew1) | exact HB.out)) hb); clear HO190; clear HO198; clear HO201; clear HO208; clear HO211; clear HB; have HO190 := n0_; have HO198 := n1_; have HO201 := n2_; have HO208 := n3_; have HO211 := n4_; have HB := n5_; clear n0_ n1_ n2_ n3_ n4_ n5_; (try clear hb); (try clear hb2); (try clear hk); (try clear hi)) | ((with_reducible refine gate_dst (N := 45) rfl ?_); refine Kd.N_lit k47 _ 47 ?hg (N' := 45) ?hd (xs := ([(⟨2, (⟨#[112]⟩ : ByteArray), ([] : List (S63)), false, (⟨#[]⟩ : ByteArray)⟩ : S47)] : List (S47))) (inner := [.int .i64 2, .string (⟨#[112]⟩ : ByteArray), .slice none 0 0, .bool false, .string (⟨#[]⟩ : ByteArray)]) (ok := (fun k_ => some k_ ≠ (.slice Ao17 t188.length co17 : Value).ownBlock ∧ some k_ ≠ (.slice Ao21 y199.length co21 : Value).ownBlock ∧ some k_ ≠ (.slice Ao25 y209.length co25 : Value).ownBlock)) (okp := (fun k_ => some k_ ≠ (.slice Ao17 t188.length co17 : Value).ownBlock ∧ some k_ ≠ (.slice Ao21 y199.length co21 : Value).ownBlock ∧ some k_ ≠ (.slice Ao25 y209.length co25 : Value).ownBlock)) ?hr ?hp (fun _ hk => hk) ((show ∀ k_, w26.heap.size ≤ k_ → (fun k_ => some k_ ≠ (.slice Ao17 t188.length co17 : Value).ownBlock ∧ some k_ ≠ (.slice Ao21 y199.length co21 : Value).ownBlock ∧ some k_ ≠ (.slice Ao25 y209.length co25 : Value).ownBlock) k_ from fun k_ hk => ⟨Kd.fresh' (Kd.N_lt (by (with_reducible repeat (first | apply Kd.N_alloc | apply Kd.N_drewN | apply Kd.N_drew)); exact HO190.out)) k_ hk, Kd.fresh' (Kd.N_lt (by (with_reducible repeat (first | apply Kd.N_alloc | apply Kd.N_drewN | apply Kd.N_drew)); exact HO201.out)) k_ hk, Kd.fresh' (Kd.N_lt (by (with_reducible repeat (first | apply Kd.N_alloc | apply Kd.N_drewN | apply Kd.N_drew)); exact HO211.out)) k_ hk⟩) _ (Nat.le_refl _)) (Below.refl _ _) (Nat.le_refl _) (by simp) ?_; (case hd => rfl); (case hg => rfl); (case hr => first | (go_simp; done) | (go_simp; rfl)); (case hp => exact (Reps.c5 (show Kd.FK k47 _ _ (⟨2, (⟨#[112]⟩ : ByteArray), ([] : List (S63)), false, (⟨#[]⟩ : ByteArray)⟩ : S47) [.int .i64 2, .string (⟨#[112]⟩ : ByteArray), .slice none 0 0, .bool false, .string (⟨#[]⟩ : ByteArray)] from (k47_mkF _ _ (⟨2, (⟨#[112]⟩ : ByteArray), ([] : List (S63)), false, (⟨#[]⟩ : ByteArray)⟩ : S47) (Nat.le_refl _) (Kd.F_nil _ _ _))) (Reps.none _ _))); intro v215 w27 ho28 hb hg_ hnew_; clear hg_ hnew_; (first | rw [← Ny214.out] at ho28 | (simp only [Int.reduceToNat] at ho28; rw [← Ny214.out] at ho28)); have n0_ := Aside0.mk (Kd.N_elder' (by (with_reducible repeat (first | apply Kd.N_alloc | apply Kd.N_drewN | apply Kd.N_drew)); exact HO190.out) (Kd.N_base ho28) hb); have n1_ := Aside0.mk (Kd.V_elder' (by (with_reducible repeat (first | apply Kd.V_alloc | apply Kd.V_drewN | apply Kd.V_drew)); exact HO198.out) (Kd.N_base ho28) hb); have n2_ := Aside0.mk (Kd.N_elder' (by (with_reducible repeat (first | apply Kd.N_alloc | apply Kd.N_drewN | apply Kd.N_drew)); exact HO201.out) (Kd.N_base ho28) hb); have n3_ := Aside0.mk (Kd.V_elder' (by (with_reducible repeat (first | apply Kd.V_alloc | apply Kd.V_drewN | apply Kd.V_drew)); exact HO208.out) (Kd.N_base ho28) hb); have n4_ := Aside0.mk (Kd.N_elder' (by (with_reducible repeat (first | apply Kd.N_alloc | apply Kd.N_drewN | apply Kd.N_drew)); exact HO211.out) (Kd.N_base ho28) hb); have n5_ := Aside0.mk (Kd.N_lower ho28 (below_size (by repeat (first | (with_reducible first | exact HB.out | apply below_alloc | apply pw_below_drewN | apply below_drew1) | exact HB.out)))); have n6_ := Aside0.mk (below_step (by repeat (first | (with_reducible first | exact HB.out | apply below_alloc | apply pw_below_drewN | apply below_drew1) | exact HB.out)) hb); clear HO190; clear HO198; clear HO201; clear HO208; clear HO211; clear HB; have HO190 := n0_; have HO198 := n1_; have HO201 := n2_; have HO208 := n3_; have HO211 := n4_; have HO216 := n5_; have HB := n6_; clear n0_ n1_ n2_ n3_ n4_ n5_ n6_; clear hb ho28; obtain ⟨Ao29, co29, eo29⟩ := Kd.N_slice HO216.out; subst eo29) | ((with_reducible refine gate_callee (f := 18) rfl ?_); refine goesL_ (some 46) rfl rfl Try.func18 (by kernel_rfl) rfl #[.slice Ao29 y214.length co29] rfl (by (try simp only [List.map_toArray, List.map_cons, List.map_nil]); first | done | rfl | (simp only [List.length_drop, List.length_take]; rfl)) ?_; (with_reducible refine (emit_Text.calls k _ _ y214 t217 t218 _ ?side1 ?side2 A14.out).mono ?_); (case side1 => repeat (first | exact (Kd.N_reads' HO216.out).2.2 | (with_reducible refine Kd.C_alloc ?_ _) | (with_reducible refine Kd.C_drewN ?_ _) | (with_reducible refine Kd.C_drew ?_))); (case side2 => exact (Kd.N_reads' HO216.out).2.1); rintro e w30 ⟨rfl, hb⟩; refine ⟨_, rfl, ?_⟩; have n0_ := Aside0.mk (Kd.N_below (by (with_reducible repeat (first | apply Kd.N_alloc | apply Kd.N_drewN | apply Kd.N_drew)); exact HO190.out) hb); have n1_ := Aside0.mk (Kd.V_below (by (with_reducible repeat (first | apply Kd.V_alloc | apply Kd.V_drewN | apply Kd.V_drew)); exact HO198.out) hb); have n2_ := Aside0.mk (Kd.N_below (by (with_reducible repeat (first | apply Kd.N_alloc | apply Kd.N_drewN | apply Kd.N_drew)); exact HO201.out) hb); have n3_ := Aside0.mk (Kd.V_below (by (with_reducible repeat (first | apply Kd.V_alloc | apply Kd.V_drewN | apply Kd.V_drew)); exact HO208.out) hb); have n4_ := Aside0.mk (Kd.N_below (by (with_reducible repeat (first | apply Kd.N_alloc | apply Kd.N_drewN | apply Kd.N_drew)); exact HO211.out) hb); have n5_ := Aside0.mk (Kd.N_below (by (with_reducible repeat (first | apply Kd.N_alloc | apply Kd.N_drewN | apply Kd.N_drew)); exact HO216.out) hb); have n6_ := Aside0.mk (below_step (by repeat (first | (with_reducible first | exact HB.out | apply below_alloc | apply pw_below_drewN | apply below_drew1) | exact HB.out)) hb); clear HO190; clear HO198; clear HO201; clear HO208; clear HO211; clear HO216; clear HB; have HO190 := n0_; have HO198 := n1_; have HO201 := n2_; have HO208 := n3_; have HO211 := n4_; have HO216 := n5_; have HB := n6_; clear n0_ n1_ n2_ n3_ n4_ n5_ n6_; (try clear hb); (try clear hb2); (try clear hk); (try clear hi)))
      go_ret
      exact ⟨by first | rfl | (simp [errW_none, errW_some] <;> rfl) | (simp [*, errW_none, errW_some] <;> rfl), by repeat (first | (with_reducible first | exact HB.out | apply below_alloc | apply pw_below_drewN | apply below_drew1) | exact HB.out)⟩
     ·
      rw [if_neg c15] at H
      have c15b0 : (t193 == 1) = false := beq_eq_false_iff_ne.mpr c15
      have c15b1 : (t193 != 1) = true := bne_iff_ne.mpr c15
      by_cases c31 : t193 = 0
      ·
       rw [if_pos c31] at H
       have c31b0 : (t193 == 0) = true := beq_iff_eq.mpr c31
       have c31b1 : (t193 != 0) = false := bne_eq_false_iff_eq.mpr c31
       clear c31
       by_cases c32 : t203 = 0
       ·
        rw [if_pos c32] at H
        have c32b0 : (t203 == 0) = true := beq_iff_eq.mpr c32
        have c32b1 : (t203 != 0) = false := bne_eq_false_iff_eq.mpr c32
        clear c32
        by_cases c33 : t213 = 0
        ·
         rw [if_pos c33] at H
         have c33b0 : (t213 == 0) = true := beq_iff_eq.mpr c33
         have c33b1 : (t213 != 0) = false := bne_eq_false_iff_eq.mpr c33
         clear c33
         by_cases c34 : t218 = 0
         ·
          rw [if_pos c34] at H
          have c34b0 : (t218 == 0) = true := beq_iff_eq.mpr c34
          have c34b1 : (t218 != 0) = false := bne_eq_false_iff_eq.mpr c34
          clear c34
          by_cases c35 : t217.toList = ([60, 47, 112, 62] : List UInt8)
          ·
           rw [if_pos c35] at H
           have c35b0 : (t217.toList == ([60, 47, 112, 62] : List UInt8)) = true := beq_iff_eq.mpr c35
           have c35b1 : (t217.toList != ([60, 47, 112, 62] : List UInt8)) = false := bne_eq_false_iff_eq.mpr c35
           clear c35
           by_cases c36 : t202.size + t212.size ≤ 9223372036854775807
           ·
            rw [if_pos c36] at H
            have c36b0 := eq_true c36
            have c36b1 : decide (t202.size + t212.size ≤ 9223372036854775807) = true := decide_eq_true c36
            try have c36b2 : (9223372036854775807 < t202.size + t212.size) = False := eq_false (Nat.not_lt.2 c36)
            obtain rfl := Option.some.inj H
            go_enter Try.func7, Try.ntmps7
            go_wp2_with (first | ((with_reducible refine gate_callee (f := 17) rfl ?_); refine goesL_ (some 16) rfl rfl Try.func17 (by kernel_rfl) rfl #[.slice A0 l0.length c0, .int .i64 10] rfl (by (try simp only [List.map_toArray, List.map_cons, List.map_nil]); first | done | rfl | (simp only [List.length_drop, List.length_take]; rfl)) ?_; (with_reducible refine (bobbinetkeep_Tokens.calls k _ _ l0 10 t188 _ ?side1 ?side2 A3.out).mono ?_); (case side1 => repeat (first | exact HR0.out | (with_reducible refine Kd.C_alloc ?_ _) | (with_reducible refine Kd.C_drewN ?_ _) | (with_reducible refine Kd.C_drew ?_))); (case side2 => exact HC0.out); rintro e w37 ⟨v189, rfl, ho0, hb⟩; refine ⟨_, rfl, ?_⟩; have n0_ := Aside0.mk (Kd.N_lower (Kd.N_mono (ok' := fun k_ => True) (Kd.S_N (Kd.S_bound ho0)) (fun k_ hk_ => trivial)) (below_size (by repeat (first | (with_reducible first | exact HB.out | apply below_alloc | apply pw_below_drewN | apply below_drew1) | exact HB.out)))); have n1_ := Aside0.mk (below_step (by repeat (first | (with_reducible first | exact HB.out | apply below_alloc | apply pw_below_drewN | apply below_drew1) | exact HB.out)) hb); clear HB; have HO190 := n0_; have HB := n1_; clear n0_ n1_; (try clear hb); (try clear hb2); (try clear hk); (try clear hi); (try clear ho0); obtain ⟨Ao38, co38, eo38⟩ := Kd.N_slice HO190.out; subst eo38) | ((with_reducible refine gate_callee (f := 10) rfl ?_); refine goesL_ (some 21) rfl rfl Try.func10 (by kernel_rfl) rfl #[.int .i64 a1, .int .i64 (wrap64 ((t188.length : Int) + 1))] rfl (by (try simp only [List.map_toArray, List.map_cons, List.map_nil]); first | done | rfl | (simp only [List.length_drop, List.length_take]; rfl)) ?_; (with_reducible refine (bobbinetkeep_Picked.calls a1 (wrap64 ((t188.length : Int) + 1)) t191 _ A4.out).mono ?_); rintro e w' ⟨rfl, ⟨nd, rfl⟩⟩; refine ⟨_, rfl, ?_⟩) | ((with_reducible refine gate_callee (f := 18) rfl ?_); refine goesL_ (some 24) rfl rfl Try.func18 (by kernel_rfl) rfl #[.slice Ao38 t188.length co38] rfl (by (try simp only [List.map_toArray, List.map_cons, List.map_nil]); first | done | rfl | (simp only [List.length_drop, List.length_take]; rfl)) ?_; (with_reducible refine (emit_Text.calls k _ _ t188 t192 t193 _ ?side1 ?side2 A5.out).mono ?_); (case side1 => repeat (first | exact (Kd.N_reads' HO190.out).2.2 | (with_reducible refine Kd.C_alloc ?_ _) | (with_reducible refine Kd.C_drewN ?_ _) | (with_reducible refine Kd.C_drew ?_))); (case side2 => exact (Kd.N_reads' HO190.out).2.1); rintro e w39 ⟨rfl, hb⟩; refine ⟨_, rfl, ?_⟩; have n0_ := Aside0.mk (Kd.N_below (by (with_reducible repeat (first | apply Kd.N_alloc | apply Kd.N_drewN | apply Kd.N_drew)); exact HO190.out) hb); have n1_ := Aside0.mk (below_step (by repeat (first | (with_reducible first | exact HB.out | apply below_alloc | apply pw_below_drewN | apply below_drew1) | exact HB.out)) hb); clear HO190; clear HB; have HO190 := n0_; have HB := n1_; clear n0_ n1_; (try clear hb); (try clear hb2); (try clear hk); (try clear hi); have q40 : (t191 : Int) ≤ ((t188.length : Int) : Int) := of_decide_eq_true (by first | (with_reducible assumption) | assumption); obtain ⟨i040, hi040, _, hsz40, _⟩ := info_parts info47; have hroom40 : t188.length ≤ co38 := (Kd.N_reads' HO190.out).2.1; have hC40 : Kd.F k47 _ _ Ao38 t188.length t188 := (Kd.V_at (base := w.heap.size) (Kd.N_V HO190.out)).2.2; have hcut40 := cut_to (P := Try.prog) 42 47 .i64 Try.underlying42 hi040 Ao38 t188.length co38 t191 (of_decide_eq_true (by first | (with_reducible assumption) | assumption)) q40 hroom40; have hr40 := Kd.F_take (m := (t191 : Int).toNat) hC40 (by omega); have hy40 : y194.length = (t191 : Int).toNat := (by rw [Ny194.out, List.length_take]; omega); rw [← Ny194.out] at hr40; rw [← hy40] at hcut40; have HO198 := Aside0.mk (show Kd.V k47 47 _ w.heap.size _ (.slice Ao38 y194.length co38) y194 from Kd.V_mk (by omega) hr40); have HC198 := Aside0.mk (show y194.length ≤ co38 from by omega); clear hr40 hC40 hroom40 hi040 hsz40; have KY40 := Aside0.mk hy40; clear hy40; replace q40 := eq_true q40) | ((with_reducible refine gate_builtin (b := .append) (xs := #[.const (.slice none 0 0), .tmp 30]) rfl ?_); at_builtin; refine Kd.N_append_rows k47 (w0 := w) w.heap.size rfl (.const (.slice none 0 0)) (.tmp 30) 42 47 (.agg #[(.int .i64 0), (.string ⟨#[]⟩), (.slice none 0 0), (.bool false), (.string ⟨#[]⟩)]) 72 rfl Try.underlying42 info47 rfl (by decide) (by omega) (.slice none 0 0) ([] : List (S47)) y194 _ _ _ (fun _ => True) (fun k_ => ((fun _ => True)) k_ ∧ some k_ ≠ (.slice none 0 0 : Value).ownBlock) rfl rfl ?aO ?aR (fun _ hk => hk) ?aF ?aB ?aS ?aL ?_; (case aR => exact (by skip; exact Kd.V_F (Kd.V_mono (ok' := (fun k_ => ((fun _ => True)) k_ ∧ some k_ ≠ (.slice none 0 0 : Value).ownBlock)) (HO198.out) (fun k_ hk => ⟨trivial, (by simp [Value.ownBlock])⟩)))); (case aB => exact (by repeat (first | (with_reducible first | exact HB.out | apply below_alloc | apply pw_below_drewN | apply below_drew1) | exact HB.out))); (case aF => exact (fun _ _ => trivial)); (case aO => exact ((Kd.N_nil _ _ _ _ (fun _ => True)))); (case aS => exact (below_size (by repeat (first | (with_reducible first | exact HB.out | apply below_alloc | apply pw_below_drewN | apply below_drew1) | exact HB.out)))); (case aL => have := LMc8.out; omega); intro v200 w41 ho hb hg hat; rw [← Ny199.out] at ho; have n0_ := Aside0.mk (Kd.N_afterv (Kd.N_apart_nil (by (with_reducible repeat (first | apply Kd.N_alloc | apply Kd.N_drewN | apply Kd.N_drew)); exact HO190.out)) hg hat); have n1_ := Aside0.mk (Kd.V_afterv (Kd.V_apart_nil (by (with_reducible repeat (first | apply Kd.V_alloc | apply Kd.V_drewN | apply Kd.V_drew)); exact HO198.out)) hg hat); have n2_ := Aside0.mk (hb); have n3_ := Aside0.mk (ho); clear HO190; clear HO198; clear HB; have HO190 := n0_; have HO198 := n1_; have HB := n2_; have HO201 := n3_; clear n0_ n1_ n2_ n3_; clear ho hb hg hat; obtain ⟨Ao42, co42, eo42⟩ := Kd.N_slice HO201.out; subst eo42) | ((with_reducible refine gate_callee (f := 18) rfl ?_); refine goesL_ (some 32) rfl rfl Try.func18 (by kernel_rfl) rfl #[.slice Ao42 y199.length co42] rfl (by (try simp only [List.map_toArray, List.map_cons, List.map_nil]); first | done | rfl | (simp only [List.length_drop, List.length_take]; rfl)) ?_; (with_reducible refine (emit_Text.calls k _ _ y199 t202 t203 _ ?side1 ?side2 A9.out).mono ?_); (case side1 => repeat (first | exact (Kd.N_reads' HO201.out).2.2 | (with_reducible refine Kd.C_alloc ?_ _) | (with_reducible refine Kd.C_drewN ?_ _) | (with_reducible refine Kd.C_drew ?_))); (case side2 => exact (Kd.N_reads' HO201.out).2.1); rintro e w43 ⟨rfl, hb⟩; refine ⟨_, rfl, ?_⟩; have n0_ := Aside0.mk (Kd.N_below (by (with_reducible repeat (first | apply Kd.N_alloc | apply Kd.N_drewN | apply Kd.N_drew)); exact HO190.out) hb); have n1_ := Aside0.mk (Kd.V_below (by (with_reducible repeat (first | apply Kd.V_alloc | apply Kd.V_drewN | apply Kd.V_drew)); exact HO198.out) hb); have n2_ := Aside0.mk (Kd.N_below (by (with_reducible repeat (first | apply Kd.N_alloc | apply Kd.N_drewN | apply Kd.N_drew)); exact HO201.out) hb); have n3_ := Aside0.mk (below_step (by repeat (first | (with_reducible first | exact HB.out | apply below_alloc | apply pw_below_drewN | apply below_drew1) | exact HB.out)) hb); clear HO190; clear HO198; clear HO201; clear HB; have HO190 := n0_; have HO198 := n1_; have HO201 := n2_; have HB := n3_; clear n0_ n1_ n2_ n3_; (try clear hb); (try clear hb2); (try clear hk); (try clear hi); have q44 : (t191 : Int) ≤ ((t188.length : Int) : Int) := of_decide_eq_true (by first | (with_reducible assumption) | assumption); obtain ⟨i044, hi044, _, hsz44, _⟩ := info_parts info47; have hroom44 : t188.length ≤ co38 := (Kd.N_reads' HO190.out).2.1; have hC44 : Kd.F k47 _ _ Ao38 t188.length t188 := (Kd.V_at (base := w.heap.size) (Kd.N_V HO190.out)).2.2; have q044 : (0 : Int) ≤ (t191 : Int) := of_decide_eq_true (by first | (with_reducible assumption) | assumption); have hcut44 := cut_from (P := Try.prog) 42 47 .i64 Try.underlying42 hi044 5 hsz44 Ao38 t188.length co38 t191 q044 q44; have hr44 := Kd.F_cut (m := (t191 : Int).toNat) (c := co38) hC44 (by omega) hroom44; obtain ⟨A44, hA44⟩ : ∃ A1, A1 = (if co38 = (t191 : Int).toNat then Ao38 else (Ao38 : Option Addr).map (·.add ((t191 : Int).toNat * 5))) := ⟨_, rfl⟩; obtain ⟨c44, hc44⟩ : ∃ c1, c1 = co38 - (t191 : Int).toNat := ⟨_, rfl⟩; have hy44 : y204.length = t188.length - (t191 : Int).toNat := (by rw [Ny204.out, List.length_drop] <;> omega); rw [show (t188).drop (t191 : Int).toNat = y204 from Ny204.out.symm] at hr44; replace hr44 : Kd.F k47 _ _ A44 y204.length y204 := (by rw [hA44]; exact hr44); rw [← hy44, ← hA44, ← hc44] at hcut44; have HO208 := Aside0.mk (show Kd.V k47 47 _ w.heap.size _ (.slice A44 y204.length c44) y204 from Kd.V_mk (by rw [hy44, hc44]; exact Nat.sub_le_sub_right hroom44 _) hr44); have HC208 := Aside0.mk (show y204.length ≤ c44 from by rw [hy44, hc44]; exact Nat.sub_le_sub_right hroom44 _); clear hr44 hC44 hroom44 hi044 hsz44 hc44; have KY44 := Aside0.mk hy44; have KA44 := Aside0.mk hA44; clear hy44 hA44; replace q44 := eq_true q44) | ((with_reducible refine gate_builtin (b := .append) (xs := #[.const (.slice none 0 0), .tmp 38]) rfl ?_); at_builtin; refine Kd.N_append_rows k47 (w0 := w) w.heap.size rfl (.const (.slice none 0 0)) (.tmp 38) 42 47 (.agg #[(.int .i64 0), (.string ⟨#[]⟩), (.slice none 0 0), (.bool false), (.string ⟨#[]⟩)]) 72 rfl Try.underlying42 info47 rfl (by decide) (by omega) (.slice none 0 0) ([] : List (S47)) y204 _ _ _ (fun k_ => some k_ ≠ (.slice Ao42 y199.length co42 : Value).ownBlock) (fun k_ => ((fun k_ => some k_ ≠ (.slice Ao42 y199.length co42 : Value).ownBlock)) k_ ∧ some k_ ≠ (.slice none 0 0 : Value).ownBlock) rfl rfl ?aO ?aR (fun _ hk => hk) ?aF ?aB ?aS ?aL ?_; (case aR => exact (by skip; exact Kd.V_F (Kd.V_mono (ok' := (fun k_ => ((fun k_ => some k_ ≠ (.slice Ao42 y199.length co42 : Value).ownBlock)) k_ ∧ some k_ ≠ (.slice none 0 0 : Value).ownBlock)) (HO208.out) (fun k_ hk => (by first | exact ⟨hk.2, (by simp [Value.ownBlock])⟩ | grind))))); (case aB => exact (by repeat (first | (with_reducible first | exact HB.out | apply below_alloc | apply pw_below_drewN | apply below_drew1) | exact HB.out))); (case aF => exact (fun k_ hk => Kd.fresh' (Kd.N_lt (by (with_reducible repeat (first | apply Kd.N_alloc | apply Kd.N_drewN | apply Kd.N_drew)); exact HO201.out)) k_ hk)); (case aO => exact ((Kd.N_nil _ _ _ _ (fun k_ => some k_ ≠ (.slice Ao42 y199.length co42 : Value).ownBlock)))); (case aS => exact (below_size (by repeat (first | (with_reducible first | exact HB.out | apply below_alloc | apply pw_below_drewN | apply below_drew1) | exact HB.out)))); (case aL => have := LMc12.out; omega); intro v210 w45 ho hb hg hat; rw [← Ny209.out] at ho; have n0_ := Aside0.mk (Kd.N_afterv (Kd.N_apart_nil (by (with_reducible repeat (first | apply Kd.N_alloc | apply Kd.N_drewN | apply Kd.N_drew)); exact HO190.out)) hg hat); have n1_ := Aside0.mk (Kd.V_afterv (Kd.V_apart_nil (by (with_reducible repeat (first | apply Kd.V_alloc | apply Kd.V_drewN | apply Kd.V_drew)); exact HO198.out)) hg hat); have n2_ := Aside0.mk (Kd.N_afterv (Kd.N_apart_nil (by (with_reducible repeat (first | apply Kd.N_alloc | apply Kd.N_drewN | apply Kd.N_drew)); exact HO201.out)) hg hat); have n3_ := Aside0.mk (Kd.V_afterv (Kd.V_apart_nil (by (with_reducible repeat (first | apply Kd.V_alloc | apply Kd.V_drewN | apply Kd.V_drew)); exact HO208.out)) hg hat); have n4_ := Aside0.mk (hb); have n5_ := Aside0.mk (ho); clear HO190; clear HO198; clear HO201; clear HO208; clear HB; have HO190 := n0_; have HO198 := n1_; have HO201 := n2_; have HO208 := n3_; have HB := n4_; have HO211 := n5_; clear n0_ n1_ n2_ n3_ n4_ n5_; clear ho hb hg hat; obtain ⟨Ao46, co46, eo46⟩ := Kd.N_slice HO211.out; subst eo46) | ((with_reducible refine gate_callee (f := 18) rfl ?_); refine goesL_ (some 40) rfl rfl Try.func18 (by kernel_rfl) rfl #[.slice Ao46 y209.length co46] rfl (by (try simp only [List.map_toArray, List.map_cons, List.map_nil]); first | done | rfl | (simp only [List.length_drop, List.length_take]; rfl)) ?_; (with_reducible refine (emit_Text.calls k _ _ y209 t212 t213 _ ?side1 ?side2 A13.out).mono ?_); (case side1 => repeat (first | exact (Kd.N_reads' HO211.out).2.2 | (with_reducible refine Kd.C_alloc ?_ _) | (with_reducible refine Kd.C_drewN ?_ _) | (with_reducible refine Kd.C_drew ?_))); (case side2 => exact (Kd.N_reads' HO211.out).2.1); rintro e w47 ⟨rfl, hb⟩; refine ⟨_, rfl, ?_⟩; have n0_ := Aside0.mk (Kd.N_below (by (with_reducible repeat (first | apply Kd.N_alloc | apply Kd.N_drewN | apply Kd.N_drew)); exact HO190.out) hb); have n1_ := Aside0.mk (Kd.V_below (by (with_reducible repeat (first | apply Kd.V_alloc | apply Kd.V_drewN | apply Kd.V_drew)); exact HO198.out) hb); have n2_ := Aside0.mk (Kd.N_below (by (with_reducible repeat (first | apply Kd.N_alloc | apply Kd.N_drewN | apply Kd.N_drew)); exact HO201.out) hb); have n3_ := Aside0.mk (Kd.V_below (by (with_reducible repeat (first | apply Kd.V_alloc | apply Kd.V_drewN | apply Kd.V_drew)); exact HO208.out) hb); have n4_ := Aside0.mk (Kd.N_below (by (with_reducible repeat (first | apply Kd.N_alloc | apply Kd.N_drewN | apply Kd.N_drew)); exact HO211.out) hb); have n5_ := Aside0.mk (below_step (by repeat (first | (with_reducible first | exact HB.out | apply below_alloc | apply pw_below_drewN | apply below_drew1) | exact HB.out)) hb); clear HO190; clear HO198; clear HO201; clear HO208; clear HO211; clear HB; have HO190 := n0_; have HO198 := n1_; have HO201 := n2_; have HO208 := n3_; have HO211 := n4_; have HB := n5_; clear n0_ n1_ n2_ n3_ n4_ n5_; (try clear hb); (try clear hb2); (try clear hk); (try clear hi)) | ((with_reducible refine gate_dst (N := 45) rfl ?_); refine Kd.N_lit k47 _ 47 ?hg (N' := 45) ?hd (xs := ([(⟨2, (⟨#[112]⟩ : ByteArray), ([] : List (S63)), false, (⟨#[]⟩ : ByteArray)⟩ : S47)] : List (S47))) (inner := [.int .i64 2, .string (⟨#[112]⟩ : ByteArray), .slice none 0 0, .bool false, .string (⟨#[]⟩ : ByteArray)]) (ok := (fun k_ => some k_ ≠ (.slice Ao38 t188.length co38 : Value).ownBlock ∧ some k_ ≠ (.slice Ao42 y199.length co42 : Value).ownBlock ∧ some k_ ≠ (.slice Ao46 y209.length co46 : Value).ownBlock)) (okp := (fun k_ => some k_ ≠ (.slice Ao38 t188.length co38 : Value).ownBlock ∧ some k_ ≠ (.slice Ao42 y199.length co42 : Value).ownBlock ∧ some k_ ≠ (.slice Ao46 y209.length co46 : Value).ownBlock)) ?hr ?hp (fun _ hk => hk) ((show ∀ k_, w47.heap.size ≤ k_ → (fun k_ => some k_ ≠ (.slice Ao38 t188.length co38 : Value).ownBlock ∧ some k_ ≠ (.slice Ao42 y199.length co42 : Value).ownBlock ∧ some k_ ≠ (.slice Ao46 y209.length co46 : Value).ownBlock) k_ from fun k_ hk => ⟨Kd.fresh' (Kd.N_lt (by (with_reducible repeat (first | apply Kd.N_alloc | apply Kd.N_drewN | apply Kd.N_drew)); exact HO190.out)) k_ hk, Kd.fresh' (Kd.N_lt (by (with_reducible repeat (first | apply Kd.N_alloc | apply Kd.N_drewN | apply Kd.N_drew)); exact HO201.out)) k_ hk, Kd.fresh' (Kd.N_lt (by (with_reducible repeat (first | apply Kd.N_alloc | apply Kd.N_drewN | apply Kd.N_drew)); exact HO211.out)) k_ hk⟩) _ (Nat.le_refl _)) (Below.refl _ _) (Nat.le_refl _) (by simp) ?_; (case hd => rfl); (case hg => rfl); (case hr => first | (go_simp; done) | (go_simp; rfl)); (case hp => exact (Reps.c5 (show Kd.FK k47 _ _ (⟨2, (⟨#[112]⟩ : ByteArray), ([] : List (S63)), false, (⟨#[]⟩ : ByteArray)⟩ : S47) [.int .i64 2, .string (⟨#[112]⟩ : ByteArray), .slice none 0 0, .bool false, .string (⟨#[]⟩ : ByteArray)] from (k47_mkF _ _ (⟨2, (⟨#[112]⟩ : ByteArray), ([] : List (S63)), false, (⟨#[]⟩ : ByteArray)⟩ : S47) (Nat.le_refl _) (Kd.F_nil _ _ _))) (Reps.none _ _))); intro v215 w48 ho49 hb hg_ hnew_; clear hg_ hnew_; (first | rw [← Ny214.out] at ho49 | (simp only [Int.reduceToNat] at ho49; rw [← Ny214.out] at ho49)); have n0_ := Aside0.mk (Kd.N_elder' (by (with_reducible repeat (first | apply Kd.N_alloc | apply Kd.N_drewN | apply Kd.N_drew)); exact HO190.out) (Kd.N_base ho49) hb); have n1_ := Aside0.mk (Kd.V_elder' (by (with_reducible repeat (first | apply Kd.V_alloc | apply Kd.V_drewN | apply Kd.V_drew)); exact HO198.out) (Kd.N_base ho49) hb); have n2_ := Aside0.mk (Kd.N_elder' (by (with_reducible repeat (first | apply Kd.N_alloc | apply Kd.N_drewN | apply Kd.N_drew)); exact HO201.out) (Kd.N_base ho49) hb); have n3_ := Aside0.mk (Kd.V_elder' (by (with_reducible repeat (first | apply Kd.V_alloc | apply Kd.V_drewN | apply Kd.V_drew)); exact HO208.out) (Kd.N_base ho49) hb); have n4_ := Aside0.mk (Kd.N_elder' (by (with_reducible repeat (first | apply Kd.N_alloc | apply Kd.N_drewN | apply Kd.N_drew)); exact HO211.out) (Kd.N_base ho49) hb); have n5_ := Aside0.mk (Kd.N_lower ho49 (below_size (by repeat (first | (with_reducible first | exact HB.out | apply below_alloc | apply pw_below_drewN | apply below_drew1) | exact HB.out)))); have n6_ := Aside0.mk (below_step (by repeat (first | (with_reducible first | exact HB.out | apply below_alloc | apply pw_below_drewN | apply below_drew1) | exact HB.out)) hb); clear HO190; clear HO198; clear HO201; clear HO208; clear HO211; clear HB; have HO190 := n0_; have HO198 := n1_; have HO201 := n2_; have HO208 := n3_; have HO211 := n4_; have HO216 := n5_; have HB := n6_; clear n0_ n1_ n2_ n3_ n4_ n5_ n6_; clear hb ho49; obtain ⟨Ao50, co50, eo50⟩ := Kd.N_slice HO216.out; subst eo50) | ((with_reducible refine gate_callee (f := 18) rfl ?_); refine goesL_ (some 46) rfl rfl Try.func18 (by kernel_rfl) rfl #[.slice Ao50 y214.length co50] rfl (by (try simp only [List.map_toArray, List.map_cons, List.map_nil]); first | done | rfl | (simp only [List.length_drop, List.length_take]; rfl)) ?_; (with_reducible refine (emit_Text.calls k _ _ y214 t217 t218 _ ?side1 ?side2 A14.out).mono ?_); (case side1 => repeat (first | exact (Kd.N_reads' HO216.out).2.2 | (with_reducible refine Kd.C_alloc ?_ _) | (with_reducible refine Kd.C_drewN ?_ _) | (with_reducible refine Kd.C_drew ?_))); (case side2 => exact (Kd.N_reads' HO216.out).2.1); rintro e w51 ⟨rfl, hb⟩; refine ⟨_, rfl, ?_⟩; have n0_ := Aside0.mk (Kd.N_below (by (with_reducible repeat (first | apply Kd.N_alloc | apply Kd.N_drewN | apply Kd.N_drew)); exact HO190.out) hb); have n1_ := Aside0.mk (Kd.V_below (by (with_reducible repeat (first | apply Kd.V_alloc | apply Kd.V_drewN | apply Kd.V_drew)); exact HO198.out) hb); have n2_ := Aside0.mk (Kd.N_below (by (with_reducible repeat (first | apply Kd.N_alloc | apply Kd.N_drewN | apply Kd.N_drew)); exact HO201.out) hb); have n3_ := Aside0.mk (Kd.V_below (by (with_reducible repeat (first | apply Kd.V_alloc | apply Kd.V_drewN | apply Kd.V_drew)); exact HO208.out) hb); have n4_ := Aside0.mk (Kd.N_below (by (with_reducible repeat (first | apply Kd.N_alloc | apply Kd.N_drewN | apply Kd.N_drew)); exact HO211.out) hb); have n5_ := Aside0.mk (Kd.N_below (by (with_reducible repeat (first | apply Kd.N_alloc | apply Kd.N_drewN | apply Kd.N_drew)); exact HO216.out) hb); have n6_ := Aside0.mk (below_step (by repeat (first | (with_reducible first | exact HB.out | apply below_alloc | apply pw_below_drewN | apply below_drew1) | exact HB.out)) hb); clear HO190; clear HO198; clear HO201; clear HO208; clear HO211; clear HO216; clear HB; have HO190 := n0_; have HO198 := n1_; have HO201 := n2_; have HO208 := n3_; have HO211 := n4_; have HO216 := n5_; have HB := n6_; clear n0_ n1_ n2_ n3_ n4_ n5_ n6_; (try clear hb); (try clear hb2); (try clear hk); (try clear hi)))
            go_ret
            exact ⟨by first | rfl | (simp [errW_none, errW_some] <;> rfl) | (simp [*, errW_none, errW_some] <;> rfl), by repeat (first | (with_reducible first | exact HB.out | apply below_alloc | apply pw_below_drewN | apply below_drew1) | exact HB.out)⟩
           ·
            rw [if_neg c36] at H
            exact absurd H (by simp)
          ·
           rw [if_neg c35] at H
           exact absurd H (by simp)
         ·
          rw [if_neg c34] at H
          exact absurd H (by simp)
        ·
         rw [if_neg c33] at H
         exact absurd H (by simp)
       ·
        rw [if_neg c32] at H
        exact absurd H (by simp)
      ·
       rw [if_neg c31] at H
       exact absurd H (by simp)
    ·
     rw [if_neg c12] at H
     exact absurd H (by simp)
   ·
    rw [if_neg c8] at H
    exact absurd H (by simp)
  ·
   rw [if_neg c7] at H
   exact absurd H (by simp)
 ·
  rw [if_neg c6] at H
  exact absurd H (by simp)
/-- THE ONE PURE STATEMENT of bobbinetkeep_EmitParts: yours. -/
def bobbinetkeep_EmitParts.Pure : Prop := ∀ (l0 : List Int) (a1 : Int), l0.length ≤ maxLen → l0.length * 8 ≤ 140737488351232 → (∀ x ∈ l0, (Lit.int .i64 x).wf = true) → (Lit.int .i64 a1).wf = true → ∃ k, bobbinetkeep_EmitParts.f k l0 a1 = some true
theorem bobbinetkeep_EmitParts.walk (P : bobbinetkeep_EmitParts.Pure) (a0 : Option Addr) (len0 cap0 : Nat) (z0 : List Int) (a1 : Int) (w : World) (w0 : (a0 = none ∧ len0 = 0 ∧ cap0 = 0 ∧ z0 = []) ∨ ∃ x, a0 = some x ∧ len0 ≤ cap0 ∧ cap0 ≤ maxLen ∧ z0.length = cap0 ∧ (∀ i, i < z0.length → w.cell? (x.add i) = some (.int .i64 (z0.getD i 0))) ∧ ∀ n ∈ z0, (Lit.int .i64 n).wf = true) (y0 : len0 * 8 ≤ 140737488351232) (w1 : (Lit.int .i64 a1).wf = true) :
  Calls Try.prog 7 #[.slice a0 len0 cap0, .int .i64 a1] w fun e w' => e = .returned (.bool true) ∧ Below w.heap.size w w' := by
 obtain ⟨l0, rfl, hr0, hm0, hw0, hc0⟩ := ReadsInt.ofRowC w0
 obtain ⟨k, h⟩ := P l0 a1 hm0 y0 hw0 w1
 refine (bobbinetkeep_EmitParts.calls k _ _ l0 a1 true w (Kd.C_of_reads (d := (0 : Int)) (h1 := fun _ => rfl) hr0) hc0 h).mono ?_
 rintro e w' ⟨rfl, hd⟩
 exact ⟨rfl, hd⟩
end Go.Proofs.Ytjmhihadgpdiaaa.X
end
section
namespace Go.Proofs.Ytjmhihadgpdiaaa.Base
open Go.RowKit Go.Proofs.YtjmhihadgpdiaaaW.PrintWords
theorem toList_loop (s : ByteArray) : ∀ (n i : Nat) (r : List UInt8), s.size - i = n → ByteArray.toList.loop s i r = r.reverse ++ s.data.toList.drop i
  | 0, i, r, h => by
    unfold ByteArray.toList.loop
    have h1 : s.data.toList.drop i = [] := List.drop_eq_nil_of_le (by rw [Array.length_toList]; show s.size ≤ i; omega)
    rw [if_neg (by omega), h1, List.append_nil]
  | n + 1, i, r, h => by
    unfold ByteArray.toList.loop
    have hi : i < s.size := by omega
    have hl : i < s.data.toList.length := by rw [Array.length_toList]; exact hi
    have hg : s.get! i = s.data.toList[i] := by
      obtain ⟨d⟩ := s
      show d[i]! = _
      rw [getElem!_pos d i hi]
      simp
    rw [if_pos hi, toList_loop s n (i + 1) _ (by omega), hg, List.drop_eq_getElem_cons hl, List.reverse_cons, List.append_assoc]
    rfl
theorem toList_eq (s : ByteArray) : s.toList = s.data.toList := by
  unfold ByteArray.toList
  rw [toList_loop s _ 0 [] rfl]
  rfl
theorem toList_inj {s t : ByteArray} : s.toList = t.toList ↔ s = t := by
  rw [toList_eq, toList_eq]
  constructor
  · intro h
    exact ByteArray.ext (Array.toList_inj.1 h)
  · rintro rfl; rfl
theorem toList_nil {s : ByteArray} : s.toList = ([] : List UInt8) ↔ s = (⟨#[]⟩ : ByteArray) := by
  rw [toList_eq]
  constructor
  · intro h
    apply ByteArray.ext
    exact Array.toList_inj.1 h
  · rintro rfl; rfl
theorem Ev.ite_pos {α : Type} {c : Prop} [Decidable c] {g f : Nat → Option α} {r : α} (h : c) (k : Ev g r) : Ev (fun n => if c then g n else f n) r := by
  simpa only [if_pos h] using k
theorem Ev.ite_neg {α : Type} {c : Prop} [Decidable c] {g f : Nat → Option α} {r : α} (h : ¬ c) (k : Ev f r) : Ev (fun n => if c then g n else f n) r := by
  simpa only [if_neg h] using k
theorem Ev.some {α : Type} (r : α) : Ev (fun _ => Option.some r) r := ⟨0, fun _ _ => rfl⟩
/-- one round: what is told of k + 1 rounds -/
theorem Ev.one {α : Type} {g f : Nat → Option α} {r : α} (h : ∀ k, g (k + 1) = f k) (k : Ev f r) : Ev g r := by
  obtain ⟨K, hK⟩ := k
  refine ⟨K + 1, fun k hk => ?_⟩
  obtain ⟨m, rfl⟩ : ∃ m, k = m + 1 := ⟨k - 1, by omega⟩
  rw [h m]
  exact hK m (by omega)
theorem Ev.bnd {α β : Type} {g : Nat → Option α} {f : Nat → α → Option β} {a : α} {r : β} (h : Ev g a) (k : Ev (fun n => f n a) r) : Ev (fun n => (g n).bind (f n)) r := by
  obtain ⟨K, hK⟩ := h
  obtain ⟨L, hL⟩ := k
  refine ⟨K + L, fun n hn => ?_⟩
  show (g n).bind (f n) = _
  rw [hK n (by omega)]
  exact hL n (by omega)
theorem Ev.bnd0 {α β : Type} {g : Option α} {f : Nat → α → Option β} {a : α} {r : β} (h : g = Option.some a) (k : Ev (fun n => f n a) r) : Ev (fun n => g.bind (f n)) r := by
  subst h
  exact k
theorem wrap_id {i : Int} (h0 : -9223372036854775808 ≤ i) (h1 : i ≤ 9223372036854775807) : wrap64 i = i := by unfold wrap64; omega
theorem wrap_succ {i : Nat} {n : Nat} (h : i < n) (hn : n ≤ 9223372036854775807) : wrap64 ((i : Int) + 1) = ((i + 1 : Nat) : Int) := by unfold wrap64; omega
end Go.Proofs.Ytjmhihadgpdiaaa.Base
end
section
namespace Go.Proofs.Ytjmhihadgpdiaaa.Toks
open Go.RowKit Go.Proofs.Ytjmhihadgpdiaaa.X Go.Proofs.YtjmhihadgpdiaaaW.PrintWords Go.Proofs.YtjmhihadgpdiaaaW.PrintLast Go.Proofs.Ytjmhihadgpdiaaa.Base
set_option linter.unusedVariables false
set_option linter.unusedSimpArgs false
abbrev T := S47
abbrev nil : ByteArray := (⟨#[]⟩ : ByteArray)
abbrev names := bobbinetkeep_Tokens.names
abbrev texts := bobbinetkeep_Tokens.texts
abbrev vals := bobbinetkeep_Tokens.vals
abbrev cls : ByteArray := (⟨#[99, 108, 97, 115, 115]⟩ : ByteArray)
abbrev hrf : ByteArray := (⟨#[104, 114, 101, 102]⟩ : ByteArray)
theorem Ev.succ {α : Type} {g : Nat → Option α} {r : α} (h : Ev (fun k => g (k + 1)) r) : Ev g r := Ev.one (f := fun k => g (k + 1)) (fun _ => rfl) h
theorem Ev.of_mono {α : Type} {g : Nat → Option α} (h : ∀ k, LeO (g k) (g (k + 1))) (k : Nat) {r : α} (hk : g k = some r) : Ev g r := Ev.of h hk
theorem rd_mid (pre : List T) (d : T) (suf : List T) : rd_T47 (pre ++ d :: suf) (pre.length : Int) = d := by
  simp [rd_T47, List.getD]
theorem getD_mem {α : Type} (d : α) (l : List α) (i : Nat) (h : i < l.length) : l.getD i d ∈ l := by simp [List.getD, h]
def AttrsOk (a : List S63) : Prop := a = [] ∨ (∃ v ∈ vals, a = [(⟨cls, v⟩ : S63)]) ∨ (∃ v ∈ vals, ∃ u ∈ vals, a = [(⟨cls, v⟩ : S63), (⟨hrf, u⟩ : S63)])
/-- what each of them is like -/
def TokOk (t : T) : Prop := (t.f0 = 2 ∧ t.f1 ∈ names ∧ t.f2 = [] ∧ t.f3 = false ∧ t.f4 = nil) ∨ (t.f0 = 3 ∧ t.f1 = nil ∧ t.f2 = [] ∧ t.f3 = false ∧ t.f4 ∈ texts) ∨ (t.f0 = 1 ∧ t.f1 ∈ names ∧ AttrsOk t.f2 ∧ t.f4 = nil)
theorem mod_lt (x : Int) (n : Nat) (h : 0 < n) : (x % (n : Int)).toNat < n := by
  have h1 := Int.emod_nonneg x (show (n : Int) ≠ 0 by omega)
  have h2 := Int.emod_lt_of_pos x (show (0 : Int) < n by omega)
  omega
theorem name_mem (a : Int) : bobbinetkeep_Tokens.nameOf a ∈ names := getD_mem _ _ _ (mod_lt _ 5 (by omega))
theorem text_mem (a : Int) : bobbinetkeep_Tokens.textOf a ∈ texts := getD_mem _ _ _ (mod_lt _ 7 (by omega))
theorem val_mem (x : Int) : vals.getD (x % 6).toNat ByteArray.empty ∈ vals := getD_mem _ _ _ (mod_lt _ 6 (by omega))
theorem attrs_mem (a : Int) : AttrsOk (bobbinetkeep_Tokens.attrs a) := by
  have h : bobbinetkeep_Tokens.many a < 3 := mod_lt _ 3 (by omega)
  unfold bobbinetkeep_Tokens.attrs
  have h2 : bobbinetkeep_Tokens.many a = 0 ∨ bobbinetkeep_Tokens.many a = 1 ∨ bobbinetkeep_Tokens.many a = 2 := by omega
  rcases h2 with e | e | e <;> rw [e]
  · exact .inl rfl
  · exact .inr (.inl ⟨_, val_mem _, rfl⟩)
  · exact .inr (.inr ⟨_, val_mem _, _, val_mem _, rfl⟩)
theorem tok_ok (a : Int) : TokOk (bobbinetkeep_Tokens.tok a) ∧ ((bobbinetkeep_Tokens.tok a).f0 = 3 → a % 4 = 1) := by
  unfold bobbinetkeep_Tokens.tok
  by_cases h0 : a % 4 = 0
  · rw [if_pos h0]
    exact ⟨.inl ⟨rfl, name_mem a, rfl, rfl, rfl⟩, fun h => by simp at h⟩
  rw [if_neg h0]
  by_cases h1 : a % 4 = 1
  · rw [if_pos h1]
    exact ⟨.inr (.inl ⟨rfl, rfl, rfl, rfl, text_mem a⟩), fun _ => h1⟩
  rw [if_neg h1]
  by_cases h2 : a % 4 = 2
  · rw [if_pos h2]
    exact ⟨.inr (.inr ⟨rfl, name_mem a, attrs_mem a, rfl⟩), fun h => by simp at h⟩
  rw [if_neg h2]
  exact ⟨.inr (.inr ⟨rfl, name_mem a, .inl rfl, rfl⟩), fun h => by simp at h⟩
/-- a list of tokens, or a part of one -/
def Ok (l : List T) : Prop := ∀ (pre suf : List T) (n : T), l = pre ++ n :: suf → TokOk n ∧ (n.f0 = 3 → ∀ p : T, pre.getLast? = some p → p.f0 ≠ 3)
theorem Ok.take {a b : List T} (h : Ok (a ++ b)) : Ok a := by
  intro pre suf n e
  subst e
  exact h pre (suf ++ b) n (by simp)
theorem Ok.drop {a b : List T} (h : Ok (a ++ b)) : Ok b := by
  intro pre suf n e
  subst e
  have := h (a ++ pre) suf n (by simp)
  refine ⟨this.1, fun h0 p hp => this.2 h0 p ?_⟩
  rw [List.getLast?_append, hp]
  rfl
theorem Ok.nil : Ok [] := by
  intro pre suf n e
  simp at e
theorem Ok.snoc {l : List T} {x : T} (h : Ok l) (hx : TokOk x) (h3 : x.f0 = 3 → ∀ p : T, l.getLast? = some p → p.f0 ≠ 3) : Ok (l ++ [x]) := by
  intro pre suf n e
  rcases List.eq_nil_or_concat suf with h4 | ⟨i, p, h4⟩
  · subst h4
    have h5 := List.append_inj' e rfl
    obtain ⟨rfl, h6⟩ := h5
    obtain rfl : x = n := by simpa using h6
    exact ⟨hx, h3⟩
  · have h4 : suf = i ++ [p] := by simpa using h4
    subst h4
    have h5 := List.append_inj' (show l ++ [x] = (pre ++ n :: i) ++ [p] by simpa using e) rfl
    exact h pre i n h5.1
theorem text3_no {l : List T} (h : ¬ bobbinetkeep_Tokens.text3 l = true) : ∀ p : T, l.getLast? = some p → p.f0 ≠ 3 := by
  intro p hp e
  apply h
  rcases List.eq_nil_or_concat l with h4 | ⟨i, q, h4⟩
  · subst h4; simp at hp
  · have h4 : l = i ++ [q] := by simpa using h4
    subst h4
    simp at hp
    subst hp
    unfold bobbinetkeep_Tokens.text3
    rw [if_neg (by simp), show (((i ++ [q]).length : Int) - 1) = (i.length : Int) by simp, rd_mid]
    simpa using e
theorem go_ok (m : Nat) : ∀ (l : List Int) (acc : List T), Ok acc → acc.length ≤ m → Ok (bobbinetkeep_Tokens.go m l acc) ∧ (bobbinetkeep_Tokens.go m l acc).length ≤ m := by
  intro l
  induction l with
  | nil => intro acc h1 h2; exact ⟨h1, h2⟩
  | cons a l ih =>
    intro acc h1 h2
    unfold bobbinetkeep_Tokens.go
    by_cases hn : (acc.length : Int) < m
    · rw [if_pos hn]
      have hk := tok_ok a
      by_cases h4 : a % 4 = 1
      · rw [if_pos h4]
        by_cases h3 : bobbinetkeep_Tokens.text3 acc = true
        · rw [if_pos h3]; exact ih acc h1 h2
        · rw [if_neg h3]
          exact ih _ (h1.snoc hk.1 (fun _ => text3_no h3)) (by simp; omega)
      · rw [if_neg h4]
        exact ih _ (h1.snoc hk.1 (fun h => absurd (hk.2 h) h4)) (by simp; omega)
    · rw [if_neg hn]
      exact ⟨h1, h2⟩
theorem tokens_f (k : Nat) (l : List Int) (m : Nat) (hm : m ≤ 1000000) : ∃ ts, bobbinetkeep_Tokens.f k l (m : Int) = some ts ∧ Ok ts ∧ ts.length ≤ m :=
  ⟨_, if_pos (by omega), (go_ok m l [] Ok.nil (Nat.zero_le _)).1, (go_ok m l [] Ok.nil (Nat.zero_le _)).2⟩
end Go.Proofs.Ytjmhihadgpdiaaa.Toks
end
