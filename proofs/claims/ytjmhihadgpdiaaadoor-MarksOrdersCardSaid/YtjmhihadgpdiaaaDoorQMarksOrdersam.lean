/- Parts of the proof of MarksOrders that are needed, put together by pack.py. -/
import Derived.Test.YtjmhihadgpdiaaaDoorQMarksOrdersaf
import Derived.Test.YtjmhihadgpdiaaaDoorQMarksOrdersai
import Derived.Test.YtjmhihadgpdiaaaDoorQMarksOrdersal
import Derived.Test.YtjmhihadgpdiaaaDoorQMarksOrdersak
import Derived.Test.YtjmhihadgpdiaaaDoorQMarksOrdersag
import Derived.Test.YtjmhihadgpdiaaaDoorQMarksOrdersaa
section
namespace Go.Proofs.YtjmhihadgpdiaaaDoor.X
open Go.RowKit Go.Proofs.YtjmhihadgpdiaaaDoorW.PrintWords Go.Proofs.YtjmhihadgpdiaaaDoorW.PrintLast Go.Proofs.YtjmhihadgpdiaaaDoorW.PrintMore
attribute [local go_sem] max2_int min2_int max_two min_two max_three min_three max_four min_four   -- for this text's walks alone
set_option linter.unusedVariables false
set_option linter.unusedSimpArgs false
/-- the runs of nodes, behind those that are there -/
def marks_flat.fl (ms : List ByteArray) : Nat → List S49 → List S40 → List ByteArray → Option (List S40)
  | 0, _, _, _ => none
  | _ + 1, [], out, _ => some out
  | k + 1, n :: l, out, ws =>
    if n.f0.toList = ([] : List UInt8) then (if n.f1.length = 0 ∧ n.f3.length = 0 ∧ out.length < 3518437208883 then marks_flat.fl ms k l (out ++ [⟨n.f2, ws⟩]) ws else none)
    else if n.f1.length = 0 ∧ n.f2.toList = ([] : List UInt8) ∧ slices_Contains_string_string.f k ms n.f0 = some true ∧ ws.length < 8796093022207 then
      (marks_flat.fl ms k n.f3 [] (ws ++ [n.f0])).bind fun ps => if out.length + ps.length < 3518437208883 then marks_flat.fl ms k l (out ++ ps) ws else none
    else none
def marks_flat.f (k : Nat) (l0 : List ByteArray) (l1 : List S49) (l2 : List ByteArray) : Option (List S40 × Int) := if l2.length = 0 then (marks_flat.fl l0 k l1 [] []).map (fun r => (r, 0)) else none
theorem marks_flat.drop (l : List S49) (i : Nat) (h : i < l.length) : l.drop i = rd_T49 l (i : Int) :: l.drop (i + 1) := by
  rw [List.drop_eq_getElem_cons h]
  simp [rd_T49, List.getD, h]
theorem marks_flat.packL {P : Program} {ops : Array Oper} {Q : Exit → Act → World → Prop} {rest : List Oper} {a : Act} {W : World} (F : World → Prop) (h1 : F W) (h : ∀ W', F W' → wpList P ops Q rest a W') : wpList P ops Q rest a W := h W h1
theorem marks_flat.pack {P : Program} {c : Code} {Q : Exit → Act → World → Prop} {a : Act} {W : World} (F : World → Prop) (h1 : F W) (h : ∀ W', F W' → Code.wp P c Q a W') : Code.wp P c Q a W := h W h1
theorem marks_flat.litF (W : World) (x : ByteArray) : Kd.F Kd.string (W.alloc (.cells #[.string x] 9 (0, 0))) (fun k => k = W.heap.size) (some ⟨W.heap.size, 0, none⟩) 1 [x] := fun W' hW => by
  have hb : W'.heap[W.heap.size]? = some (.cells #[.string x] 9 (0, 0)) := (hW _ rfl (by simp)).trans (blk_new W _)
  refine ⟨rfl, by simp, fun _ => ⟨⟨W.heap.size, 0, none⟩, rfl, fun j p hj => ?_⟩⟩
  obtain ⟨rfl, rfl⟩ : j = 0 ∧ x = p := by
    cases j with
    | zero => exact ⟨rfl, by simpa using hj⟩
    | succ j => simp at hj
  refine ⟨[.string x], rfl, rfl, fun i u hi => ?_⟩
  have h2 := blk_cell hb i
  have e : (⟨W.heap.size, 0, none⟩ : Addr).add (0 * Kd.string.sz + i) = ⟨W.heap.size, i, none⟩ := by simp [Addr.add]; omega
  rw [e, h2]
  simpa using hi
set_option maxHeartbeats 8000000 in
set_option maxRecDepth 100000 in
theorem marks_flat.go (k : Nat) : ∀ (P : Nat → Prop) (A0 : Option Addr) (c0 : Nat) (l0 : List ByteArray) (A1 : Option Addr) (c1 : Nat) (l1 : List S49) (A2 : Option Addr) (c2 : Nat) (l2 : List ByteArray) (r : List S40) (w : World)
    (_ : Kd.C Kd.string w A0 l0.length l0) (_ : l0.length ≤ c0) (_ : Kd.C k49 w A1 l1.length l1) (_ : l1.length ≤ c1) (_ : Kd.F Kd.string w P A2 l2.length l2) (_ : l2.length ≤ c2) (_ : marks_flat.fl l0 k l1 [] l2 = some r),
    Calls Tryd.prog 22 #[.slice A0 l0.length c0, .slice A1 l1.length c1, .slice A2 l2.length c2] w fun e w' => ∃ v0_ : Value, e = .returned (.tuple #[v0_, .int .i64 0]) ∧ Kd.V k40 40 w' w.heap.size (fun k_ => P k_ ∨ w.heap.size ≤ k_) v0_ r ∧ Below w.heap.size w w' := by
  induction k using Nat.strongRecOn with
  | _ k ih =>
  intro P A0 c0 l0 A1 c1 l1 A2 c2 l2 r w hr0 hc0 hr1 hc1 hF hc2 h
  have IH := Aside0.mk ih
  have HR0 := Aside0.mk hr0
  have HC0 := Aside0.mk hc0
  have HR1 := Aside0.mk hr1
  have HC1 := Aside0.mk hc1
  have HF := Aside0.mk (Kd.F_bound hF)
  have HC2 := Aside0.mk hc2
  have H := Aside0.mk h
  have HB := Aside0.mk (Below.refl w.heap.size w)
  clear ih hr0 hc0 hr1 hc1 hF hc2 h
  go_enter Tryd.func22, Tryd.ntmps22
  go_wp2
  go_loopw [8, 15] (fun v8 v15 wr => ∃ (i : Nat) (out : List S40) (kq : Nat), v15 = .int .i64 (i : Int) ∧ Aside0 (i ≤ l1.length) ∧ Aside0 (kq ≤ k) ∧ Aside0 (marks_flat.fl l0 kq (l1.drop i) out l2 = some r) ∧ Aside0 (Kd.N k40 40 wr w.heap.size (fun k_ => P k_ ∨ w.heap.size ≤ k_) v8 out) ∧ Aside0 (Below w.heap.size w wr)) (fun _ v15 _ => l1.length - (intOf v15).toNat)
  case atStart => exact ⟨0, [], k, rfl, ⟨Nat.zero_le _⟩, ⟨Nat.le_refl _⟩, H, ⟨Kd.N_nil _ _ _ _ _⟩, HB⟩
  case round =>
    clear HB H
    obtain ⟨i, out, kq, rfl, HI, HK, HA, HO, HB⟩ := hrel
    obtain ⟨Ao, co, rfl⟩ := Kd.N_slice HO.out
    by_cases hi : i < l1.length
    · cases kq with
      | zero => exact absurd HA.out (by simp [marks_flat.fl])
      | succ kq =>
      have hA := HA.out
      rw [marks_flat.drop l1 i hi, marks_flat.fl] at hA
      clear HA
      have hlt : decide ((i : Int) < (l1.length : Int)) = true := decide_eq_true (by omega)
      have hi0 : (0 : Int) ≤ (i : Int) := by omega
      have hi1 : (i : Int) < (l1.length : Int) := by omega
      obtain ⟨ad, A4, c4, A5, c5, eA, hx0, hx1, hx2, hx3, hl4, hC4, hl5, hC5⟩ := at_T49 (Kd.C_below HR1.out HB.out) (i : Int) hi0 hi1
      subst eA
      rw [Int.toNat_natCast] at hx0 hx1 hx2 hx3
      obtain ⟨nd, hnd⟩ : ∃ n, rd_T49 l1 (i : Int) = n := ⟨_, rfl⟩
      rw [hnd] at hA hx0 hx1 hx2 hx3 hl4 hC4 hl5 hC5
      have hw : wrap64 ((i : Int) + 1) = ((i + 1 : Nat) : Int) := by have := HR1.out.2.1; unfold wrap64; omega
      have HII := Aside0.mk hi
      have HL5 := Aside0.mk hl5
      have HC5 := Aside0.mk hC5
      clear hi hnd hl4 hC4 hl5 hC5
      by_cases hn : nd.f0.toList = ([] : List UInt8)
      · rw [if_pos hn] at hA
        by_cases h3 : nd.f1.length = 0 ∧ nd.f3.length = 0 ∧ out.length < 3518437208883
        · rw [if_pos h3] at hA
          obtain ⟨h31, h33, h3l⟩ := h3
          have HA := Aside0.mk hA
          have HL := Aside0.mk h3l
          have hn0 : (nd.f0.toList == ([] : List UInt8)) = true := beq_iff_eq.mpr hn
          have d1 : decide ((0 : Int) < (nd.f1.length : Int)) = false := decide_eq_false (by omega)
          have d1n : decide (0 < nd.f1.length) = false := decide_eq_false (by omega)
          have d3 : decide ((0 : Int) < (nd.f3.length : Int)) = false := decide_eq_false (by omega)
          have d3n : decide (0 < nd.f3.length) = false := decide_eq_false (by omega)
          clear hA h31 h33 h3l hn
          go_wp2_with (first
            | ((with_reducible refine gate_dst (N := 19) rfl ?_); refine marks_flat.packL (fun W => W.heap[wr.heap.size]? = some (.cells #[.string nd.f0, .slice A4 nd.f1.length c4, .string nd.f2, .slice A5 nd.f3.length c5] 49 (0, 0)) ∧ Below wr.heap.size wr W) ⟨blk_new _ _, below_alloc (Below.refl _ _) _⟩ ?_; rintro w4 ⟨bk, hb4⟩; have hx0 := (blk_cell bk 0).trans rfl; have hx1 := (blk_cell bk 1).trans rfl; have hx2 := (blk_cell bk 2).trans rfl; have hx3 := (blk_cell bk 3).trans rfl; replace HO := Aside0.mk (Kd.N_below HO.out hb4); replace HB := Aside0.mk (HB.out.trans (hb4.mono HB.out.size)); clear hb4 bk)
            | (at_builtin; refine Kd.N_append k40 (w0 := w) w.heap.size rfl (.tmp 32) (.tmp 37) 29 40 (.agg #[.string ⟨#[]⟩, .slice none 0 0]) 40 rfl Tryd.underlying29 info40 rfl (by decide) (by omega) (.slice Ao out.length co) out (⟨nd.f2, l2⟩ : S40) [.string nd.f2, .slice A2 l2.length c2] (fun k_ => P k_ ∨ w.heap.size ≤ k_) (fun k_ => P k_ ∧ k_ < w.heap.size) rfl rfl ?aP ?aK ?aF ?aO ?aB ?aS ?aL ?_; (case aP => exact k40_mkF _ _ _ HC2.out (Kd.F_below HF.out HB.out)); (case aK => exact fun k_ hk => ⟨.inl hk.1, fun e_ => by have := Kd.N_base HO.out k_ e_.symm; omega⟩); (case aF => exact fun k_ hk => .inr (Nat.le_trans HB.out.size hk)); (case aO => exact HO.out); (case aB => exact HB.out); (case aS => exact HB.out.size); (case aL => have := HL.out; omega); intro v9 w9 ho hb hg hat; have HO2 := Aside0.mk ho; have HB2 := Aside0.mk hb; clear ho hb hg hat))
          exact ⟨⟨i + 1, out ++ [⟨nd.f2, l2⟩], kq, congrArg (Value.int .i64) hw, ⟨by have := HII.out; omega⟩, ⟨by have := HK.out; omega⟩, HA, HO2, HB2⟩, by rw [hw]; have := HII.out; simp [intOf]; omega⟩
        · rw [if_neg h3] at hA
          cases hA
      · rw [if_neg hn] at hA
        by_cases h3 : nd.f1.length = 0 ∧ nd.f2.toList = ([] : List UInt8) ∧ slices_Contains_string_string.f kq l0 nd.f0 = some true ∧ l2.length < 8796093022207
        · rw [if_pos h3] at hA
          obtain ⟨ps, hp, hA⟩ := Option.bind_eq_some_iff.1 hA
          by_cases h4 : out.length + ps.length < 3518437208883
          · rw [if_pos h4] at hA
            obtain ⟨h31, h32, h33, h34⟩ := h3
            have HA := Aside0.mk hA
            obtain ⟨l3, hl3⟩ : ∃ l3, l2 ++ [nd.f0] = l3 := ⟨_, rfl⟩
            rw [hl3] at hp
            have HL3 := Aside0.mk hl3
            have HP := Aside0.mk hp
            have HL := Aside0.mk h4
            have HCT := Aside0.mk h33
            have HW := Aside0.mk h34
            have hn0 : (nd.f0.toList == ([] : List UInt8)) = false := beq_eq_false_iff_ne.mpr hn
            have d1 : decide ((0 : Int) < (nd.f1.length : Int)) = false := decide_eq_false (by omega)
            have d1n : decide (0 < nd.f1.length) = false := decide_eq_false (by omega)
            have d2e : nd.f2.toList.isEmpty = true := by rw [h32]; rfl
            have d2 : (nd.f2.toList != ([] : List UInt8)) = false := bne_eq_false_iff_eq.mpr h32
            clear hl3 hA hp h4 h31 h32 h33 h34 hn
            go_wp2_with (first
              | ((with_reducible refine gate_dst (N := 19) rfl ?_); refine marks_flat.packL (fun W => W.heap[wr.heap.size]? = some (.cells #[.string nd.f0, .slice A4 nd.f1.length c4, .string nd.f2, .slice A5 nd.f3.length c5] 49 (0, 0)) ∧ Below wr.heap.size wr W) ⟨blk_new _ _, below_alloc (Below.refl _ _) _⟩ ?_; rintro w4 ⟨bk, hb4⟩; have hx0 := (blk_cell bk 0).trans rfl; have hx1 := (blk_cell bk 1).trans rfl; have hx2 := (blk_cell bk 2).trans rfl; have hx3 := (blk_cell bk 3).trans rfl; have BK := Aside0.mk bk; replace HO := Aside0.mk (Kd.N_below HO.out hb4); replace HC5 := Aside0.mk (Kd.C_below HC5.out hb4); replace HB := Aside0.mk (HB.out.trans (hb4.mono HB.out.size)); clear hb4 bk)
              | (go_at_call 27; (with_reducible refine (slices_Contains_string_string.calls kq _ _ l0 nd.f0 true _ ?side1 HC0.out HCT.out).mono ?_); (case side1 => exact Kd.C_below HR0.out HB.out); rintro e w' ⟨rfl, ⟨⟨dn, rfl⟩⟩⟩))
            refine marks_flat.pack (fun W => W.heap[wr.heap.size]? = some (.cells #[.string nd.f0, .slice A4 nd.f1.length c4, .string nd.f2, .slice A5 nd.f3.length c5] 49 (0, 0)) ∧ Below w4.heap.size w4 W) ⟨by with_reducible (repeat (first | exact BK.out | refine blk_alloc ?_ _ | refine blk_drew ?_ | refine blk_drewN ?_ _)), by repeat (first | exact Below.refl _ _ | apply below_alloc | apply pw_below_drewN | apply below_drew1)⟩ ?_
            rintro w5 ⟨bk, hb5⟩
            have hy0 := (blk_cell bk 0).trans rfl
            have hy3 := (blk_cell bk 3).trans rfl
            replace HO := Aside0.mk (Kd.N_below HO.out hb5)
            replace HC5 := Aside0.mk (Kd.C_below HC5.out hb5)
            replace HB := Aside0.mk (HB.out.trans (hb5.mono HB.out.size))
            clear hb5 bk hx0 hx1 hx2 hx3 BK d1 d1n d2 d2e hn0
            generalize wr.heap.size = g10 at hy0 hy3 ⊢
            go_region_held3 (fun w' => w'.cell? ⟨g10, 0, none⟩ = some (.string nd.f0) ∧ w'.cell? ⟨g10, 3, none⟩ = some (.slice A5 nd.f3.length c5))
              (first | go_keep | exact ⟨(Below.cell (w := w5) (B := w5.heap.size) (by with_reducible repeat (first | exact HB3.out | exact HB2.out | exact HB1.out | exact Below.refl _ _ | apply below_alloc | apply pw_below_drewN | apply below_drew1)) (World.block_lt_of_cell? _ _ hy0)).trans hy0, (Below.cell (w := w5) (B := w5.heap.size) (by with_reducible repeat (first | exact HB3.out | exact HB2.out | exact HB1.out | exact Below.refl _ _ | apply below_alloc | apply pw_below_drewN | apply below_drew1)) (World.block_lt_of_cell? _ _ hy3)).trans hy3⟩)
              (first
                | (go_at_call 32; (with_reducible refine (slices_Clone_string_string.calls _ _ l2 l2 _ ?side1 HC2.out ?side3).mono ?_); (case side1 => exact Kd.F_now (Kd.F_below HF.out (by with_reducible repeat (first | exact HB.out | apply below_alloc | apply pw_below_drewN | apply below_drew1)))); (case side3 => exact if_pos (by have := HW.out; omega)); rintro e w1 ⟨v1, rfl, ho1, hb1⟩; have HB1 : Aside0 (Below w5.heap.size w5 w1) := ⟨Below.trans (by with_reducible repeat (first | exact Below.refl _ _ | apply below_alloc | apply pw_below_drewN | apply below_drew1)) (hb1.mono (below_size (by with_reducible repeat (first | exact Below.refl _ _ | apply below_alloc | apply pw_below_drewN | apply below_drew1))))⟩; have HO1 := Aside0.mk ho1; have HB11 := Aside0.mk hb1; clear ho1 hb1)
                | (refine Kd.N_append_rows_step Kd.string (w0 := w5) w5.heap.size (by kernel_rfl) (.tmp 58) (.tmp 61) 23 9 (.string ⟨#[]⟩) 16 rfl Tryd.underlying23 info9 rfl (by decide) (by omega) v1 l2 [nd.f0] (some ⟨_, 0, none⟩) 1 1 (fun k_ => w5.heap.size ≤ k_) ?okp rfl rfl ?aO ?aR ?aK ?aF ?aB ?aS ?aL ?_; (case okp => exact (fun k_ => w5.heap.size ≤ k_ ∧ some k_ ≠ v1.ownBlock)); (case aK => exact fun _ hk => hk); (case aF => exact fun k_ hk => Nat.le_trans (below_size (by with_reducible repeat (first | exact HB1.out | apply below_alloc | apply pw_below_drewN | apply below_drew1))) hk); (case aO => exact Kd.N_below (Kd.R_N (Kd.R_mono (Kd.R_bound (Kd.R_lower HO1.out (below_size (by with_reducible repeat (first | exact Below.refl _ _ | apply below_alloc | apply pw_below_drewN | apply below_drew1))))) (fun k_ hk => hk.2.1))) (by with_reducible repeat (first | exact Below.refl _ _ | apply below_alloc | apply pw_below_drewN | apply below_drew1))); (case aR => first | exact Kd.F_mono (by with_reducible (repeat (first | exact marks_flat.litF _ _ | apply Kd.F_drewN | apply Kd.F_drew))) (fun k_ hk => ⟨by subst hk; exact HB1.out.size, fun e_ => by subst hk; exact absurd (Kd.R_lt HO1.out _ e_.symm) (Nat.lt_irrefl _)⟩) | exact Kd.F_mono (Kd.F_below (by with_reducible (repeat (first | exact marks_flat.litF _ _ | apply Kd.F_drewN | apply Kd.F_drew))) HB11.out) (fun k_ hk => ⟨by subst hk; exact below_size (by with_reducible repeat (first | exact Below.refl _ _ | apply below_alloc | apply pw_below_drewN | apply below_drew1)), fun e_ => by subst hk; exact absurd (Kd.R_base HO1.out _ e_.symm) (by simp)⟩)); (case aB => with_reducible repeat (first | exact HB1.out | apply below_alloc | apply pw_below_drewN | apply below_drew1)); (case aS => exact below_size (by with_reducible repeat (first | exact HB1.out | apply below_alloc | apply pw_below_drewN | apply below_drew1))); (case aL => have := HW.out; omega); intro v2 w2 ho2 hb2 hg2 hat2; rw [HL3.out] at ho2; have HB2 := Aside0.mk hb2; obtain ⟨A6, c6, rfl⟩ := Kd.N_slice ho2; have HO2 := Aside0.mk ho2; clear ho2 hb2 hg2 hat2)
                | (go_at_call 22; (with_reducible refine (IH.out kq ?lt (fun k_ => w5.heap.size ≤ k_) _ _ l0 _ _ nd.f3 _ _ l3 ps _ ?side1 HC0.out ?side3 HL5.out ?side5 ?side6 HP.out).mono ?_); (case lt => have := HK.out; omega); (case side1 => exact Kd.C_below HR0.out (HB.out.trans (HB2.out.mono HB.out.size))); (case side3 => exact Kd.C_below HC5.out HB2.out); (case side5 => exact Kd.N_F HO2.out); (case side6 => exact (Kd.N_reads' HO2.out).2.1); rintro e w3 ⟨v3, rfl, ho3, hb3⟩; have HB3 : Aside0 (Below w5.heap.size w5 w3) := ⟨HB2.out.trans (hb3.mono HB2.out.size)⟩; obtain ⟨A7, c7, rfl⟩ := Kd.V_slice ho3; have HO3 := Aside0.mk (Kd.V_mono ho3 (ok' := fun k_ => w5.heap.size ≤ k_) (fun k_ hk => hk.elim id (fun hk => Nat.le_trans HB2.out.size hk))); clear ho3 hb3))
            all_goals (
              go_wp2_with (first
                | (at_builtin; refine Kd.N_append_rows k40 (w0 := w) w.heap.size rfl (.tmp 69) (.tmp 70) 29 40 (.agg #[.string ⟨#[]⟩, .slice none 0 0]) 40 rfl Tryd.underlying29 info40 rfl (by decide) (by omega) (.slice Ao out.length co) out ps A7 ps.length c7 (fun k_ => P k_ ∨ w.heap.size ≤ k_) (fun k_ => w5.heap.size ≤ k_) rfl rfl ?aO ?aR ?aK ?aF ?aB ?aS ?aL ?_; (case aR => exact (Kd.V_at HO3.out).2.2); (case aK => exact fun k_ hk => ⟨.inr (Nat.le_trans HB.out.size hk), fun e_ => by have := Kd.N_lt HO.out k_ e_.symm; omega⟩); (case aF => exact fun k_ hk => .inr (Nat.le_trans (HB.out.trans (HB3.out.mono HB.out.size)).size hk)); (case aO => exact Kd.N_below HO.out HB3.out); (case aB => exact HB.out.trans (HB3.out.mono HB.out.size)); (case aS => exact (HB.out.trans (HB3.out.mono HB.out.size)).size); (case aL => have := HL.out; omega); intro v9 w9 ho hb hg hat; have HO9 := Aside0.mk ho; have HB9 := Aside0.mk hb; clear ho hb hg hat))
              exact ⟨⟨i + 1, out ++ ps, kq, congrArg (Value.int .i64) hw, ⟨by have := HII.out; omega⟩, ⟨by have := HK.out; omega⟩, HA, HO9, HB9⟩, by rw [hw]; have := HII.out; simp [intOf]; omega⟩)
          · rw [if_neg h4] at hA
            cases hA
        · rw [if_neg h3] at hA
          cases hA
    · have hlt : decide ((i : Int) < (l1.length : Int)) = false := decide_eq_false (by omega)
      have hA := HA.out
      rw [List.drop_eq_nil_of_le (by omega)] at hA
      cases kq with
      | zero => exact absurd hA (by simp [marks_flat.fl])
      | succ kq =>
      rw [marks_flat.fl] at hA
      cases hA
      go_wp2
      go_ret2
      exact ⟨_, rfl, Kd.N_V HO.out, HB.out⟩
theorem marks_flat.calls (k : Nat) (A0 : Option Addr) (c0 : Nat) (l0 : List ByteArray) (A1 : Option Addr) (c1 : Nat) (l1 : List S49) (A2 : Option Addr) (c2 : Nat) (l2 : List ByteArray) (r1 : List S40) (r2 : Int) (w : World) (hr0 : Kd.C Kd.string w A0 l0.length l0) (hc0 : l0.length ≤ c0) (hr1 : Kd.C k49 w A1 l1.length l1) (hc1 : l1.length ≤ c1) (hr2 : Kd.C Kd.string w A2 l2.length l2) (hc2 : l2.length ≤ c2) (h : marks_flat.f k l0 l1 l2 = some (r1, r2)) :
    Calls Tryd.prog 22 #[.slice A0 l0.length c0, .slice A1 l1.length c1, .slice A2 l2.length c2] w fun e w' => ∃ v0_ : Value, e = .returned (.tuple #[v0_, .int .i64 r2]) ∧ Kd.V k40 40 w' w.heap.size (fun k_ => w.heap.size ≤ k_) v0_ r1 ∧ Below w.heap.size w w' := by
  unfold marks_flat.f at h
  by_cases h0 : l2.length = 0
  · rw [if_pos h0] at h
    obtain ⟨x, e1, e2⟩ := Option.map_eq_some_iff.1 h
    simp only [Prod.mk.injEq] at e2
    obtain ⟨rfl, rfl⟩ := e2
    obtain rfl : l2 = [] := List.length_eq_zero_iff.1 h0
    refine (marks_flat.go k (fun _ => False) A0 c0 l0 A1 c1 l1 A2 c2 [] x w hr0 hc0 hr1 hc1 (fun W' _ => ⟨rfl, by simp, fun hz => absurd hz (by simp)⟩) hc2 e1).mono ?_
    rintro e w' ⟨v, rfl, hv, hb⟩
    exact ⟨v, rfl, Kd.V_mono hv (fun k_ hk => hk.elim False.elim id), hb⟩
  · rw [if_neg h0] at h
    cases h
end Go.Proofs.YtjmhihadgpdiaaaDoor.X
end
section
namespace Go.Proofs.YtjmhihadgpdiaaaDoor.X
open Go.RowKit Go.Proofs.YtjmhihadgpdiaaaDoorW.PrintWords Go.Proofs.YtjmhihadgpdiaaaDoorW.PrintLast Go.Proofs.YtjmhihadgpdiaaaDoorW.PrintMore
attribute [local go_sem] max2_int min2_int max_two min_two max_three min_three max_four min_four   -- for this text's walks alone
set_option linter.unusedVariables false
set_option linter.unusedSimpArgs false
def marks_Flat.f (k : Nat) (l0 : List ByteArray) (l1 : List (S49)) : Option ((List (S40)) × Int) := (marks_Check.f k l0).bind fun t255 => (if t255 = 0 then ((marks_flat.f k l0 l1 ([] : List ByteArray)).bind fun bt256 => (if bt256.2 = 0 then ((marks_Norm.f k l0 bt256.1).bind fun bt260 => (some (bt260.1, bt260.2))) else (some (([] : List (S40)), bt256.2)))) else (some (([] : List (S40)), t255)))
set_option maxHeartbeats 8000000 in
set_option maxRecDepth 100000 in
theorem marks_Flat.calls (k : Nat) (A0 : Option Addr) (c0 : Nat) (l0 : List ByteArray) (A1 : Option Addr) (c1 : Nat) (l1 : List (S49)) (r1 : List (S40)) (r2 : Int) (w : World) (hr0 : Kd.C Kd.string w A0 l0.length l0) (hc0 : l0.length ≤ c0) (hr1 : Kd.C k49 w A1 l1.length l1) (hc1 : l1.length ≤ c1) (hG_ : Glob w) (h : marks_Flat.f k l0 l1 = some (r1, r2)) :
    Calls Tryd.prog 14 #[.slice A0 l0.length c0, .slice A1 l1.length c1] w fun e w' => ∃ v0_ : Value, e = .returned (.tuple #[v0_, .int .i64 r2]) ∧ Kd.S k40 40 w' w.heap.size (fun _ => True) v0_ r1 ∧ Below w.heap.size w w' := by
  have HG_ := Aside0.mk hG_
  clear hG_
  have HR0 := Aside0.mk hr0
  have HC0 := Aside0.mk hc0
  clear hr0 hc0
  have HR1 := Aside0.mk hr1
  have HC1 := Aside0.mk hc1
  clear hr1 hc1
  have HB := Aside0.mk (Below.refl w.heap.size w)
  have H : ((marks_Check.f k l0).bind fun t255 => (if t255 = 0 then ((marks_flat.f k l0 l1 ([] : List ByteArray)).bind fun bt256 => (if bt256.2 = 0 then ((marks_Norm.f k l0 bt256.1).bind fun bt260 => (some (bt260.1, bt260.2))) else (some (([] : List (S40)), bt256.2)))) else (some (([] : List (S40)), t255)))) = some (r1, r2) := h
  clear h
  replace H := Option.bind_eq_some_iff.mp H
  obtain ⟨t255, A30, H⟩ := H
  replace H : (if t255 = 0 then ((marks_flat.f k l0 l1 ([] : List ByteArray)).bind fun bt256 => (if bt256.2 = 0 then ((marks_Norm.f k l0 bt256.1).bind fun bt260 => (some (bt260.1, bt260.2))) else (some (([] : List (S40)), bt256.2)))) else (some (([] : List (S40)), t255))) = some (r1, r2) := H
  have A3 := Aside0.mk A30
  clear A30
  by_cases c4 : t255 = 0
  · rw [if_pos c4] at H
    have c4b0 : (t255 == 0) = true := beq_iff_eq.mpr c4
    have c4b1 : (t255 != 0) = false := bne_eq_false_iff_eq.mpr c4
    clear c4
    replace H := Option.bind_eq_some_iff.mp H
    obtain ⟨⟨t256, t259⟩, A50, H⟩ := H
    replace H : (if t259 = 0 then ((marks_Norm.f k l0 t256).bind fun bt260 => (some (bt260.1, bt260.2))) else (some (([] : List (S40)), t259))) = some (r1, r2) := H
    have A5 := Aside0.mk A50
    clear A50
    by_cases c6 : t259 = 0
    · rw [if_pos c6] at H
      have c6b0 : (t259 == 0) = true := beq_iff_eq.mpr c6
      have c6b1 : (t259 != 0) = false := bne_eq_false_iff_eq.mpr c6
      clear c6
      replace H := Option.bind_eq_some_iff.mp H
      obtain ⟨⟨t260, t261⟩, A70, H⟩ := H
      replace H : (some (t260, t261)) = some (r1, r2) := H
      have A7 := Aside0.mk A70
      clear A70
      simp only [Option.some.injEq, Prod.mk.injEq] at H
      obtain ⟨rfl, rfl⟩ := H
      go_enter Tryd.func14, Tryd.ntmps14
      go_wp2_with (first | ((with_reducible refine gate_callee (f := 21) rfl ?_); refine goesL_ (some 10) rfl rfl Tryd.func21 (by kernel_rfl) rfl #[.slice A0 l0.length c0] rfl (by (try simp only [List.map_toArray, List.map_cons, List.map_nil]); first | done | rfl | (simp only [List.length_drop, List.length_take]; rfl)) ?_; (with_reducible refine (marks_Check.calls k _ _ l0 t255 _ ?side1 ?side2 (Glob.below HG_.out (by repeat (first | (with_reducible first | exact HB.out | apply below_alloc | apply pw_below_drewN | apply below_drew1) | exact HB.out))) A3.out).mono ?_); (case side1 => repeat (first | exact HR0.out | (with_reducible refine Kd.C_alloc ?_ _) | (with_reducible refine Kd.C_drewN ?_ _) | (with_reducible refine Kd.C_drew ?_))); (case side2 => exact HC0.out); rintro e w8 ⟨rfl, hb⟩; refine ⟨_, rfl, ?_⟩; have n0_ := Aside0.mk (below_step (by repeat (first | (with_reducible first | exact HB.out | apply below_alloc | apply pw_below_drewN | apply below_drew1) | exact HB.out)) hb); clear HB; have HB := n0_; clear n0_; (try clear hb); (try clear hb2); (try clear hk); (try clear hi)) | ((with_reducible refine gate_callee (f := 22) rfl ?_); refine goesL_ (some 17) rfl rfl Tryd.func22 (by kernel_rfl) rfl #[.slice A0 l0.length c0, .slice A1 l1.length c1, .slice none 0 0] rfl (by (try simp only [List.map_toArray, List.map_cons, List.map_nil]); first | done | rfl | (simp only [List.length_drop, List.length_take]; rfl)) ?_; (refine (marks_flat.calls k _ _ l0 _ _ l1 _ _ ([] : List ByteArray) t256 t259 _ ?side1 ?side2 ?side3 ?side4 ?side5 ?side6 A5.out).mono ?_); (case side1 => repeat (first | exact (Kd.C_below HR0.out HB.out) | (with_reducible refine Kd.C_alloc ?_ _) | (with_reducible refine Kd.C_drewN ?_ _) | (with_reducible refine Kd.C_drew ?_))); (case side2 => exact HC0.out); (case side3 => repeat (first | exact (Kd.C_below HR1.out HB.out) | (with_reducible refine Kd.C_alloc ?_ _) | (with_reducible refine Kd.C_drewN ?_ _) | (with_reducible refine Kd.C_drew ?_))); (case side4 => exact HC1.out); (case side5 => exact Kd.C_nil _ _); (case side6 => exact Nat.le_refl _); rintro e w9 ⟨v257, rfl, ho0, hb⟩; refine ⟨_, rfl, ?_⟩; have n0_ := Aside0.mk (Kd.V_lower (Kd.V_mono (ok' := fun k_ => True) ho0 (fun k_ hk_ => trivial)) (below_size (by repeat (first | (with_reducible first | exact HB.out | apply below_alloc | apply pw_below_drewN | apply below_drew1) | exact HB.out)))); have n1_ := Aside0.mk (below_step (by repeat (first | (with_reducible first | exact HB.out | apply below_alloc | apply pw_below_drewN | apply below_drew1) | exact HB.out)) hb); clear HB; have HO258 := n0_; have HB := n1_; clear n0_ n1_; (try clear hb); (try clear hb2); (try clear hk); (try clear hi); (try clear ho0); obtain ⟨Ao10, co10, eo10⟩ := Kd.V_slice HO258.out; subst eo10) | ((with_reducible refine gate_callee (f := 12) rfl ?_); refine goesL_ (some 25) rfl rfl Tryd.func12 (by kernel_rfl) rfl #[.slice A0 l0.length c0, .slice Ao10 t256.length co10] rfl (by (try simp only [List.map_toArray, List.map_cons, List.map_nil]); first | done | rfl | (simp only [List.length_drop, List.length_take]; rfl)) ?_; (with_reducible refine (marks_Norm.calls k _ _ l0 _ _ t256 t260 t261 _ ?side1 ?side2 ?side3 ?side4 (Glob.below HG_.out (by repeat (first | (with_reducible first | exact HB.out | apply below_alloc | apply pw_below_drewN | apply below_drew1) | exact HB.out))) A7.out).mono ?_); (case side1 => repeat (first | exact (Kd.C_below HR0.out HB.out) | (with_reducible refine Kd.C_alloc ?_ _) | (with_reducible refine Kd.C_drewN ?_ _) | (with_reducible refine Kd.C_drew ?_))); (case side2 => exact HC0.out); (case side3 => repeat (first | exact (Kd.V_reads' HO258.out).2.2 | (with_reducible refine Kd.C_alloc ?_ _) | (with_reducible refine Kd.C_drewN ?_ _) | (with_reducible refine Kd.C_drew ?_))); (case side4 => exact (Kd.V_reads' HO258.out).2.1); rintro e w11 ⟨v262, rfl, ho0, hb⟩; refine ⟨_, rfl, ?_⟩; have n0_ := Aside0.mk (Kd.V_elder' (by (with_reducible repeat (first | apply Kd.V_alloc | apply Kd.V_drewN | apply Kd.V_drew)); exact HO258.out) (Kd.S_base ho0) hb); have n1_ := Aside0.mk (Kd.S_lower ho0 (below_size (by repeat (first | (with_reducible first | exact HB.out | apply below_alloc | apply pw_below_drewN | apply below_drew1) | exact HB.out)))); have n2_ := Aside0.mk (below_step (by repeat (first | (with_reducible first | exact HB.out | apply below_alloc | apply pw_below_drewN | apply below_drew1) | exact HB.out)) hb); clear HO258; clear HB; have HO258 := n0_; have HO263 := n1_; have HB := n2_; clear n0_ n1_ n2_; (try clear hb); (try clear hb2); (try clear hk); (try clear hi); (try clear ho0)))
      go_ret2
      exact ⟨_, by first | rfl | (simp [errW_none, errW_some] <;> rfl) | (simp [*, errW_none, errW_some] <;> rfl), by (with_reducible repeat (first | apply Kd.S_alloc | apply Kd.S_drewN | apply Kd.S_drew)); exact HO263.out, by repeat (first | (with_reducible first | exact HB.out | apply below_alloc | apply pw_below_drewN | apply below_drew1) | exact HB.out)⟩
    · rw [if_neg c6] at H
      have c6b0 : (t259 == 0) = false := beq_eq_false_iff_ne.mpr c6
      have c6b1 : (t259 != 0) = true := bne_iff_ne.mpr c6
      simp only [Option.some.injEq, Prod.mk.injEq] at H
      obtain ⟨rfl, rfl⟩ := H
      go_enter Tryd.func14, Tryd.ntmps14
      go_wp2_with (first | ((with_reducible refine gate_callee (f := 21) rfl ?_); refine goesL_ (some 10) rfl rfl Tryd.func21 (by kernel_rfl) rfl #[.slice A0 l0.length c0] rfl (by (try simp only [List.map_toArray, List.map_cons, List.map_nil]); first | done | rfl | (simp only [List.length_drop, List.length_take]; rfl)) ?_; (with_reducible refine (marks_Check.calls k _ _ l0 t255 _ ?side1 ?side2 (Glob.below HG_.out (by repeat (first | (with_reducible first | exact HB.out | apply below_alloc | apply pw_below_drewN | apply below_drew1) | exact HB.out))) A3.out).mono ?_); (case side1 => repeat (first | exact HR0.out | (with_reducible refine Kd.C_alloc ?_ _) | (with_reducible refine Kd.C_drewN ?_ _) | (with_reducible refine Kd.C_drew ?_))); (case side2 => exact HC0.out); rintro e w12 ⟨rfl, hb⟩; refine ⟨_, rfl, ?_⟩; have n0_ := Aside0.mk (below_step (by repeat (first | (with_reducible first | exact HB.out | apply below_alloc | apply pw_below_drewN | apply below_drew1) | exact HB.out)) hb); clear HB; have HB := n0_; clear n0_; (try clear hb); (try clear hb2); (try clear hk); (try clear hi)) | ((with_reducible refine gate_callee (f := 22) rfl ?_); refine goesL_ (some 17) rfl rfl Tryd.func22 (by kernel_rfl) rfl #[.slice A0 l0.length c0, .slice A1 l1.length c1, .slice none 0 0] rfl (by (try simp only [List.map_toArray, List.map_cons, List.map_nil]); first | done | rfl | (simp only [List.length_drop, List.length_take]; rfl)) ?_; (refine (marks_flat.calls k _ _ l0 _ _ l1 _ _ ([] : List ByteArray) t256 t259 _ ?side1 ?side2 ?side3 ?side4 ?side5 ?side6 A5.out).mono ?_); (case side1 => repeat (first | exact (Kd.C_below HR0.out HB.out) | (with_reducible refine Kd.C_alloc ?_ _) | (with_reducible refine Kd.C_drewN ?_ _) | (with_reducible refine Kd.C_drew ?_))); (case side2 => exact HC0.out); (case side3 => repeat (first | exact (Kd.C_below HR1.out HB.out) | (with_reducible refine Kd.C_alloc ?_ _) | (with_reducible refine Kd.C_drewN ?_ _) | (with_reducible refine Kd.C_drew ?_))); (case side4 => exact HC1.out); (case side5 => exact Kd.C_nil _ _); (case side6 => exact Nat.le_refl _); rintro e w13 ⟨v257, rfl, ho0, hb⟩; refine ⟨_, rfl, ?_⟩; have n0_ := Aside0.mk (Kd.V_lower (Kd.V_mono (ok' := fun k_ => True) ho0 (fun k_ hk_ => trivial)) (below_size (by repeat (first | (with_reducible first | exact HB.out | apply below_alloc | apply pw_below_drewN | apply below_drew1) | exact HB.out)))); have n1_ := Aside0.mk (below_step (by repeat (first | (with_reducible first | exact HB.out | apply below_alloc | apply pw_below_drewN | apply below_drew1) | exact HB.out)) hb); clear HB; have HO258 := n0_; have HB := n1_; clear n0_ n1_; (try clear hb); (try clear hb2); (try clear hk); (try clear hi); (try clear ho0)))
      go_ret2
      exact ⟨_, by first | rfl | (simp [errW_none, errW_some] <;> rfl) | (simp [*, errW_none, errW_some] <;> rfl), by first | exact Kd.S_nil _ _ _ _ _ | exact Kd.N_nil _ _ _ _ _ | exact Kd.V_nil _ _ _ _ _ | exact Kd.Q_nil _ _ _ _ _ | exact Kd.R_nil _ _ _ _ _, by repeat (first | (with_reducible first | exact HB.out | apply below_alloc | apply pw_below_drewN | apply below_drew1) | exact HB.out)⟩
  · rw [if_neg c4] at H
    have c4b0 : (t255 == 0) = false := beq_eq_false_iff_ne.mpr c4
    have c4b1 : (t255 != 0) = true := bne_iff_ne.mpr c4
    simp only [Option.some.injEq, Prod.mk.injEq] at H
    obtain ⟨rfl, rfl⟩ := H
    go_enter Tryd.func14, Tryd.ntmps14
    go_wp2_with (first | ((with_reducible refine gate_callee (f := 21) rfl ?_); refine goesL_ (some 10) rfl rfl Tryd.func21 (by kernel_rfl) rfl #[.slice A0 l0.length c0] rfl (by (try simp only [List.map_toArray, List.map_cons, List.map_nil]); first | done | rfl | (simp only [List.length_drop, List.length_take]; rfl)) ?_; (with_reducible refine (marks_Check.calls k _ _ l0 t255 _ ?side1 ?side2 (Glob.below HG_.out (by repeat (first | (with_reducible first | exact HB.out | apply below_alloc | apply pw_below_drewN | apply below_drew1) | exact HB.out))) A3.out).mono ?_); (case side1 => repeat (first | exact HR0.out | (with_reducible refine Kd.C_alloc ?_ _) | (with_reducible refine Kd.C_drewN ?_ _) | (with_reducible refine Kd.C_drew ?_))); (case side2 => exact HC0.out); rintro e w14 ⟨rfl, hb⟩; refine ⟨_, rfl, ?_⟩; have n0_ := Aside0.mk (below_step (by repeat (first | (with_reducible first | exact HB.out | apply below_alloc | apply pw_below_drewN | apply below_drew1) | exact HB.out)) hb); clear HB; have HB := n0_; clear n0_; (try clear hb); (try clear hb2); (try clear hk); (try clear hi)))
    go_ret2
    exact ⟨_, by first | rfl | (simp [errW_none, errW_some] <;> rfl) | (simp [*, errW_none, errW_some] <;> rfl), by first | exact Kd.S_nil _ _ _ _ _ | exact Kd.N_nil _ _ _ _ _ | exact Kd.V_nil _ _ _ _ _ | exact Kd.Q_nil _ _ _ _ _ | exact Kd.R_nil _ _ _ _ _, by repeat (first | (with_reducible first | exact HB.out | apply below_alloc | apply pw_below_drewN | apply below_drew1) | exact HB.out)⟩
end Go.Proofs.YtjmhihadgpdiaaaDoor.X
end
section
namespace Go.Proofs.YtjmhihadgpdiaaaDoor.X
open Go.RowKit Go.Proofs.YtjmhihadgpdiaaaDoorW.PrintWords Go.Proofs.YtjmhihadgpdiaaaDoorW.PrintLast Go.Proofs.YtjmhihadgpdiaaaDoorW.PrintMore
attribute [local go_sem] max2_int min2_int max_two min_two max_three min_three max_four min_four   -- for this text's walks alone
set_option linter.unusedVariables false
set_option linter.unusedSimpArgs false
mutual
def bobbinetkeep_sameRuns.l0 : Nat → List (S40) → List (S40) → Int → Option (Bool)
  | 0, _, _, _ => none
  | k + 1, x0, x1, x5 => if x5 < (x0.length : Int) then (if 0 ≤ x5 then (if x5 < (x1.length : Int) then (if ((rd_T40 x0 x5).f0).toList = ((rd_T40 x1 x5).f0).toList then (bobbinetkeep_sameRuns.j1 k x0 x1 x5 ((((rd_T40 x0 x5).f1).length : Int) != (((rd_T40 x1 x5).f1).length : Int))) else (bobbinetkeep_sameRuns.j1 k x0 x1 x5 true)) else (none)) else (none)) else (some true)
def bobbinetkeep_sameRuns.j1 : Nat → List (S40) → List (S40) → Int → Bool → Option (Bool)
  | 0, _, _, _, _ => none
  | k + 1, x0, x1, x5, x43 => if x43 = true then (some false) else (bobbinetkeep_sameRuns.l1 k x0 x1 x5 0)
def bobbinetkeep_sameRuns.l1 : Nat → List (S40) → List (S40) → Int → Int → Option (Bool)
  | 0, _, _, _, _ => none
  | k + 1, x0, x1, x5, x6 => if 0 ≤ x5 then (if x5 < (x0.length : Int) then (if x6 < (((rd_T40 x0 x5).f1).length : Int) then (if 0 ≤ x6 then (if x5 < (x1.length : Int) then (if x6 < (((rd_T40 x1 x5).f1).length : Int) then (if (rdOf ByteArray.empty ((rd_T40 x0 x5).f1) x6).toList = (rdOf ByteArray.empty ((rd_T40 x1 x5).f1) x6).toList then (bobbinetkeep_sameRuns.l1 k x0 x1 x5 (wrap64 (x6 + 1))) else (some false)) else (none)) else (none)) else (none)) else (bobbinetkeep_sameRuns.l0 k x0 x1 (wrap64 (x5 + 1)))) else (none)) else (none)
end
def bobbinetkeep_sameRuns.f (k : Nat) (l0 : List (S40)) (l1 : List (S40)) : Option (Bool) := if (l0.length : Int) = (l1.length : Int) then (bobbinetkeep_sameRuns.l0 k l0 l1 0) else (some false)
set_option maxHeartbeats 8000000 in
set_option maxRecDepth 100000 in
theorem bobbinetkeep_sameRuns.calls (k : Nat) (A0 : Option Addr) (c0 : Nat) (l0 : List (S40)) (A1 : Option Addr) (c1 : Nat) (l1 : List (S40)) (r : Bool) (w : World) (hr0 : Kd.C k40 w A0 l0.length l0) (hc0 : l0.length ≤ c0) (hr1 : Kd.C k40 w A1 l1.length l1) (hc1 : l1.length ≤ c1) (h : bobbinetkeep_sameRuns.f k l0 l1 = some r) :
    Calls Tryd.prog 15 #[.slice A0 l0.length c0, .slice A1 l1.length c1] w fun e w' => e = .returned (.bool r) ∧ Drawn0 w w' := by
  have HR0 := Aside0.mk hr0
  have HC0 := Aside0.mk hc0
  clear hr0 hc0
  have HR1 := Aside0.mk hr1
  have HC1 := Aside0.mk hc1
  clear hr1 hc1
  have H : (if (l0.length : Int) = (l1.length : Int) then (bobbinetkeep_sameRuns.l0 k l0 l1 0) else (some false)) = some r := h
  clear h
  by_cases c3 : (l0.length : Int) = (l1.length : Int)
  · rw [if_pos c3] at H
    have c3b0 : ((l0.length : Int) == (l1.length : Int)) = true := beq_iff_eq.mpr c3
    have c3b1 : ((l0.length : Int) != (l1.length : Int)) = false := bne_eq_false_iff_eq.mpr c3
    have c3b2 : (l0.length == l1.length) = true := by first | simpa using c3 | (simp at c3 ⊢; omega)
    clear c3
    have H' := Aside0.mk H
    clear H
    go_enter Tryd.func15, Tryd.ntmps15
    go_wp2
    repeat (go_quiet (fail); try go_wp2)
    go_loopg [5] k (fun kq v5 w' => ∃ (x5_1 : Int), v5 = .int .i64 x5_1 ∧ Aside0 (bobbinetkeep_sameRuns.l0 kq l0 l1 x5_1 = some r) ∧ Aside0 (kq ≤ k) ∧ Drawn0 w w')
    case atStart => exact ⟨(0), (by first | rfl | (simp; done) | (simp [*]; done) | (simp [bne]; done)), H', ⟨Nat.le_refl _⟩, by repeat (first | exact Drawn0.refl _ | apply Drawn0.step)⟩
    case round =>
      clear H'
      try clear c1
      try clear p2
      try clear c3
      try clear c3b0
      try clear c3b1
      try clear c3b2
      obtain ⟨x5_1, rfl, HA, HK1, ⟨m1, rfl⟩⟩ := hrel
      cases gk with
      | zero => exact absurd HA.out (by simp [bobbinetkeep_sameRuns.l0])
      | succ k1 =>
        have H := HA.out
        clear HA
        simp only [bobbinetkeep_sameRuns.l0] at H
        by_cases c4 : x5_1 < (l0.length : Int)
        · rw [if_pos c4] at H
          have c4b0 : decide (x5_1 < (l0.length : Int)) = true := decide_eq_true c4
          clear c4
          have HC5 := Aside0.mk H
          clear H
          go_upto_region 6 with (fail)
          repeat (go_quiet (fail); go_upto_region 6 with (fail))
          go_cut [43] (fun v43 wc => ∃ (kq : Nat) (x43_4 : Bool), v43 = .bool x43_4 ∧ Aside0 (bobbinetkeep_sameRuns.j1 kq l0 l1 x5_1 x43_4 = some r) ∧ Aside0 (kq ≤ k1) ∧ Drawn0 w wc)
          case first =>
            have H := HC5.out
            clear HC5
            by_cases c6 : 0 ≤ x5_1
            · rw [if_pos c6] at H
              have c6b0 : decide (0 ≤ x5_1) = true := decide_eq_true c6
              clear c6
              (first | rw [c6b0] | (simp only [i64_w, i32_w]; rw [c6b0]) | rw [c6b1] | skip)
              by_cases c7 : x5_1 < (l1.length : Int)
              · rw [if_pos c7] at H
                have c7b0 : decide (x5_1 < (l1.length : Int)) = true := decide_eq_true c7
                clear c7
                by_cases c8 : ((rd_T40 l0 x5_1).f0).toList = ((rd_T40 l1 x5_1).f0).toList
                · rw [if_pos c8] at H
                  have c8b0 : (((rd_T40 l0 x5_1).f0).toList == ((rd_T40 l1 x5_1).f0).toList) = true := beq_iff_eq.mpr c8
                  have c8b1 : (((rd_T40 l0 x5_1).f0).toList != ((rd_T40 l1 x5_1).f0).toList) = false := bne_eq_false_iff_eq.mpr c8
                  clear c8
                  have H' := Aside0.mk H
                  clear H
                  have p264 : 0 ≤ (x5_1 : Int) := of_decide_eq_true (by first | (with_reducible assumption) | assumption)
                  have q264 : x5_1 < (l0.length : Int) := of_decide_eq_true (by first | (with_reducible assumption) | assumption)
                  obtain ⟨ad264, A264_1, c264_1, e264, hx264_0, hx264_1, hl264_1, hi264_1⟩ := at_T40 HR0.out x5_1 p264 q264
                  cases e264
                  have HR264_1 := Aside0.mk hi264_1
                  have HC264_1 := Aside0.mk hl264_1
                  clear hi264_1 hl264_1
                  replace p264 := eq_true p264
                  replace q264 := eq_true q264
                  have p265 : 0 ≤ (x5_1 : Int) := of_decide_eq_true (by first | (with_reducible assumption) | assumption)
                  have q265 : x5_1 < (l1.length : Int) := of_decide_eq_true (by first | (with_reducible assumption) | assumption)
                  obtain ⟨ad265, A265_1, c265_1, e265, hx265_0, hx265_1, hl265_1, hi265_1⟩ := at_T40 HR1.out x5_1 p265 q265
                  cases e265
                  have HR265_1 := Aside0.mk hi265_1
                  have HC265_1 := Aside0.mk hl265_1
                  clear hi265_1 hl265_1
                  replace p265 := eq_true p265
                  replace q265 := eq_true q265
                  have p266 : 0 ≤ (x5_1 : Int) := of_decide_eq_true (by first | (with_reducible assumption) | assumption)
                  have q266 : x5_1 < (l0.length : Int) := of_decide_eq_true (by first | (with_reducible assumption) | assumption)
                  obtain ⟨ad266, A266_1, c266_1, e266, hx266_0, hx266_1, hl266_1, hi266_1⟩ := at_T40 HR0.out x5_1 p266 q266
                  obtain rfl : ad264 = ad266 := (by injection e266)
                  have HR266_1 := Aside0.mk hi266_1
                  have HC266_1 := Aside0.mk hl266_1
                  clear hi266_1 hl266_1
                  replace p266 := eq_true p266
                  replace q266 := eq_true q266
                  have ea_ := Option.some.inj (hx264_1.symm.trans hx266_1)
                  injection ea_ with ea_ en_ ec_
                  subst ea_
                  subst ec_
                  clear en_
                  have p267 : 0 ≤ (x5_1 : Int) := of_decide_eq_true (by first | (with_reducible assumption) | assumption)
                  have q267 : x5_1 < (l1.length : Int) := of_decide_eq_true (by first | (with_reducible assumption) | assumption)
                  obtain ⟨ad267, A267_1, c267_1, e267, hx267_0, hx267_1, hl267_1, hi267_1⟩ := at_T40 HR1.out x5_1 p267 q267
                  obtain rfl : ad265 = ad267 := (by injection e267)
                  have HR267_1 := Aside0.mk hi267_1
                  have HC267_1 := Aside0.mk hl267_1
                  clear hi267_1 hl267_1
                  replace p267 := eq_true p267
                  replace q267 := eq_true q267
                  have ea_ := Option.some.inj (hx265_1.symm.trans hx267_1)
                  injection ea_ with ea_ en_ ec_
                  subst ea_
                  subst ec_
                  clear en_
                  go_wp2
                  repeat (go_quiet (fail); try go_wp2)
                  go_meet
                  case rel => exact ⟨_, (((((rd_T40 l0 x5_1).f1).length : Int) != (((rd_T40 l1 x5_1).f1).length : Int))), (by first | rfl | (simp; done) | (simp [*]; done) | (simp [bne]; done)), H', ⟨by have := HK1.out; first | omega | exact Nat.le_refl _⟩, by repeat (first | exact Drawn0.refl _ | apply Drawn0.step)⟩
                · rw [if_neg c8] at H
                  have c8b0 : (((rd_T40 l0 x5_1).f0).toList == ((rd_T40 l1 x5_1).f0).toList) = false := beq_eq_false_iff_ne.mpr c8
                  have c8b1 : (((rd_T40 l0 x5_1).f0).toList != ((rd_T40 l1 x5_1).f0).toList) = true := bne_iff_ne.mpr c8
                  have H' := Aside0.mk H
                  clear H
                  have p264 : 0 ≤ (x5_1 : Int) := of_decide_eq_true (by first | (with_reducible assumption) | assumption)
                  have q264 : x5_1 < (l0.length : Int) := of_decide_eq_true (by first | (with_reducible assumption) | assumption)
                  obtain ⟨ad264, A264_1, c264_1, e264, hx264_0, hx264_1, hl264_1, hi264_1⟩ := at_T40 HR0.out x5_1 p264 q264
                  cases e264
                  have HR264_1 := Aside0.mk hi264_1
                  have HC264_1 := Aside0.mk hl264_1
                  clear hi264_1 hl264_1
                  replace p264 := eq_true p264
                  replace q264 := eq_true q264
                  have p265 : 0 ≤ (x5_1 : Int) := of_decide_eq_true (by first | (with_reducible assumption) | assumption)
                  have q265 : x5_1 < (l1.length : Int) := of_decide_eq_true (by first | (with_reducible assumption) | assumption)
                  obtain ⟨ad265, A265_1, c265_1, e265, hx265_0, hx265_1, hl265_1, hi265_1⟩ := at_T40 HR1.out x5_1 p265 q265
                  cases e265
                  have HR265_1 := Aside0.mk hi265_1
                  have HC265_1 := Aside0.mk hl265_1
                  clear hi265_1 hl265_1
                  replace p265 := eq_true p265
                  replace q265 := eq_true q265
                  go_wp2
                  repeat (go_quiet (fail); try go_wp2)
                  go_meet
                  case rel => exact ⟨_, (true), (by first | rfl | (simp; done) | (simp [*]; done) | (simp [bne]; done)), H', ⟨by have := HK1.out; first | omega | exact Nat.le_refl _⟩, by repeat (first | exact Drawn0.refl _ | apply Drawn0.step)⟩
              · rw [if_neg c7] at H
                exact absurd H (by simp)
            · rw [if_neg c6] at H
              exact absurd H (by simp)
          case rest =>
            clear HC5
            try clear c1
            try clear c2
            try clear p2
            try clear q2
            try clear hx2
            try clear c3
            try clear c3b0
            try clear c3b1
            try clear c3b2
            try clear c4
            try clear c4b0
            try clear c6
            try clear c6b0
            try clear c7
            try clear c7b0
            try clear c8
            try clear c8b0
            try clear c8b1
            try clear hx264_0
            try clear hx264_1
            try clear hx265_0
            try clear hx265_1
            try clear hx266_0
            try clear hx266_1
            try clear hx267_0
            try clear hx267_1
            try clear p2
            try clear p264
            try clear p265
            try clear p266
            try clear p267
            try clear q264
            try clear q265
            try clear q266
            try clear q267
            obtain ⟨kq, x43_4, rfl, HA, HJ4, ⟨mc4, rfl⟩⟩ := hcut
            cases kq with
            | zero => exact absurd HA.out (by simp [bobbinetkeep_sameRuns.j1])
            | succ kj4 =>
              have H := HA.out
              clear HA
              simp only [bobbinetkeep_sameRuns.j1] at H
              by_cases c9 : x43_4 = true
              · subst c9
                have H1 : (some false) = some r := by rw [if_pos rfl] at H; exact H
                clear H
                have H := H1
                clear H1
                obtain rfl := Option.some.inj H
                go_wp2
                repeat (go_quiet (fail); try go_wp2)
                go_ret
                exact ⟨by first | rfl | (simp; done) | (simp [*]; done), by repeat (first | exact Drawn0.refl _ | apply Drawn0.step)⟩
              · replace c9 := Bool.eq_false_iff.mpr c9
                subst c9
                have H1 : (bobbinetkeep_sameRuns.l1 kj4 l0 l1 x5_1 0) = some r := by rw [if_neg (show ¬ (false = true) by decide)] at H; exact H
                clear H
                have H := H1
                clear H1
                have H' := Aside0.mk H
                clear H
                go_wp2
                repeat (go_quiet (fail); try go_wp2)
                go_loopg [6] kj4 (fun kq v6 w' => ∃ (x6_3 : Int), v6 = .int .i64 x6_3 ∧ Aside0 (bobbinetkeep_sameRuns.l1 kq l0 l1 x5_1 x6_3 = some r) ∧ Aside0 (kq ≤ kj4) ∧ Drawn0 w w')
                case atStart => exact ⟨(0), (by first | rfl | (simp; done) | (simp [*]; done) | (simp [bne]; done)), H', ⟨Nat.le_refl _⟩, by repeat (first | exact Drawn0.refl _ | apply Drawn0.step)⟩
                case round =>
                  clear H'
                  try clear c1
                  try clear c2
                  try clear p2
                  try clear q2
                  try clear hx2
                  try clear c3
                  try clear c3b0
                  try clear c3b1
                  try clear c3b2
                  try clear c4
                  try clear c4b0
                  try clear c6
                  try clear c6b0
                  try clear c7
                  try clear c7b0
                  try clear c8
                  try clear c8b0
                  try clear c8b1
                  try clear c9
                  try clear hx264_0
                  try clear hx264_1
                  try clear hx265_0
                  try clear hx265_1
                  try clear hx266_0
                  try clear hx266_1
                  try clear hx267_0
                  try clear hx267_1
                  try clear p2
                  try clear p264
                  try clear p265
                  try clear p266
                  try clear p267
                  try clear q2
                  try clear q264
                  try clear q265
                  try clear q266
                  try clear q267
                  obtain ⟨x6_3, rfl, HA, HK3, ⟨m3, rfl⟩⟩ := hrel
                  cases gk with
                  | zero => exact absurd HA.out (by simp [bobbinetkeep_sameRuns.l1])
                  | succ k3 =>
                    have H := HA.out
                    clear HA
                    simp only [bobbinetkeep_sameRuns.l1] at H
                    by_cases c10 : 0 ≤ x5_1
                    · rw [if_pos c10] at H
                      have c10b0 : decide (0 ≤ x5_1) = true := decide_eq_true c10
                      clear c10
                      by_cases c11 : x5_1 < (l0.length : Int)
                      · rw [if_pos c11] at H
                        have c11b0 : decide (x5_1 < (l0.length : Int)) = true := decide_eq_true c11
                        clear c11
                        by_cases c12 : x6_3 < (((rd_T40 l0 x5_1).f1).length : Int)
                        · rw [if_pos c12] at H
                          have c12b0 : decide (x6_3 < (((rd_T40 l0 x5_1).f1).length : Int)) = true := decide_eq_true c12
                          clear c12
                          by_cases c13 : 0 ≤ x6_3
                          · rw [if_pos c13] at H
                            have c13b0 : decide (0 ≤ x6_3) = true := decide_eq_true c13
                            clear c13
                            by_cases c14 : x5_1 < (l1.length : Int)
                            · rw [if_pos c14] at H
                              have c14b0 : decide (x5_1 < (l1.length : Int)) = true := decide_eq_true c14
                              clear c14
                              by_cases c15 : x6_3 < (((rd_T40 l1 x5_1).f1).length : Int)
                              · rw [if_pos c15] at H
                                have c15b0 : decide (x6_3 < (((rd_T40 l1 x5_1).f1).length : Int)) = true := decide_eq_true c15
                                clear c15
                                by_cases c16 : (rdOf ByteArray.empty ((rd_T40 l0 x5_1).f1) x6_3).toList = (rdOf ByteArray.empty ((rd_T40 l1 x5_1).f1) x6_3).toList
                                · rw [if_pos c16] at H
                                  have c16b0 : ((rdOf ByteArray.empty ((rd_T40 l0 x5_1).f1) x6_3).toList == (rdOf ByteArray.empty ((rd_T40 l1 x5_1).f1) x6_3).toList) = true := beq_iff_eq.mpr c16
                                  have c16b1 : ((rdOf ByteArray.empty ((rd_T40 l0 x5_1).f1) x6_3).toList != (rdOf ByteArray.empty ((rd_T40 l1 x5_1).f1) x6_3).toList) = false := bne_eq_false_iff_eq.mpr c16
                                  clear c16
                                  have H' := Aside0.mk H
                                  clear H
                                  have p268 : 0 ≤ (x5_1 : Int) := of_decide_eq_true (by first | (with_reducible assumption) | assumption)
                                  have q268 : x5_1 < (l0.length : Int) := of_decide_eq_true (by first | (with_reducible assumption) | assumption)
                                  obtain ⟨ad268, A268_1, c268_1, e268, hx268_0, hx268_1, hl268_1, hi268_1⟩ := at_T40 HR0.out x5_1 p268 q268
                                  cases e268
                                  have HR268_1 := Aside0.mk hi268_1
                                  have HC268_1 := Aside0.mk hl268_1
                                  clear hi268_1 hl268_1
                                  replace p268 := eq_true p268
                                  replace q268 := eq_true q268
                                  have p269 : 0 ≤ (x5_1 : Int) := of_decide_eq_true (by first | (with_reducible assumption) | assumption)
                                  have q269 : x5_1 < (l0.length : Int) := of_decide_eq_true (by first | (with_reducible assumption) | assumption)
                                  obtain ⟨ad269, A269_1, c269_1, e269, hx269_0, hx269_1, hl269_1, hi269_1⟩ := at_T40 HR0.out x5_1 p269 q269
                                  obtain rfl : ad268 = ad269 := (by injection e269)
                                  have HR269_1 := Aside0.mk hi269_1
                                  have HC269_1 := Aside0.mk hl269_1
                                  clear hi269_1 hl269_1
                                  replace p269 := eq_true p269
                                  replace q269 := eq_true q269
                                  have ea_ := Option.some.inj (hx268_1.symm.trans hx269_1)
                                  injection ea_ with ea_ en_ ec_
                                  subst ea_
                                  subst ec_
                                  clear en_
                                  have p270 : 0 ≤ (x6_3 : Int) := of_decide_eq_true (by first | (with_reducible assumption) | assumption)
                                  have q270 : x6_3 < (((rd_T40 l0 x5_1).f1).length : Int) := of_decide_eq_true (by first | (with_reducible assumption) | assumption)
                                  obtain ⟨ad270, e270, hx270_0⟩ := Kd.at_string HR269_1.out x6_3 p270 q270
                                  cases e270
                                  replace p270 := eq_true p270
                                  replace q270 := eq_true q270
                                  have p271 : 0 ≤ (x5_1 : Int) := of_decide_eq_true (by first | (with_reducible assumption) | assumption)
                                  have q271 : x5_1 < (l1.length : Int) := of_decide_eq_true (by first | (with_reducible assumption) | assumption)
                                  obtain ⟨ad271, A271_1, c271_1, e271, hx271_0, hx271_1, hl271_1, hi271_1⟩ := at_T40 HR1.out x5_1 p271 q271
                                  cases e271
                                  have HR271_1 := Aside0.mk hi271_1
                                  have HC271_1 := Aside0.mk hl271_1
                                  clear hi271_1 hl271_1
                                  replace p271 := eq_true p271
                                  replace q271 := eq_true q271
                                  have p272 : 0 ≤ (x6_3 : Int) := of_decide_eq_true (by first | (with_reducible assumption) | assumption)
                                  have q272 : x6_3 < (((rd_T40 l1 x5_1).f1).length : Int) := of_decide_eq_true (by first | (with_reducible assumption) | assumption)
                                  obtain ⟨ad272, e272, hx272_0⟩ := Kd.at_string HR271_1.out x6_3 p272 q272
                                  cases e272
                                  replace p272 := eq_true p272
                                  replace q272 := eq_true q272
                                  go_wp2
                                  repeat (go_quiet (fail); try go_wp2)
                                  go_roundg k3
                                  case measure => have := HK1.out; have := HJ4.out; have := HK3.out; omega
                                  case rel => exact ⟨(wrap64 (x6_3 + 1)), (by first | rfl | (simp; done) | (simp [*]; done) | (simp [bne]; done)), H', ⟨by have := HK1.out; have := HJ4.out; have := HK3.out; omega⟩, by repeat (first | exact Drawn0.refl _ | apply Drawn0.step)⟩
                                · rw [if_neg c16] at H
                                  have c16b0 : ((rdOf ByteArray.empty ((rd_T40 l0 x5_1).f1) x6_3).toList == (rdOf ByteArray.empty ((rd_T40 l1 x5_1).f1) x6_3).toList) = false := beq_eq_false_iff_ne.mpr c16
                                  have c16b1 : ((rdOf ByteArray.empty ((rd_T40 l0 x5_1).f1) x6_3).toList != (rdOf ByteArray.empty ((rd_T40 l1 x5_1).f1) x6_3).toList) = true := bne_iff_ne.mpr c16
                                  obtain rfl := Option.some.inj H
                                  have p268 : 0 ≤ (x5_1 : Int) := of_decide_eq_true (by first | (with_reducible assumption) | assumption)
                                  have q268 : x5_1 < (l0.length : Int) := of_decide_eq_true (by first | (with_reducible assumption) | assumption)
                                  obtain ⟨ad268, A268_1, c268_1, e268, hx268_0, hx268_1, hl268_1, hi268_1⟩ := at_T40 HR0.out x5_1 p268 q268
                                  cases e268
                                  have HR268_1 := Aside0.mk hi268_1
                                  have HC268_1 := Aside0.mk hl268_1
                                  clear hi268_1 hl268_1
                                  replace p268 := eq_true p268
                                  replace q268 := eq_true q268
                                  have p269 : 0 ≤ (x5_1 : Int) := of_decide_eq_true (by first | (with_reducible assumption) | assumption)
                                  have q269 : x5_1 < (l0.length : Int) := of_decide_eq_true (by first | (with_reducible assumption) | assumption)
                                  obtain ⟨ad269, A269_1, c269_1, e269, hx269_0, hx269_1, hl269_1, hi269_1⟩ := at_T40 HR0.out x5_1 p269 q269
                                  obtain rfl : ad268 = ad269 := (by injection e269)
                                  have HR269_1 := Aside0.mk hi269_1
                                  have HC269_1 := Aside0.mk hl269_1
                                  clear hi269_1 hl269_1
                                  replace p269 := eq_true p269
                                  replace q269 := eq_true q269
                                  have ea_ := Option.some.inj (hx268_1.symm.trans hx269_1)
                                  injection ea_ with ea_ en_ ec_
                                  subst ea_
                                  subst ec_
                                  clear en_
                                  have p270 : 0 ≤ (x6_3 : Int) := of_decide_eq_true (by first | (with_reducible assumption) | assumption)
                                  have q270 : x6_3 < (((rd_T40 l0 x5_1).f1).length : Int) := of_decide_eq_true (by first | (with_reducible assumption) | assumption)
                                  obtain ⟨ad270, e270, hx270_0⟩ := Kd.at_string HR269_1.out x6_3 p270 q270
                                  cases e270
                                  replace p270 := eq_true p270
                                  replace q270 := eq_true q270
                                  have p271 : 0 ≤ (x5_1 : Int) := of_decide_eq_true (by first | (with_reducible assumption) | assumption)
                                  have q271 : x5_1 < (l1.length : Int) := of_decide_eq_true (by first | (with_reducible assumption) | assumption)
                                  obtain ⟨ad271, A271_1, c271_1, e271, hx271_0, hx271_1, hl271_1, hi271_1⟩ := at_T40 HR1.out x5_1 p271 q271
                                  cases e271
                                  have HR271_1 := Aside0.mk hi271_1
                                  have HC271_1 := Aside0.mk hl271_1
                                  clear hi271_1 hl271_1
                                  replace p271 := eq_true p271
                                  replace q271 := eq_true q271
                                  have p272 : 0 ≤ (x6_3 : Int) := of_decide_eq_true (by first | (with_reducible assumption) | assumption)
                                  have q272 : x6_3 < (((rd_T40 l1 x5_1).f1).length : Int) := of_decide_eq_true (by first | (with_reducible assumption) | assumption)
                                  obtain ⟨ad272, e272, hx272_0⟩ := Kd.at_string HR271_1.out x6_3 p272 q272
                                  cases e272
                                  replace p272 := eq_true p272
                                  replace q272 := eq_true q272
                                  go_wp2
                                  repeat (go_quiet (fail); try go_wp2)
                                  go_ret
                                  exact ⟨by first | rfl | (simp; done) | (simp [*]; done), by repeat (first | exact Drawn0.refl _ | apply Drawn0.step)⟩
                              · rw [if_neg c15] at H
                                exact absurd H (by simp)
                            · rw [if_neg c14] at H
                              exact absurd H (by simp)
                          · rw [if_neg c13] at H
                            exact absurd H (by simp)
                        · rw [if_neg c12] at H
                          have c12b0 : decide (x6_3 < (((rd_T40 l0 x5_1).f1).length : Int)) = false := decide_eq_false c12
                          clear c12
                          have H' := Aside0.mk H
                          clear H
                          have p268 : 0 ≤ (x5_1 : Int) := of_decide_eq_true (by first | (with_reducible assumption) | assumption)
                          have q268 : x5_1 < (l0.length : Int) := of_decide_eq_true (by first | (with_reducible assumption) | assumption)
                          obtain ⟨ad268, A268_1, c268_1, e268, hx268_0, hx268_1, hl268_1, hi268_1⟩ := at_T40 HR0.out x5_1 p268 q268
                          cases e268
                          have HR268_1 := Aside0.mk hi268_1
                          have HC268_1 := Aside0.mk hl268_1
                          clear hi268_1 hl268_1
                          replace p268 := eq_true p268
                          replace q268 := eq_true q268
                          go_wp2
                          repeat (go_quiet (fail); try go_wp2)
                          go_roundg k3
                          case measure => have := HK1.out; have := HJ4.out; have := HK3.out; omega
                          case rel => exact ⟨(wrap64 (x5_1 + 1)), (by first | rfl | (simp; done) | (simp [*]; done) | (simp [bne]; done)), H', ⟨by have := HK1.out; have := HJ4.out; have := HK3.out; omega⟩, by repeat (first | exact Drawn0.refl _ | apply Drawn0.step)⟩
                      · rw [if_neg c11] at H
                        exact absurd H (by simp)
                    · rw [if_neg c10] at H
                      exact absurd H (by simp)
        · rw [if_neg c4] at H
          have c4b0 : decide (x5_1 < (l0.length : Int)) = false := decide_eq_false c4
          clear c4
          obtain rfl := Option.some.inj H
          go_wp2
          repeat (go_quiet (fail); try go_wp2)
          go_ret
          exact ⟨by first | rfl | (simp; done) | (simp [*]; done), by repeat (first | exact Drawn0.refl _ | apply Drawn0.step)⟩
  · rw [if_neg c3] at H
    have c3b0 : ((l0.length : Int) == (l1.length : Int)) = false := beq_eq_false_iff_ne.mpr c3
    have c3b1 : ((l0.length : Int) != (l1.length : Int)) = true := bne_iff_ne.mpr c3
    have c3b2 : (l0.length == l1.length) = false := by first | simpa using c3 | (simp at c3 ⊢; omega)
    obtain rfl := Option.some.inj H
    go_enter Tryd.func15, Tryd.ntmps15
    go_wp2
    repeat (go_quiet (fail); try go_wp2)
    go_ret
    exact ⟨by first | rfl | (simp; done) | (simp [*]; done), by repeat (first | exact Drawn0.refl _ | apply Drawn0.step)⟩
end Go.Proofs.YtjmhihadgpdiaaaDoor.X
end
section
namespace Go.Proofs.YtjmhihadgpdiaaaDoor.X
open Go.RowKit Go.Proofs.YtjmhihadgpdiaaaDoorW.PrintWords Go.Proofs.YtjmhihadgpdiaaaDoorW.PrintLast Go.Proofs.YtjmhihadgpdiaaaDoorW.PrintMore
attribute [local go_sem] max2_int min2_int max_two min_two max_three min_three max_four min_four   -- for this text's walks alone
set_option linter.unusedVariables false
set_option linter.unusedSimpArgs false
/-- runs that are cut in two, so many -/
def bobbinetkeep_MarksOrders.prt (rs : List S40) (ts : List Nat) (n : Nat) : List S40 := ((rs.zip ts).take n).flatMap fun p => [(⟨p.1.f0.extract 0 p.2, p.1.f1⟩ : S40), ⟨p.1.f0.extract p.2 p.1.f0.size, p.1.f1⟩]
theorem bobbinetkeep_MarksOrders.prt_succ (rs : List S40) (ts : List Nat) (n : Nat) (hn : n < rs.length) (hl : ts.length = rs.length) : bobbinetkeep_MarksOrders.prt rs ts (n + 1) = bobbinetkeep_MarksOrders.prt rs ts n ++ [(⟨rs[n].f0.extract 0 (ts.getD n 0), rs[n].f1⟩ : S40), ⟨rs[n].f0.extract (ts.getD n 0) rs[n].f0.size, rs[n].f1⟩] := by
  have h1 : n < (rs.zip ts).length := by rw [List.length_zip]; omega
  have h2 : ts.getD n 0 = ts[n]'(by omega) := by simp [List.getD, show n < ts.length by omega]
  unfold bobbinetkeep_MarksOrders.prt
  rw [List.take_succ_eq_append_getElem h1, List.flatMap_append, List.getElem_zip, h2]
  simp
theorem bobbinetkeep_MarksOrders.prt_len (rs : List S40) (ts : List Nat) (n : Nat) : (bobbinetkeep_MarksOrders.prt rs ts n).length ≤ 2 * n := by
  unfold bobbinetkeep_MarksOrders.prt
  have : ∀ l : List (S40 × Nat), (l.flatMap fun p => [(⟨p.1.f0.extract 0 p.2, p.1.f1⟩ : S40), ⟨p.1.f0.extract p.2 p.1.f0.size, p.1.f1⟩]).length = 2 * l.length := by
    intro l
    induction l with
    | nil => rfl
    | cons p l ih => rw [List.flatMap_cons, List.length_append, ih, List.length_cons, List.length_cons, List.length_cons, List.length_nil]; omega
  rw [this, List.length_take]
  omega
theorem bobbinetkeep_MarksOrders.two {W : World} {g : Nat} {ok : Nat → Prop} {x y : ByteArray} {l : List ByteArray} {A1 A2 : Option Addr} {c1 c2 : Nat} (hb : W.heap[g]? = some (.cells #[.string x, .slice A1 l.length c1, .string y, .slice A2 l.length c2] 40 (0, 0))) (hg : ok g) (F1 : Kd.F Kd.string W ok A1 l.length l) (F2 : Kd.F Kd.string W ok A2 l.length l) (l1 : l.length ≤ c1) (l2 : l.length ≤ c2) :
    Kd.F k40 W ok (some ⟨g, 0, none⟩) 2 [(⟨x, l⟩ : S40), ⟨y, l⟩] := fun W' hW => by
  have hb' := (hW g hg (blk_lt hb)).trans hb
  have cell : ∀ (o i : Nat) (u : Value), (#[Value.string x, .slice A1 l.length c1, .string y, .slice A2 l.length c2] : Array Value)[o + i]? = some u → W'.cell? ((⟨g, 0, none⟩ : Addr).add (o + i)) = some u := by
    intro o i u hu
    have h2 := blk_cell hb' (o + i)
    have e : (⟨g, 0, none⟩ : Addr).add (o + i) = ⟨g, o + i, none⟩ := add_plain g (o + i)
    rw [e, h2]
    exact hu
  refine ⟨rfl, by decide, fun _ => ⟨⟨g, 0, none⟩, rfl, fun j p hj => ?_⟩⟩
  match j, hj with
  | 0, hj =>
    obtain rfl := Option.some.inj hj
    refine ⟨_, rfl, k40_mk W' (⟨x, l⟩ : S40) l1 (F1 W' hW), fun i u hi => cell (0 * 2) i u ?_⟩
    match i, hi with
    | 0, hi => exact hi
    | 1, hi => exact hi
    | n + 2, hi => simp at hi
  | 1, hj =>
    obtain rfl := Option.some.inj hj
    refine ⟨_, rfl, k40_mk W' (⟨y, l⟩ : S40) l2 (F2 W' hW), fun i u hi => cell (1 * 2) i u ?_⟩
    match i, hi with
    | 0, hi => exact hi
    | 1, hi => exact hi
    | n + 2, hi => simp at hi
  | n + 2, hj => simp at hj
theorem bobbinetkeep_MarksOrders.pack {P : Program} {c : Code} {Q : Exit → Act → World → Prop} {a : Act} {W : World} (F : World → Prop) (h1 : F W) (h : ∀ W', F W' → Code.wp P c Q a W') : Code.wp P c Q a W := h W h1
def bobbinetkeep_MarksOrders.rMarksOrders12.T12 : Bool × List (List Nat × List Nat) := (true, [([], []), ([], []), ([], []), ([1, 2], [1, 2]), ([3], [3]), ([4], [4]), ([], []), ([5, 6], [5, 6]), ([], []), ([], []), ([8, 9], [8, 9]), ([10], [10]), ([11], [11]), ([12], [12]), ([7, 13], [7, 13]), ([], []), ([], []), ([15, 16], [15, 16]), ([17], [17]), ([18], [18]), ([], []), ([19, 20], [19, 20]), ([], []), ([], []), ([22, 23], [22, 23]), ([24], [24]), ([25], [25]), ([26, 13], [26]), ([21, 27], [21, 27]), ([14, 28], [14, 28]), ([0, 29, 27], [0, 29]), ([30, 30, 0, 1, 2, 3, 4, 5, 6, 7, 8, 9, 10, 11, 12, 13, 14, 15, 16, 17, 18, 19, 20, 21, 22, 23, 24, 25, 26, 27, 28, 29, 30], [0, 30])])
def bobbinetkeep_MarksOrders.rMarksOrders12.B12 : List Nat := [0, 0, 0, 6, 14, 30, 0, 126, 0, 0, 768, 1792, 3840, 7936, 16382, 0, 0, 98304, 229376, 491520, 0, 2064384, 0, 0, 12582912, 29360128, 62914560, 130039552, 268418816, 536870910, 1073741823, 2147483647]
theorem bobbinetkeep_MarksOrders.rMarksOrders12.tab12 : rtab .any (opsOf Tryd.f5 12) = bobbinetkeep_MarksOrders.rMarksOrders12.T12 := by kernel_rfl
theorem bobbinetkeep_MarksOrders.rMarksOrders12.bits12 : waitsOk bobbinetkeep_MarksOrders.rMarksOrders12.T12.2 bobbinetkeep_MarksOrders.rMarksOrders12.B12 = true := by kernel_rfl
/-- what the law leans on -/
structure bobbinetkeep_MarksOrders.Good (k : Nat) (l0 : List Int) (a1 a2 a3 : Int) (rs : List S40) (a b : List ByteArray) (n : List S49) (x y z : List S40) (ts : List Nat) : Prop where
  runs : bobbinetkeep_Runs.f k l0 20 = some rs
  oa : bobbinetkeep_markOrder.f a1 = some a
  ob : bobbinetkeep_markOrder.f a2 = some b
  cp : bobbinetkeep_copiedRuns.f k rs = some rs
  nest : marks_Nest.f k a rs = some (n, 0)
  flat : marks_Flat.f k b n = some (x, 0)
  nrm : marks_Norm.f k b rs = some (y, 0)
  tl : ts.length = rs.length
  few : rs.length ≤ 1000000
  cut : ∀ (i : Nat) (h : i < rs.length), bobbinetkeep_Picked.f (wrap64 (a3 + (i : Int))) (wrap64 ((rs[i].f0.size : Int) + 1)) = some (ts.getD i 0 : Int) ∧ ts.getD i 0 ≤ rs[i].f0.size ∧ rs[i].f1.length ≤ 1000000 ∧ rs[i].f0.size ≤ 1000000
  last : marks_Norm.f k b (bobbinetkeep_MarksOrders.prt rs ts rs.length) = some (z, 0)
  sure : bobbinetkeep_marksSure.f k = some true
  same1 : bobbinetkeep_sameRuns.f k x y = some true
  same2 : bobbinetkeep_sameRuns.f k y z = some true
set_option maxHeartbeats 8000000 in
set_option maxRecDepth 100000 in
theorem bobbinetkeep_MarksOrders.calls (k : Nat) (A0 : Option Addr) (c0 : Nat) (l0 : List Int) (a1 a2 a3 : Int) (q : Bool) (w : World) (hr0 : Kd.C (Kd.int .i64) w A0 l0.length l0) (hc0 : l0.length ≤ c0) (hG_ : Glob w) (h : q = true ∧ ∃ rs a b n x y z ts, bobbinetkeep_MarksOrders.Good k l0 a1 a2 a3 rs a b n x y z ts) :
    Calls Tryd.prog 5 #[.slice A0 l0.length c0, .int .i64 a1, .int .i64 a2, .int .i64 a3] w fun e w' => e = .returned (.bool q) ∧ Below w.heap.size w w' := by
  obtain ⟨rfl, rs, a, b, n, x, y, z, ts, hg⟩ := h
  have GD := Aside0.mk hg
  have HR0 := Aside0.mk hr0
  have HC0 := Aside0.mk hc0
  have HG_ := Aside0.mk hG_
  have HB := Aside0.mk (Below.refl w.heap.size w)
  have S1 : Aside0 True := ⟨trivial⟩
  have S2 : Aside0 True := ⟨trivial⟩
  clear hr0 hc0 hG_ hg
  go_enter Tryd.func5, Tryd.ntmps5
  go_wp2_with (first
    | (go_at_call 8; (with_reducible refine (bobbinetkeep_Runs.calls k _ _ l0 20 rs _ HR0.out HC0.out GD.out.runs).mono ?_); rintro e w1 ⟨v_, rfl, ho, hb⟩; obtain ⟨A9, c9, rfl, hl, hc⟩ := Kd.S_reads ho; have HRC := Aside0.mk hl; have HRS := Aside0.mk hc; replace HB := Aside0.mk hb; clear ho hb hl hc)
    | (go_at_call 6; (with_reducible refine (bobbinetkeep_markOrder.calls a1 a _ GD.out.oa).mono ?_); clear S1; rintro e w2 ⟨v_, rfl, ho, hb⟩; obtain ⟨Aa, ca, rfl, hl, hf⟩ := ho; have HAC := Aside0.mk hl; have HA := Aside0.mk (Kd.F_now hf); replace HRS := Aside0.mk (Kd.C_below HRS.out hb); replace HB := Aside0.mk (HB.out.trans (hb.mono HB.out.size)); clear hf hb hl)
    | (go_at_call 6; (with_reducible refine (bobbinetkeep_markOrder.calls a2 b _ GD.out.ob).mono ?_); rintro e w3 ⟨v_, rfl, ho, hb⟩; obtain ⟨Ab, cb, rfl, hl, hf⟩ := ho; have HBC := Aside0.mk hl; have HBB := Aside0.mk (Kd.F_now hf); replace HRS := Aside0.mk (Kd.C_below HRS.out hb); replace HA := Aside0.mk (Kd.C_below HA.out hb); replace HB := Aside0.mk (HB.out.trans (hb.mono HB.out.size)); clear hf hb hl)
    | (go_at_call 13; (with_reducible refine (bobbinetkeep_copiedRuns.calls k _ _ rs rs _ HRS.out HRC.out GD.out.cp).mono ?_); clear S2; rintro e w4 ⟨v_, rfl, ho, hb⟩; obtain ⟨Ac, cc, rfl, hl, hc⟩ := Kd.S_reads ho; have HCC := Aside0.mk hl; have HCP := Aside0.mk hc; replace HRS := Aside0.mk (Kd.C_below HRS.out hb); replace HA := Aside0.mk (Kd.C_below HA.out hb); replace HBB := Aside0.mk (Kd.C_below HBB.out hb); replace HB := Aside0.mk (HB.out.trans (hb.mono HB.out.size)); clear ho hb hl hc)
    | (go_at_call 7; (with_reducible refine (marks_Nest.calls k _ _ a _ _ rs n 0 _ HA.out HAC.out HCP.out HCC.out (Glob.below HG_.out HB.out) GD.out.nest).mono ?_); rintro e w5 ⟨v_, rfl, ho, hb⟩; obtain ⟨An, cn, rfl, hl, hc⟩ := Kd.R_reads ho; have HNC := Aside0.mk hl; have HN := Aside0.mk hc; replace HRS := Aside0.mk (Kd.C_below HRS.out hb); replace HBB := Aside0.mk (Kd.C_below HBB.out hb); replace HB := Aside0.mk (HB.out.trans (hb.mono HB.out.size)); clear ho hb hl hc HA HAC HCP HCC)
    | (go_at_call 14; (with_reducible refine (marks_Flat.calls k _ _ b _ _ n x 0 _ HBB.out HBC.out HN.out HNC.out (Glob.below HG_.out HB.out) GD.out.flat).mono ?_); rintro e w6 ⟨v_, rfl, ho, hb⟩; obtain ⟨Ax, cx, rfl, hl, hc⟩ := Kd.S_reads ho; have HXC := Aside0.mk hl; have HX := Aside0.mk hc; replace HRS := Aside0.mk (Kd.C_below HRS.out hb); replace HBB := Aside0.mk (Kd.C_below HBB.out hb); replace HB := Aside0.mk (HB.out.trans (hb.mono HB.out.size)); clear ho hb hl hc HN HNC)
    | (go_at_call 13; (with_reducible refine (bobbinetkeep_copiedRuns.calls k _ _ rs rs _ HRS.out HRC.out GD.out.cp).mono ?_); rintro e w7 ⟨v_, rfl, ho, hb⟩; obtain ⟨Ac, cc, rfl, hl, hc⟩ := Kd.S_reads ho; have HCC := Aside0.mk hl; have HCP := Aside0.mk hc; replace HRS := Aside0.mk (Kd.C_below HRS.out hb); replace HX := Aside0.mk (Kd.C_below HX.out hb); replace HBB := Aside0.mk (Kd.C_below HBB.out hb); replace HB := Aside0.mk (HB.out.trans (hb.mono HB.out.size)); clear ho hb hl hc)
    | (go_at_call 12; (with_reducible refine (marks_Norm.calls k _ _ b _ _ rs y 0 _ HBB.out HBC.out HCP.out HCC.out (Glob.below HG_.out HB.out) GD.out.nrm).mono ?_); rintro e W0 ⟨v_, rfl, ho, hb⟩; obtain ⟨Ay, cy, rfl, hl, hc⟩ := Kd.S_reads ho; have HYC := Aside0.mk hl; have HY := Aside0.mk hc; replace HRS := Aside0.mk (Kd.C_below HRS.out hb); replace HX := Aside0.mk (Kd.C_below HX.out hb); replace HBB := Aside0.mk (Kd.C_below HBB.out hb); have HB0 := Aside0.mk (HB.out.trans (hb.mono HB.out.size)); clear ho hb hl hc HCP HCC HB))
  have HB := Aside0.mk (Below.refl W0.heap.size W0)
  go_loopw [18, 19] (fun v18 v19 wr => ∃ (i : Nat), v19 = .int .i64 (i : Int) ∧ Aside0 (i ≤ rs.length) ∧ Aside0 (Kd.N k40 40 wr W0.heap.size (fun k_ => W0.heap.size ≤ k_) v18 (bobbinetkeep_MarksOrders.prt rs ts i)) ∧ Aside0 (Below W0.heap.size W0 wr)) (fun _ v19 _ => rs.length - (intOf v19).toNat)
  case atStart => exact ⟨0, rfl, ⟨Nat.zero_le _⟩, ⟨by have e : bobbinetkeep_MarksOrders.prt rs ts 0 = [] := rfl; rw [e]; exact Kd.N_nil _ _ _ _ _⟩, HB⟩
  case round =>
    clear HB
    obtain ⟨i, rfl, HI_, HO, HB⟩ := hrel
    by_cases hi : i < rs.length
    · obtain ⟨hcut, ht, hf1, hf0⟩ := GD.out.cut i hi
      have hsucc := bobbinetkeep_MarksOrders.prt_succ rs ts i hi GD.out.tl
      have hlen := bobbinetkeep_MarksOrders.prt_len rs ts i
      have hfew := GD.out.few
      obtain ⟨t, htt⟩ : ∃ t, ts.getD i 0 = t := ⟨_, rfl⟩
      obtain ⟨xi, hxi⟩ : ∃ xi : Int, (i : Int) = xi := ⟨_, rfl⟩
      have hx0 : 0 ≤ xi := by omega
      have hx1 : xi < (rs.length : Int) := by omega
      obtain ⟨ad, A1, c1, eA, hc0, hc1, hl1, hC1⟩ := at_T40 HRS.out xi hx0 hx1
      have hrd : rd_T40 rs xi = rs[i] := by subst hxi; simp [rd_T40, List.getD, hi]
      obtain ⟨r, hr⟩ : ∃ r, rs[i] = r := ⟨_, rfl⟩
      rw [hrd, hr] at hc0 hc1 hl1 hC1
      rw [htt, hr] at hcut ht hsucc
      rw [hr] at hf1 hf0
      rw [hxi] at hcut
      subst eA
      have hw : wrap64 (xi + 1) = ((i + 1 : Nat) : Int) := by unfold wrap64; omega
      have hw0 : wrap64 ((r.f0.size : Int) + 1) = (r.f0.size : Int) + 1 := by unfold wrap64; omega
      obtain ⟨xs, hxs⟩ : ∃ xs, bobbinetkeep_MarksOrders.prt rs ts i = xs := ⟨_, rfl⟩
      rw [hxs] at HO hsucc hlen
      obtain ⟨G, hG⟩ : ∃ G, wr.heap.size = G := ⟨_, rfl⟩
      have HO := Aside0.mk (Kd.N_bound HO.out)
      rw [hG] at HO
      have HS := Aside0.mk (Nat.le_of_eq hG.symm)
      have HGW : Aside0 (W0.heap.size ≤ G) := ⟨by rw [← hG]; exact HB.out.size⟩
      have hcw := (HB.out.cell (World.block_lt_of_cell? W0 _ hc0)).trans hc0
      have HX0 := Aside0.mk hc0
      have HX1 := Aside0.mk hc1
      have HI := Aside0.mk hC1
      have HLn := Aside0.mk hf1
      have HLx : Aside0 (xs.length ≤ 2000000) := ⟨by omega⟩
      have HCT := Aside0.mk hcut
      have HSC := Aside0.mk hsucc
      have HW := Aside0.mk hw
      have TC1 := Aside0.mk ht
      have hlt : decide (xi < (rs.length : Int)) = true := decide_eq_true hx1
      have hxx : Aside0 ((i : Int) = xi ∧ i < rs.length) := ⟨hxi, hi⟩
      rw [hxi]
      clear hcut hsucc hlen hfew htt hxi hrd hr hc0 hc1 hl1 hC1 hf1 hf0 hxs hG hi hw ht hw0
      go_wp2_with (first
        | (go_at_call 17; (with_reducible refine (bobbinetkeep_Picked.calls _ _ _ _ HCT.out).mono ?_); rintro e w' ⟨rfl, ⟨nd, rfl⟩⟩))
      refine bobbinetkeep_MarksOrders.pack (fun W => W = wr.drewN nd) rfl ?_
      rintro W1 e1_
      have HB : Aside0 (Below W0.heap.size W0 W1) := ⟨by rw [e1_]; exact pw_below_drewN HB.out nd⟩
      have HO : Aside0 (Kd.N k40 40 W1 W0.heap.size (fun k_ => W0.heap.size ≤ k_ ∧ k_ < G) u18 xs) := ⟨by rw [e1_]; exact Kd.N_drewN HO.out nd⟩
      have HS : Aside0 (G ≤ W1.heap.size) := ⟨by rw [e1_]; exact HS.out⟩
      have h_1 := TC1.out
      have h_2 : (t : Int) ≤ (r.f0.size : Int) := by omega
      have h_3 : (0 : Int) ≤ (t : Int) := by omega
      clear e1_ hcw
      refine start_ (n := 32) (S := fun w' => True) (ds := []) #[false, false, false, false, false, false, false, false, false, false, false, false, false, false, false, false, false, false, false, false, false, false, false, false, false, false, false, false, false, false, false, false] (by kernel_rfl) rfl rfl trivial (fun hHeld => ?_)
      refine with_tabW bobbinetkeep_MarksOrders.rMarksOrders12.tab12 bobbinetkeep_MarksOrders.rMarksOrders12.bits12 (fun HT_ HW_ => ?_)
      have HB := Aside0.mk (below_drew1 HB.out)
      have HO := Aside0.mk (Kd.N_drew HO.out)
      have HS : G ≤ W1.drew.heap.size := HS.out
      generalize World.drew W1 = W1 at HB HO HS ⊢
      refine pure_ (i := 0) (N := some 66) (v := ?_) (a' := ?_) #[true, false, false, false, false, false, false, false, false, false, false, false, false, false, false, false, false, false, false, false, false, false, false, false, false, false, false, false, false, false, false, false] rfl rfl (any_of HT_.out (by kernel_rfl)) (fun _ _ _ h => h) (Or.inl ⟨by rfl, ?_⟩) ?_ ?_
      rotate_left
      · intro w'
        go_simp
        with_reducible rfl
      rotate_left
      · simp only [Act.put, List.setIfInBounds_toArray, List.set_cons_zero, List.set_cons_succ, i64_w, i32_w]
        rfl
      refine pure_ (i := 1) (N := some 67) (v := ?_) (a' := ?_) #[true, true, false, false, false, false, false, false, false, false, false, false, false, false, false, false, false, false, false, false, false, false, false, false, false, false, false, false, false, false, false, false] rfl rfl (any_of HT_.out (by kernel_rfl)) (fun _ _ _ h => h) (Or.inl ⟨by rfl, ?_⟩) ?_ ?_
      rotate_left
      · intro w'
        go_simp
        with_reducible rfl
      rotate_left
      · simp only [Act.put, List.setIfInBounds_toArray, List.set_cons_zero, List.set_cons_succ, i64_w, i32_w]
        rfl
      refine pure_ (i := 2) (N := some 68) (v := ?_) (a' := ?_) #[true, true, true, false, false, false, false, false, false, false, false, false, false, false, false, false, false, false, false, false, false, false, false, false, false, false, false, false, false, false, false, false] rfl rfl (any_of HT_.out (by kernel_rfl)) (fun _ _ _ h => h) (Or.inl ⟨by rfl, ?_⟩) ?_ ?_
      rotate_left
      · intro w'
        go_simp
        with_reducible rfl
      rotate_left
      · simp only [Act.put, List.setIfInBounds_toArray, List.set_cons_zero, List.set_cons_succ, i64_w, i32_w]
        rfl
      refine pure_ (i := 3) (N := some 69) (v := ?_) (a' := ?_) #[true, true, true, true, false, false, false, false, false, false, false, false, false, false, false, false, false, false, false, false, false, false, false, false, false, false, false, false, false, false, false, false] rfl rfl (any_of HT_.out (by kernel_rfl)) (fun _ _ _ h => h) (Or.inl ⟨by rfl, ?_⟩) ?_ ?_
      rotate_left
      · intro w'
        go_simp
        with_reducible rfl
      rotate_left
      · simp only [Act.put, List.setIfInBounds_toArray, List.set_cons_zero, List.set_cons_succ, i64_w, i32_w]
        rfl
      refine pure_ (i := 4) (N := some 70) (v := ?_) (a' := ?_) #[true, true, true, true, true, false, false, false, false, false, false, false, false, false, false, false, false, false, false, false, false, false, false, false, false, false, false, false, false, false, false, false] rfl rfl (any_of HT_.out (by kernel_rfl)) (fun _ _ _ h => h) (Or.inl ⟨by rfl, ?_⟩) ?_ ?_
      rotate_left
      · intro w'
        go_simp
        with_reducible rfl
      rotate_left
      · simp only [Act.put, List.setIfInBounds_toArray, List.set_cons_zero, List.set_cons_succ, i64_w, i32_w]
        rfl
      refine pure_ (i := 6) (N := some 72) (v := ?_) (a' := ?_) #[true, true, true, true, true, false, true, false, false, false, false, false, false, false, false, false, false, false, false, false, false, false, false, false, false, false, false, false, false, false, false, false] rfl rfl (any_of HT_.out (by kernel_rfl)) (fun _ _ _ h => h) (Or.inl ⟨by rfl, ?_⟩) ?_ ?_
      rotate_left
      · intro w'
        go_simp
        with_reducible rfl
      rotate_left
      · simp only [Act.put, List.setIfInBounds_toArray, List.set_cons_zero, List.set_cons_succ, i64_w, i32_w]
        rfl
      refine pure_ (i := 8) (N := some 74) (v := ?_) (a' := ?_) #[true, true, true, true, true, false, true, false, true, false, false, false, false, false, false, false, false, false, false, false, false, false, false, false, false, false, false, false, false, false, false, false] rfl rfl (any_of HT_.out (by kernel_rfl)) (fun _ _ _ h => h) (Or.inl ⟨by rfl, ?_⟩) ?_ ?_
      rotate_left
      · intro w'
        go_simp
        with_reducible rfl
      rotate_left
      · simp only [Act.put, List.setIfInBounds_toArray, List.set_cons_zero, List.set_cons_succ, i64_w, i32_w]
        rfl
      refine pure_ (i := 9) (N := some 75) (v := ?_) (a' := ?_) #[true, true, true, true, true, false, true, false, true, true, false, false, false, false, false, false, false, false, false, false, false, false, false, false, false, false, false, false, false, false, false, false] rfl rfl (any_of HT_.out (by kernel_rfl)) (fun _ _ _ h => h) (Or.inl ⟨by rfl, ?_⟩) ?_ ?_
      rotate_left
      · intro w'
        go_simp
        with_reducible rfl
      rotate_left
      · simp only [Act.put, List.setIfInBounds_toArray, List.set_cons_zero, List.set_cons_succ, i64_w, i32_w]
        rfl
      refine pure_ (i := 10) (N := some 76) (v := ?_) (a' := ?_) #[true, true, true, true, true, false, true, false, true, true, true, false, false, false, false, false, false, false, false, false, false, false, false, false, false, false, false, false, false, false, false, false] rfl rfl (any_of HT_.out (by kernel_rfl)) (fun _ _ _ h => h) (Or.inl ⟨by rfl, ?_⟩) ?_ ?_
      rotate_left
      · intro w'
        go_simp
        with_reducible rfl
      rotate_left
      · simp only [Act.put, List.setIfInBounds_toArray, List.set_cons_zero, List.set_cons_succ, i64_w, i32_w]
        rfl
      refine pure_ (i := 11) (N := some 77) (v := ?_) (a' := ?_) #[true, true, true, true, true, false, true, false, true, true, true, true, false, false, false, false, false, false, false, false, false, false, false, false, false, false, false, false, false, false, false, false] rfl rfl (any_of HT_.out (by kernel_rfl)) (fun _ _ _ h => h) (Or.inl ⟨by rfl, ?_⟩) ?_ ?_
      rotate_left
      · intro w'
        go_simp
        with_reducible rfl
      rotate_left
      · simp only [Act.put, List.setIfInBounds_toArray, List.set_cons_zero, List.set_cons_succ, i64_w, i32_w]
        rfl
      refine pure_ (i := 15) (N := some 81) (v := ?_) (a' := ?_) #[true, true, true, true, true, false, true, false, true, true, true, true, false, false, false, true, false, false, false, false, false, false, false, false, false, false, false, false, false, false, false, false] rfl rfl (any_of HT_.out (by kernel_rfl)) (fun _ _ _ h => h) (Or.inl ⟨by rfl, ?_⟩) ?_ ?_
      rotate_left
      · intro w'
        go_simp
        with_reducible rfl
      rotate_left
      · simp only [Act.put, List.setIfInBounds_toArray, List.set_cons_zero, List.set_cons_succ, i64_w, i32_w]
        rfl
      refine pure_ (i := 16) (N := some 82) (v := ?_) (a' := ?_) #[true, true, true, true, true, false, true, false, true, true, true, true, false, false, false, true, true, false, false, false, false, false, false, false, false, false, false, false, false, false, false, false] rfl rfl (any_of HT_.out (by kernel_rfl)) (fun _ _ _ h => h) (Or.inl ⟨by rfl, ?_⟩) ?_ ?_
      rotate_left
      · intro w'
        go_simp
        with_reducible rfl
      rotate_left
      · simp only [Act.put, List.setIfInBounds_toArray, List.set_cons_zero, List.set_cons_succ, i64_w, i32_w]
        rfl
      refine pure_ (i := 17) (N := some 83) (v := ?_) (a' := ?_) #[true, true, true, true, true, false, true, false, true, true, true, true, false, false, false, true, true, true, false, false, false, false, false, false, false, false, false, false, false, false, false, false] rfl rfl (any_of HT_.out (by kernel_rfl)) (fun _ _ _ h => h) (Or.inl ⟨by rfl, ?_⟩) ?_ ?_
      rotate_left
      · intro w'
        go_simp
        with_reducible rfl
      rotate_left
      · simp only [Act.put, List.setIfInBounds_toArray, List.set_cons_zero, List.set_cons_succ, i64_w, i32_w]
        rfl
      refine pure_ (i := 18) (N := some 84) (v := ?_) (a' := ?_) #[true, true, true, true, true, false, true, false, true, true, true, true, false, false, false, true, true, true, true, false, false, false, false, false, false, false, false, false, false, false, false, false] rfl rfl (any_of HT_.out (by kernel_rfl)) (fun _ _ _ h => h) (Or.inl ⟨by rfl, ?_⟩) ?_ ?_
      rotate_left
      · intro w'
        go_simp
        with_reducible rfl
      rotate_left
      · simp only [Act.put, List.setIfInBounds_toArray, List.set_cons_zero, List.set_cons_succ, i64_w, i32_w]
        rfl
      refine pure_ (i := 20) (N := some 86) (v := ?_) (a' := ?_) #[true, true, true, true, true, false, true, false, true, true, true, true, false, false, false, true, true, true, true, false, true, false, false, false, false, false, false, false, false, false, false, false] rfl rfl (any_of HT_.out (by kernel_rfl)) (fun _ _ _ h => h) (Or.inl ⟨by rfl, ?_⟩) ?_ ?_
      rotate_left
      · intro w'
        go_simp
        with_reducible rfl
      rotate_left
      · simp only [Act.put, List.setIfInBounds_toArray, List.set_cons_zero, List.set_cons_succ, i64_w, i32_w]
        rfl
      refine pure_ (i := 22) (N := some 88) (v := ?_) (a' := ?_) #[true, true, true, true, true, false, true, false, true, true, true, true, false, false, false, true, true, true, true, false, true, false, true, false, false, false, false, false, false, false, false, false] rfl rfl (any_of HT_.out (by kernel_rfl)) (fun _ _ _ h => h) (Or.inl ⟨by rfl, ?_⟩) ?_ ?_
      rotate_left
      · intro w'
        go_simp
        with_reducible rfl
      rotate_left
      · simp only [Act.put, List.setIfInBounds_toArray, List.set_cons_zero, List.set_cons_succ, i64_w, i32_w]
        rfl
      refine pure_ (i := 23) (N := some 89) (v := ?_) (a' := ?_) #[true, true, true, true, true, false, true, false, true, true, true, true, false, false, false, true, true, true, true, false, true, false, true, true, false, false, false, false, false, false, false, false] rfl rfl (any_of HT_.out (by kernel_rfl)) (fun _ _ _ h => h) (Or.inl ⟨by rfl, ?_⟩) ?_ ?_
      rotate_left
      · intro w'
        go_simp
        with_reducible rfl
      rotate_left
      · simp only [Act.put, List.setIfInBounds_toArray, List.set_cons_zero, List.set_cons_succ, i64_w, i32_w]
        rfl
      refine pure_ (i := 24) (N := some 90) (v := ?_) (a' := ?_) #[true, true, true, true, true, false, true, false, true, true, true, true, false, false, false, true, true, true, true, false, true, false, true, true, true, false, false, false, false, false, false, false] rfl rfl (any_of HT_.out (by kernel_rfl)) (fun _ _ _ h => h) (Or.inl ⟨by rfl, ?_⟩) ?_ ?_
      rotate_left
      · intro w'
        go_simp
        with_reducible rfl
      rotate_left
      · simp only [Act.put, List.setIfInBounds_toArray, List.set_cons_zero, List.set_cons_succ, i64_w, i32_w]
        rfl
      refine pure_ (i := 25) (N := some 91) (v := ?_) (a' := ?_) #[true, true, true, true, true, false, true, false, true, true, true, true, false, false, false, true, true, true, true, false, true, false, true, true, true, true, false, false, false, false, false, false] rfl rfl (any_of HT_.out (by kernel_rfl)) (fun _ _ _ h => h) (Or.inl ⟨by rfl, ?_⟩) ?_ ?_
      rotate_left
      · intro w'
        go_simp
        with_reducible rfl
      rotate_left
      · simp only [Act.put, List.setIfInBounds_toArray, List.set_cons_zero, List.set_cons_succ, i64_w, i32_w]
        rfl
      refine inv_at [5, 7, 12, 13, 14, 19, 21, 26, 27, 28, 29, 30, 31] (fun a0_ b a w' => ∃ (A79 : Option Addr) (c79 : Nat) (A93 : Option Addr) (c93 : Nat) (g95 : Nat) (v96 : Value) (m13_ : Value) (m14_ : Value) (m27_ : Value) (m28_ : Value) (m29_ : Value) (m31_ : Value), a = putSel a0_ b [(5, 71, .string r.f0), (7, 73, .string (r.f0.extract 0 t)), (12, 78, .slice A1 r.f1.length c1), (13, 79, m13_), (14, 80, m14_), (19, 85, .string r.f0), (21, 87, .string (r.f0.extract t r.f0.size)), (26, 92, .slice A1 r.f1.length c1), (27, 93, m27_), (28, 94, m28_), (29, 95, m29_), (30, 96, v96), (31, 18, m31_)] ∧ (Below W0.heap.size W0 w') ∧ (G ≤ w'.heap.size) ∧ (b 30 = false → Kd.N k40 40 w' W0.heap.size (fun k_ => W0.heap.size ≤ k_ ∧ k_ < G) u18 xs) ∧ (b 13 = true → b 30 = false → Kd.F Kd.string w' (fun k_ => G ≤ k_) A79 r.f1.length r.f1 ∧ r.f1.length ≤ c79) ∧ (b 27 = true → b 30 = false → Kd.F Kd.string w' (fun k_ => G ≤ k_) A93 r.f1.length r.f1 ∧ r.f1.length ≤ c93) ∧ (b 29 = true → b 30 = false → w'.heap[g95]? = some (.cells #[.string (r.f0.extract 0 t), .slice A79 r.f1.length c79, .string (r.f0.extract t r.f0.size), .slice A93 r.f1.length c93] 40 (0, 0)) ∧ G ≤ g95) ∧ (b 30 = true → Kd.N k40 40 w' W0.heap.size (fun k_ => W0.heap.size ≤ k_) v96 (xs ++ [(⟨(r.f0.extract 0 t), r.f1⟩ : S40), ⟨(r.f0.extract t r.f0.size), r.f1⟩])) ∧ (b 13 = true → (m13_ : Value) = .slice A79 r.f1.length c79) ∧ (b 14 = true → (m14_ : Value) = .agg #[.string (r.f0.extract 0 t), .slice A79 r.f1.length c79]) ∧ (b 27 = true → (m27_ : Value) = .slice A93 r.f1.length c93) ∧ (b 28 = true → (m28_ : Value) = .agg #[.string (r.f0.extract t r.f0.size), .slice A93 r.f1.length c93]) ∧ (b 29 = true → (m29_ : Value) = .slice (some ⟨g95, 0, none⟩) 2 2) ∧ (b 31 = true → (m31_ : Value) = v96)) HT_.out HW_.out (by kernel_rfl) (by kernel_rfl) ?_ ?_ ?_
      · exact ⟨none, 0, none, 0, 0, .bool false, .bool false, .bool false, .bool false, .bool false, .bool false, .bool false, by simp only [putSel, Bool.false_eq_true, if_false], HB.out, HS, fun _ => HO.out, fun h_ => absurd h_ (by decide), fun h_ => absurd h_ (by decide), fun h_ => absurd h_ (by decide), fun h_ => absurd h_ (by decide), fun h_ => absurd h_ (by decide), fun h_ => absurd h_ (by decide), fun h_ => absurd h_ (by decide), fun h_ => absurd h_ (by decide), fun h_ => absurd h_ (by decide), fun h_ => absurd h_ (by decide)⟩
      · skip
        clear HB HO HS
        refine steps_cons ?_ ?_
        · rintro b a w' ⟨A79, c79, A93, c93, g95, v96, m13_, m14_, m27_, m28_, m29_, m31_, ha, Q_HB, Q_HS, Q_HO, Q_F79, Q_F93, Q_L95, Q_HN, Q_X13_, Q_X14_, Q_X27_, Q_X28_, Q_X29_, Q_X31_⟩ hb_ hon hoff
          refine ⟨_, rfl, fun K hK => ?_⟩
          have e70 : a.tmps[70]? = some (.pointer (some (ad.add (xi.toNat * 2)))) := by rw [ha]; exact (putSel_off rfl).trans rfl
          replace ha := Aside0.mk ha
          have HB := Aside0.mk Q_HB
          have HS := Aside0.mk Q_HS
          have HO := Aside0.mk (Q_HO (hoff 30 (by kernel_rfl)))
          have hc_ := (HB.out.cell (World.block_lt_of_cell? W0 _ HX0.out)).trans HX0.out
          refine value_ (w1 := w') (v := .string r.f0) (by rfl) rfl ?_ ?_
          · go_simp
            (try simp only [i64_w])
            try rfl
          refine hK.out _ _ ⟨A79, c79, A93, c93, g95, v96, m13_, m14_, m27_, m28_, m29_, m31_, (by rw [ha.out]; exact putSel_upk 0 hb_ rfl rfl rfl), Q_HB, Q_HS, Q_HO, Q_F79, Q_F93, fun h0_ _ => absurd ((hoff 29 (by kernel_rfl)).symm.trans h0_) (by decide), fun h0_ => absurd ((hoff 30 (by kernel_rfl)).symm.trans h0_) (by decide), Q_X13_, fun h0_ => absurd ((hoff 14 (by kernel_rfl)).symm.trans h0_) (by decide), Q_X27_, Q_X28_, fun h0_ => absurd ((hoff 29 (by kernel_rfl)).symm.trans h0_) (by decide), fun h0_ => absurd ((hoff 31 (by kernel_rfl)).symm.trans h0_) (by decide)⟩
        refine steps_cons ?_ ?_
        · rintro b a w' ⟨A79, c79, A93, c93, g95, v96, m13_, m14_, m27_, m28_, m29_, m31_, ha, Q_HB, Q_HS, Q_HO, Q_F79, Q_F93, Q_L95, Q_HN, Q_X13_, Q_X14_, Q_X27_, Q_X28_, Q_X29_, Q_X31_⟩ hb_ hon hoff
          refine ⟨_, rfl, fun K hK => ?_⟩
          have e71 : a.tmps[71]? = some (.string r.f0) := by rw [ha]; exact putSel_on (e := (5, 71, .string r.f0)) 0 rfl rfl (hon 5 (by kernel_rfl)) rfl
          have e72 : a.tmps[72]? = some (.int .i64 (t : Int)) := by rw [ha]; exact (putSel_off rfl).trans rfl
          replace ha := Aside0.mk ha
          have HB := Aside0.mk Q_HB
          have HS := Aside0.mk Q_HS
          have HO := Aside0.mk (Q_HO (hoff 30 (by kernel_rfl)))
          refine value_ (w1 := w') (v := .string (r.f0.extract 0 t)) (by rfl) rfl ?_ ?_
          · go_simp
            (try simp only [i64_w])
            try rfl
          refine hK.out _ _ ⟨A79, c79, A93, c93, g95, v96, m13_, m14_, m27_, m28_, m29_, m31_, (by rw [ha.out]; exact putSel_upk 1 hb_ rfl rfl rfl), Q_HB, Q_HS, Q_HO, Q_F79, Q_F93, fun h0_ _ => absurd ((hoff 29 (by kernel_rfl)).symm.trans h0_) (by decide), fun h0_ => absurd ((hoff 30 (by kernel_rfl)).symm.trans h0_) (by decide), Q_X13_, fun h0_ => absurd ((hoff 14 (by kernel_rfl)).symm.trans h0_) (by decide), Q_X27_, Q_X28_, fun h0_ => absurd ((hoff 29 (by kernel_rfl)).symm.trans h0_) (by decide), fun h0_ => absurd ((hoff 31 (by kernel_rfl)).symm.trans h0_) (by decide)⟩
        refine steps_cons ?_ ?_
        · rintro b a w' ⟨A79, c79, A93, c93, g95, v96, m13_, m14_, m27_, m28_, m29_, m31_, ha, Q_HB, Q_HS, Q_HO, Q_F79, Q_F93, Q_L95, Q_HN, Q_X13_, Q_X14_, Q_X27_, Q_X28_, Q_X29_, Q_X31_⟩ hb_ hon hoff
          refine ⟨_, rfl, fun K hK => ?_⟩
          have e77 : a.tmps[77]? = some (.pointer (some ⟨(ad.add (xi.toNat * 2)).block, (ad.add (xi.toNat * 2)).off + 1, none⟩)) := by rw [ha]; exact (putSel_off rfl).trans rfl
          replace ha := Aside0.mk ha
          have HB := Aside0.mk Q_HB
          have HS := Aside0.mk Q_HS
          have HO := Aside0.mk (Q_HO (hoff 30 (by kernel_rfl)))
          have hc_ := (HB.out.cell (World.block_lt_of_cell? W0 _ HX1.out)).trans HX1.out
          refine value_ (w1 := w') (v := .slice A1 r.f1.length c1) (by rfl) rfl ?_ ?_
          · go_simp
            (try simp only [i64_w])
            try rfl
          refine hK.out _ _ ⟨A79, c79, A93, c93, g95, v96, m13_, m14_, m27_, m28_, m29_, m31_, (by rw [ha.out]; exact putSel_upk 2 hb_ rfl rfl rfl), Q_HB, Q_HS, Q_HO, fun h0_ _ => absurd ((hoff 13 (by kernel_rfl)).symm.trans h0_) (by decide), fun h0_ _ => absurd ((hoff 27 (by kernel_rfl)).symm.trans h0_) (by decide), fun h0_ _ => absurd ((hoff 29 (by kernel_rfl)).symm.trans h0_) (by decide), fun h0_ => absurd ((hoff 30 (by kernel_rfl)).symm.trans h0_) (by decide), fun h0_ => absurd ((hoff 13 (by kernel_rfl)).symm.trans h0_) (by decide), fun h0_ => absurd ((hoff 14 (by kernel_rfl)).symm.trans h0_) (by decide), fun h0_ => absurd ((hoff 27 (by kernel_rfl)).symm.trans h0_) (by decide), fun h0_ => absurd ((hoff 28 (by kernel_rfl)).symm.trans h0_) (by decide), fun h0_ => absurd ((hoff 29 (by kernel_rfl)).symm.trans h0_) (by decide), fun h0_ => absurd ((hoff 31 (by kernel_rfl)).symm.trans h0_) (by decide)⟩
        refine steps_cons ?_ ?_
        · rintro b a w' ⟨A79, c79, A93, c93, g95, v96, m13_, m14_, m27_, m28_, m29_, m31_, ha, Q_HB, Q_HS, Q_HO, Q_F79, Q_F93, Q_L95, Q_HN, Q_X13_, Q_X14_, Q_X27_, Q_X28_, Q_X29_, Q_X31_⟩ hb_ hon hoff
          refine ⟨_, rfl, fun K hK => ?_⟩
          have e78 : a.tmps[78]? = some (.slice A1 r.f1.length c1) := by rw [ha]; exact putSel_on (e := (12, 78, .slice A1 r.f1.length c1)) 2 rfl rfl (hon 12 (by kernel_rfl)) rfl
          replace ha := Aside0.mk ha
          have HB := Aside0.mk Q_HB
          have HS := Aside0.mk Q_HS
          have HO := Aside0.mk (Q_HO (hoff 30 (by kernel_rfl)))
          refine Kd.R_append_rows_step Kd.string (w0 := W0) W0.heap.size (by rfl) (.const (.slice none 0 0)) (.tmp 78) 23 9 (.string ⟨#[]⟩) 16 (by rfl) Tryd.underlying23 info9 rfl (by decide) (by omega) (.slice none 0 0) ([] : List ByteArray) r.f1 _ _ _ (fun k_ => G ≤ k_) (fun _ => False) rfl (eval_of e78) (Kd.R_nil _ _ _ _ _) (Kd.C_below HI.out HB.out) (fun _ _ h => h) (fun _ h => h.elim) (fun k hk => Nat.le_trans HS.out hk) HB.out HB.out.size (by have := HLn.out; simp; omega) ?_
          intro v1_ w1 ho hb2 hg hat
          rw [List.nil_append] at ho
          obtain ⟨A79_, c79_, eV_, hl_, _⟩ := Kd.R_reads ho
          subst eV_
          refine hK.out _ _ ⟨A79_, c79_, A93, c93, g95, v96, (.slice A79_ r.f1.length c79_), m14_, m27_, m28_, m29_, m31_, (by rw [ha.out]; exact putSel_upk 3 hb_ rfl rfl rfl), hb2, Nat.le_trans HS.out hg.size, fun _ => Kd.N_grown HO.out hg (fun k hk => by simp [Value.ownBlock]), fun _ _ => ⟨Kd.R_F ho, hl_⟩, fun h0_ _ => absurd ((hoff 27 (by kernel_rfl)).symm.trans h0_) (by decide), fun h0_ _ => absurd ((hoff 29 (by kernel_rfl)).symm.trans h0_) (by decide), fun h0_ => absurd ((hoff 30 (by kernel_rfl)).symm.trans h0_) (by decide), fun _ => rfl, fun h0_ => absurd ((hoff 14 (by kernel_rfl)).symm.trans h0_) (by decide), fun h0_ => absurd ((hoff 27 (by kernel_rfl)).symm.trans h0_) (by decide), fun h0_ => absurd ((hoff 28 (by kernel_rfl)).symm.trans h0_) (by decide), fun h0_ => absurd ((hoff 29 (by kernel_rfl)).symm.trans h0_) (by decide), fun h0_ => absurd ((hoff 31 (by kernel_rfl)).symm.trans h0_) (by decide)⟩
        refine steps_cons ?_ ?_
        · rintro b a w' ⟨A79, c79, A93, c93, g95, v96, m13_, m14_, m27_, m28_, m29_, m31_, ha, Q_HB, Q_HS, Q_HO, Q_F79, Q_F93, Q_L95, Q_HN, Q_X13_, Q_X14_, Q_X27_, Q_X28_, Q_X29_, Q_X31_⟩ hb_ hon hoff
          refine ⟨_, rfl, fun K hK => ?_⟩
          have e73 : a.tmps[73]? = some (.string (r.f0.extract 0 t)) := by rw [ha]; exact putSel_on (e := (7, 73, .string (r.f0.extract 0 t))) 1 rfl rfl (hon 7 (by kernel_rfl)) rfl
          have e79 : a.tmps[79]? = some (m13_) := by rw [ha]; exact putSel_on (e := (13, 79, m13_)) 3 rfl rfl (hon 13 (by kernel_rfl)) rfl
          rw [Q_X13_ (hon 13 (by kernel_rfl))] at e79
          replace ha := Aside0.mk ha
          have HB := Aside0.mk Q_HB
          have HS := Aside0.mk Q_HS
          have HO := Aside0.mk (Q_HO (hoff 30 (by kernel_rfl)))
          have F79 := Aside0.mk (Q_F79 (hon 13 (by kernel_rfl)) (hoff 30 (by kernel_rfl)))
          refine value_ (w1 := w') (v := .agg #[.string (r.f0.extract 0 t), .slice A79 r.f1.length c79]) (by rfl) rfl ?_ ?_
          · go_simp
            (try simp only [i64_w])
            try rfl
          refine hK.out _ _ ⟨A79, c79, A93, c93, g95, v96, m13_, (.agg #[.string (r.f0.extract 0 t), .slice A79 r.f1.length c79]), m27_, m28_, m29_, m31_, (by rw [ha.out]; exact putSel_upk 4 hb_ rfl rfl rfl), Q_HB, Q_HS, Q_HO, Q_F79, Q_F93, fun h0_ _ => absurd ((hoff 29 (by kernel_rfl)).symm.trans h0_) (by decide), fun h0_ => absurd ((hoff 30 (by kernel_rfl)).symm.trans h0_) (by decide), Q_X13_, fun _ => rfl, Q_X27_, Q_X28_, fun h0_ => absurd ((hoff 29 (by kernel_rfl)).symm.trans h0_) (by decide), fun h0_ => absurd ((hoff 31 (by kernel_rfl)).symm.trans h0_) (by decide)⟩
        refine steps_cons ?_ ?_
        · rintro b a w' ⟨A79, c79, A93, c93, g95, v96, m13_, m14_, m27_, m28_, m29_, m31_, ha, Q_HB, Q_HS, Q_HO, Q_F79, Q_F93, Q_L95, Q_HN, Q_X13_, Q_X14_, Q_X27_, Q_X28_, Q_X29_, Q_X31_⟩ hb_ hon hoff
          refine ⟨_, rfl, fun K hK => ?_⟩
          have e84 : a.tmps[84]? = some (.pointer (some (ad.add (xi.toNat * 2)))) := by rw [ha]; exact (putSel_off rfl).trans rfl
          replace ha := Aside0.mk ha
          have HB := Aside0.mk Q_HB
          have HS := Aside0.mk Q_HS
          have HO := Aside0.mk (Q_HO (hoff 30 (by kernel_rfl)))
          have hc_ := (HB.out.cell (World.block_lt_of_cell? W0 _ HX0.out)).trans HX0.out
          refine value_ (w1 := w') (v := .string r.f0) (by rfl) rfl ?_ ?_
          · go_simp
            (try simp only [i64_w])
            try rfl
          refine hK.out _ _ ⟨A79, c79, A93, c93, g95, v96, m13_, m14_, m27_, m28_, m29_, m31_, (by rw [ha.out]; exact putSel_upk 5 hb_ rfl rfl rfl), Q_HB, Q_HS, Q_HO, Q_F79, Q_F93, fun h0_ _ => absurd ((hoff 29 (by kernel_rfl)).symm.trans h0_) (by decide), fun h0_ => absurd ((hoff 30 (by kernel_rfl)).symm.trans h0_) (by decide), Q_X13_, Q_X14_, Q_X27_, fun h0_ => absurd ((hoff 28 (by kernel_rfl)).symm.trans h0_) (by decide), fun h0_ => absurd ((hoff 29 (by kernel_rfl)).symm.trans h0_) (by decide), fun h0_ => absurd ((hoff 31 (by kernel_rfl)).symm.trans h0_) (by decide)⟩
        refine steps_cons ?_ ?_
        · rintro b a w' ⟨A79, c79, A93, c93, g95, v96, m13_, m14_, m27_, m28_, m29_, m31_, ha, Q_HB, Q_HS, Q_HO, Q_F79, Q_F93, Q_L95, Q_HN, Q_X13_, Q_X14_, Q_X27_, Q_X28_, Q_X29_, Q_X31_⟩ hb_ hon hoff
          refine ⟨_, rfl, fun K hK => ?_⟩
          have e85 : a.tmps[85]? = some (.string r.f0) := by rw [ha]; exact putSel_on (e := (19, 85, .string r.f0)) 5 rfl rfl (hon 19 (by kernel_rfl)) rfl
          have e86 : a.tmps[86]? = some (.int .i64 (t : Int)) := by rw [ha]; exact (putSel_off rfl).trans rfl
          replace ha := Aside0.mk ha
          have HB := Aside0.mk Q_HB
          have HS := Aside0.mk Q_HS
          have HO := Aside0.mk (Q_HO (hoff 30 (by kernel_rfl)))
          refine value_ (w1 := w') (v := .string (r.f0.extract t r.f0.size)) (by rfl) rfl ?_ ?_
          · go_simp
            (try simp only [i64_w])
            try rfl
          refine hK.out _ _ ⟨A79, c79, A93, c93, g95, v96, m13_, m14_, m27_, m28_, m29_, m31_, (by rw [ha.out]; exact putSel_upk 6 hb_ rfl rfl rfl), Q_HB, Q_HS, Q_HO, Q_F79, Q_F93, fun h0_ _ => absurd ((hoff 29 (by kernel_rfl)).symm.trans h0_) (by decide), fun h0_ => absurd ((hoff 30 (by kernel_rfl)).symm.trans h0_) (by decide), Q_X13_, Q_X14_, Q_X27_, fun h0_ => absurd ((hoff 28 (by kernel_rfl)).symm.trans h0_) (by decide), fun h0_ => absurd ((hoff 29 (by kernel_rfl)).symm.trans h0_) (by decide), fun h0_ => absurd ((hoff 31 (by kernel_rfl)).symm.trans h0_) (by decide)⟩
        refine steps_cons ?_ ?_
        · rintro b a w' ⟨A79, c79, A93, c93, g95, v96, m13_, m14_, m27_, m28_, m29_, m31_, ha, Q_HB, Q_HS, Q_HO, Q_F79, Q_F93, Q_L95, Q_HN, Q_X13_, Q_X14_, Q_X27_, Q_X28_, Q_X29_, Q_X31_⟩ hb_ hon hoff
          refine ⟨_, rfl, fun K hK => ?_⟩
          have e91 : a.tmps[91]? = some (.pointer (some ⟨(ad.add (xi.toNat * 2)).block, (ad.add (xi.toNat * 2)).off + 1, none⟩)) := by rw [ha]; exact (putSel_off rfl).trans rfl
          replace ha := Aside0.mk ha
          have HB := Aside0.mk Q_HB
          have HS := Aside0.mk Q_HS
          have HO := Aside0.mk (Q_HO (hoff 30 (by kernel_rfl)))
          have hc_ := (HB.out.cell (World.block_lt_of_cell? W0 _ HX1.out)).trans HX1.out
          refine value_ (w1 := w') (v := .slice A1 r.f1.length c1) (by rfl) rfl ?_ ?_
          · go_simp
            (try simp only [i64_w])
            try rfl
          refine hK.out _ _ ⟨A79, c79, A93, c93, g95, v96, m13_, m14_, m27_, m28_, m29_, m31_, (by rw [ha.out]; exact putSel_upk 7 hb_ rfl rfl rfl), Q_HB, Q_HS, Q_HO, Q_F79, fun h0_ _ => absurd ((hoff 27 (by kernel_rfl)).symm.trans h0_) (by decide), fun h0_ _ => absurd ((hoff 29 (by kernel_rfl)).symm.trans h0_) (by decide), fun h0_ => absurd ((hoff 30 (by kernel_rfl)).symm.trans h0_) (by decide), Q_X13_, Q_X14_, fun h0_ => absurd ((hoff 27 (by kernel_rfl)).symm.trans h0_) (by decide), fun h0_ => absurd ((hoff 28 (by kernel_rfl)).symm.trans h0_) (by decide), fun h0_ => absurd ((hoff 29 (by kernel_rfl)).symm.trans h0_) (by decide), fun h0_ => absurd ((hoff 31 (by kernel_rfl)).symm.trans h0_) (by decide)⟩
        refine steps_cons ?_ ?_
        · rintro b a w' ⟨A79, c79, A93, c93, g95, v96, m13_, m14_, m27_, m28_, m29_, m31_, ha, Q_HB, Q_HS, Q_HO, Q_F79, Q_F93, Q_L95, Q_HN, Q_X13_, Q_X14_, Q_X27_, Q_X28_, Q_X29_, Q_X31_⟩ hb_ hon hoff
          refine ⟨_, rfl, fun K hK => ?_⟩
          have e92 : a.tmps[92]? = some (.slice A1 r.f1.length c1) := by rw [ha]; exact putSel_on (e := (26, 92, .slice A1 r.f1.length c1)) 7 rfl rfl (hon 26 (by kernel_rfl)) rfl
          replace ha := Aside0.mk ha
          have HB := Aside0.mk Q_HB
          have HS := Aside0.mk Q_HS
          have HO := Aside0.mk (Q_HO (hoff 30 (by kernel_rfl)))
          have F79 := Aside0.mk (Q_F79 (hon 13 (by kernel_rfl)) (hoff 30 (by kernel_rfl)))
          refine Kd.R_append_rows_step Kd.string (w0 := W0) W0.heap.size (by rfl) (.const (.slice none 0 0)) (.tmp 92) 23 9 (.string ⟨#[]⟩) 16 (by rfl) Tryd.underlying23 info9 rfl (by decide) (by omega) (.slice none 0 0) ([] : List ByteArray) r.f1 _ _ _ (fun k_ => G ≤ k_) (fun _ => False) rfl (eval_of e92) (Kd.R_nil _ _ _ _ _) (Kd.C_below HI.out HB.out) (fun _ _ h => h) (fun _ h => h.elim) (fun k hk => Nat.le_trans HS.out hk) HB.out HB.out.size (by have := HLn.out; simp; omega) ?_
          intro v1_ w1 ho hb2 hg hat
          rw [List.nil_append] at ho
          obtain ⟨A93_, c93_, eV_, hl_, _⟩ := Kd.R_reads ho
          subst eV_
          refine hK.out _ _ ⟨A79, c79, A93_, c93_, g95, v96, m13_, m14_, (.slice A93_ r.f1.length c93_), m28_, m29_, m31_, (by rw [ha.out]; exact putSel_upk 8 hb_ rfl rfl rfl), hb2, Nat.le_trans HS.out hg.size, fun _ => Kd.N_grown HO.out hg (fun k hk => by simp [Value.ownBlock]), fun _ _ => ⟨Kd.F_grown F79.out.1 hg (fun k hk => by simp [Value.ownBlock]), F79.out.2⟩, fun _ _ => ⟨Kd.R_F ho, hl_⟩, fun h0_ _ => absurd ((hoff 29 (by kernel_rfl)).symm.trans h0_) (by decide), fun h0_ => absurd ((hoff 30 (by kernel_rfl)).symm.trans h0_) (by decide), Q_X13_, Q_X14_, fun _ => rfl, fun h0_ => absurd ((hoff 28 (by kernel_rfl)).symm.trans h0_) (by decide), fun h0_ => absurd ((hoff 29 (by kernel_rfl)).symm.trans h0_) (by decide), fun h0_ => absurd ((hoff 31 (by kernel_rfl)).symm.trans h0_) (by decide)⟩
        refine steps_cons ?_ ?_
        · rintro b a w' ⟨A79, c79, A93, c93, g95, v96, m13_, m14_, m27_, m28_, m29_, m31_, ha, Q_HB, Q_HS, Q_HO, Q_F79, Q_F93, Q_L95, Q_HN, Q_X13_, Q_X14_, Q_X27_, Q_X28_, Q_X29_, Q_X31_⟩ hb_ hon hoff
          refine ⟨_, rfl, fun K hK => ?_⟩
          have e87 : a.tmps[87]? = some (.string (r.f0.extract t r.f0.size)) := by rw [ha]; exact putSel_on (e := (21, 87, .string (r.f0.extract t r.f0.size))) 6 rfl rfl (hon 21 (by kernel_rfl)) rfl
          have e93 : a.tmps[93]? = some (m27_) := by rw [ha]; exact putSel_on (e := (27, 93, m27_)) 8 rfl rfl (hon 27 (by kernel_rfl)) rfl
          rw [Q_X27_ (hon 27 (by kernel_rfl))] at e93
          replace ha := Aside0.mk ha
          have HB := Aside0.mk Q_HB
          have HS := Aside0.mk Q_HS
          have HO := Aside0.mk (Q_HO (hoff 30 (by kernel_rfl)))
          have F79 := Aside0.mk (Q_F79 (hon 13 (by kernel_rfl)) (hoff 30 (by kernel_rfl)))
          have F93 := Aside0.mk (Q_F93 (hon 27 (by kernel_rfl)) (hoff 30 (by kernel_rfl)))
          refine value_ (w1 := w') (v := .agg #[.string (r.f0.extract t r.f0.size), .slice A93 r.f1.length c93]) (by rfl) rfl ?_ ?_
          · go_simp
            (try simp only [i64_w])
            try rfl
          refine hK.out _ _ ⟨A79, c79, A93, c93, g95, v96, m13_, m14_, m27_, (.agg #[.string (r.f0.extract t r.f0.size), .slice A93 r.f1.length c93]), m29_, m31_, (by rw [ha.out]; exact putSel_upk 9 hb_ rfl rfl rfl), Q_HB, Q_HS, Q_HO, Q_F79, Q_F93, fun h0_ _ => absurd ((hoff 29 (by kernel_rfl)).symm.trans h0_) (by decide), fun h0_ => absurd ((hoff 30 (by kernel_rfl)).symm.trans h0_) (by decide), Q_X13_, Q_X14_, Q_X27_, fun _ => rfl, fun h0_ => absurd ((hoff 29 (by kernel_rfl)).symm.trans h0_) (by decide), fun h0_ => absurd ((hoff 31 (by kernel_rfl)).symm.trans h0_) (by decide)⟩
        refine steps_cons ?_ ?_
        · rintro b a w' ⟨A79, c79, A93, c93, g95, v96, m13_, m14_, m27_, m28_, m29_, m31_, ha, Q_HB, Q_HS, Q_HO, Q_F79, Q_F93, Q_L95, Q_HN, Q_X13_, Q_X14_, Q_X27_, Q_X28_, Q_X29_, Q_X31_⟩ hb_ hon hoff
          refine ⟨_, rfl, fun K hK => ?_⟩
          have e80 : a.tmps[80]? = some (m14_) := by rw [ha]; exact putSel_on (e := (14, 80, m14_)) 4 rfl rfl (hon 14 (by kernel_rfl)) rfl
          rw [Q_X14_ (hon 14 (by kernel_rfl))] at e80
          have e94 : a.tmps[94]? = some (m28_) := by rw [ha]; exact putSel_on (e := (28, 94, m28_)) 9 rfl rfl (hon 28 (by kernel_rfl)) rfl
          rw [Q_X28_ (hon 28 (by kernel_rfl))] at e94
          replace ha := Aside0.mk ha
          have HB := Aside0.mk Q_HB
          have HS := Aside0.mk Q_HS
          have HO := Aside0.mk (Q_HO (hoff 30 (by kernel_rfl)))
          have F79 := Aside0.mk (Q_F79 (hon 13 (by kernel_rfl)) (hoff 30 (by kernel_rfl)))
          have F93 := Aside0.mk (Q_F93 (hon 27 (by kernel_rfl)) (hoff 30 (by kernel_rfl)))
          refine value_ (w1 := w'.alloc (.cells #[.string (r.f0.extract 0 t), .slice A79 r.f1.length c79, .string (r.f0.extract t r.f0.size), .slice A93 r.f1.length c93] 40)) (v := .slice (some ⟨w'.heap.size, 0, none⟩) 2 2) (by rfl) rfl ?_ ?_
          · go_simp
            try rfl
          refine hK.out _ _ ⟨A79, c79, A93, c93, w'.heap.size, v96, m13_, m14_, m27_, m28_, (.slice (some ⟨w'.heap.size, 0, none⟩) 2 2), m31_, (by rw [ha.out]; exact putSel_upk 10 hb_ rfl rfl rfl), below_alloc HB.out _, Nat.le_trans HS.out (below_alloc (Below.refl _ _) _).size, fun _ => Kd.N_alloc HO.out _, fun _ _ => ⟨Kd.F_alloc F79.out.1 _, F79.out.2⟩, fun _ _ => ⟨Kd.F_alloc F93.out.1 _, F93.out.2⟩, fun _ _ => ⟨blk_new w' _, HS.out⟩, fun h0_ => absurd ((hoff 30 (by kernel_rfl)).symm.trans h0_) (by decide), Q_X13_, Q_X14_, Q_X27_, Q_X28_, fun _ => rfl, fun h0_ => absurd ((hoff 31 (by kernel_rfl)).symm.trans h0_) (by decide)⟩
        refine steps_cons ?_ ?_
        · rintro b a w' ⟨A79, c79, A93, c93, g95, v96, m13_, m14_, m27_, m28_, m29_, m31_, ha, Q_HB, Q_HS, Q_HO, Q_F79, Q_F93, Q_L95, Q_HN, Q_X13_, Q_X14_, Q_X27_, Q_X28_, Q_X29_, Q_X31_⟩ hb_ hon hoff
          refine ⟨_, rfl, fun K hK => ?_⟩
          have e66 : a.tmps[66]? = some (u18) := by rw [ha]; exact (putSel_off rfl).trans rfl
          have e95 : a.tmps[95]? = some (m29_) := by rw [ha]; exact putSel_on (e := (29, 95, m29_)) 10 rfl rfl (hon 29 (by kernel_rfl)) rfl
          rw [Q_X29_ (hon 29 (by kernel_rfl))] at e95
          replace ha := Aside0.mk ha
          have HB := Aside0.mk Q_HB
          have HS := Aside0.mk Q_HS
          have HO := Aside0.mk (Q_HO hb_)
          have F79 := Aside0.mk (Q_F79 (hon 13 (by kernel_rfl)) hb_)
          have F93 := Aside0.mk (Q_F93 (hon 27 (by kernel_rfl)) hb_)
          have L95 := Aside0.mk (Q_L95 (hon 29 (by kernel_rfl)) hb_)
          refine Kd.N_append_rows_step k40 (w0 := W0) W0.heap.size (by rfl) (.tmp 66) (.tmp 95) 29 40 (.agg #[(.string ⟨#[]⟩), (.slice none 0 0)]) 40 (by rfl) Tryd.underlying29 info40 rfl (by decide) (by omega) u18 xs [(⟨(r.f0.extract 0 t), r.f1⟩ : S40), ⟨(r.f0.extract t r.f0.size), r.f1⟩] (some ⟨g95, 0, none⟩) 2 2 (fun k_ => W0.heap.size ≤ k_) (fun k_ => G ≤ k_) (eval_of e66) (eval_of e95) (Kd.N_mono HO.out (fun k hk => hk.1)) (bobbinetkeep_MarksOrders.two L95.out.1 L95.out.2 F79.out.1 F93.out.1 F79.out.2 F93.out.2) (fun k hk => ⟨Nat.le_trans HGW.out hk, fun e_ => by have := (HO.out.1 k e_.symm).2; omega⟩) (fun k hk => Nat.le_trans HB.out.size hk) HB.out HB.out.size (by have := HLx.out; omega) ?_
          intro v1_ w1 ho hb2 hg hat
          refine hK.out _ _ ⟨A79, c79, A93, c93, g95, v1_, m13_, m14_, m27_, m28_, m29_, m31_, (by rw [ha.out]; exact putSel_upk 11 hb_ rfl rfl rfl), hb2, Nat.le_trans HS.out hg.size, fun h0_ => absurd ((up_self b 30).symm.trans h0_) (by decide), fun _ h1_ => absurd ((up_self b 30).symm.trans h1_) (by decide), fun _ h1_ => absurd ((up_self b 30).symm.trans h1_) (by decide), fun _ h1_ => absurd ((up_self b 30).symm.trans h1_) (by decide), fun _ => ho, Q_X13_, Q_X14_, Q_X27_, Q_X28_, Q_X29_, fun h0_ => absurd ((hoff 31 (by kernel_rfl)).symm.trans h0_) (by decide)⟩
        refine steps_cons ?_ ?_
        · rintro b a w' ⟨A79, c79, A93, c93, g95, v96, m13_, m14_, m27_, m28_, m29_, m31_, ha, Q_HB, Q_HS, Q_HO, Q_F79, Q_F93, Q_L95, Q_HN, Q_X13_, Q_X14_, Q_X27_, Q_X28_, Q_X29_, Q_X31_⟩ hb_ hon hoff
          refine ⟨_, rfl, fun K hK => ?_⟩
          have e96 : a.tmps[96]? = some (v96) := by rw [ha]; exact putSel_on (e := (30, 96, v96)) 11 rfl rfl (hon 30 (by kernel_rfl)) rfl
          replace ha := Aside0.mk ha
          have HB := Aside0.mk Q_HB
          have HS := Aside0.mk Q_HS
          have HN := Aside0.mk (Q_HN (hon 30 (by kernel_rfl)))
          refine value_ (w1 := w') (v := v96) (by rfl) rfl ?_ ?_
          · go_simp
            (try simp only [i64_w])
            try rfl
          refine hK.out _ _ ⟨A79, c79, A93, c93, g95, v96, m13_, m14_, m27_, m28_, m29_, (v96), (by rw [ha.out]; exact putSel_upk 12 hb_ rfl rfl rfl), Q_HB, Q_HS, fun h0_ => absurd ((hon 30 (by kernel_rfl)).symm.trans h0_) (by decide), fun _ h1_ => absurd ((hon 30 (by kernel_rfl)).symm.trans h1_) (by decide), fun _ h1_ => absurd ((hon 30 (by kernel_rfl)).symm.trans h1_) (by decide), fun _ h1_ => absurd ((hon 30 (by kernel_rfl)).symm.trans h1_) (by decide), Q_HN, Q_X13_, Q_X14_, Q_X27_, Q_X28_, Q_X29_, fun _ => rfl⟩
        exact steps_nil
      · rintro b a w' hall ⟨A79, c79, A93, c93, g95, v96, m13_, m14_, m27_, m28_, m29_, m31_, ha, Q_HB, Q_HS, Q_HO, Q_F79, Q_F93, Q_L95, Q_HN, Q_X13_, Q_X14_, Q_X27_, Q_X28_, Q_X29_, Q_X31_⟩
        clear HB HO HS
        have hb5_ := hall 5 (by kernel_rfl)
        have hb7_ := hall 7 (by kernel_rfl)
        have hb12_ := hall 12 (by kernel_rfl)
        have hb13_ := hall 13 (by kernel_rfl)
        have hb14_ := hall 14 (by kernel_rfl)
        have hb19_ := hall 19 (by kernel_rfl)
        have hb21_ := hall 21 (by kernel_rfl)
        have hb26_ := hall 26 (by kernel_rfl)
        have hb27_ := hall 27 (by kernel_rfl)
        have hb28_ := hall 28 (by kernel_rfl)
        have hb29_ := hall 29 (by kernel_rfl)
        have hb30_ := hall 30 (by kernel_rfl)
        have hb31_ := hall 31 (by kernel_rfl)
        subst ha
        obtain rfl := Q_X13_ hb13_
        obtain rfl := Q_X14_ hb14_
        obtain rfl := Q_X27_ hb27_
        obtain rfl := Q_X28_ hb28_
        obtain rfl := Q_X29_ hb29_
        obtain rfl := Q_X31_ hb31_
        simp only [putSel, hb5_, hb7_, hb12_, hb13_, hb14_, hb19_, hb21_, hb26_, hb27_, hb28_, hb29_, hb30_, hb31_, if_true, Act.put, List.setIfInBounds_toArray, List.set_cons_zero, List.set_cons_succ]
        have HB := Aside0.mk Q_HB
        clear Q_HB
        have HS := Aside0.mk Q_HS
        clear Q_HS
        clear Q_HO
        clear Q_F79
        clear Q_F93
        clear Q_L95
        have HN := Aside0.mk (Q_HN hb30_)
        clear Q_HN
        clear hall hb5_ hb7_ hb12_ hb13_ hb14_ hb19_ hb21_ hb26_ hb27_ hb28_ hb29_ hb30_ hb31_
        go_wp2
        go_roundw
        case rel => exact ⟨i + 1, congrArg (Value.int .i64) HW.out, ⟨by have := hxx.out.2; omega⟩, ⟨by rw [HSC.out]; exact HN.out⟩, HB⟩
        case measure => have := hxx.out; rw [HW.out]; simp [intOf]; omega
    · obtain rfl : i = rs.length := by have := HI_.out; omega
      have hlt : decide ((rs.length : Int) < (rs.length : Int)) = false := decide_eq_false (by omega)
      obtain ⟨Ap, cp, rfl, hpl, hpc⟩ := Kd.N_reads HO.out
      have HPL := Aside0.mk hpl
      have HPC := Aside0.mk hpc
      replace HX := Aside0.mk (Kd.C_below HX.out HB.out)
      replace HY := Aside0.mk (Kd.C_below HY.out HB.out)
      replace HBB := Aside0.mk (Kd.C_below HBB.out HB.out)
      replace HB := Aside0.mk (HB0.out.trans (HB.out.mono HB0.out.size))
      clear HO hpl hpc hi HI_ HB0 HRS
      go_wp2_with (first
        | (go_at_call 12; (with_reducible refine (marks_Norm.calls k _ _ b _ _ (bobbinetkeep_MarksOrders.prt rs ts rs.length) z 0 _ HBB.out HBC.out HPC.out HPL.out (Glob.below HG_.out HB.out) GD.out.last).mono ?_); rintro e w9 ⟨v_, rfl, ho, hb⟩; obtain ⟨Az, cz, rfl, hl, hc⟩ := Kd.S_reads ho; have HZC := Aside0.mk hl; have HZ := Aside0.mk hc; replace HX := Aside0.mk (Kd.C_below HX.out hb); replace HY := Aside0.mk (Kd.C_below HY.out hb); replace HB := Aside0.mk (HB.out.trans (hb.mono HB.out.size)); clear ho hb hl hc)
        | (go_at_call 9; (with_reducible refine (bobbinetkeep_marksSure.calls k true _ (Glob.below HG_.out HB.out) GD.out.sure).mono ?_); rintro e w10 ⟨rfl, hb⟩; replace HX := Aside0.mk (Kd.C_below HX.out hb); replace HY := Aside0.mk (Kd.C_below HY.out hb); replace HZ := Aside0.mk (Kd.C_below HZ.out hb); replace HB := Aside0.mk (HB.out.trans (hb.mono HB.out.size)); clear hb)
        | (go_at_call 15; (with_reducible refine (bobbinetkeep_sameRuns.calls k _ _ x _ _ y true _ HX.out HXC.out HY.out HYC.out GD.out.same1).mono ?_); rintro e w' ⟨rfl, ⟨nd, rfl⟩⟩; clear HX; replace HY := Aside0.mk (Kd.C_below HY.out (pw_below_drewN (Below.refl _ _) nd)); replace HZ := Aside0.mk (Kd.C_below HZ.out (pw_below_drewN (Below.refl _ _) nd)); replace HB := Aside0.mk (pw_below_drewN HB.out nd))
        | (go_at_call 15; (with_reducible refine (bobbinetkeep_sameRuns.calls k _ _ y _ _ z true _ HY.out HYC.out HZ.out HZC.out GD.out.same2).mono ?_); rintro e w' ⟨rfl, ⟨nd, rfl⟩⟩; replace HB := Aside0.mk (pw_below_drewN HB.out nd)))
      go_ret
      exact ⟨rfl, by first | exact HB.out | (rw [← World.drewN_drewN]; exact HB.out)⟩
end Go.Proofs.YtjmhihadgpdiaaaDoor.X
end
section
namespace Go.Proofs.YtjmhihadgpdiaaaDoor.X
open Go.RowKit Go.Proofs.YtjmhihadgpdiaaaDoorW.PrintWords Go.Proofs.YtjmhihadgpdiaaaDoorW.PrintLast Go.Proofs.YtjmhihadgpdiaaaDoorW.PrintMore
attribute [local go_sem] max2_int min2_int max_two min_two max_three min_three max_four min_four   -- for this text's walks alone
set_option linter.unusedVariables false
set_option linter.unusedSimpArgs false
end Go.Proofs.YtjmhihadgpdiaaaDoor.X
end
section
namespace Go.Proofs.YtjmhihadgpdiaaaDoor.Base
open Go.RowKit Go.Proofs.YtjmhihadgpdiaaaDoorW.PrintWords
theorem toList_loop (s : ByteArray) : ∀ (n i : Nat) (r : List UInt8), s.size - i = n → ByteArray.toList.loop s i r = r.reverse ++ s.data.toList.drop i
  | 0, i, r, h => by
    unfold ByteArray.toList.loop
    have h1 : s.data.toList.drop i = [] := List.drop_eq_nil_of_le (by rw [Array.length_toList]; show s.size ≤ i; omega)
    rw [if_neg (by omega), h1, List.append_nil]
  | n + 1, i, r, h => by
    unfold ByteArray.toList.loop
    have hi : i < s.size := by omega
    have hl : i < s.data.toList.length := by rw [Array.length_toList]; exact hi
    have hg : s.get! i = s.data.toList[i] := by
      obtain ⟨d⟩ := s
      show d[i]! = _
      rw [getElem!_pos d i hi]
      simp
    rw [if_pos hi, toList_loop s n (i + 1) _ (by omega), hg, List.drop_eq_getElem_cons hl, List.reverse_cons, List.append_assoc]
    rfl
theorem toList_eq (s : ByteArray) : s.toList = s.data.toList := by
  unfold ByteArray.toList
  rw [toList_loop s _ 0 [] rfl]
  rfl
theorem toList_inj {s t : ByteArray} : s.toList = t.toList ↔ s = t := by
  rw [toList_eq, toList_eq]
  constructor
  · intro h
    exact ByteArray.ext (Array.toList_inj.1 h)
  · rintro rfl; rfl
theorem toList_nil {s : ByteArray} : s.toList = ([] : List UInt8) ↔ s = (⟨#[]⟩ : ByteArray) := by
  rw [toList_eq]
  constructor
  · intro h
    apply ByteArray.ext
    exact Array.toList_inj.1 h
  · rintro rfl; rfl
theorem Ev.ite_pos {α : Type} {c : Prop} [Decidable c] {g f : Nat → Option α} {r : α} (h : c) (k : Ev g r) : Ev (fun n => if c then g n else f n) r := by
  simpa only [if_pos h] using k
theorem Ev.ite_neg {α : Type} {c : Prop} [Decidable c] {g f : Nat → Option α} {r : α} (h : ¬ c) (k : Ev f r) : Ev (fun n => if c then g n else f n) r := by
  simpa only [if_neg h] using k
theorem Ev.some {α : Type} (r : α) : Ev (fun _ => Option.some r) r := ⟨0, fun _ _ => rfl⟩
/-- one round: what is told of k + 1 rounds -/
theorem Ev.one {α : Type} {g f : Nat → Option α} {r : α} (h : ∀ k, g (k + 1) = f k) (k : Ev f r) : Ev g r := by
  obtain ⟨K, hK⟩ := k
  refine ⟨K + 1, fun k hk => ?_⟩
  obtain ⟨m, rfl⟩ : ∃ m, k = m + 1 := ⟨k - 1, by omega⟩
  rw [h m]
  exact hK m (by omega)
theorem Ev.bnd {α β : Type} {g : Nat → Option α} {f : Nat → α → Option β} {a : α} {r : β} (h : Ev g a) (k : Ev (fun n => f n a) r) : Ev (fun n => (g n).bind (f n)) r := by
  obtain ⟨K, hK⟩ := h
  obtain ⟨L, hL⟩ := k
  refine ⟨K + L, fun n hn => ?_⟩
  show (g n).bind (f n) = _
  rw [hK n (by omega)]
  exact hL n (by omega)
theorem wrap_id {i : Int} (h0 : -9223372036854775808 ≤ i) (h1 : i ≤ 9223372036854775807) : wrap64 i = i := by unfold wrap64; omega
theorem wrap_succ {i : Nat} {n : Nat} (h : i < n) (hn : n ≤ 9223372036854775807) : wrap64 ((i : Int) + 1) = ((i + 1 : Nat) : Int) := by unfold wrap64; omega
/-- Go's remainder, brought above 0 -/
theorem picked_eq (a n : Int) (h : 0 < n) (hn : n ≤ 4294967296) : (if Int.tmod a n < 0 then wrap64 (Int.tmod a n + n) else Int.tmod a n) = a % n := by
  have he := Int.tmod_eq_emod (a := a) (b := n)
  have h1 := Int.emod_nonneg a (show n ≠ 0 by omega)
  have h2 := Int.emod_lt_of_pos a h
  rw [he]
  split
  · rename_i hc
    rw [if_neg (by simp; omega)]
    simp
  · rename_i hc
    have hn2 : (n.natAbs : Int) = n := by omega
    rw [hn2, if_pos (by omega), wrap_id (by omega) (by omega)]
    omega
end Go.Proofs.YtjmhihadgpdiaaaDoor.Base
end
section
namespace Go.Proofs.YtjmhihadgpdiaaaDoor.Tree
open Go.RowKit Go.Proofs.YtjmhihadgpdiaaaDoor.X Go.Proofs.YtjmhihadgpdiaaaDoorW.PrintWords Go.Proofs.YtjmhihadgpdiaaaDoorW.PrintLast Go.Proofs.YtjmhihadgpdiaaaDoor.Base
set_option linter.unusedVariables false
set_option linter.unusedSimpArgs false
abbrev S := S49
theorem Ev.succ {α : Type} {g : Nat → Option α} {r : α} (h : Ev (fun k => g (k + 1)) r) : Ev g r := Ev.one (f := fun k => g (k + 1)) (fun _ => rfl) h
end Go.Proofs.YtjmhihadgpdiaaaDoor.Tree
end
section
namespace Go.Proofs.YtjmhihadgpdiaaaDoor.Tree
open Go.RowKit Go.Proofs.YtjmhihadgpdiaaaDoor.X Go.Proofs.YtjmhihadgpdiaaaDoorW.PrintWords Go.Proofs.YtjmhihadgpdiaaaDoorW.PrintLast Go.Proofs.YtjmhihadgpdiaaaDoor.Base
end Go.Proofs.YtjmhihadgpdiaaaDoor.Tree
end
section
namespace Go.Proofs.YtjmhihadgpdiaaaDoor.X
open Go.RowKit Go.Proofs.YtjmhihadgpdiaaaDoorW.PrintWords Go.Proofs.YtjmhihadgpdiaaaDoorW.PrintLast Go.Proofs.YtjmhihadgpdiaaaDoorW.PrintMore
attribute [local go_sem] max2_int min2_int max_two min_two max_three min_three max_four min_four   -- for this text's walks alone
set_option linter.unusedVariables false
set_option linter.unusedSimpArgs false
end Go.Proofs.YtjmhihadgpdiaaaDoor.X
end
section
namespace Go.Proofs.YtjmhihadgpdiaaaDoor.X
open Go.RowKit Go.Proofs.YtjmhihadgpdiaaaDoorW.PrintWords Go.Proofs.YtjmhihadgpdiaaaDoorW.PrintLast Go.Proofs.YtjmhihadgpdiaaaDoorW.PrintMore
attribute [local go_sem] max2_int min2_int max_two min_two max_three min_three max_four min_four   -- for this text's walks alone
set_option linter.unusedVariables false
set_option linter.unusedSimpArgs false
end Go.Proofs.YtjmhihadgpdiaaaDoor.X
end
section
namespace Go.Proofs.YtjmhihadgpdiaaaDoor.X
open Go.RowKit Go.Proofs.YtjmhihadgpdiaaaDoorW.PrintWords Go.Proofs.YtjmhihadgpdiaaaDoorW.PrintLast Go.Proofs.YtjmhihadgpdiaaaDoorW.PrintMore
attribute [local go_sem] max2_int min2_int max_two min_two max_three min_three max_four min_four   -- for this text's walks alone
set_option linter.unusedVariables false
set_option linter.unusedSimpArgs false
end Go.Proofs.YtjmhihadgpdiaaaDoor.X
end
section
namespace Go.Proofs.YtjmhihadgpdiaaaDoor.Mk
open Go.RowKit Go.Proofs.YtjmhihadgpdiaaaDoor.X Go.Proofs.YtjmhihadgpdiaaaDoorW.PrintWords Go.Proofs.YtjmhihadgpdiaaaDoorW.PrintLast Go.Proofs.YtjmhihadgpdiaaaDoor.Base
set_option linter.unusedVariables false
set_option linter.unusedSimpArgs false
abbrev R := S40
abbrev Bs := List ByteArray
instance decB : DecidableEq ByteArray := fun a b => decidable_of_iff (a.toList = b.toList) toList_inj
instance decM (s : ByteArray) (l : Bs) : Decidable (s ∈ l) := decidable_of_iff (l.any (fun x => decide (x.toList = s.toList)) = true) (by
  rw [List.any_eq_true]
  constructor
  · rintro ⟨x, hx, h⟩; rw [← toList_inj.1 (of_decide_eq_true h)]; exact hx
  · intro h; exact ⟨s, h, decide_eq_true rfl⟩)
theorem pick_ev (xa : Int) (n : Int) (h0 : 0 < n) (hn : n ≤ 4294967296) : bobbinetkeep_Picked.f xa n = some (xa % n) := by
  unfold bobbinetkeep_Picked.f
  rw [if_neg (by omega), ← picked_eq xa n h0 hn]
  split <;> rfl
theorem rdB_at (l : Bs) (i : Nat) (h : i < l.length) : rdOf ByteArray.empty l (i : Int) = l[i] := by
  simp [rdOf, List.getD, h]
theorem rdR_at (l : List R) (i : Nat) (h : i < l.length) : rd_T40 l (i : Int) = l[i] := by
  simp [rd_T40, List.getD, h]
theorem index_l0 (l : Bs) (s : ByteArray) (hl : l.length < 1000000) : ∀ (d i : Nat) (k : Nat), l.length - i = d → i ≤ l.length → d < k → ∃ r : Int, slices_Index_string_string.l0 k l s (l.length : Int) (i : Int) = some r ∧ (decide (r ≥ 0) = decide (s ∈ l.drop i)) := by
  intro d
  induction d with
  | zero =>
    intro i k hd hi hk
    obtain ⟨m, rfl⟩ : ∃ m, k = m + 1 := ⟨k - 1, by omega⟩
    refine ⟨-1, ?_, ?_⟩
    · rw [slices_Index_string_string.l0, if_neg (by omega)]
    · rw [List.drop_eq_nil_of_le (by omega)]; simp
  | succ d ih =>
    intro i k hd hi hk
    obtain ⟨m, rfl⟩ : ∃ m, k = m + 1 := ⟨k - 1, by omega⟩
    have hlt : i < l.length := by omega
    have hw : wrap64 ((i : Int) + 1) = ((i + 1 : Nat) : Int) := wrap_succ hlt (by omega)
    rw [slices_Index_string_string.l0, if_pos (by omega), if_pos (by omega), if_pos (by omega), rdB_at l i hlt]
    by_cases h : s.toList = l[i].toList
    · rw [if_pos h]
      refine ⟨i, rfl, ?_⟩
      have e := List.drop_eq_getElem_cons hlt
      rw [toList_inj.1 h, decide_eq_true (show (i : Int) ≥ 0 by omega), decide_eq_true (show l[i] ∈ l.drop i by rw [e]; exact List.mem_cons_self)]
    · rw [if_neg h, hw]
      obtain ⟨r, h1, h2⟩ := ih (i + 1) m (by omega) (by omega) (by omega)
      refine ⟨r, h1, h2.trans ?_⟩
      have hne : s ≠ l[i] := fun e => h (by rw [e])
      have e := List.drop_eq_getElem_cons hlt
      exact decide_eq_decide.2 ⟨fun h => by rw [e]; exact List.mem_cons_of_mem _ h, fun h => by rw [e] at h; exact (List.mem_cons.1 h).resolve_left hne⟩
theorem contains_eq (l : Bs) (s : ByteArray) (hl : l.length < 1000000) (k : Nat) (hk : l.length < k) : slices_Contains_string_string.f k l s = some (decide (s ∈ l)) := by
  unfold slices_Contains_string_string.f slices_Index_string_string.f
  obtain ⟨r, h1, h2⟩ := index_l0 l s hl l.length 0 k (by omega) (by omega) hk
  have h3 : slices_Index_string_string.l0 k l s (l.length : Int) 0 = some r := h1
  rw [h3, Option.bind_some, h2, List.drop_zero]
theorem contains_ev (l : Bs) (s : ByteArray) (hl : l.length < 1000000) : Ev (fun k => slices_Contains_string_string.f k l s) (decide (s ∈ l)) := ⟨l.length + 1, fun k hk => contains_eq l s hl k hk⟩
theorem equal_l0 (a b : Bs) (h : a.length = b.length) (hl : a.length < 1000000) : ∀ (d i : Nat), a.length - i = d → i ≤ a.length →
    Ev (fun k => slices_Equal_string_string.l0 k a b (a.length : Int) (i : Int)) (decide (a.drop i = b.drop i)) := by
  intro d
  induction d with
  | zero =>
    intro i hd hi
    have e1 : a.drop i = [] := List.drop_eq_nil_of_le (by omega)
    have e2 : b.drop i = [] := List.drop_eq_nil_of_le (by omega)
    rw [e1, e2]
    exact Ev.one (f := fun k => _) (fun k => by rw [slices_Equal_string_string.l0]) (Ev.ite_neg (by omega) ⟨0, fun _ _ => by simp⟩)
  | succ d ih =>
    intro i hd hi
    have hlt : i < a.length := by omega
    have hlt2 : i < b.length := by omega
    have hw : wrap64 ((i : Int) + 1) = ((i + 1 : Nat) : Int) := wrap_succ hlt (by omega)
    rw [List.drop_eq_getElem_cons hlt, List.drop_eq_getElem_cons hlt2]
    refine Ev.one (f := fun k => _) (fun k => by rw [slices_Equal_string_string.l0, hw, rdB_at a i hlt, rdB_at b i hlt2]) ?_
    refine Ev.ite_pos (by omega) (Ev.ite_pos (by omega) (Ev.ite_pos (by omega) (Ev.ite_pos (by omega) ?_)))
    by_cases he : a[i] = b[i]
    · refine Ev.ite_pos (by rw [he]) ?_
      have := ih (i + 1) (by omega) (by omega)
      rw [show decide (a[i] :: List.drop (i + 1) a = b[i] :: List.drop (i + 1) b) = decide (List.drop (i + 1) a = List.drop (i + 1) b) by rw [he]; simp only [List.cons.injEq, true_and]]
      exact this
    · exact Ev.ite_neg (fun h => he (toList_inj.1 h)) ⟨0, fun _ _ => by simp only [List.cons.injEq, he, false_and, decide_false]⟩
theorem equal_ev (a b : Bs) (hl : a.length < 1000000) : Ev (fun k => slices_Equal_string_string.f k a b) (decide (a = b)) := by
  unfold slices_Equal_string_string.f
  by_cases h : a.length = b.length
  · exact Ev.ite_pos (by omega) (equal_l0 a b h hl a.length 0 (by omega) (by omega))
  · refine Ev.ite_neg (by omega) ⟨0, fun _ _ => ?_⟩
    rw [decide_eq_false (fun e => h (by rw [e]))]
def three : Bs := [(⟨#[98]⟩ : ByteArray), (⟨#[101, 109]⟩ : ByteArray), (⟨#[105]⟩ : ByteArray)]
def Rn (r : R) : Prop := (∀ m ∈ r.f1, m ∈ three) ∧ r.f1.length ≤ 3 ∧ r.f0.size ≤ 2
set_option maxHeartbeats 1000000 in
theorem runs_ev (l : List Int) : ∃ rs, Ev (fun k => bobbinetkeep_Runs.f k l 20) rs ∧ rs.length ≤ 20 ∧ ∀ r ∈ rs, Rn r := by
  have inner : ∀ (i : Nat) (acc : List R) (t : ByteArray), i < l.length → i < 20 → acc.length ≤ 20 → t.size ≤ 2 →
      (∀ r : R, Rn r → ∃ rs, Ev (fun k => bobbinetkeep_Runs.l0 k l 20 (acc ++ [r]) ((i + 1 : Nat) : Int)) rs ∧ rs.length ≤ 20 ∧ ∀ r ∈ rs, Rn r) →
      ∀ (n : Nat), bobbinetkeep_Picked.f (wrap64 (Int.tdiv (rd l (i : Int)) 4)) 4 = some (n : Int) → n ≤ 3 → ∀ (d j : Nat) (ms : Bs), n - j = d → j ≤ n → ms.length = j → (∀ m ∈ ms, m ∈ three) → ∃ rs, Ev (fun k => bobbinetkeep_Runs.l1 k l 20 acc (i : Int) (j : Int) t ms) rs ∧ rs.length ≤ 20 ∧ ∀ r ∈ rs, Rn r := by
    intro i acc t hi hi2 ha ht next n hp hn d
    have hw : Aside0 (wrap64 ((i : Int) + 1) = ((i + 1 : Nat) : Int)) := ⟨wrap_succ hi2 (by omega)⟩
    induction d with
    | zero =>
      intro j ms hd hjn hj hm
      obtain ⟨rs, h1, h2⟩ := next ⟨t, ms⟩ ⟨hm, by show ms.length ≤ 3; omega, ht⟩
      refine ⟨rs, ?_, h2⟩
      have c1 : 0 ≤ (i : Int) := by omega
      have c2 : (i : Int) < (l.length : Int) := by omega
      have c3 : ¬ (j : Int) < (n : Int) := by omega
      have c7 : acc.length < 3518437208883 := by omega
      refine Ev.one (fun k => ?_) h1
      rw [bobbinetkeep_Runs.l1, if_pos c1, if_pos c2, hp, Option.bind_some, if_neg c3, if_pos c7, hw.out]
    | succ d ih =>
      intro j ms hd hjn hj hm
      have hw2 : Aside0 (wrap64 ((j : Int) + 1) = ((j + 1 : Nat) : Int)) := ⟨wrap_succ (n := 4) (by omega) (by omega)⟩
      have hw3 : Aside0 (wrap64 (16 + (j : Int)) = 16 + (j : Int)) := ⟨wrap_id (by omega) (by omega)⟩
      have hq := pick_ev (wrap64 (Int.tdiv (rd l (i : Int)) (16 + (j : Int)))) 3 (by decide) (by decide)
      have hb : 0 ≤ wrap64 (Int.tdiv (rd l (i : Int)) (16 + (j : Int))) % 3 ∧ wrap64 (Int.tdiv (rd l (i : Int)) (16 + (j : Int))) % 3 < 3 := ⟨Int.emod_nonneg _ (by decide), Int.emod_lt_of_pos _ (by decide)⟩
      obtain ⟨u, hu⟩ : ∃ u : Nat, wrap64 (Int.tdiv (rd l (i : Int)) (16 + (j : Int))) % 3 = (u : Int) := ⟨_, (Int.toNat_of_nonneg hb.1).symm⟩
      rw [hu] at hq hb
      clear hu
      have HQ := Aside0.mk hq
      have HP := Aside0.mk hp
      clear hq
      have hlt : u < three.length := by show u < 3; omega
      obtain ⟨rs, h1, h2⟩ := ih (j + 1) (ms ++ [three[u]]) (by omega) (by omega) (by simp; omega) (fun m h => by
        rcases List.mem_append.1 h with h | h
        · exact hm m h
        · rw [List.mem_singleton.1 h]; exact List.getElem_mem hlt)
      refine ⟨rs, ?_, h2⟩
      have e : rdOf ByteArray.empty ([(⟨#[98]⟩ : ByteArray), (⟨#[101, 109]⟩ : ByteArray), (⟨#[105]⟩ : ByteArray)] : List ByteArray) (u : Int) = three[u] := rdB_at three u hlt
      have e2 : (([(⟨#[98]⟩ : ByteArray), (⟨#[101, 109]⟩ : ByteArray), (⟨#[105]⟩ : ByteArray)] : List ByteArray).length : Int) = 3 := rfl
      have c1 : 0 ≤ (i : Int) := by omega
      have c2 : (i : Int) < (l.length : Int) := by omega
      have c3 : (j : Int) < (n : Int) := by omega
      have c4 : ¬ 16 + (j : Int) = 0 := by omega
      have c5 : 0 ≤ (u : Int) := by omega
      have c6 : (u : Int) < 3 := by omega
      have c7 : ms.length < 8796093022208 := by omega
      refine Ev.one (fun k => ?_) h1
      rw [bobbinetkeep_Runs.l1, if_pos c1, if_pos c2, hp, Option.bind_some, if_pos c3, Option.bind_some, hw3.out, if_neg c4, HQ.out, Option.bind_some, if_pos c5, e2, if_pos c6, if_pos c7, e, hw2.out]
  have outer : ∀ (d i : Nat) (acc : List R), 20 - i = d → i ≤ 20 → acc.length = i → (∀ r ∈ acc, Rn r) → ∃ rs, Ev (fun k => bobbinetkeep_Runs.l0 k l 20 acc (i : Int)) rs ∧ rs.length ≤ 20 ∧ ∀ r ∈ rs, Rn r := by
    intro d
    induction d with
    | zero =>
      intro i acc hd hi ha hr
      refine ⟨acc, ?_, by omega, hr⟩
      refine Ev.one (f := fun k => _) (fun k => by rw [bobbinetkeep_Runs.l0]) ?_
      have hf : decide ((i : Int) < 20) = false := decide_eq_false (by omega)
      by_cases h : (i : Int) < (l.length : Int)
      · refine Ev.ite_pos h ?_
        rw [hf]
        exact Ev.one (f := fun k => _) (fun k => by rw [bobbinetkeep_Runs.j1]) (Ev.ite_neg (by decide) (Ev.some _))
      · exact Ev.ite_neg h (Ev.one (f := fun k => _) (fun k => by rw [bobbinetkeep_Runs.j1]) (Ev.ite_neg (by decide) (Ev.some _)))
    | succ d ih =>
      intro i acc hd hi ha hr
      by_cases h : (i : Int) < (l.length : Int)
      · have hp := pick_ev (wrap64 (Int.tdiv (rd l (i : Int)) 4)) 4 (by decide) (by decide)
        have hb : 0 ≤ wrap64 (Int.tdiv (rd l (i : Int)) 4) % 4 ∧ wrap64 (Int.tdiv (rd l (i : Int)) 4) % 4 < 4 := by omega
        obtain ⟨n, hn⟩ : ∃ n : Nat, wrap64 (Int.tdiv (rd l (i : Int)) 4) % 4 = (n : Int) := ⟨_, (Int.toNat_of_nonneg hb.1).symm⟩
        rw [hn] at hp hb
        clear hn
        have hq := pick_ev (rd l (i : Int)) 4 (by decide) (by decide)
        have hc : 0 ≤ rd l (i : Int) % 4 ∧ rd l (i : Int) % 4 < 4 := by omega
        generalize rd l (i : Int) % 4 = u at hq hc
        have ht : (rdOf ByteArray.empty ([(⟨#[]⟩ : ByteArray), (⟨#[120]⟩ : ByteArray), (⟨#[121, 122]⟩ : ByteArray), (⟨#[32]⟩ : ByteArray)] : List ByteArray) u).size ≤ 2 := by
          obtain rfl | rfl | rfl | rfl : u = 0 ∨ u = 1 ∨ u = 2 ∨ u = 3 := by omega
          · exact Nat.zero_le _
          · show 1 ≤ 2; omega
          · exact Nat.le_refl _
          · show 1 ≤ 2; omega
        obtain ⟨rs, h1, h2⟩ := inner i acc _ (by omega) (by omega) (by omega) ht (fun r hr2 => by
          refine ih (i + 1) (acc ++ [r]) (by omega) (by omega) (by simp; omega) (fun q hq => ?_)
          rcases List.mem_append.1 hq with hq | hq
          · exact hr q hq
          · rw [List.mem_singleton.1 hq]; exact hr2) n hp (by omega) n 0 [] (by omega) (by omega) rfl (fun m hm => by cases hm)
        refine ⟨rs, ?_, h2⟩
        have c1 : 0 ≤ (i : Int) := by omega
        have c2 : (i : Int) < 20 := by omega
        have e2 : (([(⟨#[]⟩ : ByteArray), (⟨#[120]⟩ : ByteArray), (⟨#[121, 122]⟩ : ByteArray), (⟨#[32]⟩ : ByteArray)] : List ByteArray).length : Int) = 4 := rfl
        have h3 : Ev (fun k => bobbinetkeep_Runs.j1 k l 20 acc (i : Int) true) rs := by
          refine Ev.one (fun k => ?_) h1
          rw [bobbinetkeep_Runs.j1, if_pos rfl, Option.bind_some, if_pos c1, if_pos h, hq, Option.bind_some, if_pos hc.1, e2, if_pos hc.2]
          rfl
        refine Ev.one (fun k => ?_) h3
        rw [bobbinetkeep_Runs.l0, if_pos h, decide_eq_true c2]
      · refine ⟨acc, ?_, by omega, hr⟩
        refine Ev.one (f := fun k => _) (fun k => by rw [bobbinetkeep_Runs.l0]) ?_
        exact Ev.ite_neg h (Ev.one (f := fun k => _) (fun k => by rw [bobbinetkeep_Runs.j1]) (Ev.ite_neg (by decide) (Ev.some _)))
  unfold bobbinetkeep_Runs.f
  exact outer 20 0 [] (by omega) (by omega) rfl (fun r hr => by cases hr)
end Go.Proofs.YtjmhihadgpdiaaaDoor.Mk
end
section
namespace Go.Proofs.YtjmhihadgpdiaaaDoor.Mk
open Go.RowKit Go.Proofs.YtjmhihadgpdiaaaDoor.X Go.Proofs.YtjmhihadgpdiaaaDoorW.PrintWords Go.Proofs.YtjmhihadgpdiaaaDoorW.PrintLast Go.Proofs.YtjmhihadgpdiaaaDoor.Base
set_option linter.unusedVariables false
set_option linter.unusedSimpArgs false
/-- the marks that a run has, in order -/
def keep (ms a : Bs) : Bs := ms.filter fun m => decide (m ∈ a)
def joins (out : List R) (b : Bs) : Prop := ∃ p, out.getLast? = some p ∧ p.f1 = b
instance (out : List R) (b : Bs) : Decidable (joins out b) := by
  unfold joins
  cases out.getLast? with
  | none => exact isFalse (by simp)
  | some p => exact decidable_of_iff (p.f1 = b) (by simp)
/-- one run more -/
def step (ms : Bs) (out : List R) (r : R) : List R :=
  if joins out (keep ms r.f1) then out.set (out.length - 1) ⟨(out.getD (out.length - 1) ⟨ByteArray.empty, []⟩).f0 ++ r.f0, (out.getD (out.length - 1) ⟨ByteArray.empty, []⟩).f1⟩
  else if r.f0.toList = ([] : List UInt8) then out else out ++ [⟨r.f0, keep ms r.f1⟩]
def nrm (ms : Bs) (l : List R) : List R := l.foldl (step ms) []
theorem step_len (ms : Bs) (out : List R) (r : R) : (step ms out r).length ≤ out.length + 1 := by
  unfold step
  split
  · rw [List.length_set]; omega
  · split
    · omega
    · simp
theorem keep_take (ms a : Bs) (j : Nat) (h : j < ms.length) : keep (ms.take (j + 1)) a = keep (ms.take j) a ++ (if ms[j] ∈ a then [ms[j]] else []) := by
  unfold keep
  rw [List.take_succ_eq_append_getElem h, List.filter_append]
  congr 1
  by_cases c : ms[j] ∈ a
  · rw [if_pos c]; simp [c]
  · rw [if_neg c]; simp [c]
theorem known_eq (ms a : Bs) (hm : ms.length < 1000000) (h : ∀ m ∈ a, m ∈ ms) : Ev (fun k => cf_marksNorm.f k a ms) false := by
  refine ⟨ms.length + 1, fun k hk => ?_⟩
  show cf_marksNorm.f k a ms = some false
  unfold cf_marksNorm.f
  have e : ∀ x, slices_Contains_string_string.f k ms x = some (decide (x ∈ ms)) := fun x => contains_eq ms x hm k (by omega)
  rw [if_pos (List.all_eq_true.2 (fun x hx => by rw [e]; rfl))]
  congr 1
  rw [List.any_eq_false]
  intro x hx
  unfold cf_marksNorm.P
  rw [e, decide_eq_true (h x hx)]
  decide
/-- texts of some length at most, few marks -/
def Lt (b : Nat) (out : List R) : Prop := ∀ p ∈ out, p.f0.size ≤ b ∧ p.f1.length ≤ 1000
theorem keep_len (ms a : Bs) : (keep ms a).length ≤ ms.length := List.length_filter_le _ _
theorem step_lt {ms : Bs} {out : List R} {r : R} {b c : Nat} (h : Lt b out) (hm : ms.length ≤ 1000) (hr : r.f0.size ≤ c) : Lt (b + c) (step ms out r) := by
  unfold step
  split
  · rename_i hj
    obtain ⟨p, hp, _⟩ := hj
    intro q hq
    rcases List.mem_or_eq_of_mem_set hq with hq | rfl
    · have := h q hq; exact ⟨by omega, this.2⟩
    · have hne : out ≠ [] := by rintro rfl; simp at hp
      have hlt : out.length - 1 < out.length := by have := List.length_pos_iff.2 hne; omega
      have h2 := h (out[out.length - 1]) (List.getElem_mem hlt)
      have e : out.getD (out.length - 1) ⟨ByteArray.empty, []⟩ = out[out.length - 1] := by simp [List.getD, hlt]
      rw [e]
      refine ⟨?_, h2.2⟩
      show (out[out.length - 1].f0 ++ r.f0).size ≤ _
      rw [ByteArray.size_append]
      omega
  · split
    · intro q hq; have := h q hq; exact ⟨by omega, this.2⟩
    · intro q hq
      rcases List.mem_append.1 hq with hq | hq
      · have := h q hq; exact ⟨by omega, this.2⟩
      · rw [List.mem_singleton.1 hq]; exact ⟨by show r.f0.size ≤ _; omega, Nat.le_trans (keep_len _ _) hm⟩
theorem norm_ev (ms : Bs) (hm : ms.length < 1000) (l : List R) (hl : l.length < 1000) (hk : ∀ r ∈ l, (∀ m ∈ r.f1, m ∈ ms) ∧ r.f1.length < 1000 ∧ r.f0.size ≤ 1000000) : Ev (fun k => marks_norm.f k ms l) (nrm ms l, 0) := by
  have loop : ∀ (d i : Nat) (out : List R), l.length - i = d → i ≤ l.length → out.length ≤ i → Lt (i * 1000000) out → Ev (fun k => marks_norm.l0 k out l (l.length : Int) (i : Int) ms) ((l.drop i).foldl (step ms) out, 0) := by
    intro d
    induction d with
    | zero =>
      intro i out hd hi ho _
      rw [List.drop_eq_nil_of_le (by omega)]
      refine Ev.one (f := fun k => _) (fun k => by rw [marks_norm.l0]) ?_
      exact Ev.ite_neg (by omega) (Ev.some _)
    | succ d ih =>
      intro i out hd hi ho hb
      have hlt : i < l.length := by omega
      have hw : Aside0 (wrap64 ((i : Int) + 1) = ((i + 1 : Nat) : Int)) := ⟨wrap_succ hlt (by omega)⟩
      obtain ⟨hk1, hk2, hk3⟩ := hk l[i] (List.getElem_mem hlt)
      have hnext := ih (i + 1) (step ms out l[i]) (by omega) (by omega) (Nat.le_trans (step_len _ _ _) (by omega)) (by have := step_lt (ms := ms) hb (by omega) hk3; rw [Nat.add_mul]; simpa using this)
      rw [List.drop_eq_getElem_cons hlt, List.foldl_cons]
      generalize hr : l[i] = r at hk1 hk2 hk3 hnext ⊢
      -- the end of a round
      have fin : ∀ b : Bool, (b = true ↔ joins out (keep ms r.f1)) → Ev (fun k => marks_norm.j2 k out (out.length : Int) l (l.length : Int) (i : Int) b ms r.f0 (keep ms r.f1)) ((l.drop (i + 1)).foldl (step ms) (step ms out r), 0) := by
        intro b hbj
        by_cases hj : joins out (keep ms r.f1)
        · obtain ⟨p, hp, hp2⟩ := hj
          have hne : out ≠ [] := by rintro rfl; simp at hp
          have hpos := List.length_pos_iff.2 hne
          have hw2 : Aside0 (wrap64 ((out.length : Int) - 1) = ((out.length - 1 : Nat) : Int)) := ⟨by rw [wrap_id (by omega) (by omega)]; omega⟩
          have hlt2 : out.length - 1 < out.length := by omega
          have hst : step ms out r = out.set (out.length - 1) ⟨out[out.length - 1].f0 ++ r.f0, out[out.length - 1].f1⟩ := by
            unfold step
            rw [if_pos ⟨p, hp, hp2⟩]
            simp [List.getD, hlt2]
          have hsz := (hb _ (List.getElem_mem hlt2)).1
          rw [hst] at hnext
          rw [hst]
          refine Ev.one (f := fun k => _) (fun k => by rw [marks_norm.j2, hw2.out, rdR_at out _ hlt2, hw.out]) ?_
          exact Ev.ite_pos (hbj.2 ⟨p, hp, hp2⟩) (Ev.ite_pos (by omega) (Ev.ite_pos (by omega) (Ev.ite_pos (by omega) hnext)))
        · have hbf : ¬ b = true := fun h => hj (hbj.1 h)
          unfold step at hnext ⊢
          rw [if_neg hj] at hnext ⊢
          refine Ev.one (f := fun k => _) (fun k => by rw [marks_norm.j2, hw.out]) (Ev.ite_neg hbf ?_)
          by_cases he : r.f0.toList = ([] : List UInt8)
          · rw [if_pos he] at hnext ⊢
            exact Ev.ite_pos he hnext
          · rw [if_neg he] at hnext ⊢
            exact Ev.ite_neg he (Ev.ite_pos (by omega) hnext)
      -- the marks that it has
      have inner : ∀ (e j : Nat), ms.length - j = e → j ≤ ms.length → Ev (fun k => marks_norm.l1 k out l (l.length : Int) (i : Int) ms (ms.length : Int) (j : Int) ms r.f0 r.f1 r.f0 (keep (ms.take j) r.f1)) ((l.drop (i + 1)).foldl (step ms) (step ms out r), 0) := by
        intro e
        induction e with
        | zero =>
          intro j he hj
          obtain rfl : j = ms.length := by omega
          rw [List.take_length]
          refine Ev.one (f := fun k => _) (fun k => by rw [marks_norm.l1]) (Ev.ite_neg (by omega) ?_)
          by_cases hpos : 0 < out.length
          · have hw2 : Aside0 (wrap64 ((out.length : Int) - 1) = ((out.length - 1 : Nat) : Int)) := ⟨by rw [wrap_id (by omega) (by omega)]; omega⟩
            have hlt2 : out.length - 1 < out.length := by omega
            rw [hw2.out, rdR_at out _ hlt2]
            refine Ev.ite_pos (by omega) (Ev.ite_pos (by omega) (Ev.ite_pos (by omega) ?_))
            have hlast : out.getLast? = some out[out.length - 1] := by rw [List.getLast?_eq_getElem?]; simp [hlt2]
            have hsame : out[out.length - 1].f1.length < 1000000 := by have := (hb _ (List.getElem_mem hlt2)).2; omega
            refine Ev.bnd (equal_ev _ _ hsame) (fin _ ?_)
            rw [decide_eq_true_eq]
            constructor
            · intro h; exact ⟨_, hlast, h⟩
            · rintro ⟨p, hp, h⟩
              rw [hlast] at hp
              rw [Option.some.inj hp]; exact h
          · have hnil : out = [] := List.eq_nil_of_length_eq_zero (by omega)
            refine Ev.ite_neg (by omega) (fin false ⟨fun h => (by cases h), fun ⟨p, hp, _⟩ => (by rw [hnil] at hp; simp at hp)⟩)
        | succ e ihe =>
          intro j he hj
          have hltj : j < ms.length := by omega
          have hwj : Aside0 (wrap64 ((j : Int) + 1) = ((j + 1 : Nat) : Int)) := ⟨wrap_succ hltj (by omega)⟩
          have hn := ihe (j + 1) (by omega) (by omega)
          rw [keep_take ms r.f1 j hltj] at hn
          have hlen : (keep (ms.take j) r.f1).length ≤ 1000 := by
            unfold keep
            refine Nat.le_trans (List.length_filter_le _ _) ?_
            rw [List.length_take]; omega
          refine Ev.one (f := fun k => _) (fun k => by rw [marks_norm.l1, hwj.out, rdB_at ms j hltj]) ?_
          refine Ev.ite_pos (by omega) (Ev.ite_pos (by omega) (Ev.ite_pos (by omega) (Ev.bnd (contains_ev r.f1 ms[j] (by omega)) ?_)))
          by_cases hc : ms[j] ∈ r.f1
          · rw [if_pos hc] at hn
            exact Ev.ite_pos (decide_eq_true hc) (Ev.ite_pos (by omega) hn)
          · rw [if_neg hc, List.append_nil] at hn
            exact Ev.ite_neg (by simp [hc]) hn
      refine Ev.one (f := fun k => _) (fun k => by rw [marks_norm.l0, rdR_at l i hlt, hr]) ?_
      refine Ev.ite_pos (by omega) (Ev.ite_pos (by omega) (Ev.ite_pos (by omega) (Ev.bnd (known_eq ms r.f1 (by omega) hk1) (Ev.ite_neg (by decide) ?_))))
      exact inner ms.length 0 (by omega) (by omega)
  unfold marks_norm.f nrm
  exact loop l.length 0 [] (by omega) (by omega) (Nat.le_refl _) (fun p hp => by cases hp)
end Go.Proofs.YtjmhihadgpdiaaaDoor.Mk
end
section
namespace Go.Proofs.YtjmhihadgpdiaaaDoor.Mk
open Go.RowKit Go.Proofs.YtjmhihadgpdiaaaDoor.X Go.Proofs.YtjmhihadgpdiaaaDoorW.PrintWords Go.Proofs.YtjmhihadgpdiaaaDoorW.PrintLast Go.Proofs.YtjmhihadgpdiaaaDoor.Base
set_option linter.unusedVariables false
set_option linter.unusedSimpArgs false
abbrev Nd := S49
def AdjL : List Bs → Prop
  | [] => True
  | [_] => True
  | a :: b :: l => a ≠ b ∧ AdjL (b :: l)
theorem AdjL.tail {a : Bs} {l : List Bs} (h : AdjL (a :: l)) : AdjL l := by
  cases l with
  | nil => trivial
  | cons b l => exact h.2
theorem AdjL.drop {l : List Bs} (h : AdjL l) : ∀ n, AdjL (l.drop n) := by
  intro n
  induction n generalizing l with
  | zero => exact h
  | succ n ih =>
    cases l with
    | nil => trivial
    | cons a l => exact ih h.tail
theorem AdjL.take {l : List Bs} (h : AdjL l) : ∀ n, AdjL (l.take n) := by
  intro n
  induction n generalizing l with
  | zero => trivial
  | succ n ih =>
    match l, h with
    | [], _ => trivial
    | [a], _ => simp [AdjL]
    | a :: b :: l, h =>
      cases n with
      | zero => trivial
      | succ n => exact ⟨h.1, ih h.2⟩
theorem AdjL.snoc {l : List Bs} {b : Bs} (h : AdjL l) (hb : l.getLast? ≠ some b) : AdjL (l ++ [b]) := by
  match l, h, hb with
  | [], _, _ => trivial
  | [a], _, hb => exact ⟨fun e => hb (by rw [e]; rfl), trivial⟩
  | a :: c :: l, h, hb =>
    refine ⟨h.1, AdjL.snoc (l := c :: l) h.2 (fun e => hb ?_)⟩
    rw [List.getLast?_cons_cons]; exact e
/-- what the norm gives -/
def PN (ms : Bs) (l : List R) : Prop := (∀ r ∈ l, r.f0.toList ≠ [] ∧ ∃ a, r.f1 = keep ms a) ∧ AdjL (l.map (·.f1))
theorem step_pn {ms : Bs} {out : List R} (h : PN ms out) (r : R) : PN ms (step ms out r) := by
  unfold step
  split
  · rename_i hj
    obtain ⟨p, hp, _⟩ := hj
    have hne : out ≠ [] := by rintro rfl; simp at hp
    have hlt : out.length - 1 < out.length := by have := List.length_pos_iff.2 hne; omega
    have e : out.getD (out.length - 1) ⟨ByteArray.empty, []⟩ = out[out.length - 1] := by simp [List.getD, hlt]
    rw [e]
    have h2 := h.1 (out[out.length - 1]) (List.getElem_mem hlt)
    refine ⟨fun q hq => ?_, ?_⟩
    · rcases List.mem_or_eq_of_mem_set hq with hq | rfl
      · exact h.1 q hq
      · refine ⟨fun e => h2.1 ?_, h2.2⟩
        have e2 : (out[out.length - 1].f0 ++ r.f0).toList = [] := e
        rw [toList_eq, ByteArray.data_append, Array.toList_append] at e2
        rw [toList_eq]; exact (List.append_eq_nil_iff.1 e2).1
    · have e3 : (out.set (out.length - 1) ⟨out[out.length - 1].f0 ++ r.f0, out[out.length - 1].f1⟩).map (·.f1) = out.map (·.f1) := by
        rw [List.map_set]
        apply List.ext_getElem?
        intro j
        rw [List.getElem?_set]
        split
        · rename_i hji
          subst hji
          simp [hlt]
        · rfl
      rw [e3]; exact h.2
  · rename_i hj
    split
    · exact h
    · rename_i hr
      refine ⟨fun q hq => ?_, ?_⟩
      · rcases List.mem_append.1 hq with hq | hq
        · exact h.1 q hq
        · rw [List.mem_singleton.1 hq]; exact ⟨hr, r.f1, rfl⟩
      · rw [List.map_append]
        refine AdjL.snoc h.2 (fun e => hj ?_)
        rw [List.getLast?_map] at e
        obtain ⟨p, hp, e2⟩ := Option.map_eq_some_iff.1 e
        exact ⟨p, hp, e2⟩
theorem nrm_pn (ms : Bs) (l : List R) : PN ms (nrm ms l) := by
  have : ∀ (l : List R) (out : List R), PN ms out → PN ms (l.foldl (step ms) out) := by
    intro l
    induction l with
    | nil => intro out h; exact h
    | cons r l ih => intro out h; exact ih _ (step_pn h r)
  exact this l [] ⟨fun r hr => (by cases hr), trivial⟩
theorem nrm_len (ms : Bs) (l : List R) : (nrm ms l).length ≤ l.length := by
  have : ∀ (l : List R) (out : List R), (l.foldl (step ms) out).length ≤ out.length + l.length := by
    intro l
    induction l with
    | nil => intro out; simp
    | cons r l ih =>
      intro out
      have := ih (step ms out r)
      have := step_len ms out r
      rw [List.foldl_cons, List.length_cons]; omega
  have h2 := this l []
  rw [List.length_nil, Nat.zero_add] at h2
  exact h2
def flt (pre : Bs) : List Nd → List R
  | [] => []
  | n :: l => (if n.f0.toList = ([] : List UInt8) then [⟨n.f2, pre⟩] else flt (pre ++ [n.f0]) n.f3) ++ flt pre l
termination_by l => SizeOf.sizeOf l
decreasing_by all_goals (cases n; simp; omega)
theorem flt_nil (pre : Bs) : flt pre [] = [] := by rw [flt]
theorem flt_cons (pre : Bs) (n : Nd) (l : List Nd) : flt pre (n :: l) = (if n.f0.toList = ([] : List UInt8) then [⟨n.f2, pre⟩] else flt (pre ++ [n.f0]) n.f3) ++ flt pre l := by rw [flt]
/-- nested in the order of marks, no two of one name side by side -/
def NB (prev : Option ByteArray) (ms : Bs) : List Nd → Prop
  | [] => True
  | n :: l => (n.f0.toList ≠ [] → ∃ l1 l2, ms = l1 ++ n.f0 :: l2 ∧ prev ≠ some n.f0 ∧ n.f3 ≠ [] ∧ NB none l2 n.f3) ∧ NB (some n.f0) ms l
termination_by l => SizeOf.sizeOf l
decreasing_by all_goals (cases n; simp; omega)
theorem NB_nil (prev : Option ByteArray) (ms : Bs) : NB prev ms [] := by rw [NB]; trivial
theorem NB_cons (prev : Option ByteArray) (ms : Bs) (n : Nd) (l : List Nd) : NB prev ms (n :: l) = ((n.f0.toList ≠ [] → ∃ l1 l2, ms = l1 ++ n.f0 :: l2 ∧ prev ≠ some n.f0 ∧ n.f3 ≠ [] ∧ NB none l2 n.f3) ∧ NB (some n.f0) ms l) := by rw [NB]
/-- texts are not empty and apart -/
def AT (prev : Option ByteArray) : List Nd → Prop
  | [] => True
  | n :: l => (if n.f0.toList = ([] : List UInt8) then n.f2.toList ≠ [] ∧ n.f3 = [] ∧ n.f1 = [] ∧ (∀ p, prev = some p → p.toList ≠ []) else n.f2.toList = [] ∧ AT none n.f3 ∧ n.f1 = []) ∧ AT (some n.f0) l
termination_by l => SizeOf.sizeOf l
decreasing_by all_goals (cases n; simp; omega)
theorem AT_nil (prev : Option ByteArray) : AT prev [] := by rw [AT]; trivial
theorem AT_cons (prev : Option ByteArray) (n : Nd) (l : List Nd) : AT prev (n :: l) = ((if n.f0.toList = ([] : List UInt8) then n.f2.toList ≠ [] ∧ n.f3 = [] ∧ n.f1 = [] ∧ (∀ p, prev = some p → p.toList ≠ []) else n.f2.toList = [] ∧ AT none n.f3 ∧ n.f1 = []) ∧ AT (some n.f0) l) := by rw [AT]
/-- what stands ahead of runs that are nested at a place -/
def Pv (prev : Option ByteArray) (pre : Bs) (L : List R) : Prop := ∀ r p, L.head? = some r → prev = some p → (p.toList = [] → r.f1 ≠ pre) ∧ (p.toList ≠ [] → ∀ s, r.f1 ≠ pre ++ p :: s)
theorem sub_after {m : ByteArray} {s l1 l2 : Bs} (h : (m :: s).Sublist (l1 ++ m :: l2)) (hn : m ∉ l1) : s.Sublist l2 := by
  induction l1 with
  | nil =>
    cases h with
    | cons _ h => exact (List.sublist_cons_self m s).trans h
    | cons_cons _ h => exact h
  | cons a l1 ih =>
    have hne : m ≠ a := fun e => hn (by rw [e]; exact List.mem_cons_self)
    cases h with
    | cons _ h => exact ih h (fun e => hn (List.mem_cons_of_mem _ e))
    | cons_cons _ h => exact absurd rfl hne
theorem first_of {m : ByteArray} {l : Bs} (h : m ∈ l) : ∃ l1 l2, l = l1 ++ m :: l2 ∧ m ∉ l1 := by
  induction l with
  | nil => cases h
  | cons a l ih =>
    by_cases e : m = a
    · subst e; exact ⟨[], l, rfl, fun h => (by cases h)⟩
    · obtain ⟨l1, l2, h1, h2⟩ := ih ((List.mem_cons.1 h).resolve_left e)
      exact ⟨a :: l1, l2, by rw [h1]; rfl, fun h3 => (List.mem_cons.1 h3).elim e h2⟩
/-- the runs that go into an element -/
theorem nest_step {L : List R} {r : R} {L' : List R} (hL : L = r :: L') {pre s' : Bs} {m : ByteArray} (hr : r.f1 = pre ++ m :: s') (hlen : ∀ x ∈ L, pre.length ≤ x.f1.length) (hL2 : L.length < 1000000) (hp2 : pre.length < 1000000) (acc : List Nd) (ha : acc.length < 1000000) :
    ∃ i, 1 ≤ i ∧ i ≤ L.length ∧ (∀ x ∈ L.take i, ix_marksNest.P (pre.length : Int) m x = false) ∧ (∀ x, (L.drop i).head? = some x → ix_marksNest.P (pre.length : Int) m x = true) ∧
      ∀ (parts : List Nd) (RR : List Nd), Ev (fun k => marks_nest.f k (L.take i) ((pre ++ [m]).length : Int)) parts → Ev (fun k => marks_nest.l0 k (L.drop i) (acc ++ [(⟨m, [], ⟨#[]⟩, parts⟩ : Nd)]) (pre.length : Int)) RR → Ev (fun k => marks_nest.l0 k L acc (pre.length : Int)) RR := by
  have hrd : rd_T40 L 0 = r := by rw [hL]; rfl
  have hpl : pre.length < r.f1.length := by rw [hr]; simp
  have hm : rdOf ByteArray.empty r.f1 (pre.length : Int) = m := by rw [rdB_at _ _ hpl]; simp [hr]
  have hpos : 0 < L.length := by rw [hL]; simp
  have hw : Aside0 (wrap64 ((pre.length : Int) + 1) = ((pre ++ [m]).length : Int)) := ⟨by rw [wrap_id (by omega) (by omega)]; simp⟩
  have hg : L.all (ix_marksNest.g (pre.length : Int)) = true := by
    rw [List.all_eq_true]
    intro x hx
    have := hlen x hx
    unfold ix_marksNest.g
    by_cases e : (x.f1.length : Int) = (pre.length : Int)
    · simp [e]
    · have e3 : (pre.length : Int) < (x.f1.length : Int) := by omega
      simp [e3]
  have hix : ix_marksNest.f L (pre.length : Int) m = some (ix_marksNest.idx (pre.length : Int) m L) := by unfold ix_marksNest.f; rw [if_pos hg]
  have hP0 : ix_marksNest.P (pre.length : Int) m r = false := by
    unfold ix_marksNest.P
    rw [hm, decide_eq_false (by omega)]
    simp
  have c1 : (L.length : Int) > 0 := by omega
  have c2 : 0 < (L.length : Int) := by omega
  have c3 : ¬ ((r.f1.length : Int) = (pre.length : Int)) := by omega
  have c4 : 0 ≤ (pre.length : Int) := by omega
  have c5 : (pre.length : Int) < (r.f1.length : Int) := by omega
  have c6 : acc.length < 1759218604441 := by omega
  have c7 : 0 ≤ (L.length : Int) := by omega
  have c8 : (L.length : Int) ≤ (L.length : Int) := by omega
  have hix2 := hix
  unfold ix_marksNest.idx at hix2
  cases hf : L.findIdx? (ix_marksNest.P (pre.length : Int) m) with
  | none =>
    rw [hf] at hix2
    rw [List.findIdx?_eq_none_iff] at hf
    refine ⟨L.length, hpos, Nat.le_refl _, fun x hx => hf x (List.mem_of_mem_take hx), fun x hx => ?_, fun parts RR h1 h2 => ?_⟩
    · rw [List.drop_length] at hx; cases hx
    · refine Ev.one (f := fun k => (marks_nest.f k (L.take L.length) ((pre ++ [m]).length : Int)).bind fun t => marks_nest.l0 k (L.drop L.length) (acc ++ [(⟨m, [], ⟨#[]⟩, t⟩ : Nd)]) (pre.length : Int)) (fun k => ?_) (Ev.bnd h1 h2)
      rw [marks_nest.l0, if_pos c1, if_pos c2, hrd, if_neg c3, if_pos c4, if_pos c5, hm, hix2, Option.bind_some, if_pos (by decide), if_pos c7, if_pos c8, hw.out, Int.toNat_natCast]
      simp only [if_pos c6]
  | some i =>
    rw [hf] at hix2
    rw [List.findIdx?_eq_some_iff_getElem] at hf
    obtain ⟨hi, ht, hb⟩ := hf
    have hi1 : 1 ≤ i := by
      cases i with
      | zero =>
        have : L[0] = r := by simp [hL]
        rw [this, hP0] at ht; cases ht
      | succ i => omega
    have c9 : ¬ ((i : Int) < 0) := by omega
    have c10 : 0 ≤ (i : Int) := by omega
    have c11 : (i : Int) ≤ (L.length : Int) := by omega
    refine ⟨i, hi1, by omega, fun x hx => ?_, fun x hx => ?_, fun parts RR h1 h2 => ?_⟩
    · obtain ⟨j, hj, rfl⟩ := List.getElem_of_mem hx
      rw [List.getElem_take]
      have hj2 : j < i := by rw [List.length_take] at hj; omega
      have := hb j hj2
      simpa using this
    · rw [List.head?_drop, List.getElem?_eq_getElem hi] at hx
      rw [← Option.some.inj hx]; exact ht
    · refine Ev.one (f := fun k => (marks_nest.f k (L.take i) ((pre ++ [m]).length : Int)).bind fun t => marks_nest.l0 k (L.drop i) (acc ++ [(⟨m, [], ⟨#[]⟩, t⟩ : Nd)]) (pre.length : Int)) (fun k => ?_) (Ev.bnd h1 h2)
      rw [marks_nest.l0, if_pos c1, if_pos c2, hrd, if_neg c3, if_pos c4, if_pos c5, hm, hix2, Option.bind_some, if_neg c9, if_pos c10, if_pos c11, hw.out, Int.toNat_natCast]
      simp only [if_pos c6]
theorem nest_ev : ∀ (N : Nat) (ms2 : Bs), ms2.length ≤ N → ms2.Nodup → (∀ m ∈ ms2, m.toList ≠ []) → ∀ (n : Nat) (L : List R) (pre : Bs) (acc : List Nd), L.length ≤ n → acc.length + n < 100000 → pre.length + N < 100000 → (∀ r ∈ L, r.f0.toList ≠ [] ∧ ∃ s, r.f1 = pre ++ s ∧ s.Sublist ms2) → AdjL (L.map (·.f1)) →
    ∃ nodes, Ev (fun k => marks_nest.l0 k L acc (pre.length : Int)) (acc ++ nodes) ∧ (L ≠ [] → nodes ≠ []) ∧ flt pre nodes = L ∧ ∀ prev, Pv prev pre L → NB prev ms2 nodes ∧ AT prev nodes := by
  intro N
  induction N with
  | zero => exact fun ms2 hN hnd hne => nest_aux 0 (fun _ h => absurd h (by omega)) ms2 hN hnd hne
  | succ N ihN => exact fun ms2 hN hnd hne => nest_aux (N + 1) (fun M hM ms3 h3 hnd3 hne3 n L pre acc h1 h2 h4 h5 h6 => ihN ms3 (by omega) hnd3 hne3 n L pre acc h1 h2 (by omega) h5 h6) ms2 hN hnd hne
where
  nest_aux (N : Nat) (ihN : ∀ M, M < N → ∀ (ms2 : Bs), ms2.length ≤ M → ms2.Nodup → (∀ m ∈ ms2, m.toList ≠ []) → ∀ (n : Nat) (L : List R) (pre : Bs) (acc : List Nd), L.length ≤ n → acc.length + n < 100000 → pre.length + N ≤ 100000 → (∀ r ∈ L, r.f0.toList ≠ [] ∧ ∃ s, r.f1 = pre ++ s ∧ s.Sublist ms2) → AdjL (L.map (·.f1)) →
      ∃ nodes, Ev (fun k => marks_nest.l0 k L acc (pre.length : Int)) (acc ++ nodes) ∧ (L ≠ [] → nodes ≠ []) ∧ flt pre nodes = L ∧ ∀ prev, Pv prev pre L → NB prev ms2 nodes ∧ AT prev nodes) (ms2 : Bs) (hN : ms2.length ≤ N) (hnd : ms2.Nodup) (hne : ∀ m ∈ ms2, m.toList ≠ []) : ∀ (n : Nat) (L : List R) (pre : Bs) (acc : List Nd), L.length ≤ n → acc.length + n < 100000 → pre.length + N < 100000 → (∀ r ∈ L, r.f0.toList ≠ [] ∧ ∃ s, r.f1 = pre ++ s ∧ s.Sublist ms2) → AdjL (L.map (·.f1)) →
      ∃ nodes, Ev (fun k => marks_nest.l0 k L acc (pre.length : Int)) (acc ++ nodes) ∧ (L ≠ [] → nodes ≠ []) ∧ flt pre nodes = L ∧ ∀ prev, Pv prev pre L → NB prev ms2 nodes ∧ AT prev nodes := by
    intro n
    induction n with
    | zero =>
      intro L pre acc hl _ _ _ _
      obtain rfl : L = [] := List.eq_nil_of_length_eq_zero (by omega)
      refine ⟨[], ?_, fun h => absurd rfl h, flt_nil pre, fun prev _ => ⟨NB_nil _ _, AT_nil _⟩⟩
      rw [List.append_nil]
      refine Ev.one (f := fun k => _) (fun k => by rw [marks_nest.l0]) ?_
      exact Ev.ite_neg (by simp) (Ev.some _)
    | succ n ih =>
      intro L pre acc hl ha hpre hr hadj
      cases hL : L with
      | nil =>
        refine ⟨[], ?_, fun h => absurd rfl h, flt_nil pre, fun prev _ => ⟨NB_nil _ _, AT_nil _⟩⟩
        rw [List.append_nil]
        refine Ev.one (f := fun k => _) (fun k => by rw [marks_nest.l0]) ?_
        exact Ev.ite_neg (by simp) (Ev.some _)
      | cons r L' =>
        obtain ⟨hr0, s, hs, hsub⟩ := hr r (by rw [hL]; exact List.mem_cons_self)
        have hlen' : L.length = L'.length + 1 := by rw [hL]; rfl
        cases s with
        | nil =>
          rw [List.append_nil] at hs
          have ee : (⟨#[]⟩ : ByteArray).toList = ([] : List UInt8) := toList_nil.2 rfl
          obtain ⟨nodes, h1, h2, h3, h4⟩ := ih L' pre (acc ++ [(⟨⟨#[]⟩, [], r.f0, []⟩ : Nd)]) (by omega) (by simp; omega) hpre (fun x hx => hr x (by rw [hL]; exact List.mem_cons_of_mem _ hx)) (by rw [hL, List.map_cons] at hadj; exact hadj.tail)
          refine ⟨(⟨⟨#[]⟩, [], r.f0, []⟩ : Nd) :: nodes, ?_, fun _ => by simp, ?_, fun prev hp => ?_⟩
          · rw [List.append_assoc, List.singleton_append] at h1
            have c1 : (((r :: L').length : Nat) : Int) > 0 := by rw [List.length_cons]; omega
            have c2 : 0 < (((r :: L').length : Nat) : Int) := by omega
            have c3 : (r.f1.length : Int) = (pre.length : Int) := by rw [hs]
            have c4 : acc.length < 1759218604441 := by omega
            have c5 : 1 ≤ (((r :: L').length : Nat) : Int) := by omega
            refine Ev.one (fun k => ?_) h1
            have e0 : rd_T40 (r :: L') 0 = r := rfl
            rw [marks_nest.l0, if_pos c1, if_pos c2, e0, if_pos c3, if_pos c4, if_pos c5]
            rfl
          · rw [flt_cons]
            dsimp only
            rw [if_pos ee, h3, ← hs]; rfl
          · have h5 := h4 (some ⟨#[]⟩) (fun x p hx hp => by
              obtain rfl := Option.some.inj hp
              refine ⟨fun _ e => ?_, fun h => absurd ee h⟩
              cases hL2 : L' with
              | nil => rw [hL2] at hx; cases hx
              | cons y L2 =>
                rw [hL2] at hx
                obtain rfl := Option.some.inj hx
                rw [hL, hL2, List.map_cons, List.map_cons] at hadj
                exact hadj.1 (by rw [hs, e]))
            rw [NB_cons, AT_cons]
            dsimp only
            rw [if_pos ee]
            refine ⟨⟨fun h => absurd ee h, h5.1⟩, ⟨hr0, rfl, rfl, fun p he hpe => ?_⟩, h5.2⟩
            exact ((hp r p rfl he).1 hpe) hs
        | cons m s' =>
          have hm : m ∈ ms2 := hsub.subset List.mem_cons_self
          have hmne := hne m hm
          obtain ⟨l1, l2, hms, hml1⟩ := first_of hm
          have hnd2 := hnd
          rw [hms] at hnd2
          have hl2nd : l2.Nodup := ((List.nodup_append.1 hnd2).2.1).tail
          have hl2len : l2.length < ms2.length := by rw [hms]; simp; omega
          have hplen : ∀ x ∈ L, pre.length ≤ x.f1.length := fun x hx => by
            obtain ⟨_, sx, e, _⟩ := hr x hx
            rw [e]; simp
          obtain ⟨i, hi1, hi2, hG, hR, hstep⟩ := nest_step hL hs hplen (by omega) (by omega) acc (by omega)
          have hin : ∀ x ∈ L.take i, x.f0.toList ≠ [] ∧ ∃ s, x.f1 = (pre ++ [m]) ++ s ∧ s.Sublist l2 := by
            intro x hx
            obtain ⟨hx0, sx, e, hsx⟩ := hr x (List.mem_of_mem_take hx)
            have hP := hG x hx
            unfold ix_marksNest.P at hP
            rw [Bool.or_eq_false_iff] at hP
            refine ⟨hx0, ?_⟩
            cases sx with
            | nil => exact absurd hP.1 (by rw [e]; simp)
            | cons q sx =>
              have hpl : pre.length < x.f1.length := by rw [e]; simp
              have hq : rdOf ByteArray.empty x.f1 (pre.length : Int) = q := by rw [rdB_at _ _ hpl]; simp [e]
              have hqm : q = m := by
                have := hP.2
                rw [hq] at this
                exact toList_inj.1 (by simpa using this)
              subst hqm
              refine ⟨sx, by rw [e]; simp, ?_⟩
              rw [hms] at hsx
              exact sub_after hsx hml1
          have hadjT : AdjL ((L.take i).map (·.f1)) := by rw [List.map_take]; exact hadj.take i
          have hadjD : AdjL ((L.drop i).map (·.f1)) := by rw [List.map_drop]; exact hadj.drop i
          obtain ⟨parts, p1, p2, p3, p4⟩ := ihN (N - 1) (by omega) l2 (by omega) hl2nd (fun q hq => hne q (by rw [hms]; simp [hq])) (n + 1) (L.take i) (pre ++ [m]) [] (by rw [List.length_take]; omega) (by simp; omega) (by simp; omega) hin hadjT
          obtain ⟨nodes, h1, h2, h3, h4⟩ := ih (L.drop i) pre (acc ++ [(⟨m, [], ⟨#[]⟩, parts⟩ : Nd)]) (by rw [List.length_drop]; omega) (by simp; omega) hpre (fun x hx => hr x (List.mem_of_mem_drop hx)) hadjD
          rw [List.append_assoc, List.singleton_append] at h1
          have p1' : Ev (fun k => marks_nest.f k (L.take i) ((pre ++ [m]).length : Int)) parts := by
            refine Ev.one (fun k => ?_) p1
            rw [marks_nest.f]
          have hmain := hstep parts _ p1' h1
          rw [hL] at hmain
          refine ⟨(⟨m, [], ⟨#[]⟩, parts⟩ : Nd) :: nodes, hmain, fun _ => by simp, ?_, fun prev hp => ?_⟩
          · rw [flt_cons]
            dsimp only
            rw [if_neg hmne, p3, h3, ← hL]
            exact List.take_append_drop i L
          · have hv := p4 none (fun _ _ _ h => (by cases h))
            have h5 := h4 (some m) (fun x p hx he => by
              obtain rfl := Option.some.inj he
              refine ⟨fun h => absurd h hmne, fun _ sx e => ?_⟩
              have hP := hR x hx
              unfold ix_marksNest.P at hP
              have hpl : pre.length < x.f1.length := by rw [e]; simp
              have hq : rdOf ByteArray.empty x.f1 (pre.length : Int) = m := by rw [rdB_at _ _ hpl]; simp [e]
              rw [hq, decide_eq_false (by omega)] at hP
              simp at hP)
            have hpne : parts ≠ [] := p2 (fun e => by
              have h6 : (L.take i).length = 0 := by rw [e]; rfl
              rw [List.length_take] at h6
              omega)
            rw [NB_cons, AT_cons]
            dsimp only
            rw [if_neg hmne]
            refine ⟨⟨fun _ => ⟨l1, l2, hms, fun e => ?_, hpne, hv.1⟩, h5.1⟩, ⟨toList_nil.2 rfl, hv.2, rfl⟩, h5.2⟩
            exact (hp r m rfl e).2 hmne s' hs
end Go.Proofs.YtjmhihadgpdiaaaDoor.Mk
end
section
namespace Go.Proofs.YtjmhihadgpdiaaaDoor.Mk
open Go.RowKit Go.Proofs.YtjmhihadgpdiaaaDoor.X Go.Proofs.YtjmhihadgpdiaaaDoorW.PrintWords Go.Proofs.YtjmhihadgpdiaaaDoorW.PrintLast Go.Proofs.YtjmhihadgpdiaaaDoor.Base
set_option linter.unusedVariables false
set_option linter.unusedSimpArgs false
def cnt : List Nd → Nat
  | [] => 0
  | n :: l => 1 + cnt n.f3 + cnt l
termination_by l => SizeOf.sizeOf l
decreasing_by all_goals (cases n; simp; omega)
theorem cnt_nil : cnt [] = 0 := by rw [cnt]
theorem cnt_cons (n : Nd) (l : List Nd) : cnt (n :: l) = 1 + cnt n.f3 + cnt l := by rw [cnt]
theorem cnt_len : ∀ l : List Nd, l.length ≤ cnt l
  | [] => Nat.zero_le _
  | n :: l => by have := cnt_len l; rw [cnt_cons, List.length_cons]; omega
theorem cnt_le : ∀ (N : Nat) (nodes : List Nd) (prev : Option ByteArray) (ms pre : Bs), cnt nodes ≤ N → AT prev nodes → NB prev ms nodes → cnt nodes ≤ (flt pre nodes).length * (ms.length + 1) := by
  intro N
  induction N with
  | zero =>
    intro nodes prev ms pre h _ _
    omega
  | succ N ih =>
    intro nodes prev ms pre h hA hB
    cases nodes with
    | nil => rw [cnt_nil]; omega
    | cons n l =>
      rw [cnt_cons] at h
      rw [NB_cons] at hB
      rw [AT_cons] at hA
      have h1 := ih l (some n.f0) ms pre (by omega) hA.2 hB.2
      rw [cnt_cons, flt_cons, List.length_append, Nat.add_mul]
      by_cases e : n.f0.toList = ([] : List UInt8)
      · rw [if_pos e] at hA
        rw [if_pos e, hA.1.2.1, cnt_nil]
        simp
        omega
      · rw [if_neg e]
        rw [if_neg e] at hA
        obtain ⟨l1, l2, hms, _, hne, hb⟩ := hB.1 e
        have h2 := ih n.f3 none l2 (pre ++ [n.f0]) (by omega) hA.1.2.1 hb
        have h3 : 1 ≤ cnt n.f3 := by
          have := cnt_len n.f3
          have := List.length_pos_iff.2 hne
          omega
        have h4 : 1 ≤ (flt (pre ++ [n.f0]) n.f3).length := by
          rcases Nat.eq_zero_or_pos (flt (pre ++ [n.f0]) n.f3).length with h0 | h0
          · rw [h0, Nat.zero_mul] at h2; omega
          · exact h0
        have h5 : l2.length + 1 ≤ ms.length := by rw [hms]; simp
        have h6 : (flt (pre ++ [n.f0]) n.f3).length * (l2.length + 1) + (flt (pre ++ [n.f0]) n.f3).length ≤ (flt (pre ++ [n.f0]) n.f3).length * (ms.length + 1) := by
          rw [← Nat.mul_succ]
          exact Nat.mul_le_mul_left _ (by omega)
        omega
end Go.Proofs.YtjmhihadgpdiaaaDoor.Mk
end
section
namespace Go.Proofs.YtjmhihadgpdiaaaDoor.Mk
open Go.RowKit Go.Proofs.YtjmhihadgpdiaaaDoor.X Go.Proofs.YtjmhihadgpdiaaaDoorW.PrintWords Go.Proofs.YtjmhihadgpdiaaaDoorW.PrintLast Go.Proofs.YtjmhihadgpdiaaaDoor.Base
set_option linter.unusedVariables false
set_option linter.unusedSimpArgs false
def orders : List Bs := [[(⟨#[98]⟩ : ByteArray), (⟨#[101, 109]⟩ : ByteArray), (⟨#[105]⟩ : ByteArray)], [(⟨#[105]⟩ : ByteArray), (⟨#[98]⟩ : ByteArray), (⟨#[101, 109]⟩ : ByteArray)], [(⟨#[101, 109]⟩ : ByteArray), (⟨#[105]⟩ : ByteArray), (⟨#[98]⟩ : ByteArray)], [(⟨#[105]⟩ : ByteArray), (⟨#[101, 109]⟩ : ByteArray), (⟨#[98]⟩ : ByteArray)]]
theorem order_ev (a : Int) : ∃ ms ∈ orders, bobbinetkeep_markOrder.f a = some ms := by
  have hp := pick_ev a 4 (by decide) (by decide)
  have hb : 0 ≤ a % 4 ∧ a % 4 < 4 := by omega
  generalize a % 4 = u at hp hb
  unfold bobbinetkeep_markOrder.f
  rw [Option.bind_some, hp, Option.bind_some, if_pos hb.1, if_pos (show u < _ by simp; omega)]
  obtain rfl | rfl | rfl | rfl : u = 0 ∨ u = 1 ∨ u = 2 ∨ u = 3 := by omega
  · exact ⟨_, List.mem_cons_self, rfl⟩
  · exact ⟨_, List.mem_cons_of_mem _ List.mem_cons_self, rfl⟩
  · exact ⟨_, List.mem_cons_of_mem _ (List.mem_cons_of_mem _ List.mem_cons_self), rfl⟩
  · exact ⟨_, List.mem_cons_of_mem _ (List.mem_cons_of_mem _ (List.mem_cons_of_mem _ List.mem_cons_self)), rfl⟩
theorem check_orders : orders.all (fun ms => marks_Check.f 100 ms == some 0) = true := by decide +kernel
theorem sure_ev : bobbinetkeep_marksSure.f 100 = some true := by decide +kernel
theorem sub_orders : orders.all (fun ms => decide (ms.Nodup) && three.all (fun m => decide (m ∈ ms)) && decide (ms.length = 3) && ms.all (fun m => decide (m.size ≠ 0))) = true := by decide +kernel
structure Ord (ms : Bs) : Prop where
  nodup : ms.Nodup
  all : ∀ m ∈ three, m ∈ ms
  len : ms.length = 3
  ne : ∀ m ∈ ms, m.toList ≠ []
  check : marks_Check.f 100 ms = some 0
theorem ord {ms : Bs} (h : ms ∈ orders) : Ord ms := by
  have h1 := List.all_eq_true.1 check_orders ms h
  have h2 := List.all_eq_true.1 sub_orders ms h
  simp only [Bool.and_eq_true] at h2
  obtain ⟨⟨⟨a, b⟩, c⟩, d⟩ := h2
  refine ⟨of_decide_eq_true a, fun m hm => ?_, of_decide_eq_true c, fun m hm e => ?_, by simpa using h1⟩
  · exact of_decide_eq_true (List.all_eq_true.1 b m hm)
  · have := of_decide_eq_true (List.all_eq_true.1 d m hm)
    rw [toList_nil.1 e] at this
    exact this rfl
theorem mono_up {α : Type} {g : Nat → Option α} (hm : ∀ k, LeO (g k) (g (k + 1))) {k : Nat} {r : α} (h : g k = some r) : Ev g r := by
  refine ⟨k, fun n hn => ?_⟩
  obtain ⟨d, rfl⟩ : ∃ d, n = k + d := ⟨n - k, by omega⟩
  induction d with
  | zero => exact h
  | succ d ih => exact hm _ _ (ih (by omega))
theorem norm_all {ms : Bs} (h : Ord ms) {rs : List R} (hl : rs.length ≤ 60) (hr : ∀ r ∈ rs, (∀ m ∈ r.f1, m ∈ three) ∧ r.f1.length < 1000 ∧ r.f0.size ≤ 1000000) : Ev (fun k => marks_Norm.f k ms rs) (nrm ms rs, 0) := by
  unfold marks_Norm.f
  have h1 : Ev (fun k => marks_fault.f k ms rs) 0 := by
    unfold marks_fault.f
    exact Ev.bnd (mono_up (marks_Check.mono ms) h.check) (Ev.ite_pos rfl (Ev.ite_neg (by omega) (Ev.some _)))
  have h2 := norm_ev ms (by rw [h.len]; omega) rs (by omega) (fun r hx => ⟨fun m hm => h.all m ((hr r hx).1 m hm), (hr r hx).2⟩)
  exact Ev.bnd h1 (Ev.ite_pos rfl (Ev.bnd h2 (Ev.some _)))
theorem nest_all {ms : Bs} (h : Ord ms) {rs : List R} (hl : rs.length ≤ 60) (hr : ∀ r ∈ rs, (∀ m ∈ r.f1, m ∈ three) ∧ r.f1.length < 1000 ∧ r.f0.size ≤ 1000000) :
    ∃ nodes, Ev (fun k => marks_Nest.f k ms rs) (nodes, 0) ∧ flt [] nodes = nrm ms rs ∧ NB none ms nodes ∧ AT none nodes ∧ cnt nodes ≤ 240 := by
  have h1 := norm_all h hl hr
  have hp := nrm_pn ms rs
  have hn := nrm_len ms rs
  obtain ⟨nodes, e1, _, e3, e4⟩ := nest_ev 3 ms (by rw [h.len]; omega) h.nodup h.ne 60 (nrm ms rs) [] [] (by omega) (by simp) (by simp) (fun r hx => by
    obtain ⟨h0, a, ha⟩ := hp.1 r hx
    exact ⟨h0, keep ms a, by rw [ha]; rfl, List.filter_sublist⟩) hp.2
  have e5 := e4 none (fun _ _ _ hq => (by cases hq))
  have e6 := cnt_le (cnt nodes) nodes none ms [] (Nat.le_refl _) e5.2 e5.1
  rw [e3, h.len] at e6
  refine ⟨nodes, ?_, e3, e5.1, e5.2, by omega⟩
  unfold marks_Nest.f
  have e7 : Ev (fun k => marks_nest.f k (nrm ms rs) 0) nodes := by
    refine Ev.one (fun k => ?_) e1
    rw [marks_nest.f]; rfl
  exact Ev.bnd h1 (Ev.ite_pos rfl (Ev.bnd e7 (Ev.some _)))
end Go.Proofs.YtjmhihadgpdiaaaDoor.Mk
end
section
namespace Go.Proofs.YtjmhihadgpdiaaaDoor.Mk
open Go.RowKit Go.Proofs.YtjmhihadgpdiaaaDoor.X Go.Proofs.YtjmhihadgpdiaaaDoorW.PrintWords Go.Proofs.YtjmhihadgpdiaaaDoorW.PrintLast Go.Proofs.YtjmhihadgpdiaaaDoor.Base
set_option linter.unusedVariables false
set_option linter.unusedSimpArgs false
/-- letters with their marks -/
def sp (l : List R) : List (UInt8 × Bs) := l.flatMap fun r => r.f0.toList.map fun b => (b, r.f1)
theorem sp_nil : sp [] = [] := rfl
theorem sp_cons (r : R) (l : List R) : sp (r :: l) = r.f0.toList.map (fun b => (b, r.f1)) ++ sp l := rfl
theorem sp_app (a b : List R) : sp (a ++ b) = sp a ++ sp b := by unfold sp; rw [List.flatMap_append]
theorem toList_app (a b : ByteArray) : (a ++ b).toList = a.toList ++ b.toList := by
  rw [toList_eq, toList_eq, toList_eq, ByteArray.data_append, Array.toList_append]
/-- the same with the marks of an order -/
def spk (ms : Bs) (l : List R) : List (UInt8 × Bs) := l.flatMap fun r => r.f0.toList.map fun b => (b, keep ms r.f1)
theorem sp_step (ms : Bs) (out : List R) (r : R) : sp (step ms out r) = sp out ++ r.f0.toList.map (fun b => (b, keep ms r.f1)) := by
  unfold step
  split
  · rename_i hj
    obtain ⟨p, hp, hp2⟩ := hj
    obtain ⟨o, rfl⟩ := List.getLast?_eq_some_iff.1 hp
    have h1 : (o ++ [p]).length - 1 = o.length := by simp
    have h2 : (o ++ [p]).getD o.length ⟨ByteArray.empty, []⟩ = p := by simp [List.getD]
    rw [h1, h2, List.set_append_right _ _ (Nat.le_refl _), Nat.sub_self, List.set_cons_zero, sp_app, sp_app, sp_cons, sp_cons, sp_nil, List.append_nil, List.append_nil, List.append_assoc]
    dsimp only
    rw [toList_app, List.map_append, hp2]
  · split
    · rename_i hr
      rw [hr, List.map_nil, List.append_nil]
    · rw [sp_app]
      congr 1
      rw [sp_cons, sp_nil, List.append_nil]
theorem sp_nrm (ms : Bs) (l : List R) : sp (nrm ms l) = spk ms l := by
  have : ∀ (l out : List R), sp (l.foldl (step ms) out) = sp out ++ spk ms l := by
    intro l
    induction l with
    | nil => intro out; unfold spk; simp
    | cons r l ih =>
      intro out
      rw [List.foldl_cons, ih, sp_step, List.append_assoc]
      rfl
  have h := this l []
  rw [sp_nil, List.nil_append] at h
  exact h
/-- texts that are not empty, marks that change -/
def Can (l : List R) : Prop := (∀ r ∈ l, r.f0.toList ≠ []) ∧ AdjL (l.map (·.f1))
theorem PN.can {ms : Bs} {l : List R} (h : PN ms l) : Can l := ⟨fun r hr => (h.1 r hr).1, h.2⟩
theorem Can.tail {r : R} {l : List R} (h : Can (r :: l)) : Can l := ⟨fun q hq => h.1 q (List.mem_cons_of_mem _ hq), by have := h.2; rw [List.map_cons] at this; exact this.tail⟩
theorem Can.next {r : R} {l : List R} (h : Can (r :: l)) : ∀ c ∈ (sp l).head?, c.2 ≠ r.f1 := by
  cases l with
  | nil => intro c hc; rw [sp_nil] at hc; cases hc
  | cons q l =>
    intro c hc
    have hq := h.1 q (by simp)
    have ha : r.f1 ≠ q.f1 := h.2.1
    rw [sp_cons] at hc
    cases hq2 : q.f0.toList with
    | nil => exact absurd hq2 hq
    | cons b bs =>
      rw [hq2] at hc
      have : (b, q.f1) = c := by simpa using hc
      rw [← this]
      exact fun e => ha e.symm
theorem cut_eq {m : Bs} : ∀ {xs ys : List UInt8} {U V : List (UInt8 × Bs)}, xs.map (fun b => (b, m)) ++ U = ys.map (fun b => (b, m)) ++ V → (∀ c ∈ U.head?, c.2 ≠ m) → (∀ c ∈ V.head?, c.2 ≠ m) → xs = ys ∧ U = V
  | [], [], U, V, h, _, _ => ⟨rfl, by simpa using h⟩
  | [], y :: ys, U, V, h, hU, _ => by
    exfalso
    have : U = (y, m) :: (ys.map (fun b => (b, m)) ++ V) := by simpa using h
    exact hU (y, m) (by rw [this]; rfl) rfl
  | x :: xs, [], U, V, h, _, hV => by
    exfalso
    have : V = (x, m) :: (xs.map (fun b => (b, m)) ++ U) := by simpa using h.symm
    exact hV (x, m) (by rw [this]; rfl) rfl
  | x :: xs, y :: ys, U, V, h, hU, hV => by
    rw [List.map_cons, List.map_cons, List.cons_append, List.cons_append, List.cons.injEq] at h
    obtain ⟨h1, h2⟩ := h
    obtain ⟨h3, h4⟩ := cut_eq h2 hU hV
    have : x = y := (Prod.mk.injEq _ _ _ _ ▸ h1).1
    exact ⟨by rw [this, h3], h4⟩
theorem R_ext {a b : R} (h0 : a.f0 = b.f0) (h1 : a.f1 = b.f1) : a = b := by
  cases a; cases b
  dsimp only at h0 h1
  rw [h0, h1]
theorem can_eq : ∀ {a b : List R}, Can a → Can b → sp a = sp b → a = b
  | [], [], _, _, _ => rfl
  | [], q :: b, _, hb, h => by
    exfalso
    have h1 := hb.1 q (by simp)
    rw [sp_cons, sp_nil] at h
    have := (List.append_eq_nil_iff.1 h.symm).1
    exact h1 (by simpa using this)
  | r :: a, [], ha, _, h => by
    exfalso
    have h1 := ha.1 r (by simp)
    rw [sp_cons, sp_nil] at h
    have := (List.append_eq_nil_iff.1 h).1
    exact h1 (by simpa using this)
  | r :: a, q :: b, ha, hb, h => by
    rw [sp_cons, sp_cons] at h
    have hr := ha.1 r (by simp)
    have hq := hb.1 q (by simp)
    have hm : r.f1 = q.f1 := by
      cases e1 : r.f0.toList with
      | nil => exact absurd e1 hr
      | cons x xs =>
        cases e2 : q.f0.toList with
        | nil => exact absurd e2 hq
        | cons y ys =>
          rw [e1, e2] at h
          rw [List.map_cons, List.map_cons, List.cons_append, List.cons_append, List.cons.injEq] at h
          exact (Prod.mk.injEq _ _ _ _ ▸ h.1).2
    have h2 := ha.next
    have h3 := hb.next
    rw [← hm] at h h3
    obtain ⟨h4, h5⟩ := cut_eq h h2 h3
    rw [can_eq ha.tail hb.tail h5, R_ext (toList_inj.1 h4) hm]
theorem keep_keep {a b s : Bs} (h : ∀ m ∈ s, m ∈ a) : keep b (keep a s) = keep b s := by
  unfold keep
  apply List.filter_congr
  intro m hm
  rw [decide_eq_decide, List.mem_filter, decide_eq_true_eq]
  exact ⟨fun h2 => h2.2, fun h2 => ⟨h m h2, h2⟩⟩
theorem spk_of_sp (b : Bs) (l : List R) : spk b l = (sp l).map fun c => (c.1, keep b c.2) := by
  unfold spk sp
  rw [List.map_flatMap]
  congr 1
  funext r
  rw [List.map_map]
  rfl
/-- another order, and the norm's order ahead of it -/
theorem nrm_nrm {a b : Bs} {l : List R} (h : ∀ r ∈ l, ∀ m ∈ r.f1, m ∈ a) : nrm b (nrm a l) = nrm b l := by
  refine can_eq (nrm_pn _ _).can (nrm_pn _ _).can ?_
  rw [sp_nrm, sp_nrm, spk_of_sp, sp_nrm]
  unfold spk
  rw [List.map_flatMap]
  have : ∀ r ∈ l, ((r.f0.toList.map fun x => (x, keep a r.f1)).map fun c => (c.1, keep b c.2)) = r.f0.toList.map fun x => (x, keep b r.f1) := by
    intro r hr
    rw [List.map_map]
    apply List.map_congr_left
    intro x _
    show (x, keep b (keep a r.f1)) = _
    rw [keep_keep (h r hr)]
  clear h
  induction l with
  | nil => rfl
  | cons r l ih =>
    rw [List.flatMap_cons, List.flatMap_cons, this r (by simp), ih (fun q hq => this q (List.mem_cons_of_mem _ hq))]
/-- runs that are cut in two -/
theorem nrm_cut (b : Bs) {l p : List R} (h : spk b p = spk b l) : nrm b p = nrm b l := by
  refine can_eq (nrm_pn _ _).can (nrm_pn _ _).can ?_
  rw [sp_nrm, sp_nrm, h]
/-- all texts of runs -/
def txs : List R → ByteArray
  | [] => ⟨#[]⟩
  | r :: l => r.f0 ++ txs l
theorem txs_sp (l : List R) : (txs l).toList = (sp l).map (·.1) := by
  induction l with
  | nil => rw [txs, sp_nil]; exact toList_nil.2 rfl
  | cons r l ih =>
    rw [txs, sp_cons, toList_app, ih, List.map_append, List.map_map]
    congr 1
    exact (List.map_id' _).symm
theorem txs_nrm (a : Bs) (l : List R) : txs (nrm a l) = txs l := by
  apply toList_inj.1
  rw [txs_sp, txs_sp, sp_nrm, spk_of_sp, List.map_map]
  rfl
theorem txs_size {l : List R} {b : Nat} (h : ∀ r ∈ l, r.f0.size ≤ b) : (txs l).size ≤ l.length * b := by
  induction l with
  | nil => exact Nat.zero_le _
  | cons r l ih =>
    have h1 := h r (by simp)
    have h2 := ih (fun q hq => h q (List.mem_cons_of_mem _ hq))
    rw [txs, ByteArray.size_append, List.length_cons, Nat.add_mul]
    omega
end Go.Proofs.YtjmhihadgpdiaaaDoor.Mk
end
section
namespace Go.Proofs.YtjmhihadgpdiaaaDoor.Mk
open Go.RowKit Go.Proofs.YtjmhihadgpdiaaaDoor.X Go.Proofs.YtjmhihadgpdiaaaDoorW.PrintWords Go.Proofs.YtjmhihadgpdiaaaDoorW.PrintLast Go.Proofs.YtjmhihadgpdiaaaDoor.Base
set_option linter.unusedVariables false
set_option linter.unusedSimpArgs false
theorem copied_ev (l : List R) (hl : l.length < 1000000) (hr : ∀ r ∈ l, r.f1.length < 1000000) : Ev (fun k => bobbinetkeep_copiedRuns.f k l) l := by
  have loop : ∀ (d i : Nat), l.length - i = d → i ≤ l.length → Ev (fun k => bobbinetkeep_copiedRuns.l0 k l (l.take i) (i : Int)) l := by
    intro d
    induction d with
    | zero =>
      intro i hd hi
      obtain rfl : i = l.length := by omega
      rw [List.take_length]
      refine Ev.one (f := fun k => _) (fun k => by rw [bobbinetkeep_copiedRuns.l0]) ?_
      exact Ev.ite_neg (by omega) (Ev.some _)
    | succ d ih =>
      intro i hd hi
      have hlt : i < l.length := by omega
      have hw : Aside0 (wrap64 ((i : Int) + 1) = ((i + 1 : Nat) : Int)) := ⟨wrap_succ hlt (by omega)⟩
      have hn := ih (i + 1) (by omega) (by omega)
      have hlen := hr l[i] (List.getElem_mem hlt)
      rw [List.take_succ_eq_append_getElem hlt] at hn
      refine Ev.one (f := fun k => _) (fun k => by rw [bobbinetkeep_copiedRuns.l0, hw.out, rdR_at l i hlt]) ?_
      refine Ev.ite_pos (by omega) (Ev.ite_pos (by omega) (Ev.ite_pos (by rw [List.length_nil]; omega) (Ev.ite_pos (by rw [List.length_take]; omega) ?_)))
      rw [List.nil_append]
      exact hn
  unfold bobbinetkeep_copiedRuns.f
  exact loop l.length 0 (by omega) (by omega)
theorem same_ev (l : List R) (hl : l.length < 1000000) (hr : ∀ r ∈ l, r.f1.length < 1000000) : Ev (fun k => bobbinetkeep_sameRuns.f k l l) true := by
  have loop : ∀ (d i : Nat), l.length - i = d → i ≤ l.length → Ev (fun k => bobbinetkeep_sameRuns.l0 k l l (i : Int)) true := by
    intro d
    induction d with
    | zero =>
      intro i hd hi
      refine Ev.one (f := fun k => _) (fun k => by rw [bobbinetkeep_sameRuns.l0]) ?_
      exact Ev.ite_neg (by omega) (Ev.some _)
    | succ d ih =>
      intro i hd hi
      have hlt : i < l.length := by omega
      have hw : Aside0 (wrap64 ((i : Int) + 1) = ((i + 1 : Nat) : Int)) := ⟨wrap_succ hlt (by omega)⟩
      have hn := ih (i + 1) (by omega) (by omega)
      have hlen := hr l[i] (List.getElem_mem hlt)
      have inner : ∀ (e j : Nat), l[i].f1.length - j = e → j ≤ l[i].f1.length → Ev (fun k => bobbinetkeep_sameRuns.l1 k l l (i : Int) (j : Int)) true := by
        intro e
        induction e with
        | zero =>
          intro j he hj
          refine Ev.one (f := fun k => _) (fun k => by rw [bobbinetkeep_sameRuns.l1, hw.out, rdR_at l i hlt]) ?_
          exact Ev.ite_pos (by omega) (Ev.ite_pos (by omega) (Ev.ite_neg (by omega) hn))
        | succ e ihe =>
          intro j he hj
          have hw2 : Aside0 (wrap64 ((j : Int) + 1) = ((j + 1 : Nat) : Int)) := ⟨wrap_succ (n := l[i].f1.length) (by omega) (by omega)⟩
          refine Ev.one (f := fun k => _) (fun k => by rw [bobbinetkeep_sameRuns.l1, hw2.out, rdR_at l i hlt]) ?_
          exact Ev.ite_pos (by omega) (Ev.ite_pos (by omega) (Ev.ite_pos (by omega) (Ev.ite_pos (by omega) (Ev.ite_pos (by omega) (Ev.ite_pos (by omega) (Ev.ite_pos rfl (ihe (j + 1) (by omega) (by omega))))))))
      refine Ev.one (f := fun k => _) (fun k => by rw [bobbinetkeep_sameRuns.l0, rdR_at l i hlt]) ?_
      refine Ev.ite_pos (by omega) (Ev.ite_pos (by omega) (Ev.ite_pos (by omega) (Ev.ite_pos rfl ?_)))
      refine Ev.one (f := fun k => _) (fun k => by rw [bobbinetkeep_sameRuns.j1]) ?_
      exact Ev.ite_neg (by simp) (inner _ 0 rfl (by omega))
  unfold bobbinetkeep_sameRuns.f
  exact Ev.ite_pos rfl (loop l.length 0 (by omega) (by omega))
theorem flt_cnt : ∀ (N : Nat) (nodes : List Nd) (ws : Bs), cnt nodes ≤ N → (flt ws nodes).length ≤ cnt nodes := by
  intro N
  induction N with
  | zero =>
    intro nodes ws h
    obtain rfl : nodes = [] := List.eq_nil_of_length_eq_zero (by have := cnt_len nodes; omega)
    rw [flt_nil]; exact Nat.zero_le _
  | succ N ih =>
    intro nodes ws h
    cases nodes with
    | nil => rw [flt_nil]; exact Nat.zero_le _
    | cons n l =>
      rw [cnt_cons] at h
      have h1 := ih l ws (by omega)
      have h2 := ih n.f3 (ws ++ [n.f0]) (by omega)
      rw [flt_cons, cnt_cons, List.length_append]
      split
      · simp; omega
      · omega
theorem fl_ev (ms : Bs) (hm : ms.length < 1000000) : ∀ (N : Nat) (nodes : List Nd) (prev : Option ByteArray) (sub out : _) (ws : Bs), cnt nodes ≤ N → (∀ m ∈ sub, m ∈ ms) → NB prev sub nodes → AT prev nodes → out.length + cnt nodes < 1000000 → ws.length + sub.length < 1000000 →
    Ev (fun k => marks_flat.fl ms k nodes out ws) (out ++ flt ws nodes) := by
  intro N
  induction N with
  | zero =>
    intro nodes prev sub out ws h _ _ _ _ _
    obtain rfl : nodes = [] := List.eq_nil_of_length_eq_zero (by have := cnt_len nodes; omega)
    refine Ev.one (f := fun k => _) (fun k => by rw [marks_flat.fl]) ?_
    rw [flt_nil, List.append_nil]; exact Ev.some _
  | succ N ih =>
    intro nodes prev sub out ws h hs hB hA ho hw
    cases nodes with
    | nil =>
      refine Ev.one (f := fun k => _) (fun k => by rw [marks_flat.fl]) ?_
      rw [flt_nil, List.append_nil]; exact Ev.some _
    | cons n l =>
      rw [cnt_cons] at h ho
      rw [NB_cons] at hB
      rw [AT_cons] at hA
      rw [flt_cons]
      refine Ev.one (f := fun k => _) (fun k => by rw [marks_flat.fl]) ?_
      by_cases e : n.f0.toList = ([] : List UInt8)
      · rw [if_pos e] at hA
        rw [if_pos e]
        refine Ev.ite_pos e (Ev.ite_pos ⟨by rw [hA.1.2.2.1]; rfl, by rw [hA.1.2.1]; rfl, by omega⟩ ?_)
        have := ih l (some n.f0) sub (out ++ [⟨n.f2, ws⟩]) ws (by omega) hs hB.2 hA.2 (by simp; omega) hw
        rw [List.append_assoc] at this
        exact this
      · rw [if_neg e] at hA
        rw [if_neg e]
        obtain ⟨l1, l2, hms, _, _, hb⟩ := hB.1 e
        have hmem : n.f0 ∈ ms := hs _ (by rw [hms]; simp)
        have hlen : l1.length + 1 + l2.length = sub.length := by rw [hms]; simp; omega
        have h1 := ih n.f3 none l2 [] (ws ++ [n.f0]) (by omega) (fun m hm2 => hs m (by rw [hms]; simp [hm2])) hb hA.1.2.1 (by simp; omega) (by simp; omega)
        have h2 := flt_cnt (cnt n.f3) n.f3 (ws ++ [n.f0]) (Nat.le_refl _)
        have h3 := ih l (some n.f0) sub (out ++ flt (ws ++ [n.f0]) n.f3) ws (by omega) hs hB.2 hA.2 (by simp; omega) hw
        rw [List.append_assoc] at h3
        rw [List.nil_append] at h1
        refine Ev.ite_neg e ?_
        obtain ⟨K, hK⟩ := Ev.bnd (f := fun k ps => if out.length + ps.length < 3518437208883 then marks_flat.fl ms k l (out ++ ps) ws else none) h1 (Ev.ite_pos (by omega) h3)
        refine ⟨K + ms.length + 1, fun k hk => ?_⟩
        have hc : n.f1.length = 0 ∧ n.f2.toList = ([] : List UInt8) ∧ slices_Contains_string_string.f k ms n.f0 = some true ∧ ws.length < 8796093022207 := by
          refine ⟨by rw [hA.1.2.2]; rfl, hA.1.1, ?_, by omega⟩
          rw [contains_eq ms n.f0 hm k (by omega), decide_eq_true hmem]
        show (if _ then _ else _) = _
        rw [if_pos hc]
        exact hK k (by omega)
theorem sub3 : orders.all (fun ms => ms.all (fun m => decide (m ∈ three))) = true := by decide +kernel
theorem ord_sub {ms : Bs} (h : ms ∈ orders) : ∀ m ∈ ms, m ∈ three := fun m hm => of_decide_eq_true (List.all_eq_true.1 (List.all_eq_true.1 sub3 ms h) m hm)
theorem txs_mem {r : R} : ∀ {l : List R}, r ∈ l → r.f0.size ≤ (txs l).size
  | q :: l, h => by
    rw [txs, ByteArray.size_append]
    rcases List.mem_cons.1 h with rfl | h
    · omega
    · have := txs_mem h; omega
/-- what is asked of runs that are normed again -/
theorem nrm_fine {ms : Bs} (h : ms ∈ orders) {rs : List R} (hl : rs.length ≤ 60) (hr : ∀ r ∈ rs, r.f0.size ≤ 2) : ∀ r ∈ nrm ms rs, (∀ m ∈ r.f1, m ∈ three) ∧ r.f1.length < 1000 ∧ r.f0.size ≤ 1000000 := by
  intro r hx
  obtain ⟨_, a, ha⟩ := (nrm_pn ms rs).1 r hx
  have h1 := txs_mem hx
  rw [txs_nrm] at h1
  have h2 := txs_size hr
  have h3 := (ord h).len
  refine ⟨fun m hm => ?_, ?_, by omega⟩
  · rw [ha] at hm
    exact ord_sub h m (List.mem_filter.1 hm).1
  · rw [ha]
    have := keep_len ms a
    omega
theorem flat_ev {a b : Bs} (ha : a ∈ orders) (hb : b ∈ orders) {nodes : List Nd} {rs : List R} (hl : rs.length ≤ 60) (hr : ∀ r ∈ rs, r.f0.size ≤ 2) (h1 : flt [] nodes = nrm a rs) (h2 : NB none a nodes) (h3 : AT none nodes) (h4 : cnt nodes ≤ 240) :
    Ev (fun k => marks_Flat.f k b nodes) (nrm b (nrm a rs), 0) := by
  have hoa := ord ha
  have hob := ord hb
  have h5 := fl_ev b (by rw [hob.len]; omega) (cnt nodes) nodes none a [] [] (Nat.le_refl _) (fun m hm => hob.all m (ord_sub ha m hm)) h2 h3 (by simp; omega) (by rw [hoa.len]; simp)
  rw [List.nil_append, h1] at h5
  have h6 : Ev (fun k => marks_flat.f k b nodes []) (nrm a rs, 0) := by
    obtain ⟨K, hK⟩ := h5
    refine ⟨K, fun k hk => ?_⟩
    have hk2 : marks_flat.fl b k nodes [] [] = some (nrm a rs) := hK k hk
    show marks_flat.f k b nodes [] = _
    unfold marks_flat.f
    rw [if_pos (show ([] : List ByteArray).length = 0 from rfl), hk2]
    rfl
  have h7 := norm_all hob (rs := nrm a rs) (by have := nrm_len a rs; omega) (nrm_fine ha hl hr)
  unfold marks_Flat.f
  refine Ev.bnd (mono_up (marks_Check.mono b) hob.check) (Ev.ite_pos rfl (Ev.bnd h6 (Ev.ite_pos rfl (Ev.bnd h7 (Ev.some _)))))
end Go.Proofs.YtjmhihadgpdiaaaDoor.Mk
end
section
namespace Go.Proofs.YtjmhihadgpdiaaaDoor.Pure
open Go.RowKit Go.Proofs.YtjmhihadgpdiaaaDoor.X Go.Proofs.YtjmhihadgpdiaaaDoorW.PrintWords Go.Proofs.YtjmhihadgpdiaaaDoorW.PrintLast Go.Proofs.YtjmhihadgpdiaaaDoor.Base Go.Proofs.YtjmhihadgpdiaaaDoor.Mk
set_option linter.unusedVariables false
theorem mo_cut (b : ByteArray) (t : Nat) (ht : t ≤ b.size) : (b.extract 0 t).toList ++ (b.extract t b.size).toList = b.toList := by
  rw [← toList_app]
  congr 1
  apply ByteArray.ext
  rw [ByteArray.data_append, ByteArray.data_extract, ByteArray.data_extract]
  apply Array.ext'
  rw [Array.toList_append, Array.toList_extract, Array.toList_extract, List.extract_eq_take_drop, List.extract_eq_take_drop]
  have h1 : b.data.toList.length = b.size := by rw [Array.length_toList]; rfl
  rw [List.drop_zero, Nat.sub_zero, List.take_of_length_le (l := b.data.toList.drop t) (by rw [List.length_drop]; omega), List.take_append_drop]
theorem mo_spk (ms : Bs) : ∀ (l : List (R × Nat)), (∀ p ∈ l, p.2 ≤ p.1.f0.size) → spk ms (l.flatMap fun p => [(⟨p.1.f0.extract 0 p.2, p.1.f1⟩ : R), ⟨p.1.f0.extract p.2 p.1.f0.size, p.1.f1⟩]) = spk ms (l.map (·.1))
  | [], _ => rfl
  | p :: l, h => by
    have ih := mo_spk ms l (fun q hq => h q (List.mem_cons_of_mem _ hq))
    have hp := h p (by simp)
    unfold spk at ih ⊢
    rw [List.flatMap_cons, List.flatMap_append, ih, List.map_cons, List.flatMap_cons]
    congr 1
    rw [List.flatMap_cons, List.flatMap_nil, List.append_nil]
    dsimp only
    rw [← List.map_append, mo_cut _ _ hp]
theorem mo_mem {rs : List R} {ts : List Nat} {n : Nat} {r : R} (h : r ∈ bobbinetkeep_MarksOrders.prt rs ts n) : ∃ q ∈ rs, r.f1 = q.f1 ∧ r.f0.size ≤ q.f0.size := by
  unfold bobbinetkeep_MarksOrders.prt at h
  obtain ⟨p, hp, hr⟩ := List.mem_flatMap.1 h
  have h1 := (List.of_mem_zip (List.mem_of_mem_take hp)).1
  refine ⟨p.1, h1, ?_⟩
  rcases List.mem_cons.1 hr with rfl | hr
  · refine ⟨rfl, ?_⟩
    show (p.1.f0.extract 0 p.2).size ≤ _
    rw [ByteArray.size_extract]; omega
  · rw [List.mem_singleton.1 hr]
    refine ⟨rfl, ?_⟩
    show (p.1.f0.extract p.2 p.1.f0.size).size ≤ _
    rw [ByteArray.size_extract]; omega
theorem MarksOrders (l0 : List Int) (a1 a2 a3 : Int) : ∃ k, true = true ∧ ∃ rs a b n x y z ts, bobbinetkeep_MarksOrders.Good k l0 a1 a2 a3 rs a b n x y z ts := by
  obtain ⟨a, ha, h1⟩ := order_ev a1
  obtain ⟨b, hb, h2⟩ := order_ev a2
  have hoa := ord ha
  have hob := ord hb
  obtain ⟨rs, ⟨K1, e1⟩, h3, h4⟩ := runs_ev l0
  have hsz : ∀ r ∈ rs, r.f0.size ≤ 2 := fun r hr => (h4 r hr).2.2
  have hfine : ∀ r ∈ rs, (∀ m ∈ r.f1, m ∈ three) ∧ r.f1.length < 1000 ∧ r.f0.size ≤ 1000000 := fun r hr => ⟨(h4 r hr).1, by have := (h4 r hr).2.1; omega, by have := (h4 r hr).2.2; omega⟩
  obtain ⟨nodes, ⟨K2, e2⟩, f2, f3, f4, f5⟩ := nest_all hoa (rs := rs) (by omega) hfine
  obtain ⟨K3, e3⟩ := copied_ev rs (by omega) (fun r hr => by have := (hfine r hr).2.1; omega)
  obtain ⟨K4, e4⟩ := flat_ev ha hb (by omega) hsz f2 f3 f4 f5
  rw [nrm_nrm (b := b) (fun r hr m hm => hoa.all m ((hfine r hr).1 m hm))] at e4
  obtain ⟨K5, e5⟩ := norm_all hob (rs := rs) (by omega) hfine
  obtain ⟨ts, hts, hcut⟩ : ∃ ts : List Nat, ts.length = rs.length ∧ ∀ (i : Nat) (h : i < rs.length), bobbinetkeep_Picked.f (wrap64 (a3 + (i : Int))) (wrap64 ((rs[i].f0.size : Int) + 1)) = some (ts.getD i 0 : Int) ∧ ts.getD i 0 ≤ rs[i].f0.size := by
    refine ⟨(List.range rs.length).map fun (i : Nat) => (wrap64 (a3 + (i : Int)) % (((rs.getD i ⟨ByteArray.empty, []⟩).f0.size : Int) + 1)).toNat, by simp, fun i hi => ?_⟩
    have hr : rs.getD i ⟨ByteArray.empty, []⟩ = rs[i] := by simp [List.getD, hi]
    have hg : ((List.range rs.length).map fun (i : Nat) => (wrap64 (a3 + (i : Int)) % (((rs.getD i ⟨ByteArray.empty, []⟩).f0.size : Int) + 1)).toNat).getD i 0 = (wrap64 (a3 + (i : Int)) % ((rs[i].f0.size : Int) + 1)).toNat := by
      rw [List.getD_eq_getElem?_getD, List.getElem?_map, List.getElem?_range hi]
      dsimp only [Option.map_some, Option.getD_some]
      rw [hr]
    have hs := hsz rs[i] (List.getElem_mem hi)
    have hw : wrap64 ((rs[i].f0.size : Int) + 1) = (rs[i].f0.size : Int) + 1 := wrap_id (by omega) (by omega)
    have hm0 := Int.emod_nonneg (wrap64 (a3 + (i : Int))) (show ((rs[i].f0.size : Int) + 1) ≠ 0 by omega)
    have hm1 := Int.emod_lt_of_pos (wrap64 (a3 + (i : Int))) (show 0 < ((rs[i].f0.size : Int) + 1) by omega)
    rw [hg, hw, pick_ev _ _ (by omega) (by omega), Int.toNat_of_nonneg hm0]
    exact ⟨rfl, by omega⟩
  have hpl := bobbinetkeep_MarksOrders.prt_len rs ts rs.length
  have hpn : nrm b (bobbinetkeep_MarksOrders.prt rs ts rs.length) = nrm b rs := by
    refine nrm_cut b ?_
    have hz : (rs.zip ts).length = rs.length := by rw [List.length_zip]; omega
    unfold bobbinetkeep_MarksOrders.prt
    rw [List.take_of_length_le (by omega), mo_spk, List.map_fst_zip (by omega)]
    intro p hp
    obtain ⟨i, hi, rfl⟩ := List.getElem_of_mem hp
    rw [List.getElem_zip]
    have := (hcut i (by omega)).2
    rw [List.getD_eq_getElem?_getD, List.getElem?_eq_getElem (by omega)] at this
    exact this
  obtain ⟨K6, e6⟩ := norm_all hob (rs := bobbinetkeep_MarksOrders.prt rs ts rs.length) (by omega) (fun r hr => by
    obtain ⟨q, hq, g1, g2⟩ := mo_mem hr
    have := hfine q hq
    rw [g1]
    exact ⟨this.1, this.2.1, by omega⟩)
  rw [hpn] at e6
  have hn := nrm_fine hb (rs := rs) (by omega) hsz
  have hnl := nrm_len b rs
  obtain ⟨K7, e7⟩ := same_ev (nrm b rs) (by omega) (fun r hr => by have := (hn r hr).2.1; omega)
  obtain ⟨K8, e8⟩ := mono_up bobbinetkeep_marksSure.mono sure_ev
  exact ⟨K1 + K2 + K3 + K4 + K5 + K6 + K7 + K8, rfl, rs, a, b, nodes, nrm b rs, nrm b rs, nrm b rs, ts, {
    runs := e1 _ (by omega)
    oa := h1
    ob := h2
    cp := e3 _ (by omega)
    nest := e2 _ (by omega)
    flat := e4 _ (by omega)
    nrm := e5 _ (by omega)
    tl := hts
    few := by omega
    cut := fun i h => ⟨(hcut i h).1, (hcut i h).2, by have := (hfine _ (List.getElem_mem h)).2.1; omega, (hfine _ (List.getElem_mem h)).2.2⟩
    last := e6 _ (by omega)
    sure := e8 _ (by omega)
    same1 := e7 _ (by omega)
    same2 := e7 _ (by omega) }⟩
end Go.Proofs.YtjmhihadgpdiaaaDoor.Pure
end
