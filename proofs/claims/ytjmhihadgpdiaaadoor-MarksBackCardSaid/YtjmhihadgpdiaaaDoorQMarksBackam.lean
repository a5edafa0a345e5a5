/- Parts of the proof of MarksBack that are needed, put together by pack.py. -/
import Derived.Test.YtjmhihadgpdiaaaDoorQMarksBackaf
import Derived.Test.YtjmhihadgpdiaaaDoorQMarksBackag
import Derived.Test.YtjmhihadgpdiaaaDoorQMarksBackal
import Derived.Test.YtjmhihadgpdiaaaDoorQMarksBackak
import Derived.Test.YtjmhihadgpdiaaaDoorQMarksBackaa
section
namespace Go.Proofs.YtjmhihadgpdiaaaDoor.X
open Go.RowKit Go.Proofs.YtjmhihadgpdiaaaDoorW.PrintWords Go.Proofs.YtjmhihadgpdiaaaDoorW.PrintLast Go.Proofs.YtjmhihadgpdiaaaDoorW.PrintMore
attribute [local go_sem] max2_int min2_int max_two min_two max_three min_three max_four min_four   -- for this text's walks alone
set_option linter.unusedVariables false
set_option linter.unusedSimpArgs false
/-- the runs of nodes, behind those that are there -/
def marks_flat.fl (ms : List ByteArray) : Nat → List S49 → List S40 → List ByteArray → Option (List S40)
  | 0, _, _, _ => none
  | _ + 1, [], out, _ => some out
  | k + 1, n :: l, out, ws =>
    if n.f0.toList = ([] : List UInt8) then (if n.f1.length = 0 ∧ n.f3.length = 0 ∧ out.length < 3518437208883 then marks_flat.fl ms k l (out ++ [⟨n.f2, ws⟩]) ws else none)
    else if n.f1.length = 0 ∧ n.f2.toList = ([] : List UInt8) ∧ slices_Contains_string_string.f k ms n.f0 = some true ∧ ws.length < 8796093022207 then
      (marks_flat.fl ms k n.f3 [] (ws ++ [n.f0])).bind fun ps => if out.length + ps.length < 3518437208883 then marks_flat.fl ms k l (out ++ ps) ws else none
    else none
def marks_flat.f (k : Nat) (l0 : List ByteArray) (l1 : List S49) (l2 : List ByteArray) : Option (List S40 × Int) := if l2.length = 0 then (marks_flat.fl l0 k l1 [] []).map (fun r => (r, 0)) else none
theorem marks_flat.drop (l : List S49) (i : Nat) (h : i < l.length) : l.drop i = rd_T49 l (i : Int) :: l.drop (i + 1) := by
  rw [List.drop_eq_getElem_cons h]
  simp [rd_T49, List.getD, h]
theorem marks_flat.packL {P : Program} {ops : Array Oper} {Q : Exit → Act → World → Prop} {rest : List Oper} {a : Act} {W : World} (F : World → Prop) (h1 : F W) (h : ∀ W', F W' → wpList P ops Q rest a W') : wpList P ops Q rest a W := h W h1
theorem marks_flat.pack {P : Program} {c : Code} {Q : Exit → Act → World → Prop} {a : Act} {W : World} (F : World → Prop) (h1 : F W) (h : ∀ W', F W' → Code.wp P c Q a W') : Code.wp P c Q a W := h W h1
theorem marks_flat.litF (W : World) (x : ByteArray) : Kd.F Kd.string (W.alloc (.cells #[.string x] 9 (0, 0))) (fun k => k = W.heap.size) (some ⟨W.heap.size, 0, none⟩) 1 [x] := fun W' hW => by
  have hb : W'.heap[W.heap.size]? = some (.cells #[.string x] 9 (0, 0)) := (hW _ rfl (by simp)).trans (blk_new W _)
  refine ⟨rfl, by simp, fun _ => ⟨⟨W.heap.size, 0, none⟩, rfl, fun j p hj => ?_⟩⟩
  obtain ⟨rfl, rfl⟩ : j = 0 ∧ x = p := by
    cases j with
    | zero => exact ⟨rfl, by simpa using hj⟩
    | succ j => simp at hj
  refine ⟨[.string x], rfl, rfl, fun i u hi => ?_⟩
  have h2 := blk_cell hb i
  have e : (⟨W.heap.size, 0, none⟩ : Addr).add (0 * Kd.string.sz + i) = ⟨W.heap.size, i, none⟩ := by simp [Addr.add]; omega
  rw [e, h2]
  simpa using hi
set_option maxHeartbeats 8000000 in
set_option maxRecDepth 100000 in
theorem marks_flat.go (k : Nat) : ∀ (P : Nat → Prop) (A0 : Option Addr) (c0 : Nat) (l0 : List ByteArray) (A1 : Option Addr) (c1 : Nat) (l1 : List S49) (A2 : Option Addr) (c2 : Nat) (l2 : List ByteArray) (r : List S40) (w : World)
    (_ : Kd.C Kd.string w A0 l0.length l0) (_ : l0.length ≤ c0) (_ : Kd.C k49 w A1 l1.length l1) (_ : l1.length ≤ c1) (_ : Kd.F Kd.string w P A2 l2.length l2) (_ : l2.length ≤ c2) (_ : marks_flat.fl l0 k l1 [] l2 = some r),
    Calls Tryd.prog 22 #[.slice A0 l0.length c0, .slice A1 l1.length c1, .slice A2 l2.length c2] w fun e w' => ∃ v0_ : Value, e = .returned (.tuple #[v0_, .int .i64 0]) ∧ Kd.V k40 40 w' w.heap.size (fun k_ => P k_ ∨ w.heap.size ≤ k_) v0_ r ∧ Below w.heap.size w w' := by
  induction k using Nat.strongRecOn with
  | _ k ih =>
  intro P A0 c0 l0 A1 c1 l1 A2 c2 l2 r w hr0 hc0 hr1 hc1 hF hc2 h
  have IH := Aside0.mk ih
  have HR0 := Aside0.mk hr0
  have HC0 := Aside0.mk hc0
  have HR1 := Aside0.mk hr1
  have HC1 := Aside0.mk hc1
  have HF := Aside0.mk (Kd.F_bound hF)
  have HC2 := Aside0.mk hc2
  have H := Aside0.mk h
  have HB := Aside0.mk (Below.refl w.heap.size w)
  clear ih hr0 hc0 hr1 hc1 hF hc2 h
  go_enter Tryd.func22, Tryd.ntmps22
  go_wp2
  go_loopw [8, 15] (fun v8 v15 wr => ∃ (i : Nat) (out : List S40) (kq : Nat), v15 = .int .i64 (i : Int) ∧ Aside0 (i ≤ l1.length) ∧ Aside0 (kq ≤ k) ∧ Aside0 (marks_flat.fl l0 kq (l1.drop i) out l2 = some r) ∧ Aside0 (Kd.N k40 40 wr w.heap.size (fun k_ => P k_ ∨ w.heap.size ≤ k_) v8 out) ∧ Aside0 (Below w.heap.size w wr)) (fun _ v15 _ => l1.length - (intOf v15).toNat)
  case atStart => exact ⟨0, [], k, rfl, ⟨Nat.zero_le _⟩, ⟨Nat.le_refl _⟩, H, ⟨Kd.N_nil _ _ _ _ _⟩, HB⟩
  case round =>
    clear HB H
    obtain ⟨i, out, kq, rfl, HI, HK, HA, HO, HB⟩ := hrel
    obtain ⟨Ao, co, rfl⟩ := Kd.N_slice HO.out
    by_cases hi : i < l1.length
    · cases kq with
      | zero => exact absurd HA.out (by simp [marks_flat.fl])
      | succ kq =>
      have hA := HA.out
      rw [marks_flat.drop l1 i hi, marks_flat.fl] at hA
      clear HA
      have hlt : decide ((i : Int) < (l1.length : Int)) = true := decide_eq_true (by omega)
      have hi0 : (0 : Int) ≤ (i : Int) := by omega
      have hi1 : (i : Int) < (l1.length : Int) := by omega
      obtain ⟨ad, A4, c4, A5, c5, eA, hx0, hx1, hx2, hx3, hl4, hC4, hl5, hC5⟩ := at_T49 (Kd.C_below HR1.out HB.out) (i : Int) hi0 hi1
      subst eA
      rw [Int.toNat_natCast] at hx0 hx1 hx2 hx3
      obtain ⟨nd, hnd⟩ : ∃ n, rd_T49 l1 (i : Int) = n := ⟨_, rfl⟩
      rw [hnd] at hA hx0 hx1 hx2 hx3 hl4 hC4 hl5 hC5
      have hw : wrap64 ((i : Int) + 1) = ((i + 1 : Nat) : Int) := by have := HR1.out.2.1; unfold wrap64; omega
      have HII := Aside0.mk hi
      have HL5 := Aside0.mk hl5
      have HC5 := Aside0.mk hC5
      clear hi hnd hl4 hC4 hl5 hC5
      by_cases hn : nd.f0.toList = ([] : List UInt8)
      · rw [if_pos hn] at hA
        by_cases h3 : nd.f1.length = 0 ∧ nd.f3.length = 0 ∧ out.length < 3518437208883
        · rw [if_pos h3] at hA
          obtain ⟨h31, h33, h3l⟩ := h3
          have HA := Aside0.mk hA
          have HL := Aside0.mk h3l
          have hn0 : (nd.f0.toList == ([] : List UInt8)) = true := beq_iff_eq.mpr hn
          have d1 : decide ((0 : Int) < (nd.f1.length : Int)) = false := decide_eq_false (by omega)
          have d1n : decide (0 < nd.f1.length) = false := decide_eq_false (by omega)
          have d3 : decide ((0 : Int) < (nd.f3.length : Int)) = false := decide_eq_false (by omega)
          have d3n : decide (0 < nd.f3.length) = false := decide_eq_false (by omega)
          clear hA h31 h33 h3l hn
          go_wp2_with (first
            | ((with_reducible refine gate_dst (N := 19) rfl ?_); refine marks_flat.packL (fun W => W.heap[wr.heap.size]? = some (.cells #[.string nd.f0, .slice A4 nd.f1.length c4, .string nd.f2, .slice A5 nd.f3.length c5] 49 (0, 0)) ∧ Below wr.heap.size wr W) ⟨blk_new _ _, below_alloc (Below.refl _ _) _⟩ ?_; rintro w4 ⟨bk, hb4⟩; have hx0 := (blk_cell bk 0).trans rfl; have hx1 := (blk_cell bk 1).trans rfl; have hx2 := (blk_cell bk 2).trans rfl; have hx3 := (blk_cell bk 3).trans rfl; replace HO := Aside0.mk (Kd.N_below HO.out hb4); replace HB := Aside0.mk (HB.out.trans (hb4.mono HB.out.size)); clear hb4 bk)
            | (at_builtin; refine Kd.N_append k40 (w0 := w) w.heap.size rfl (.tmp 32) (.tmp 37) 29 40 (.agg #[.string ⟨#[]⟩, .slice none 0 0]) 40 rfl Tryd.underlying29 info40 rfl (by decide) (by omega) (.slice Ao out.length co) out (⟨nd.f2, l2⟩ : S40) [.string nd.f2, .slice A2 l2.length c2] (fun k_ => P k_ ∨ w.heap.size ≤ k_) (fun k_ => P k_ ∧ k_ < w.heap.size) rfl rfl ?aP ?aK ?aF ?aO ?aB ?aS ?aL ?_; (case aP => exact k40_mkF _ _ _ HC2.out (Kd.F_below HF.out HB.out)); (case aK => exact fun k_ hk => ⟨.inl hk.1, fun e_ => by have := Kd.N_base HO.out k_ e_.symm; omega⟩); (case aF => exact fun k_ hk => .inr (Nat.le_trans HB.out.size hk)); (case aO => exact HO.out); (case aB => exact HB.out); (case aS => exact HB.out.size); (case aL => have := HL.out; omega); intro v9 w9 ho hb hg hat; have HO2 := Aside0.mk ho; have HB2 := Aside0.mk hb; clear ho hb hg hat))
          exact ⟨⟨i + 1, out ++ [⟨nd.f2, l2⟩], kq, congrArg (Value.int .i64) hw, ⟨by have := HII.out; omega⟩, ⟨by have := HK.out; omega⟩, HA, HO2, HB2⟩, by rw [hw]; have := HII.out; simp [intOf]; omega⟩
        · rw [if_neg h3] at hA
          cases hA
      · rw [if_neg hn] at hA
        by_cases h3 : nd.f1.length = 0 ∧ nd.f2.toList = ([] : List UInt8) ∧ slices_Contains_string_string.f kq l0 nd.f0 = some true ∧ l2.length < 8796093022207
        · rw [if_pos h3] at hA
          obtain ⟨ps, hp, hA⟩ := Option.bind_eq_some_iff.1 hA
          by_cases h4 : out.length + ps.length < 3518437208883
          · rw [if_pos h4] at hA
            obtain ⟨h31, h32, h33, h34⟩ := h3
            have HA := Aside0.mk hA
            obtain ⟨l3, hl3⟩ : ∃ l3, l2 ++ [nd.f0] = l3 := ⟨_, rfl⟩
            rw [hl3] at hp
            have HL3 := Aside0.mk hl3
            have HP := Aside0.mk hp
            have HL := Aside0.mk h4
            have HCT := Aside0.mk h33
            have HW := Aside0.mk h34
            have hn0 : (nd.f0.toList == ([] : List UInt8)) = false := beq_eq_false_iff_ne.mpr hn
            have d1 : decide ((0 : Int) < (nd.f1.length : Int)) = false := decide_eq_false (by omega)
            have d1n : decide (0 < nd.f1.length) = false := decide_eq_false (by omega)
            have d2e : nd.f2.toList.isEmpty = true := by rw [h32]; rfl
            have d2 : (nd.f2.toList != ([] : List UInt8)) = false := bne_eq_false_iff_eq.mpr h32
            clear hl3 hA hp h4 h31 h32 h33 h34 hn
            go_wp2_with (first
              | ((with_reducible refine gate_dst (N := 19) rfl ?_); refine marks_flat.packL (fun W => W.heap[wr.heap.size]? = some (.cells #[.string nd.f0, .slice A4 nd.f1.length c4, .string nd.f2, .slice A5 nd.f3.length c5] 49 (0, 0)) ∧ Below wr.heap.size wr W) ⟨blk_new _ _, below_alloc (Below.refl _ _) _⟩ ?_; rintro w4 ⟨bk, hb4⟩; have hx0 := (blk_cell bk 0).trans rfl; have hx1 := (blk_cell bk 1).trans rfl; have hx2 := (blk_cell bk 2).trans rfl; have hx3 := (blk_cell bk 3).trans rfl; have BK := Aside0.mk bk; replace HO := Aside0.mk (Kd.N_below HO.out hb4); replace HC5 := Aside0.mk (Kd.C_below HC5.out hb4); replace HB := Aside0.mk (HB.out.trans (hb4.mono HB.out.size)); clear hb4 bk)
              | (go_at_call 27; (with_reducible refine (slices_Contains_string_string.calls kq _ _ l0 nd.f0 true _ ?side1 HC0.out HCT.out).mono ?_); (case side1 => exact Kd.C_below HR0.out HB.out); rintro e w' ⟨rfl, ⟨⟨dn, rfl⟩⟩⟩))
            refine marks_flat.pack (fun W => W.heap[wr.heap.size]? = some (.cells #[.string nd.f0, .slice A4 nd.f1.length c4, .string nd.f2, .slice A5 nd.f3.length c5] 49 (0, 0)) ∧ Below w4.heap.size w4 W) ⟨by with_reducible (repeat (first | exact BK.out | refine blk_alloc ?_ _ | refine blk_drew ?_ | refine blk_drewN ?_ _)), by repeat (first | exact Below.refl _ _ | apply below_alloc | apply pw_below_drewN | apply below_drew1)⟩ ?_
            rintro w5 ⟨bk, hb5⟩
            have hy0 := (blk_cell bk 0).trans rfl
            have hy3 := (blk_cell bk 3).trans rfl
            replace HO := Aside0.mk (Kd.N_below HO.out hb5)
            replace HC5 := Aside0.mk (Kd.C_below HC5.out hb5)
            replace HB := Aside0.mk (HB.out.trans (hb5.mono HB.out.size))
            clear hb5 bk hx0 hx1 hx2 hx3 BK d1 d1n d2 d2e hn0
            generalize wr.heap.size = g10 at hy0 hy3 ⊢
            go_region_held3 (fun w' => w'.cell? ⟨g10, 0, none⟩ = some (.string nd.f0) ∧ w'.cell? ⟨g10, 3, none⟩ = some (.slice A5 nd.f3.length c5))
              (first | go_keep | exact ⟨(Below.cell (w := w5) (B := w5.heap.size) (by with_reducible repeat (first | exact HB3.out | exact HB2.out | exact HB1.out | exact Below.refl _ _ | apply below_alloc | apply pw_below_drewN | apply below_drew1)) (World.block_lt_of_cell? _ _ hy0)).trans hy0, (Below.cell (w := w5) (B := w5.heap.size) (by with_reducible repeat (first | exact HB3.out | exact HB2.out | exact HB1.out | exact Below.refl _ _ | apply below_alloc | apply pw_below_drewN | apply below_drew1)) (World.block_lt_of_cell? _ _ hy3)).trans hy3⟩)
              (first
                | (go_at_call 32; (with_reducible refine (slices_Clone_string_string.calls _ _ l2 l2 _ ?side1 HC2.out ?side3).mono ?_); (case side1 => exact Kd.F_now (Kd.F_below HF.out (by with_reducible repeat (first | exact HB.out | apply below_alloc | apply pw_below_drewN | apply below_drew1)))); (case side3 => exact if_pos (by have := HW.out; omega)); rintro e w1 ⟨v1, rfl, ho1, hb1⟩; have HB1 : Aside0 (Below w5.heap.size w5 w1) := ⟨Below.trans (by with_reducible repeat (first | exact Below.refl _ _ | apply below_alloc | apply pw_below_drewN | apply below_drew1)) (hb1.mono (below_size (by with_reducible repeat (first | exact Below.refl _ _ | apply below_alloc | apply pw_below_drewN | apply below_drew1))))⟩; have HO1 := Aside0.mk ho1; have HB11 := Aside0.mk hb1; clear ho1 hb1)
                | (refine Kd.N_append_rows_step Kd.string (w0 := w5) w5.heap.size (by kernel_rfl) (.tmp 58) (.tmp 61) 23 9 (.string ⟨#[]⟩) 16 rfl Tryd.underlying23 info9 rfl (by decide) (by omega) v1 l2 [nd.f0] (some ⟨_, 0, none⟩) 1 1 (fun k_ => w5.heap.size ≤ k_) ?okp rfl rfl ?aO ?aR ?aK ?aF ?aB ?aS ?aL ?_; (case okp => exact (fun k_ => w5.heap.size ≤ k_ ∧ some k_ ≠ v1.ownBlock)); (case aK => exact fun _ hk => hk); (case aF => exact fun k_ hk => Nat.le_trans (below_size (by with_reducible repeat (first | exact HB1.out | apply below_alloc | apply pw_below_drewN | apply below_drew1))) hk); (case aO => exact Kd.N_below (Kd.R_N (Kd.R_mono (Kd.R_bound (Kd.R_lower HO1.out (below_size (by with_reducible repeat (first | exact Below.refl _ _ | apply below_alloc | apply pw_below_drewN | apply below_drew1))))) (fun k_ hk => hk.2.1))) (by with_reducible repeat (first | exact Below.refl _ _ | apply below_alloc | apply pw_below_drewN | apply below_drew1))); (case aR => first | exact Kd.F_mono (by with_reducible (repeat (first | exact marks_flat.litF _ _ | apply Kd.F_drewN | apply Kd.F_drew))) (fun k_ hk => ⟨by subst hk; exact HB1.out.size, fun e_ => by subst hk; exact absurd (Kd.R_lt HO1.out _ e_.symm) (Nat.lt_irrefl _)⟩) | exact Kd.F_mono (Kd.F_below (by with_reducible (repeat (first | exact marks_flat.litF _ _ | apply Kd.F_drewN | apply Kd.F_drew))) HB11.out) (fun k_ hk => ⟨by subst hk; exact below_size (by with_reducible repeat (first | exact Below.refl _ _ | apply below_alloc | apply pw_below_drewN | apply below_drew1)), fun e_ => by subst hk; exact absurd (Kd.R_base HO1.out _ e_.symm) (by simp)⟩)); (case aB => with_reducible repeat (first | exact HB1.out | apply below_alloc | apply pw_below_drewN | apply below_drew1)); (case aS => exact below_size (by with_reducible repeat (first | exact HB1.out | apply below_alloc | apply pw_below_drewN | apply below_drew1))); (case aL => have := HW.out; omega); intro v2 w2 ho2 hb2 hg2 hat2; rw [HL3.out] at ho2; have HB2 := Aside0.mk hb2; obtain ⟨A6, c6, rfl⟩ := Kd.N_slice ho2; have HO2 := Aside0.mk ho2; clear ho2 hb2 hg2 hat2)
                | (go_at_call 22; (with_reducible refine (IH.out kq ?lt (fun k_ => w5.heap.size ≤ k_) _ _ l0 _ _ nd.f3 _ _ l3 ps _ ?side1 HC0.out ?side3 HL5.out ?side5 ?side6 HP.out).mono ?_); (case lt => have := HK.out; omega); (case side1 => exact Kd.C_below HR0.out (HB.out.trans (HB2.out.mono HB.out.size))); (case side3 => exact Kd.C_below HC5.out HB2.out); (case side5 => exact Kd.N_F HO2.out); (case side6 => exact (Kd.N_reads' HO2.out).2.1); rintro e w3 ⟨v3, rfl, ho3, hb3⟩; have HB3 : Aside0 (Below w5.heap.size w5 w3) := ⟨HB2.out.trans (hb3.mono HB2.out.size)⟩; obtain ⟨A7, c7, rfl⟩ := Kd.V_slice ho3; have HO3 := Aside0.mk (Kd.V_mono ho3 (ok' := fun k_ => w5.heap.size ≤ k_) (fun k_ hk => hk.elim id (fun hk => Nat.le_trans HB2.out.size hk))); clear ho3 hb3))
            all_goals (
              go_wp2_with (first
                | (at_builtin; refine Kd.N_append_rows k40 (w0 := w) w.heap.size rfl (.tmp 69) (.tmp 70) 29 40 (.agg #[.string ⟨#[]⟩, .slice none 0 0]) 40 rfl Tryd.underlying29 info40 rfl (by decide) (by omega) (.slice Ao out.length co) out ps A7 ps.length c7 (fun k_ => P k_ ∨ w.heap.size ≤ k_) (fun k_ => w5.heap.size ≤ k_) rfl rfl ?aO ?aR ?aK ?aF ?aB ?aS ?aL ?_; (case aR => exact (Kd.V_at HO3.out).2.2); (case aK => exact fun k_ hk => ⟨.inr (Nat.le_trans HB.out.size hk), fun e_ => by have := Kd.N_lt HO.out k_ e_.symm; omega⟩); (case aF => exact fun k_ hk => .inr (Nat.le_trans (HB.out.trans (HB3.out.mono HB.out.size)).size hk)); (case aO => exact Kd.N_below HO.out HB3.out); (case aB => exact HB.out.trans (HB3.out.mono HB.out.size)); (case aS => exact (HB.out.trans (HB3.out.mono HB.out.size)).size); (case aL => have := HL.out; omega); intro v9 w9 ho hb hg hat; have HO9 := Aside0.mk ho; have HB9 := Aside0.mk hb; clear ho hb hg hat))
              exact ⟨⟨i + 1, out ++ ps, kq, congrArg (Value.int .i64) hw, ⟨by have := HII.out; omega⟩, ⟨by have := HK.out; omega⟩, HA, HO9, HB9⟩, by rw [hw]; have := HII.out; simp [intOf]; omega⟩)
          · rw [if_neg h4] at hA
            cases hA
        · rw [if_neg h3] at hA
          cases hA
    · have hlt : decide ((i : Int) < (l1.length : Int)) = false := decide_eq_false (by omega)
      have hA := HA.out
      rw [List.drop_eq_nil_of_le (by omega)] at hA
      cases kq with
      | zero => exact absurd hA (by simp [marks_flat.fl])
      | succ kq =>
      rw [marks_flat.fl] at hA
      cases hA
      go_wp2
      go_ret2
      exact ⟨_, rfl, Kd.N_V HO.out, HB.out⟩
theorem marks_flat.calls (k : Nat) (A0 : Option Addr) (c0 : Nat) (l0 : List ByteArray) (A1 : Option Addr) (c1 : Nat) (l1 : List S49) (A2 : Option Addr) (c2 : Nat) (l2 : List ByteArray) (r1 : List S40) (r2 : Int) (w : World) (hr0 : Kd.C Kd.string w A0 l0.length l0) (hc0 : l0.length ≤ c0) (hr1 : Kd.C k49 w A1 l1.length l1) (hc1 : l1.length ≤ c1) (hr2 : Kd.C Kd.string w A2 l2.length l2) (hc2 : l2.length ≤ c2) (h : marks_flat.f k l0 l1 l2 = some (r1, r2)) :
    Calls Tryd.prog 22 #[.slice A0 l0.length c0, .slice A1 l1.length c1, .slice A2 l2.length c2] w fun e w' => ∃ v0_ : Value, e = .returned (.tuple #[v0_, .int .i64 r2]) ∧ Kd.V k40 40 w' w.heap.size (fun k_ => w.heap.size ≤ k_) v0_ r1 ∧ Below w.heap.size w w' := by
  unfold marks_flat.f at h
  by_cases h0 : l2.length = 0
  · rw [if_pos h0] at h
    obtain ⟨x, e1, e2⟩ := Option.map_eq_some_iff.1 h
    simp only [Prod.mk.injEq] at e2
    obtain ⟨rfl, rfl⟩ := e2
    obtain rfl : l2 = [] := List.length_eq_zero_iff.1 h0
    refine (marks_flat.go k (fun _ => False) A0 c0 l0 A1 c1 l1 A2 c2 [] x w hr0 hc0 hr1 hc1 (fun W' _ => ⟨rfl, by simp, fun hz => absurd hz (by simp)⟩) hc2 e1).mono ?_
    rintro e w' ⟨v, rfl, hv, hb⟩
    exact ⟨v, rfl, Kd.V_mono hv (fun k_ hk => hk.elim False.elim id), hb⟩
  · rw [if_neg h0] at h
    cases h
end Go.Proofs.YtjmhihadgpdiaaaDoor.X
end
section
namespace Go.Proofs.YtjmhihadgpdiaaaDoor.X
open Go.RowKit Go.Proofs.YtjmhihadgpdiaaaDoorW.PrintWords Go.Proofs.YtjmhihadgpdiaaaDoorW.PrintLast Go.Proofs.YtjmhihadgpdiaaaDoorW.PrintMore
attribute [local go_sem] max2_int min2_int max_two min_two max_three min_three max_four min_four   -- for this text's walks alone
set_option linter.unusedVariables false
set_option linter.unusedSimpArgs false
def marks_Flat.f (k : Nat) (l0 : List ByteArray) (l1 : List (S49)) : Option ((List (S40)) × Int) := (marks_Check.f k l0).bind fun t255 => (if t255 = 0 then ((marks_flat.f k l0 l1 ([] : List ByteArray)).bind fun bt256 => (if bt256.2 = 0 then ((marks_Norm.f k l0 bt256.1).bind fun bt260 => (some (bt260.1, bt260.2))) else (some (([] : List (S40)), bt256.2)))) else (some (([] : List (S40)), t255)))
set_option maxHeartbeats 8000000 in
set_option maxRecDepth 100000 in
theorem marks_Flat.calls (k : Nat) (A0 : Option Addr) (c0 : Nat) (l0 : List ByteArray) (A1 : Option Addr) (c1 : Nat) (l1 : List (S49)) (r1 : List (S40)) (r2 : Int) (w : World) (hr0 : Kd.C Kd.string w A0 l0.length l0) (hc0 : l0.length ≤ c0) (hr1 : Kd.C k49 w A1 l1.length l1) (hc1 : l1.length ≤ c1) (hG_ : Glob w) (h : marks_Flat.f k l0 l1 = some (r1, r2)) :
    Calls Tryd.prog 14 #[.slice A0 l0.length c0, .slice A1 l1.length c1] w fun e w' => ∃ v0_ : Value, e = .returned (.tuple #[v0_, .int .i64 r2]) ∧ Kd.S k40 40 w' w.heap.size (fun _ => True) v0_ r1 ∧ Below w.heap.size w w' := by
  have HG_ := Aside0.mk hG_
  clear hG_
  have HR0 := Aside0.mk hr0
  have HC0 := Aside0.mk hc0
  clear hr0 hc0
  have HR1 := Aside0.mk hr1
  have HC1 := Aside0.mk hc1
  clear hr1 hc1
  have HB := Aside0.mk (Below.refl w.heap.size w)
  have H : ((marks_Check.f k l0).bind fun t255 => (if t255 = 0 then ((marks_flat.f k l0 l1 ([] : List ByteArray)).bind fun bt256 => (if bt256.2 = 0 then ((marks_Norm.f k l0 bt256.1).bind fun bt260 => (some (bt260.1, bt260.2))) else (some (([] : List (S40)), bt256.2)))) else (some (([] : List (S40)), t255)))) = some (r1, r2) := h
  clear h
  replace H := Option.bind_eq_some_iff.mp H
  obtain ⟨t255, A30, H⟩ := H
  replace H : (if t255 = 0 then ((marks_flat.f k l0 l1 ([] : List ByteArray)).bind fun bt256 => (if bt256.2 = 0 then ((marks_Norm.f k l0 bt256.1).bind fun bt260 => (some (bt260.1, bt260.2))) else (some (([] : List (S40)), bt256.2)))) else (some (([] : List (S40)), t255))) = some (r1, r2) := H
  have A3 := Aside0.mk A30
  clear A30
  by_cases c4 : t255 = 0
  · rw [if_pos c4] at H
    have c4b0 : (t255 == 0) = true := beq_iff_eq.mpr c4
    have c4b1 : (t255 != 0) = false := bne_eq_false_iff_eq.mpr c4
    clear c4
    replace H := Option.bind_eq_some_iff.mp H
    obtain ⟨⟨t256, t259⟩, A50, H⟩ := H
    replace H : (if t259 = 0 then ((marks_Norm.f k l0 t256).bind fun bt260 => (some (bt260.1, bt260.2))) else (some (([] : List (S40)), t259))) = some (r1, r2) := H
    have A5 := Aside0.mk A50
    clear A50
    by_cases c6 : t259 = 0
    · rw [if_pos c6] at H
      have c6b0 : (t259 == 0) = true := beq_iff_eq.mpr c6
      have c6b1 : (t259 != 0) = false := bne_eq_false_iff_eq.mpr c6
      clear c6
      replace H := Option.bind_eq_some_iff.mp H
      obtain ⟨⟨t260, t261⟩, A70, H⟩ := H
      replace H : (some (t260, t261)) = some (r1, r2) := H
      have A7 := Aside0.mk A70
      clear A70
      simp only [Option.some.injEq, Prod.mk.injEq] at H
      obtain ⟨rfl, rfl⟩ := H
      go_enter Tryd.func14, Tryd.ntmps14
      go_wp2_with (first | ((with_reducible refine gate_callee (f := 21) rfl ?_); refine goesL_ (some 10) rfl rfl Tryd.func21 (by kernel_rfl) rfl #[.slice A0 l0.length c0] rfl (by (try simp only [List.map_toArray, List.map_cons, List.map_nil]); first | done | rfl | (simp only [List.length_drop, List.length_take]; rfl)) ?_; (with_reducible refine (marks_Check.calls k _ _ l0 t255 _ ?side1 ?side2 (Glob.below HG_.out (by repeat (first | (with_reducible first | exact HB.out | apply below_alloc | apply pw_below_drewN | apply below_drew1) | exact HB.out))) A3.out).mono ?_); (case side1 => repeat (first | exact HR0.out | (with_reducible refine Kd.C_alloc ?_ _) | (with_reducible refine Kd.C_drewN ?_ _) | (with_reducible refine Kd.C_drew ?_))); (case side2 => exact HC0.out); rintro e w8 ⟨rfl, hb⟩; refine ⟨_, rfl, ?_⟩; have n0_ := Aside0.mk (below_step (by repeat (first | (with_reducible first | exact HB.out | apply below_alloc | apply pw_below_drewN | apply below_drew1) | exact HB.out)) hb); clear HB; have HB := n0_; clear n0_; (try clear hb); (try clear hb2); (try clear hk); (try clear hi)) | ((with_reducible refine gate_callee (f := 22) rfl ?_); refine goesL_ (some 17) rfl rfl Tryd.func22 (by kernel_rfl) rfl #[.slice A0 l0.length c0, .slice A1 l1.length c1, .slice none 0 0] rfl (by (try simp only [List.map_toArray, List.map_cons, List.map_nil]); first | done | rfl | (simp only [List.length_drop, List.length_take]; rfl)) ?_; (refine (marks_flat.calls k _ _ l0 _ _ l1 _ _ ([] : List ByteArray) t256 t259 _ ?side1 ?side2 ?side3 ?side4 ?side5 ?side6 A5.out).mono ?_); (case side1 => repeat (first | exact (Kd.C_below HR0.out HB.out) | (with_reducible refine Kd.C_alloc ?_ _) | (with_reducible refine Kd.C_drewN ?_ _) | (with_reducible refine Kd.C_drew ?_))); (case side2 => exact HC0.out); (case side3 => repeat (first | exact (Kd.C_below HR1.out HB.out) | (with_reducible refine Kd.C_alloc ?_ _) | (with_reducible refine Kd.C_drewN ?_ _) | (with_reducible refine Kd.C_drew ?_))); (case side4 => exact HC1.out); (case side5 => exact Kd.C_nil _ _); (case side6 => exact Nat.le_refl _); rintro e w9 ⟨v257, rfl, ho0, hb⟩; refine ⟨_, rfl, ?_⟩; have n0_ := Aside0.mk (Kd.V_lower (Kd.V_mono (ok' := fun k_ => True) ho0 (fun k_ hk_ => trivial)) (below_size (by repeat (first | (with_reducible first | exact HB.out | apply below_alloc | apply pw_below_drewN | apply below_drew1) | exact HB.out)))); have n1_ := Aside0.mk (below_step (by repeat (first | (with_reducible first | exact HB.out | apply below_alloc | apply pw_below_drewN | apply below_drew1) | exact HB.out)) hb); clear HB; have HO258 := n0_; have HB := n1_; clear n0_ n1_; (try clear hb); (try clear hb2); (try clear hk); (try clear hi); (try clear ho0); obtain ⟨Ao10, co10, eo10⟩ := Kd.V_slice HO258.out; subst eo10) | ((with_reducible refine gate_callee (f := 12) rfl ?_); refine goesL_ (some 25) rfl rfl Tryd.func12 (by kernel_rfl) rfl #[.slice A0 l0.length c0, .slice Ao10 t256.length co10] rfl (by (try simp only [List.map_toArray, List.map_cons, List.map_nil]); first | done | rfl | (simp only [List.length_drop, List.length_take]; rfl)) ?_; (with_reducible refine (marks_Norm.calls k _ _ l0 _ _ t256 t260 t261 _ ?side1 ?side2 ?side3 ?side4 (Glob.below HG_.out (by repeat (first | (with_reducible first | exact HB.out | apply below_alloc | apply pw_below_drewN | apply below_drew1) | exact HB.out))) A7.out).mono ?_); (case side1 => repeat (first | exact (Kd.C_below HR0.out HB.out) | (with_reducible refine Kd.C_alloc ?_ _) | (with_reducible refine Kd.C_drewN ?_ _) | (with_reducible refine Kd.C_drew ?_))); (case side2 => exact HC0.out); (case side3 => repeat (first | exact (Kd.V_reads' HO258.out).2.2 | (with_reducible refine Kd.C_alloc ?_ _) | (with_reducible refine Kd.C_drewN ?_ _) | (with_reducible refine Kd.C_drew ?_))); (case side4 => exact (Kd.V_reads' HO258.out).2.1); rintro e w11 ⟨v262, rfl, ho0, hb⟩; refine ⟨_, rfl, ?_⟩; have n0_ := Aside0.mk (Kd.V_elder' (by (with_reducible repeat (first | apply Kd.V_alloc | apply Kd.V_drewN | apply Kd.V_drew)); exact HO258.out) (Kd.S_base ho0) hb); have n1_ := Aside0.mk (Kd.S_lower ho0 (below_size (by repeat (first | (with_reducible first | exact HB.out | apply below_alloc | apply pw_below_drewN | apply below_drew1) | exact HB.out)))); have n2_ := Aside0.mk (below_step (by repeat (first | (with_reducible first | exact HB.out | apply below_alloc | apply pw_below_drewN | apply below_drew1) | exact HB.out)) hb); clear HO258; clear HB; have HO258 := n0_; have HO263 := n1_; have HB := n2_; clear n0_ n1_ n2_; (try clear hb); (try clear hb2); (try clear hk); (try clear hi); (try clear ho0)))
      go_ret2
      exact ⟨_, by first | rfl | (simp [errW_none, errW_some] <;> rfl) | (simp [*, errW_none, errW_some] <;> rfl), by (with_reducible repeat (first | apply Kd.S_alloc | apply Kd.S_drewN | apply Kd.S_drew)); exact HO263.out, by repeat (first | (with_reducible first | exact HB.out | apply below_alloc | apply pw_below_drewN | apply below_drew1) | exact HB.out)⟩
    · rw [if_neg c6] at H
      have c6b0 : (t259 == 0) = false := beq_eq_false_iff_ne.mpr c6
      have c6b1 : (t259 != 0) = true := bne_iff_ne.mpr c6
      simp only [Option.some.injEq, Prod.mk.injEq] at H
      obtain ⟨rfl, rfl⟩ := H
      go_enter Tryd.func14, Tryd.ntmps14
      go_wp2_with (first | ((with_reducible refine gate_callee (f := 21) rfl ?_); refine goesL_ (some 10) rfl rfl Tryd.func21 (by kernel_rfl) rfl #[.slice A0 l0.length c0] rfl (by (try simp only [List.map_toArray, List.map_cons, List.map_nil]); first | done | rfl | (simp only [List.length_drop, List.length_take]; rfl)) ?_; (with_reducible refine (marks_Check.calls k _ _ l0 t255 _ ?side1 ?side2 (Glob.below HG_.out (by repeat (first | (with_reducible first | exact HB.out | apply below_alloc | apply pw_below_drewN | apply below_drew1) | exact HB.out))) A3.out).mono ?_); (case side1 => repeat (first | exact HR0.out | (with_reducible refine Kd.C_alloc ?_ _) | (with_reducible refine Kd.C_drewN ?_ _) | (with_reducible refine Kd.C_drew ?_))); (case side2 => exact HC0.out); rintro e w12 ⟨rfl, hb⟩; refine ⟨_, rfl, ?_⟩; have n0_ := Aside0.mk (below_step (by repeat (first | (with_reducible first | exact HB.out | apply below_alloc | apply pw_below_drewN | apply below_drew1) | exact HB.out)) hb); clear HB; have HB := n0_; clear n0_; (try clear hb); (try clear hb2); (try clear hk); (try clear hi)) | ((with_reducible refine gate_callee (f := 22) rfl ?_); refine goesL_ (some 17) rfl rfl Tryd.func22 (by kernel_rfl) rfl #[.slice A0 l0.length c0, .slice A1 l1.length c1, .slice none 0 0] rfl (by (try simp only [List.map_toArray, List.map_cons, List.map_nil]); first | done | rfl | (simp only [List.length_drop, List.length_take]; rfl)) ?_; (refine (marks_flat.calls k _ _ l0 _ _ l1 _ _ ([] : List ByteArray) t256 t259 _ ?side1 ?side2 ?side3 ?side4 ?side5 ?side6 A5.out).mono ?_); (case side1 => repeat (first | exact (Kd.C_below HR0.out HB.out) | (with_reducible refine Kd.C_alloc ?_ _) | (with_reducible refine Kd.C_drewN ?_ _) | (with_reducible refine Kd.C_drew ?_))); (case side2 => exact HC0.out); (case side3 => repeat (first | exact (Kd.C_below HR1.out HB.out) | (with_reducible refine Kd.C_alloc ?_ _) | (with_reducible refine Kd.C_drewN ?_ _) | (with_reducible refine Kd.C_drew ?_))); (case side4 => exact HC1.out); (case side5 => exact Kd.C_nil _ _); (case side6 => exact Nat.le_refl _); rintro e w13 ⟨v257, rfl, ho0, hb⟩; refine ⟨_, rfl, ?_⟩; have n0_ := Aside0.mk (Kd.V_lower (Kd.V_mono (ok' := fun k_ => True) ho0 (fun k_ hk_ => trivial)) (below_size (by repeat (first | (with_reducible first | exact HB.out | apply below_alloc | apply pw_below_drewN | apply below_drew1) | exact HB.out)))); have n1_ := Aside0.mk (below_step (by repeat (first | (with_reducible first | exact HB.out | apply below_alloc | apply pw_below_drewN | apply below_drew1) | exact HB.out)) hb); clear HB; have HO258 := n0_; have HB := n1_; clear n0_ n1_; (try clear hb); (try clear hb2); (try clear hk); (try clear hi); (try clear ho0)))
      go_ret2
      exact ⟨_, by first | rfl | (simp [errW_none, errW_some] <;> rfl) | (simp [*, errW_none, errW_some] <;> rfl), by first | exact Kd.S_nil _ _ _ _ _ | exact Kd.N_nil _ _ _ _ _ | exact Kd.V_nil _ _ _ _ _ | exact Kd.Q_nil _ _ _ _ _ | exact Kd.R_nil _ _ _ _ _, by repeat (first | (with_reducible first | exact HB.out | apply below_alloc | apply pw_below_drewN | apply below_drew1) | exact HB.out)⟩
  · rw [if_neg c4] at H
    have c4b0 : (t255 == 0) = false := beq_eq_false_iff_ne.mpr c4
    have c4b1 : (t255 != 0) = true := bne_iff_ne.mpr c4
    simp only [Option.some.injEq, Prod.mk.injEq] at H
    obtain ⟨rfl, rfl⟩ := H
    go_enter Tryd.func14, Tryd.ntmps14
    go_wp2_with (first | ((with_reducible refine gate_callee (f := 21) rfl ?_); refine goesL_ (some 10) rfl rfl Tryd.func21 (by kernel_rfl) rfl #[.slice A0 l0.length c0] rfl (by (try simp only [List.map_toArray, List.map_cons, List.map_nil]); first | done | rfl | (simp only [List.length_drop, List.length_take]; rfl)) ?_; (with_reducible refine (marks_Check.calls k _ _ l0 t255 _ ?side1 ?side2 (Glob.below HG_.out (by repeat (first | (with_reducible first | exact HB.out | apply below_alloc | apply pw_below_drewN | apply below_drew1) | exact HB.out))) A3.out).mono ?_); (case side1 => repeat (first | exact HR0.out | (with_reducible refine Kd.C_alloc ?_ _) | (with_reducible refine Kd.C_drewN ?_ _) | (with_reducible refine Kd.C_drew ?_))); (case side2 => exact HC0.out); rintro e w14 ⟨rfl, hb⟩; refine ⟨_, rfl, ?_⟩; have n0_ := Aside0.mk (below_step (by repeat (first | (with_reducible first | exact HB.out | apply below_alloc | apply pw_below_drewN | apply below_drew1) | exact HB.out)) hb); clear HB; have HB := n0_; clear n0_; (try clear hb); (try clear hb2); (try clear hk); (try clear hi)))
    go_ret2
    exact ⟨_, by first | rfl | (simp [errW_none, errW_some] <;> rfl) | (simp [*, errW_none, errW_some] <;> rfl), by first | exact Kd.S_nil _ _ _ _ _ | exact Kd.N_nil _ _ _ _ _ | exact Kd.V_nil _ _ _ _ _ | exact Kd.Q_nil _ _ _ _ _ | exact Kd.R_nil _ _ _ _ _, by repeat (first | (with_reducible first | exact HB.out | apply below_alloc | apply pw_below_drewN | apply below_drew1) | exact HB.out)⟩
end Go.Proofs.YtjmhihadgpdiaaaDoor.X
end
section
namespace Go.Proofs.YtjmhihadgpdiaaaDoor.X
open Go.RowKit Go.Proofs.YtjmhihadgpdiaaaDoorW.PrintWords Go.Proofs.YtjmhihadgpdiaaaDoorW.PrintLast Go.Proofs.YtjmhihadgpdiaaaDoorW.PrintMore
attribute [local go_sem] max2_int min2_int max_two min_two max_three min_three max_four min_four   -- for this text's walks alone
set_option linter.unusedVariables false
set_option linter.unusedSimpArgs false
mutual
def bobbinetkeep_sameRuns.l0 : Nat → List (S40) → List (S40) → Int → Option (Bool)
  | 0, _, _, _ => none
  | k + 1, x0, x1, x5 => if x5 < (x0.length : Int) then (if 0 ≤ x5 then (if x5 < (x1.length : Int) then (if ((rd_T40 x0 x5).f0).toList = ((rd_T40 x1 x5).f0).toList then (bobbinetkeep_sameRuns.j1 k x0 x1 x5 ((((rd_T40 x0 x5).f1).length : Int) != (((rd_T40 x1 x5).f1).length : Int))) else (bobbinetkeep_sameRuns.j1 k x0 x1 x5 true)) else (none)) else (none)) else (some true)
def bobbinetkeep_sameRuns.j1 : Nat → List (S40) → List (S40) → Int → Bool → Option (Bool)
  | 0, _, _, _, _ => none
  | k + 1, x0, x1, x5, x43 => if x43 = true then (some false) else (bobbinetkeep_sameRuns.l1 k x0 x1 x5 0)
def bobbinetkeep_sameRuns.l1 : Nat → List (S40) → List (S40) → Int → Int → Option (Bool)
  | 0, _, _, _, _ => none
  | k + 1, x0, x1, x5, x6 => if 0 ≤ x5 then (if x5 < (x0.length : Int) then (if x6 < (((rd_T40 x0 x5).f1).length : Int) then (if 0 ≤ x6 then (if x5 < (x1.length : Int) then (if x6 < (((rd_T40 x1 x5).f1).length : Int) then (if (rdOf ByteArray.empty ((rd_T40 x0 x5).f1) x6).toList = (rdOf ByteArray.empty ((rd_T40 x1 x5).f1) x6).toList then (bobbinetkeep_sameRuns.l1 k x0 x1 x5 (wrap64 (x6 + 1))) else (some false)) else (none)) else (none)) else (none)) else (bobbinetkeep_sameRuns.l0 k x0 x1 (wrap64 (x5 + 1)))) else (none)) else (none)
end
def bobbinetkeep_sameRuns.f (k : Nat) (l0 : List (S40)) (l1 : List (S40)) : Option (Bool) := if (l0.length : Int) = (l1.length : Int) then (bobbinetkeep_sameRuns.l0 k l0 l1 0) else (some false)
set_option maxHeartbeats 8000000 in
set_option maxRecDepth 100000 in
theorem bobbinetkeep_sameRuns.calls (k : Nat) (A0 : Option Addr) (c0 : Nat) (l0 : List (S40)) (A1 : Option Addr) (c1 : Nat) (l1 : List (S40)) (r : Bool) (w : World) (hr0 : Kd.C k40 w A0 l0.length l0) (hc0 : l0.length ≤ c0) (hr1 : Kd.C k40 w A1 l1.length l1) (hc1 : l1.length ≤ c1) (h : bobbinetkeep_sameRuns.f k l0 l1 = some r) :
    Calls Tryd.prog 15 #[.slice A0 l0.length c0, .slice A1 l1.length c1] w fun e w' => e = .returned (.bool r) ∧ Drawn0 w w' := by
  have HR0 := Aside0.mk hr0
  have HC0 := Aside0.mk hc0
  clear hr0 hc0
  have HR1 := Aside0.mk hr1
  have HC1 := Aside0.mk hc1
  clear hr1 hc1
  have H : (if (l0.length : Int) = (l1.length : Int) then (bobbinetkeep_sameRuns.l0 k l0 l1 0) else (some false)) = some r := h
  clear h
  by_cases c3 : (l0.length : Int) = (l1.length : Int)
  · rw [if_pos c3] at H
    have c3b0 : ((l0.length : Int) == (l1.length : Int)) = true := beq_iff_eq.mpr c3
    have c3b1 : ((l0.length : Int) != (l1.length : Int)) = false := bne_eq_false_iff_eq.mpr c3
    have c3b2 : (l0.length == l1.length) = true := by first | simpa using c3 | (simp at c3 ⊢; omega)
    clear c3
    have H' := Aside0.mk H
    clear H
    go_enter Tryd.func15, Tryd.ntmps15
    go_wp2
    repeat (go_quiet (fail); try go_wp2)
    go_loopg [5] k (fun kq v5 w' => ∃ (x5_1 : Int), v5 = .int .i64 x5_1 ∧ Aside0 (bobbinetkeep_sameRuns.l0 kq l0 l1 x5_1 = some r) ∧ Aside0 (kq ≤ k) ∧ Drawn0 w w')
    case atStart => exact ⟨(0), (by first | rfl | (simp; done) | (simp [*]; done) | (simp [bne]; done)), H', ⟨Nat.le_refl _⟩, by repeat (first | exact Drawn0.refl _ | apply Drawn0.step)⟩
    case round =>
      clear H'
      try clear c1
      try clear p2
      try clear c3
      try clear c3b0
      try clear c3b1
      try clear c3b2
      obtain ⟨x5_1, rfl, HA, HK1, ⟨m1, rfl⟩⟩ := hrel
      cases gk with
      | zero => exact absurd HA.out (by simp [bobbinetkeep_sameRuns.l0])
      | succ k1 =>
        have H := HA.out
        clear HA
        simp only [bobbinetkeep_sameRuns.l0] at H
        by_cases c4 : x5_1 < (l0.length : Int)
        · rw [if_pos c4] at H
          have c4b0 : decide (x5_1 < (l0.length : Int)) = true := decide_eq_true c4
          clear c4
          have HC5 := Aside0.mk H
          clear H
          go_upto_region 6 with (fail)
          repeat (go_quiet (fail); go_upto_region 6 with (fail))
          go_cut [43] (fun v43 wc => ∃ (kq : Nat) (x43_4 : Bool), v43 = .bool x43_4 ∧ Aside0 (bobbinetkeep_sameRuns.j1 kq l0 l1 x5_1 x43_4 = some r) ∧ Aside0 (kq ≤ k1) ∧ Drawn0 w wc)
          case first =>
            have H := HC5.out
            clear HC5
            by_cases c6 : 0 ≤ x5_1
            · rw [if_pos c6] at H
              have c6b0 : decide (0 ≤ x5_1) = true := decide_eq_true c6
              clear c6
              (first | rw [c6b0] | (simp only [i64_w, i32_w]; rw [c6b0]) | rw [c6b1] | skip)
              by_cases c7 : x5_1 < (l1.length : Int)
              · rw [if_pos c7] at H
                have c7b0 : decide (x5_1 < (l1.length : Int)) = true := decide_eq_true c7
                clear c7
                by_cases c8 : ((rd_T40 l0 x5_1).f0).toList = ((rd_T40 l1 x5_1).f0).toList
                · rw [if_pos c8] at H
                  have c8b0 : (((rd_T40 l0 x5_1).f0).toList == ((rd_T40 l1 x5_1).f0).toList) = true := beq_iff_eq.mpr c8
                  have c8b1 : (((rd_T40 l0 x5_1).f0).toList != ((rd_T40 l1 x5_1).f0).toList) = false := bne_eq_false_iff_eq.mpr c8
                  clear c8
                  have H' := Aside0.mk H
                  clear H
                  have p264 : 0 ≤ (x5_1 : Int) := of_decide_eq_true (by first | (with_reducible assumption) | assumption)
                  have q264 : x5_1 < (l0.length : Int) := of_decide_eq_true (by first | (with_reducible assumption) | assumption)
                  obtain ⟨ad264, A264_1, c264_1, e264, hx264_0, hx264_1, hl264_1, hi264_1⟩ := at_T40 HR0.out x5_1 p264 q264
                  cases e264
                  have HR264_1 := Aside0.mk hi264_1
                  have HC264_1 := Aside0.mk hl264_1
                  clear hi264_1 hl264_1
                  replace p264 := eq_true p264
                  replace q264 := eq_true q264
                  have p265 : 0 ≤ (x5_1 : Int) := of_decide_eq_true (by first | (with_reducible assumption) | assumption)
                  have q265 : x5_1 < (l1.length : Int) := of_decide_eq_true (by first | (with_reducible assumption) | assumption)
                  obtain ⟨ad265, A265_1, c265_1, e265, hx265_0, hx265_1, hl265_1, hi265_1⟩ := at_T40 HR1.out x5_1 p265 q265
                  cases e265
                  have HR265_1 := Aside0.mk hi265_1
                  have HC265_1 := Aside0.mk hl265_1
                  clear hi265_1 hl265_1
                  replace p265 := eq_true p265
                  replace q265 := eq_true q265
                  have p266 : 0 ≤ (x5_1 : Int) := of_decide_eq_true (by first | (with_reducible assumption) | assumption)
                  have q266 : x5_1 < (l0.length : Int) := of_decide_eq_true (by first | (with_reducible assumption) | assumption)
                  obtain ⟨ad266, A266_1, c266_1, e266, hx266_0, hx266_1, hl266_1, hi266_1⟩ := at_T40 HR0.out x5_1 p266 q266
                  obtain rfl : ad264 = ad266 := (by injection e266)
                  have HR266_1 := Aside0.mk hi266_1
                  have HC266_1 := Aside0.mk hl266_1
                  clear hi266_1 hl266_1
                  replace p266 := eq_true p266
                  replace q266 := eq_true q266
                  have ea_ := Option.some.inj (hx264_1.symm.trans hx266_1)
                  injection ea_ with ea_ en_ ec_
                  subst ea_
                  subst ec_
                  clear en_
                  have p267 : 0 ≤ (x5_1 : Int) := of_decide_eq_true (by first | (with_reducible assumption) | assumption)
                  have q267 : x5_1 < (l1.length : Int) := of_decide_eq_true (by first | (with_reducible assumption) | assumption)
                  obtain ⟨ad267, A267_1, c267_1, e267, hx267_0, hx267_1, hl267_1, hi267_1⟩ := at_T40 HR1.out x5_1 p267 q267
                  obtain rfl : ad265 = ad267 := (by injection e267)
                  have HR267_1 := Aside0.mk hi267_1
                  have HC267_1 := Aside0.mk hl267_1
                  clear hi267_1 hl267_1
                  replace p267 := eq_true p267
                  replace q267 := eq_true q267
                  have ea_ := Option.some.inj (hx265_1.symm.trans hx267_1)
                  injection ea_ with ea_ en_ ec_
                  subst ea_
                  subst ec_
                  clear en_
                  go_wp2
                  repeat (go_quiet (fail); try go_wp2)
                  go_meet
                  case rel => exact ⟨_, (((((rd_T40 l0 x5_1).f1).length : Int) != (((rd_T40 l1 x5_1).f1).length : Int))), (by first | rfl | (simp; done) | (simp [*]; done) | (simp [bne]; done)), H', ⟨by have := HK1.out; first | omega | exact Nat.le_refl _⟩, by repeat (first | exact Drawn0.refl _ | apply Drawn0.step)⟩
                · rw [if_neg c8] at H
                  have c8b0 : (((rd_T40 l0 x5_1).f0).toList == ((rd_T40 l1 x5_1).f0).toList) = false := beq_eq_false_iff_ne.mpr c8
                  have c8b1 : (((rd_T40 l0 x5_1).f0).toList != ((rd_T40 l1 x5_1).f0).toList) = true := bne_iff_ne.mpr c8
                  have H' := Aside0.mk H
                  clear H
                  have p264 : 0 ≤ (x5_1 : Int) := of_decide_eq_true (by first | (with_reducible assumption) | assumption)
                  have q264 : x5_1 < (l0.length : Int) := of_decide_eq_true (by first | (with_reducible assumption) | assumption)
                  obtain ⟨ad264, A264_1, c264_1, e264, hx264_0, hx264_1, hl264_1, hi264_1⟩ := at_T40 HR0.out x5_1 p264 q264
                  cases e264
                  have HR264_1 := Aside0.mk hi264_1
                  have HC264_1 := Aside0.mk hl264_1
                  clear hi264_1 hl264_1
                  replace p264 := eq_true p264
                  replace q264 := eq_true q264
                  have p265 : 0 ≤ (x5_1 : Int) := of_decide_eq_true (by first | (with_reducible assumption) | assumption)
                  have q265 : x5_1 < (l1.length : Int) := of_decide_eq_true (by first | (with_reducible assumption) | assumption)
                  obtain ⟨ad265, A265_1, c265_1, e265, hx265_0, hx265_1, hl265_1, hi265_1⟩ := at_T40 HR1.out x5_1 p265 q265
                  cases e265
                  have HR265_1 := Aside0.mk hi265_1
                  have HC265_1 := Aside0.mk hl265_1
                  clear hi265_1 hl265_1
                  replace p265 := eq_true p265
                  replace q265 := eq_true q265
                  go_wp2
                  repeat (go_quiet (fail); try go_wp2)
                  go_meet
                  case rel => exact ⟨_, (true), (by first | rfl | (simp; done) | (simp [*]; done) | (simp [bne]; done)), H', ⟨by have := HK1.out; first | omega | exact Nat.le_refl _⟩, by repeat (first | exact Drawn0.refl _ | apply Drawn0.step)⟩
              · rw [if_neg c7] at H
                exact absurd H (by simp)
            · rw [if_neg c6] at H
              exact absurd H (by simp)
          case rest =>
            clear HC5
            try clear c1
            try clear c2
            try clear p2
            try clear q2
            try clear hx2
            try clear c3
            try clear c3b0
            try clear c3b1
            try clear c3b2
            try clear c4
            try clear c4b0
            try clear c6
            try clear c6b0
            try clear c7
            try clear c7b0
            try clear c8
            try clear c8b0
            try clear c8b1
            try clear hx264_0
            try clear hx264_1
            try clear hx265_0
            try clear hx265_1
            try clear hx266_0
            try clear hx266_1
            try clear hx267_0
            try clear hx267_1
            try clear p2
            try clear p264
            try clear p265
            try clear p266
            try clear p267
            try clear q264
            try clear q265
            try clear q266
            try clear q267
            obtain ⟨kq, x43_4, rfl, HA, HJ4, ⟨mc4, rfl⟩⟩ := hcut
            cases kq with
            | zero => exact absurd HA.out (by simp [bobbinetkeep_sameRuns.j1])
            | succ kj4 =>
              have H := HA.out
              clear HA
              simp only [bobbinetkeep_sameRuns.j1] at H
              by_cases c9 : x43_4 = true
              · subst c9
                have H1 : (some false) = some r := by rw [if_pos rfl] at H; exact H
                clear H
                have H := H1
                clear H1
                obtain rfl := Option.some.inj H
                go_wp2
                repeat (go_quiet (fail); try go_wp2)
                go_ret
                exact ⟨by first | rfl | (simp; done) | (simp [*]; done), by repeat (first | exact Drawn0.refl _ | apply Drawn0.step)⟩
              · replace c9 := Bool.eq_false_iff.mpr c9
                subst c9
                have H1 : (bobbinetkeep_sameRuns.l1 kj4 l0 l1 x5_1 0) = some r := by rw [if_neg (show ¬ (false = true) by decide)] at H; exact H
                clear H
                have H := H1
                clear H1
                have H' := Aside0.mk H
                clear H
                go_wp2
                repeat (go_quiet (fail); try go_wp2)
                go_loopg [6] kj4 (fun kq v6 w' => ∃ (x6_3 : Int), v6 = .int .i64 x6_3 ∧ Aside0 (bobbinetkeep_sameRuns.l1 kq l0 l1 x5_1 x6_3 = some r) ∧ Aside0 (kq ≤ kj4) ∧ Drawn0 w w')
                case atStart => exact ⟨(0), (by first | rfl | (simp; done) | (simp [*]; done) | (simp [bne]; done)), H', ⟨Nat.le_refl _⟩, by repeat (first | exact Drawn0.refl _ | apply Drawn0.step)⟩
                case round =>
                  clear H'
                  try clear c1
                  try clear c2
                  try clear p2
                  try clear q2
                  try clear hx2
                  try clear c3
                  try clear c3b0
                  try clear c3b1
                  try clear c3b2
                  try clear c4
                  try clear c4b0
                  try clear c6
                  try clear c6b0
                  try clear c7
                  try clear c7b0
                  try clear c8
                  try clear c8b0
                  try clear c8b1
                  try clear c9
                  try clear hx264_0
                  try clear hx264_1
                  try clear hx265_0
                  try clear hx265_1
                  try clear hx266_0
                  try clear hx266_1
                  try clear hx267_0
                  try clear hx267_1
                  try clear p2
                  try clear p264
                  try clear p265
                  try clear p266
                  try clear p267
                  try clear q2
                  try clear q264
                  try clear q265
                  try clear q266
                  try clear q267
                  obtain ⟨x6_3, rfl, HA, HK3, ⟨m3, rfl⟩⟩ := hrel
                  cases gk with
                  | zero => exact absurd HA.out (by simp [bobbinetkeep_sameRuns.l1])
                  | succ k3 =>
                    have H := HA.out
                    clear HA
                    simp only [bobbinetkeep_sameRuns.l1] at H
                    by_cases c10 : 0 ≤ x5_1
                    · rw [if_pos c10] at H
                      have c10b0 : decide (0 ≤ x5_1) = true := decide_eq_true c10
                      clear c10
                      by_cases c11 : x5_1 < (l0.length : Int)
                      · rw [if_pos c11] at H
                        have c11b0 : decide (x5_1 < (l0.length : Int)) = true := decide_eq_true c11
                        clear c11
                        by_cases c12 : x6_3 < (((rd_T40 l0 x5_1).f1).length : Int)
                        · rw [if_pos c12] at H
                          have c12b0 : decide (x6_3 < (((rd_T40 l0 x5_1).f1).length : Int)) = true := decide_eq_true c12
                          clear c12
                          by_cases c13 : 0 ≤ x6_3
                          · rw [if_pos c13] at H
                            have c13b0 : decide (0 ≤ x6_3) = true := decide_eq_true c13
                            clear c13
                            by_cases c14 : x5_1 < (l1.length : Int)
                            · rw [if_pos c14] at H
                              have c14b0 : decide (x5_1 < (l1.length : Int)) = true := decide_eq_true c14
                              clear c14
                              by_cases c15 : x6_3 < (((rd_T40 l1 x5_1).f1).length : Int)
                              · rw [if_pos c15] at H
                                have c15b0 : decide (x6_3 < (((rd_T40 l1 x5_1).f1).length : Int)) = true := decide_eq_true c15
                                clear c15
                                by_cases c16 : (rdOf ByteArray.empty ((rd_T40 l0 x5_1).f1) x6_3).toList = (rdOf ByteArray.empty ((rd_T40 l1 x5_1).f1) x6_3).toList
                                · rw [if_pos c16] at H
                                  have c16b0 : ((rdOf ByteArray.empty ((rd_T40 l0 x5_1).f1) x6_3).toList == (rdOf ByteArray.empty ((rd_T40 l1 x5_1).f1) x6_3).toList) = true := beq_iff_eq.mpr c16
                                  have c16b1 : ((rdOf ByteArray.empty ((rd_T40 l0 x5_1).f1) x6_3).toList != (rdOf ByteArray.empty ((rd_T40 l1 x5_1).f1) x6_3).toList) = false := bne_eq_false_iff_eq.mpr c16
                                  clear c16
                                  have H' := Aside0.mk H
                                  clear H
                                  have p268 : 0 ≤ (x5_1 : Int) := of_decide_eq_true (by first | (with_reducible assumption) | assumption)
                                  have q268 : x5_1 < (l0.length : Int) := of_decide_eq_true (by first | (with_reducible assumption) | assumption)
                                  obtain ⟨ad268, A268_1, c268_1, e268, hx268_0, hx268_1, hl268_1, hi268_1⟩ := at_T40 HR0.out x5_1 p268 q268
                                  cases e268
                                  have HR268_1 := Aside0.mk hi268_1
                                  have HC268_1 := Aside0.mk hl268_1
                                  clear hi268_1 hl268_1
                                  replace p268 := eq_true p268
                                  replace q268 := eq_true q268
                                  have p269 : 0 ≤ (x5_1 : Int) := of_decide_eq_true (by first | (with_reducible assumption) | assumption)
                                  have q269 : x5_1 < (l0.length : Int) := of_decide_eq_true (by first | (with_reducible assumption) | assumption)
                                  obtain ⟨ad269, A269_1, c269_1, e269, hx269_0, hx269_1, hl269_1, hi269_1⟩ := at_T40 HR0.out x5_1 p269 q269
                                  obtain rfl : ad268 = ad269 := (by injection e269)
                                  have HR269_1 := Aside0.mk hi269_1
                                  have HC269_1 := Aside0.mk hl269_1
                                  clear hi269_1 hl269_1
                                  replace p269 := eq_true p269
                                  replace q269 := eq_true q269
                                  have ea_ := Option.some.inj (hx268_1.symm.trans hx269_1)
                                  injection ea_ with ea_ en_ ec_
                                  subst ea_
                                  subst ec_
                                  clear en_
                                  have p270 : 0 ≤ (x6_3 : Int) := of_decide_eq_true (by first | (with_reducible assumption) | assumption)
                                  have q270 : x6_3 < (((rd_T40 l0 x5_1).f1).length : Int) := of_decide_eq_true (by first | (with_reducible assumption) | assumption)
                                  obtain ⟨ad270, e270, hx270_0⟩ := Kd.at_string HR269_1.out x6_3 p270 q270
                                  cases e270
                                  replace p270 := eq_true p270
                                  replace q270 := eq_true q270
                                  have p271 : 0 ≤ (x5_1 : Int) := of_decide_eq_true (by first | (with_reducible assumption) | assumption)
                                  have q271 : x5_1 < (l1.length : Int) := of_decide_eq_true (by first | (with_reducible assumption) | assumption)
                                  obtain ⟨ad271, A271_1, c271_1, e271, hx271_0, hx271_1, hl271_1, hi271_1⟩ := at_T40 HR1.out x5_1 p271 q271
                                  cases e271
                                  have HR271_1 := Aside0.mk hi271_1
                                  have HC271_1 := Aside0.mk hl271_1
                                  clear hi271_1 hl271_1
                                  replace p271 := eq_true p271
                                  replace q271 := eq_true q271
                                  have p272 : 0 ≤ (x6_3 : Int) := of_decide_eq_true (by first | (with_reducible assumption) | assumption)
                                  have q272 : x6_3 < (((rd_T40 l1 x5_1).f1).length : Int) := of_decide_eq_true (by first | (with_reducible assumption) | assumption)
                                  obtain ⟨ad272, e272, hx272_0⟩ := Kd.at_string HR271_1.out x6_3 p272 q272
                                  cases e272
                                  replace p272 := eq_true p272
                                  replace q272 := eq_true q272
                                  go_wp2
                                  repeat (go_quiet (fail); try go_wp2)
                                  go_roundg k3
                                  case measure => have := HK1.out; have := HJ4.out; have := HK3.out; omega
                                  case rel => exact ⟨(wrap64 (x6_3 + 1)), (by first | rfl | (simp; done) | (simp [*]; done) | (simp [bne]; done)), H', ⟨by have := HK1.out; have := HJ4.out; have := HK3.out; omega⟩, by repeat (first | exact Drawn0.refl _ | apply Drawn0.step)⟩
                                · rw [if_neg c16] at H
                                  have c16b0 : ((rdOf ByteArray.empty ((rd_T40 l0 x5_1).f1) x6_3).toList == (rdOf ByteArray.empty ((rd_T40 l1 x5_1).f1) x6_3).toList) = false := beq_eq_false_iff_ne.mpr c16
                                  have c16b1 : ((rdOf ByteArray.empty ((rd_T40 l0 x5_1).f1) x6_3).toList != (rdOf ByteArray.empty ((rd_T40 l1 x5_1).f1) x6_3).toList) = true := bne_iff_ne.mpr c16
                                  obtain rfl := Option.some.inj H
                                  have p268 : 0 ≤ (x5_1 : Int) := of_decide_eq_true (by first | (with_reducible assumption) | assumption)
                                  have q268 : x5_1 < (l0.length : Int) := of_decide_eq_true (by first | (with_reducible assumption) | assumption)
                                  obtain ⟨ad268, A268_1, c268_1, e268, hx268_0, hx268_1, hl268_1, hi268_1⟩ := at_T40 HR0.out x5_1 p268 q268
                                  cases e268
                                  have HR268_1 := Aside0.mk hi268_1
                                  have HC268_1 := Aside0.mk hl268_1
                                  clear hi268_1 hl268_1
                                  replace p268 := eq_true p268
                                  replace q268 := eq_true q268
                                  have p269 : 0 ≤ (x5_1 : Int) := of_decide_eq_true (by first | (with_reducible assumption) | assumption)
                                  have q269 : x5_1 < (l0.length : Int) := of_decide_eq_true (by first | (with_reducible assumption) | assumption)
                                  obtain ⟨ad269, A269_1, c269_1, e269, hx269_0, hx269_1, hl269_1, hi269_1⟩ := at_T40 HR0.out x5_1 p269 q269
                                  obtain rfl : ad268 = ad269 := (by injection e269)
                                  have HR269_1 := Aside0.mk hi269_1
                                  have HC269_1 := Aside0.mk hl269_1
                                  clear hi269_1 hl269_1
                                  replace p269 := eq_true p269
                                  replace q269 := eq_true q269
                                  have ea_ := Option.some.inj (hx268_1.symm.trans hx269_1)
                                  injection ea_ with ea_ en_ ec_
                                  subst ea_
                                  subst ec_
                                  clear en_
                                  have p270 : 0 ≤ (x6_3 : Int) := of_decide_eq_true (by first | (with_reducible assumption) | assumption)
                                  have q270 : x6_3 < (((rd_T40 l0 x5_1).f1).length : Int) := of_decide_eq_true (by first | (with_reducible assumption) | assumption)
                                  obtain ⟨ad270, e270, hx270_0⟩ := Kd.at_string HR269_1.out x6_3 p270 q270
                                  cases e270
                                  replace p270 := eq_true p270
                                  replace q270 := eq_true q270
                                  have p271 : 0 ≤ (x5_1 : Int) := of_decide_eq_true (by first | (with_reducible assumption) | assumption)
                                  have q271 : x5_1 < (l1.length : Int) := of_decide_eq_true (by first | (with_reducible assumption) | assumption)
                                  obtain ⟨ad271, A271_1, c271_1, e271, hx271_0, hx271_1, hl271_1, hi271_1⟩ := at_T40 HR1.out x5_1 p271 q271
                                  cases e271
                                  have HR271_1 := Aside0.mk hi271_1
                                  have HC271_1 := Aside0.mk hl271_1
                                  clear hi271_1 hl271_1
                                  replace p271 := eq_true p271
                                  replace q271 := eq_true q271
                                  have p272 : 0 ≤ (x6_3 : Int) := of_decide_eq_true (by first | (with_reducible assumption) | assumption)
                                  have q272 : x6_3 < (((rd_T40 l1 x5_1).f1).length : Int) := of_decide_eq_true (by first | (with_reducible assumption) | assumption)
                                  obtain ⟨ad272, e272, hx272_0⟩ := Kd.at_string HR271_1.out x6_3 p272 q272
                                  cases e272
                                  replace p272 := eq_true p272
                                  replace q272 := eq_true q272
                                  go_wp2
                                  repeat (go_quiet (fail); try go_wp2)
                                  go_ret
                                  exact ⟨by first | rfl | (simp; done) | (simp [*]; done), by repeat (first | exact Drawn0.refl _ | apply Drawn0.step)⟩
                              · rw [if_neg c15] at H
                                exact absurd H (by simp)
                            · rw [if_neg c14] at H
                              exact absurd H (by simp)
                          · rw [if_neg c13] at H
                            exact absurd H (by simp)
                        · rw [if_neg c12] at H
                          have c12b0 : decide (x6_3 < (((rd_T40 l0 x5_1).f1).length : Int)) = false := decide_eq_false c12
                          clear c12
                          have H' := Aside0.mk H
                          clear H
                          have p268 : 0 ≤ (x5_1 : Int) := of_decide_eq_true (by first | (with_reducible assumption) | assumption)
                          have q268 : x5_1 < (l0.length : Int) := of_decide_eq_true (by first | (with_reducible assumption) | assumption)
                          obtain ⟨ad268, A268_1, c268_1, e268, hx268_0, hx268_1, hl268_1, hi268_1⟩ := at_T40 HR0.out x5_1 p268 q268
                          cases e268
                          have HR268_1 := Aside0.mk hi268_1
                          have HC268_1 := Aside0.mk hl268_1
                          clear hi268_1 hl268_1
                          replace p268 := eq_true p268
                          replace q268 := eq_true q268
                          go_wp2
                          repeat (go_quiet (fail); try go_wp2)
                          go_roundg k3
                          case measure => have := HK1.out; have := HJ4.out; have := HK3.out; omega
                          case rel => exact ⟨(wrap64 (x5_1 + 1)), (by first | rfl | (simp; done) | (simp [*]; done) | (simp [bne]; done)), H', ⟨by have := HK1.out; have := HJ4.out; have := HK3.out; omega⟩, by repeat (first | exact Drawn0.refl _ | apply Drawn0.step)⟩
                      · rw [if_neg c11] at H
                        exact absurd H (by simp)
                    · rw [if_neg c10] at H
                      exact absurd H (by simp)
        · rw [if_neg c4] at H
          have c4b0 : decide (x5_1 < (l0.length : Int)) = false := decide_eq_false c4
          clear c4
          obtain rfl := Option.some.inj H
          go_wp2
          repeat (go_quiet (fail); try go_wp2)
          go_ret
          exact ⟨by first | rfl | (simp; done) | (simp [*]; done), by repeat (first | exact Drawn0.refl _ | apply Drawn0.step)⟩
  · rw [if_neg c3] at H
    have c3b0 : ((l0.length : Int) == (l1.length : Int)) = false := beq_eq_false_iff_ne.mpr c3
    have c3b1 : ((l0.length : Int) != (l1.length : Int)) = true := bne_iff_ne.mpr c3
    have c3b2 : (l0.length == l1.length) = false := by first | simpa using c3 | (simp at c3 ⊢; omega)
    obtain rfl := Option.some.inj H
    go_enter Tryd.func15, Tryd.ntmps15
    go_wp2
    repeat (go_quiet (fail); try go_wp2)
    go_ret
    exact ⟨by first | rfl | (simp; done) | (simp [*]; done), by repeat (first | exact Drawn0.refl _ | apply Drawn0.step)⟩
end Go.Proofs.YtjmhihadgpdiaaaDoor.X
end
section
namespace Go.Proofs.YtjmhihadgpdiaaaDoor.X
open Go.RowKit Go.Proofs.YtjmhihadgpdiaaaDoorW.PrintWords Go.Proofs.YtjmhihadgpdiaaaDoorW.PrintLast Go.Proofs.YtjmhihadgpdiaaaDoorW.PrintMore
attribute [local go_sem] max2_int min2_int max_two min_two max_three min_three max_four min_four   -- for this text's walks alone
set_option linter.unusedVariables false
set_option linter.unusedSimpArgs false
mutual
def bobbinetkeep_words.l0 : Nat → List (S49) → ByteArray → Int → Option (ByteArray)
  | 0, _, _, _ => none
  | k + 1, x0, x3, x4 => if x4 < (x0.length : Int) then (if 0 ≤ x4 then ((bobbinetkeep_words.f k ((rd_T49 x0 x4).f3)).bind fun t275 => (if ((rd_T49 x0 x4).f2).size + t275.size ≤ 9223372036854775807 then (if x3.size + (((rd_T49 x0 x4).f2) ++ t275).size ≤ 9223372036854775807 then (bobbinetkeep_words.l0 k x0 (x3 ++ (((rd_T49 x0 x4).f2) ++ t275)) (wrap64 (x4 + 1))) else (none)) else (none))) else (none)) else (some x3)
def bobbinetkeep_words.f : Nat → List (S49) → Option (ByteArray)
  | 0, _ => none
  | k + 1, l0 => bobbinetkeep_words.l0 k l0 (⟨#[]⟩ : ByteArray) 0
end
def bobbinetkeep_words.T5 : Bool × List (List Nat × List Nat) := (true, [([], []), ([], []), ([], []), ([1, 2], [1, 2]), ([3], [3]), ([4], [4]), ([], []), ([], []), ([6, 7], [6, 7]), ([8], [8]), ([9], [9]), ([10], [10]), ([5, 11], [5, 11]), ([0, 12], [0, 12]), ([13, 11, 0, 1, 2, 3, 4, 5, 6, 7, 8, 9, 10, 11, 12, 13], [0, 13])])
def bobbinetkeep_words.B5 : List Nat := [0, 0, 0, 6, 14, 30, 0, 0, 192, 448, 960, 1984, 4094, 8191, 16383]
theorem bobbinetkeep_words.tab5 : rtab .any (opsOf Tryd.f16 5) = bobbinetkeep_words.T5 := by kernel_rfl
theorem bobbinetkeep_words.bits5 : waitsOk bobbinetkeep_words.T5.2 bobbinetkeep_words.B5 = true := by kernel_rfl
set_option maxHeartbeats 8000000 in
set_option maxRecDepth 100000 in
theorem bobbinetkeep_words.calls (k : Nat) : ∀ (A0 : Option Addr) (c0 : Nat) (l0 : List (S49)) (r : ByteArray) (w : World) (hr0 : Kd.C k49 w A0 l0.length l0) (hc0 : l0.length ≤ c0) (h : bobbinetkeep_words.f k l0 = some r),
    Calls Tryd.prog 16 #[.slice A0 l0.length c0] w fun e w' => e = .returned (.string r) ∧ Below w.heap.size w w' := by
  induction k using Nat.strongRecOn with
  | _ k ih =>
  intro A0 c0 l0 r w hr0 hc0 h
  cases k with
  | zero => exact absurd h (by simp [bobbinetkeep_words.f])
  | succ k =>
  simp only [bobbinetkeep_words.f] at h
  have HR0 := Aside0.mk hr0
  have HC0 := Aside0.mk hc0
  clear hr0 hc0
  have HB := Aside0.mk (Below.refl w.heap.size w)
  have H : (bobbinetkeep_words.l0 k l0 (⟨#[]⟩ : ByteArray) 0) = some r := h
  clear h
  have H' := Aside0.mk H
  clear H
  go_enter Tryd.func16, Tryd.ntmps16
  go_wp2
  go_loopg [3, 4] k (fun kq v3 v4 w' => ∃ (x3_1 : ByteArray) (x4_1 : Int), v3 = .string x3_1 ∧ v4 = .int .i64 x4_1 ∧ Aside0 (bobbinetkeep_words.l0 kq l0 x3_1 x4_1 = some r) ∧ Aside0 (kq ≤ k) ∧ Aside0 (Below w.heap.size w w'))
  case atStart => exact ⟨((⟨#[]⟩ : ByteArray)), (0), (by first | rfl | (simp; done) | (simp [*]; done) | (simp [bne]; done)), (by first | rfl | (simp; done) | (simp [*]; done) | (simp [bne]; done)), H', ⟨Nat.le_refl _⟩, ⟨by repeat (first | (with_reducible first | exact HB.out | apply below_alloc | apply pw_below_drewN | apply below_drew1) | exact HB.out)⟩⟩
  case round =>
    clear H'
    try clear c1
    obtain ⟨x3_1, x4_1, rfl, rfl, HA, HK1, HB⟩ := hrel
    cases gk with
    | zero => exact absurd HA.out (by simp [bobbinetkeep_words.l0])
    | succ k1 =>
      have H := HA.out
      clear HA
      simp only [bobbinetkeep_words.l0] at H
      by_cases c2 : x4_1 < (l0.length : Int)
      · rw [if_pos c2] at H
        have c2b0 : decide (x4_1 < (l0.length : Int)) = true := decide_eq_true c2
        clear c2
        by_cases c3 : 0 ≤ x4_1
        · rw [if_pos c3] at H
          have c3b0 : decide (0 ≤ x4_1) = true := decide_eq_true c3
          clear c3
          replace H := Option.bind_eq_some_iff.mp H
          obtain ⟨t275, A40, H⟩ := H
          replace H : (if ((rd_T49 l0 x4_1).f2).size + t275.size ≤ 9223372036854775807 then (if x3_1.size + (((rd_T49 l0 x4_1).f2) ++ t275).size ≤ 9223372036854775807 then (bobbinetkeep_words.l0 k1 l0 (x3_1 ++ (((rd_T49 l0 x4_1).f2) ++ t275)) (wrap64 (x4_1 + 1))) else (none)) else (none)) = some r := H
          have A4 := Aside0.mk A40
          clear A40
          by_cases c5 : ((rd_T49 l0 x4_1).f2).size + t275.size ≤ 9223372036854775807
          · rw [if_pos c5] at H
            have c5b0 := eq_true c5
            have c5b1 : decide (((rd_T49 l0 x4_1).f2).size + t275.size ≤ 9223372036854775807) = true := decide_eq_true c5
            try have c5b2 : (9223372036854775807 < ((rd_T49 l0 x4_1).f2).size + t275.size) = False := eq_false (Nat.not_lt.2 c5)
            by_cases c6 : x3_1.size + (((rd_T49 l0 x4_1).f2) ++ t275).size ≤ 9223372036854775807
            · rw [if_pos c6] at H
              have c6b0 := eq_true c6
              have c6b1 : decide (x3_1.size + (((rd_T49 l0 x4_1).f2) ++ t275).size ≤ 9223372036854775807) = true := decide_eq_true c6
              try have c6b2 : (9223372036854775807 < x3_1.size + (((rd_T49 l0 x4_1).f2) ++ t275).size) = False := eq_false (Nat.not_lt.2 c6)
              try (have c6b3 := c6b2; simp only [ByteArray.size_append] at c6b3)
              have H' := Aside0.mk H
              clear H
              try go_wp2
              have n0_ := Aside0.mk (below_drew1 HB.out)
              clear HB
              have HB := n0_
              clear n0_
              have p273 : 0 ≤ (x4_1 : Int) := of_decide_eq_true (by first | (with_reducible assumption) | assumption)
              have q273 : x4_1 < (l0.length : Int) := of_decide_eq_true (by first | (with_reducible assumption) | assumption)
              obtain ⟨ad273, A273_1, c273_1, A273_3, c273_3, e273, hx273_0, hx273_1, hx273_2, hx273_3, hl273_1, hi273_1, hl273_3, hi273_3⟩ := at_T49 HR0.out x4_1 p273 q273
              have hw273_3 := hx273_3
              have hw273_2 := hx273_2
              have hw273_1 := hx273_1
              have hw273_0 := hx273_0
              cases e273
              replace hx273_0 := (HB.out.cell (World.block_lt_of_cell? w _ hx273_0)).trans hx273_0
              replace hx273_1 := (HB.out.cell (World.block_lt_of_cell? w _ hx273_1)).trans hx273_1
              replace hx273_2 := (HB.out.cell (World.block_lt_of_cell? w _ hx273_2)).trans hx273_2
              replace hx273_3 := (HB.out.cell (World.block_lt_of_cell? w _ hx273_3)).trans hx273_3
              have HR273_1 := Aside0.mk hi273_1
              have HC273_1 := Aside0.mk hl273_1
              clear hi273_1 hl273_1
              have HR273_3 := Aside0.mk hi273_3
              have HC273_3 := Aside0.mk hl273_3
              clear hi273_3 hl273_3
              replace p273 := eq_true p273
              replace q273 := eq_true q273
              have p274 : 0 ≤ (x4_1 : Int) := of_decide_eq_true (by first | (with_reducible assumption) | assumption)
              have q274 : x4_1 < (l0.length : Int) := of_decide_eq_true (by first | (with_reducible assumption) | assumption)
              obtain ⟨ad274, A274_1, c274_1, A274_3, c274_3, e274, hx274_0, hx274_1, hx274_2, hx274_3, hl274_1, hi274_1, hl274_3, hi274_3⟩ := at_T49 HR0.out x4_1 p274 q274
              have hw274_3 := hx274_3
              have hw274_2 := hx274_2
              have hw274_1 := hx274_1
              have hw274_0 := hx274_0
              obtain rfl : ad273 = ad274 := (by injection e274)
              replace hx274_0 := (HB.out.cell (World.block_lt_of_cell? w _ hx274_0)).trans hx274_0
              replace hx274_1 := (HB.out.cell (World.block_lt_of_cell? w _ hx274_1)).trans hx274_1
              replace hx274_2 := (HB.out.cell (World.block_lt_of_cell? w _ hx274_2)).trans hx274_2
              replace hx274_3 := (HB.out.cell (World.block_lt_of_cell? w _ hx274_3)).trans hx274_3
              have HR274_1 := Aside0.mk hi274_1
              have HC274_1 := Aside0.mk hl274_1
              clear hi274_1 hl274_1
              have HR274_3 := Aside0.mk hi274_3
              have HC274_3 := Aside0.mk hl274_3
              clear hi274_3 hl274_3
              replace p274 := eq_true p274
              replace q274 := eq_true q274
              have ea_ := Option.some.inj (hx273_1.symm.trans hx274_1)
              injection ea_ with ea_ en_ ec_
              subst ea_
              subst ec_
              clear en_
              have ea_ := Option.some.inj (hx273_3.symm.trans hx274_3)
              injection ea_ with ea_ en_ ec_
              subst ea_
              subst ec_
              clear en_
              refine start_ (n := 15) (S := fun w' => w'.cell? (ad273.add ((x4_1).toNat * 4)) = some (.string ((rd_T49 l0 x4_1).f0)) ∧ w'.cell? ⟨(ad273.add ((x4_1).toNat * 4)).block, (ad273.add ((x4_1).toNat * 4)).off + 1, none⟩ = some (.slice A273_1 ((rd_T49 l0 x4_1).f1).length c273_1) ∧ w'.cell? ⟨(ad273.add ((x4_1).toNat * 4)).block, (ad273.add ((x4_1).toNat * 4)).off + 2, none⟩ = some (.string ((rd_T49 l0 x4_1).f2)) ∧ w'.cell? ⟨(ad273.add ((x4_1).toNat * 4)).block, (ad273.add ((x4_1).toNat * 4)).off + 3, none⟩ = some (.slice A273_3 ((rd_T49 l0 x4_1).f3).length c273_3) ∧ w'.cell? (ad273.add ((x4_1).toNat * 4)) = some (.string ((rd_T49 l0 x4_1).f0)) ∧ w'.cell? ⟨(ad273.add ((x4_1).toNat * 4)).block, (ad273.add ((x4_1).toNat * 4)).off + 1, none⟩ = some (.slice A273_1 ((rd_T49 l0 x4_1).f1).length c273_1) ∧ w'.cell? ⟨(ad273.add ((x4_1).toNat * 4)).block, (ad273.add ((x4_1).toNat * 4)).off + 2, none⟩ = some (.string ((rd_T49 l0 x4_1).f2)) ∧ w'.cell? ⟨(ad273.add ((x4_1).toNat * 4)).block, (ad273.add ((x4_1).toNat * 4)).off + 3, none⟩ = some (.slice A273_3 ((rd_T49 l0 x4_1).f3).length c273_3)) (ds := []) #[false, false, false, false, false, false, false, false, false, false, false, false, false, false, false] (by kernel_rfl) rfl rfl ⟨((HB.out.cell (World.block_lt_of_cell? w _ hw273_0)).trans hw273_0), ((HB.out.cell (World.block_lt_of_cell? w _ hw273_1)).trans hw273_1), ((HB.out.cell (World.block_lt_of_cell? w _ hw273_2)).trans hw273_2), ((HB.out.cell (World.block_lt_of_cell? w _ hw273_3)).trans hw273_3), ((HB.out.cell (World.block_lt_of_cell? w _ hw274_0)).trans hw274_0), ((HB.out.cell (World.block_lt_of_cell? w _ hw274_1)).trans hw274_1), ((HB.out.cell (World.block_lt_of_cell? w _ hw274_2)).trans hw274_2), ((HB.out.cell (World.block_lt_of_cell? w _ hw274_3)).trans hw274_3)⟩ (fun hHeld => ?_); refine with_tabW bobbinetkeep_words.tab5 bobbinetkeep_words.bits5 (fun HT_ HW_ => ?_)
              generalize wr.drew = w7 at HB HR273_1 HR273_3 HR274_1 HR274_3 hx273_0 hx273_1 hx273_2 hx273_3 hx274_0 hx274_1 hx274_2 hx274_3 hHeld ⊢
              refine pure_ (i := 0) (N := some 11) (v := ?_) (a' := ?_) #[true, false, false, false, false, false, false, false, false, false, false, false, false, false, false] rfl rfl (any_of HT_.out (by kernel_rfl)) (fun _ _ _ h => h) (Or.inl ⟨by rfl, ?_⟩) ?_ ?_
              rotate_left
              · intro w'
                go_simp
                with_reducible rfl
              rotate_left
              · simp only [Act.put, List.setIfInBounds_toArray, List.set_cons_zero, List.set_cons_succ, i64_w, i32_w]
                rfl
              refine pure_ (i := 1) (N := some 12) (v := ?_) (a' := ?_) #[true, true, false, false, false, false, false, false, false, false, false, false, false, false, false] rfl rfl (any_of HT_.out (by kernel_rfl)) (fun _ _ _ h => h) (Or.inl ⟨by rfl, ?_⟩) ?_ ?_
              rotate_left
              · intro w'
                go_simp
                with_reducible rfl
              rotate_left
              · simp only [Act.put, List.setIfInBounds_toArray, List.set_cons_zero, List.set_cons_succ, i64_w, i32_w]
                rfl
              refine pure_ (i := 2) (N := some 13) (v := ?_) (a' := ?_) #[true, true, true, false, false, false, false, false, false, false, false, false, false, false, false] rfl rfl (any_of HT_.out (by kernel_rfl)) (fun _ _ _ h => h) (Or.inl ⟨by rfl, ?_⟩) ?_ ?_
              rotate_left
              · intro w'
                go_simp
                with_reducible rfl
              rotate_left
              · simp only [Act.put, List.setIfInBounds_toArray, List.set_cons_zero, List.set_cons_succ, i64_w, i32_w]
                rfl
              refine pure_ (i := 3) (N := some 14) (v := ?_) (a' := ?_) #[true, true, true, true, false, false, false, false, false, false, false, false, false, false, false] rfl rfl (any_of HT_.out (by kernel_rfl)) (fun _ _ _ h => h) (Or.inl ⟨by rfl, ?_⟩) ?_ ?_
              rotate_left
              · intro w'
                go_simp
                with_reducible rfl
              rotate_left
              · simp only [Act.put, List.setIfInBounds_toArray, List.set_cons_zero, List.set_cons_succ, i64_w, i32_w]
                rfl
              refine pure_ (i := 4) (N := some 15) (v := ?_) (a' := ?_) #[true, true, true, true, true, false, false, false, false, false, false, false, false, false, false] rfl rfl (any_of HT_.out (by kernel_rfl)) (fun _ _ _ h => h) (Or.inl ⟨by rfl, ?_⟩) ?_ ?_
              rotate_left
              · intro w'
                go_simp
                with_reducible rfl
              rotate_left
              · simp only [Act.put, List.setIfInBounds_toArray, List.set_cons_zero, List.set_cons_succ, i64_w, i32_w]
                rfl
              refine pure_ (i := 6) (N := some 17) (v := ?_) (a' := ?_) #[true, true, true, true, true, false, true, false, false, false, false, false, false, false, false] rfl rfl (any_of HT_.out (by kernel_rfl)) (fun _ _ _ h => h) (Or.inl ⟨by rfl, ?_⟩) ?_ ?_
              rotate_left
              · intro w'
                go_simp
                with_reducible rfl
              rotate_left
              · simp only [Act.put, List.setIfInBounds_toArray, List.set_cons_zero, List.set_cons_succ, i64_w, i32_w]
                rfl
              refine pure_ (i := 7) (N := some 18) (v := ?_) (a' := ?_) #[true, true, true, true, true, false, true, true, false, false, false, false, false, false, false] rfl rfl (any_of HT_.out (by kernel_rfl)) (fun _ _ _ h => h) (Or.inl ⟨by rfl, ?_⟩) ?_ ?_
              rotate_left
              · intro w'
                go_simp
                with_reducible rfl
              rotate_left
              · simp only [Act.put, List.setIfInBounds_toArray, List.set_cons_zero, List.set_cons_succ, i64_w, i32_w]
                rfl
              refine pure_ (i := 8) (N := some 19) (v := ?_) (a' := ?_) #[true, true, true, true, true, false, true, true, true, false, false, false, false, false, false] rfl rfl (any_of HT_.out (by kernel_rfl)) (fun _ _ _ h => h) (Or.inl ⟨by rfl, ?_⟩) ?_ ?_
              rotate_left
              · intro w'
                go_simp
                with_reducible rfl
              rotate_left
              · simp only [Act.put, List.setIfInBounds_toArray, List.set_cons_zero, List.set_cons_succ, i64_w, i32_w]
                rfl
              refine pure_ (i := 9) (N := some 20) (v := ?_) (a' := ?_) #[true, true, true, true, true, false, true, true, true, true, false, false, false, false, false] rfl rfl (any_of HT_.out (by kernel_rfl)) (fun _ _ _ h => h) (Or.inl ⟨by rfl, ?_⟩) ?_ ?_
              rotate_left
              · intro w'
                go_simp
                with_reducible rfl
              rotate_left
              · simp only [Act.put, List.setIfInBounds_toArray, List.set_cons_zero, List.set_cons_succ, i64_w, i32_w]
                rfl
              refine take_ (i := 5) (N := some 16) (v := ?_) (a' := ?_) #[true, true, true, true, true, true, true, true, true, true, false, false, false, false, false] rfl rfl (take_ofW HT_.out HW_.out (by kernel_rfl)) (fun _ _ _ h => h) (Or.inl ⟨by rfl, ?_⟩) hHeld ?_ ?_
              rotate_left
              · rintro w' ⟨s0, s1, s2, s3, s4, s5, s6, s7⟩
                go_simp
                with_reducible rfl
              rotate_left
              · simp only [Act.put, List.setIfInBounds_toArray, List.set_cons_zero, List.set_cons_succ, i64_w, i32_w]
                rfl
              refine take_ (i := 10) (N := some 21) (v := ?_) (a' := ?_) #[true, true, true, true, true, true, true, true, true, true, true, false, false, false, false] rfl rfl (take_ofW HT_.out HW_.out (by kernel_rfl)) (fun _ _ _ h => h) (Or.inl ⟨by rfl, ?_⟩) hHeld ?_ ?_
              rotate_left
              · rintro w' ⟨s0, s1, s2, s3, s4, s5, s6, s7⟩
                go_simp
                with_reducible rfl
              rotate_left
              · simp only [Act.put, List.setIfInBounds_toArray, List.set_cons_zero, List.set_cons_succ, i64_w, i32_w]
                rfl
              refine one_ (i := 11) (N := some 22) #[true, true, true, true, true, true, true, true, true, true, true, true, false, false, false] rfl rfl (one_of HT_.out (by kernel_rfl)) (by decide) (fun K hK => ?_)
              refine goes_ Tryd.func16 (by kernel_rfl) rfl #[.slice A273_3 ((rd_T49 l0 x4_1).f3).length c273_3] (by rfl) rfl rfl (by (try simp only [List.map_toArray, List.map_cons, List.map_nil]); first | done | rfl | (simp only [List.length_drop, List.length_take]; rfl)) ?_
              with_reducible refine (ih k1 (by have := HK1.out; omega) _ _ ((rd_T49 l0 x4_1).f3) t275 _ ?side1 ?side2 A4.out).mono ?_
              (case side1 => repeat (first | exact (Kd.C_below HR274_3.out HB.out) | (with_reducible refine Kd.C_alloc ?_ _) | (with_reducible refine Kd.C_drewN ?_ _) | (with_reducible refine Kd.C_drew ?_)))
              (case side2 => exact HC274_3.out)
              rintro e w8 ⟨rfl, hb⟩
              refine ⟨_, rfl, ?_⟩
              have n0_ := Aside0.mk (below_step (by repeat (first | (with_reducible first | exact HB.out | apply below_alloc | apply pw_below_drewN | apply below_drew1) | exact HB.out)) hb)
              clear HB
              have HB := n0_
              clear n0_
              (try clear hb)
              (try clear hb2)
              (try clear hk)
              (try clear hi)
              refine hK.out _ _ ⟨((HB.out.cell (World.block_lt_of_cell? w _ hw273_0)).trans hw273_0), ((HB.out.cell (World.block_lt_of_cell? w _ hw273_1)).trans hw273_1), ((HB.out.cell (World.block_lt_of_cell? w _ hw273_2)).trans hw273_2), ((HB.out.cell (World.block_lt_of_cell? w _ hw273_3)).trans hw273_3), ((HB.out.cell (World.block_lt_of_cell? w _ hw274_0)).trans hw274_0), ((HB.out.cell (World.block_lt_of_cell? w _ hw274_1)).trans hw274_1), ((HB.out.cell (World.block_lt_of_cell? w _ hw274_2)).trans hw274_2), ((HB.out.cell (World.block_lt_of_cell? w _ hw274_3)).trans hw274_3)⟩ (fun hHeld => ?_)
              clear hK K
              refine norm_ (a' := ?_) ?_ ?_
              rotate_left
              · show Act.put _ (some 22) _ = _
                simp only [Act.put, List.setIfInBounds_toArray, List.set_cons_zero, List.set_cons_succ, i64_w, i32_w]
                rfl
              refine pure_ (i := 12) (N := some 23) (v := ?_) (a' := ?_) #[true, true, true, true, true, true, true, true, true, true, true, true, true, false, false] rfl rfl (any_of HT_.out (by kernel_rfl)) (fun _ _ _ h => h) (Or.inl ⟨by rfl, ?_⟩) ?_ ?_
              rotate_left
              · intro w'
                go_simp
                with_reducible rfl
              rotate_left
              · simp only [Act.put, List.setIfInBounds_toArray, List.set_cons_zero, List.set_cons_succ, i64_w, i32_w]
                rfl
              refine pure_ (i := 13) (N := some 24) (v := ?_) (a' := ?_) #[true, true, true, true, true, true, true, true, true, true, true, true, true, true, false] rfl rfl (any_of HT_.out (by kernel_rfl)) (fun _ _ _ h => h) (Or.inl ⟨by rfl, ?_⟩) ?_ ?_
              rotate_left
              · intro w'
                go_simp
                with_reducible rfl
              rotate_left
              · simp only [Act.put, List.setIfInBounds_toArray, List.set_cons_zero, List.set_cons_succ, i64_w, i32_w]
                rfl
              refine pure_ (i := 14) (N := some 3) (v := ?_) (a' := ?_) #[true, true, true, true, true, true, true, true, true, true, true, true, true, true, true] rfl rfl (any_of HT_.out (by kernel_rfl)) (fun _ _ _ h => h) (Or.inl ⟨by rfl, ?_⟩) ?_ ?_
              rotate_left
              · intro w'
                go_simp
                with_reducible rfl
              rotate_left
              · simp only [Act.put, List.setIfInBounds_toArray, List.set_cons_zero, List.set_cons_succ, i64_w, i32_w]
                rfl
              refine done_ (done_of HT_.out (by kernel_rfl)) ?_
              try go_wp2
              go_roundg k1
              case measure => have := HK1.out; omega
              case rel => exact ⟨(x3_1 ++ (((rd_T49 l0 x4_1).f2) ++ t275)), (wrap64 (x4_1 + 1)), (by first | rfl | (simp; done) | (simp [*]; done) | (simp [bne]; done)), (by first | rfl | (simp; done) | (simp [*]; done) | (simp [bne]; done)), H', ⟨by have := HK1.out; omega⟩, ⟨by repeat (first | (with_reducible first | exact HB.out | apply below_alloc | apply pw_below_drewN | apply below_drew1) | exact HB.out)⟩⟩
            · rw [if_neg c6] at H
              exact absurd H (by simp)
          · rw [if_neg c5] at H
            exact absurd H (by simp)
        · rw [if_neg c3] at H
          exact absurd H (by simp)
      · rw [if_neg c2] at H
        have c2b0 : decide (x4_1 < (l0.length : Int)) = false := decide_eq_false c2
        clear c2
        obtain rfl := Option.some.inj H
        go_wp2
        go_ret
        exact ⟨by first | rfl | (simp [errW_none, errW_some] <;> rfl) | (simp [*, errW_none, errW_some] <;> rfl), by repeat (first | (with_reducible first | exact HB.out | apply below_alloc | apply pw_below_drewN | apply below_drew1) | exact HB.out)⟩
end Go.Proofs.YtjmhihadgpdiaaaDoor.X
end
section
namespace Go.Proofs.YtjmhihadgpdiaaaDoor.X
open Go.RowKit Go.Proofs.YtjmhihadgpdiaaaDoorW.PrintWords Go.Proofs.YtjmhihadgpdiaaaDoorW.PrintLast Go.Proofs.YtjmhihadgpdiaaaDoorW.PrintMore
attribute [local go_sem] max2_int min2_int max_two min_two max_three min_three max_four min_four   -- for this text's walks alone
set_option linter.unusedVariables false
set_option linter.unusedSimpArgs false
def bobbinetkeep_MarksBack.l0 : Nat → List (S40) → List (S40) → Int → List (S40) → Int → List (S49) → Int → List (S40) → Int → ByteArray → Int → Option (Bool)
 | 0, _, _, _, _, _, _, _, _, _, _, _ => none
 | k + 1, x5, x7, x8, x9, x10, x11, x12, x13, x14, x15, x16 => if x16 < (x5.length : Int) then (if 0 ≤ x16 then (if x15.size + ((rd_T40 x5 x16).f0).size ≤ 9223372036854775807 then (bobbinetkeep_MarksBack.l0 k x5 x7 x8 x9 x10 x11 x12 x13 x14 (x15 ++ ((rd_T40 x5 x16).f0)) (wrap64 (x16 + 1))) else (none)) else (none)) else (if x8 = 0 then (if x10 = 0 then (if x12 = 0 then (if x14 = 0 then ((bobbinetkeep_marksSure.f k).bind fun t308 => (if t308 = true then ((bobbinetkeep_sameRuns.f k x7 x9).bind fun t309 => (if t309 = true then ((bobbinetkeep_sameRuns.f k x7 x13).bind fun t310 => (if t310 = true then ((bobbinetkeep_words.f k x11).bind fun t311 => (some (t311.toList == x15.toList))) else (none))) else (none))) else (none))) else (none)) else (none)) else (none)) else (none))
def bobbinetkeep_MarksBack.f (k : Nat) (l0 : List Int) (a1 : Int) : Option (Bool) := (bobbinetkeep_Runs.f k l0 20).bind fun t276 => ((bobbinetkeep_markOrder.f a1).bind fun t279 => ((bobbinetkeep_copiedRuns.f k t276).bind fun t282 => ((marks_Norm.f k t279 t282).bind fun bt285 => ((bobbinetkeep_copiedRuns.f k bt285.1).bind fun t289 => ((marks_Norm.f k t279 t289).bind fun bt292 => ((bobbinetkeep_copiedRuns.f k t276).bind fun t296 => ((marks_Nest.f k t279 t296).bind fun bt299 => ((marks_Flat.f k t279 bt299.1).bind fun bt303 => (bobbinetkeep_MarksBack.l0 k t276 bt285.1 bt285.2 bt292.1 bt292.2 bt299.1 bt299.2 bt303.1 bt303.2 (⟨#[]⟩ : ByteArray) 0)))))))))
set_option maxHeartbeats 8000000 in
set_option maxRecDepth 100000 in
theorem bobbinetkeep_MarksBack.calls (k : Nat) (A0 : Option Addr) (c0 : Nat) (l0 : List Int) (a1 : Int) (r : Bool) (w : World) (hr0 : Kd.C (Kd.int .i64) w A0 l0.length l0) (hc0 : l0.length ≤ c0) (hG_ : Glob w) (h : bobbinetkeep_MarksBack.f k l0 a1 = some r) :
  Calls Tryd.prog 4 #[.slice A0 l0.length c0, .int .i64 a1] w fun e w' => e = .returned (.bool r) ∧ Below w.heap.size w w' := by
 have HG_ := Aside0.mk hG_
 clear hG_
 have HR0 := Aside0.mk hr0
 have HC0 := Aside0.mk hc0
 clear hr0 hc0
 have HB := Aside0.mk (Below.refl w.heap.size w)
 have H : ((bobbinetkeep_Runs.f k l0 20).bind fun t276 => ((bobbinetkeep_markOrder.f a1).bind fun t279 => ((bobbinetkeep_copiedRuns.f k t276).bind fun t282 => ((marks_Norm.f k t279 t282).bind fun bt285 => ((bobbinetkeep_copiedRuns.f k bt285.1).bind fun t289 => ((marks_Norm.f k t279 t289).bind fun bt292 => ((bobbinetkeep_copiedRuns.f k t276).bind fun t296 => ((marks_Nest.f k t279 t296).bind fun bt299 => ((marks_Flat.f k t279 bt299.1).bind fun bt303 => (bobbinetkeep_MarksBack.l0 k t276 bt285.1 bt285.2 bt292.1 bt292.2 bt299.1 bt299.2 bt303.1 bt303.2 (⟨#[]⟩ : ByteArray) 0)))))))))) = some r := h
 clear h
 replace H := Option.bind_eq_some_iff.mp H
 obtain ⟨t276, A30, H⟩ := H
 replace H : ((bobbinetkeep_markOrder.f a1).bind fun t279 => ((bobbinetkeep_copiedRuns.f k t276).bind fun t282 => ((marks_Norm.f k t279 t282).bind fun bt285 => ((bobbinetkeep_copiedRuns.f k bt285.1).bind fun t289 => ((marks_Norm.f k t279 t289).bind fun bt292 => ((bobbinetkeep_copiedRuns.f k t276).bind fun t296 => ((marks_Nest.f k t279 t296).bind fun bt299 => ((marks_Flat.f k t279 bt299.1).bind fun bt303 => (bobbinetkeep_MarksBack.l0 k t276 bt285.1 bt285.2 bt292.1 bt292.2 bt299.1 bt299.2 bt303.1 bt303.2 (⟨#[]⟩ : ByteArray) 0))))))))) = some r := H
 have A3 := Aside0.mk A30
 clear A30
 replace H := Option.bind_eq_some_iff.mp H
 obtain ⟨t279, A40, H⟩ := H
 replace H : ((bobbinetkeep_copiedRuns.f k t276).bind fun t282 => ((marks_Norm.f k t279 t282).bind fun bt285 => ((bobbinetkeep_copiedRuns.f k bt285.1).bind fun t289 => ((marks_Norm.f k t279 t289).bind fun bt292 => ((bobbinetkeep_copiedRuns.f k t276).bind fun t296 => ((marks_Nest.f k t279 t296).bind fun bt299 => ((marks_Flat.f k t279 bt299.1).bind fun bt303 => (bobbinetkeep_MarksBack.l0 k t276 bt285.1 bt285.2 bt292.1 bt292.2 bt299.1 bt299.2 bt303.1 bt303.2 (⟨#[]⟩ : ByteArray) 0)))))))) = some r := H
 have A4 := Aside0.mk A40
 clear A40
 replace H := Option.bind_eq_some_iff.mp H
 obtain ⟨t282, A50, H⟩ := H
 replace H : ((marks_Norm.f k t279 t282).bind fun bt285 => ((bobbinetkeep_copiedRuns.f k bt285.1).bind fun t289 => ((marks_Norm.f k t279 t289).bind fun bt292 => ((bobbinetkeep_copiedRuns.f k t276).bind fun t296 => ((marks_Nest.f k t279 t296).bind fun bt299 => ((marks_Flat.f k t279 bt299.1).bind fun bt303 => (bobbinetkeep_MarksBack.l0 k t276 bt285.1 bt285.2 bt292.1 bt292.2 bt299.1 bt299.2 bt303.1 bt303.2 (⟨#[]⟩ : ByteArray) 0))))))) = some r := H
 have A5 := Aside0.mk A50
 clear A50
 replace H := Option.bind_eq_some_iff.mp H
 obtain ⟨⟨t285, t286⟩, A60, H⟩ := H
 replace H : ((bobbinetkeep_copiedRuns.f k t285).bind fun t289 => ((marks_Norm.f k t279 t289).bind fun bt292 => ((bobbinetkeep_copiedRuns.f k t276).bind fun t296 => ((marks_Nest.f k t279 t296).bind fun bt299 => ((marks_Flat.f k t279 bt299.1).bind fun bt303 => (bobbinetkeep_MarksBack.l0 k t276 t285 t286 bt292.1 bt292.2 bt299.1 bt299.2 bt303.1 bt303.2 (⟨#[]⟩ : ByteArray) 0)))))) = some r := H
 have A6 := Aside0.mk A60
 clear A60
 replace H := Option.bind_eq_some_iff.mp H
 obtain ⟨t289, A70, H⟩ := H
 replace H : ((marks_Norm.f k t279 t289).bind fun bt292 => ((bobbinetkeep_copiedRuns.f k t276).bind fun t296 => ((marks_Nest.f k t279 t296).bind fun bt299 => ((marks_Flat.f k t279 bt299.1).bind fun bt303 => (bobbinetkeep_MarksBack.l0 k t276 t285 t286 bt292.1 bt292.2 bt299.1 bt299.2 bt303.1 bt303.2 (⟨#[]⟩ : ByteArray) 0))))) = some r := H
 have A7 := Aside0.mk A70
 clear A70
 replace H := Option.bind_eq_some_iff.mp H
 obtain ⟨⟨t292, t293⟩, A80, H⟩ := H
 replace H : ((bobbinetkeep_copiedRuns.f k t276).bind fun t296 => ((marks_Nest.f k t279 t296).bind fun bt299 => ((marks_Flat.f k t279 bt299.1).bind fun bt303 => (bobbinetkeep_MarksBack.l0 k t276 t285 t286 t292 t293 bt299.1 bt299.2 bt303.1 bt303.2 (⟨#[]⟩ : ByteArray) 0)))) = some r := H
 have A8 := Aside0.mk A80
 clear A80
 replace H := Option.bind_eq_some_iff.mp H
 obtain ⟨t296, A90, H⟩ := H
 replace H : ((marks_Nest.f k t279 t296).bind fun bt299 => ((marks_Flat.f k t279 bt299.1).bind fun bt303 => (bobbinetkeep_MarksBack.l0 k t276 t285 t286 t292 t293 bt299.1 bt299.2 bt303.1 bt303.2 (⟨#[]⟩ : ByteArray) 0))) = some r := H
 have A9 := Aside0.mk A90
 clear A90
 replace H := Option.bind_eq_some_iff.mp H
 obtain ⟨⟨t299, t300⟩, A100, H⟩ := H
 replace H : ((marks_Flat.f k t279 t299).bind fun bt303 => (bobbinetkeep_MarksBack.l0 k t276 t285 t286 t292 t293 t299 t300 bt303.1 bt303.2 (⟨#[]⟩ : ByteArray) 0)) = some r := H
 have A10 := Aside0.mk A100
 clear A100
 replace H := Option.bind_eq_some_iff.mp H
 obtain ⟨⟨t303, t304⟩, A110, H⟩ := H
 replace H : (bobbinetkeep_MarksBack.l0 k t276 t285 t286 t292 t293 t299 t300 t303 t304 (⟨#[]⟩ : ByteArray) 0) = some r := H
 have A11 := Aside0.mk A110
 clear A110
 have H' := Aside0.mk H
 clear H
 go_enter Tryd.func4, Tryd.ntmps4
 go_wp2_with (first | ((with_reducible refine gate_callee (f := 8) rfl ?_); refine goesL_ (some 18) rfl rfl Tryd.func8 (by kernel_rfl) rfl #[.slice A0 l0.length c0, .int .i64 20] rfl (by (try simp only [List.map_toArray, List.map_cons, List.map_nil]); first | done | rfl | (simp only [List.length_drop, List.length_take]; rfl)) ?_; (with_reducible refine (bobbinetkeep_Runs.calls k _ _ l0 20 t276 _ ?side1 ?side2 A3.out).mono ?_); (case side1 => repeat (first | exact HR0.out | (with_reducible refine Kd.C_alloc ?_ _) | (with_reducible refine Kd.C_drewN ?_ _) | (with_reducible refine Kd.C_drew ?_))); (case side2 => exact HC0.out); rintro e w12 ⟨v277, rfl, ho0, hb⟩; refine ⟨_, rfl, ?_⟩; have n0_ := Aside0.mk (Kd.S_lower ho0 (below_size (by repeat (first | (with_reducible first | exact HB.out | apply below_alloc | apply pw_below_drewN | apply below_drew1) | exact HB.out)))); have n1_ := Aside0.mk (below_step (by repeat (first | (with_reducible first | exact HB.out | apply below_alloc | apply pw_below_drewN | apply below_drew1) | exact HB.out)) hb); clear HB; have HO278 := n0_; have HB := n1_; clear n0_ n1_; (try clear hb); (try clear hb2); (try clear hk); (try clear hi); (try clear ho0)) | ((with_reducible refine gate_callee (f := 6) rfl ?_); refine goesL_ (some 20) rfl rfl Tryd.func6 (by kernel_rfl) rfl #[.int .i64 a1] rfl (by (try simp only [List.map_toArray, List.map_cons, List.map_nil]); first | done | rfl | (simp only [List.length_drop, List.length_take]; rfl)) ?_; (with_reducible refine (bobbinetkeep_markOrder.calls a1 t279 _ A4.out).mono ?_); rintro e w13 ⟨v280, rfl, ho0, hb⟩; refine ⟨_, rfl, ?_⟩; have n0_ := Aside0.mk (Kd.S_below (by (with_reducible repeat (first | apply Kd.S_alloc | apply Kd.S_drewN | apply Kd.S_drew)); exact HO278.out) hb); have n1_ := Aside0.mk (Kd.V_lower (Kd.V_mono (ok' := fun k_ => some k_ ≠ (v277 : Value).ownBlock) ho0 (fun k_ hk_ => (Kd.fresh' (Kd.S_lt (by (with_reducible repeat (first | apply Kd.S_alloc | apply Kd.S_drewN | apply Kd.S_drew)); exact HO278.out)) k_ hk_))) (below_size (by repeat (first | (with_reducible first | exact HB.out | apply below_alloc | apply pw_below_drewN | apply below_drew1) | exact HB.out)))); have n2_ := Aside0.mk (below_step (by repeat (first | (with_reducible first | exact HB.out | apply below_alloc | apply pw_below_drewN | apply below_drew1) | exact HB.out)) hb); clear HO278; clear HB; have HO278 := n0_; have HO281 := n1_; have HB := n2_; clear n0_ n1_ n2_; (try clear hb); (try clear hb2); (try clear hk); (try clear hi); (try clear ho0); obtain ⟨Ao14, co14, eo14⟩ := Kd.S_slice HO278.out; subst eo14) | ((with_reducible refine gate_callee (f := 13) rfl ?_); refine goesL_ (some 24) rfl rfl Tryd.func13 (by kernel_rfl) rfl #[.slice Ao14 t276.length co14] rfl (by (try simp only [List.map_toArray, List.map_cons, List.map_nil]); first | done | rfl | (simp only [List.length_drop, List.length_take]; rfl)) ?_; (with_reducible refine (bobbinetkeep_copiedRuns.calls k _ _ t276 t282 _ ?side1 ?side2 A5.out).mono ?_); (case side1 => repeat (first | exact (Kd.S_reads' HO278.out).2.2 | (with_reducible refine Kd.C_alloc ?_ _) | (with_reducible refine Kd.C_drewN ?_ _) | (with_reducible refine Kd.C_drew ?_))); (case side2 => exact (Kd.S_reads' HO278.out).2.1); rintro e w15 ⟨v283, rfl, ho0, hb⟩; refine ⟨_, rfl, ?_⟩; have n0_ := Aside0.mk (Kd.S_elder' (by (with_reducible repeat (first | apply Kd.S_alloc | apply Kd.S_drewN | apply Kd.S_drew)); exact HO278.out) (Kd.S_base ho0) hb); have n1_ := Aside0.mk (Kd.V_elder' (by (with_reducible repeat (first | apply Kd.V_alloc | apply Kd.V_drewN | apply Kd.V_drew)); exact HO281.out) (Kd.S_base ho0) hb); have n2_ := Aside0.mk (Kd.S_lower (Kd.S_new' ho0 (Kd.S_lt (by (with_reducible repeat (first | apply Kd.S_alloc | apply Kd.S_drewN | apply Kd.S_drew)); exact HO278.out))) (below_size (by repeat (first | (with_reducible first | exact HB.out | apply below_alloc | apply pw_below_drewN | apply below_drew1) | exact HB.out)))); have n3_ := Aside0.mk (below_step (by repeat (first | (with_reducible first | exact HB.out | apply below_alloc | apply pw_below_drewN | apply below_drew1) | exact HB.out)) hb); clear HO278; clear HO281; clear HB; have HO278 := n0_; have HO281 := n1_; have HO284 := n2_; have HB := n3_; clear n0_ n1_ n2_ n3_; (try clear hb); (try clear hb2); (try clear hk); (try clear hi); (try clear ho0); obtain ⟨Ao16, co16, eo16⟩ := Kd.V_slice HO281.out; subst eo16; obtain ⟨Ao17, co17, eo17⟩ := Kd.S_slice HO284.out; subst eo17) | ((with_reducible refine gate_callee (f := 12) rfl ?_); refine goesL_ (some 25) rfl rfl Tryd.func12 (by kernel_rfl) rfl #[.slice Ao16 t279.length co16, .slice Ao17 t282.length co17] rfl (by (try simp only [List.map_toArray, List.map_cons, List.map_nil]); first | done | rfl | (simp only [List.length_drop, List.length_take]; rfl)) ?_; (with_reducible refine (marks_Norm.calls k _ _ t279 _ _ t282 t285 t286 _ ?side1 ?side2 ?side3 ?side4 (Glob.below HG_.out (by repeat (first | (with_reducible first | exact HB.out | apply below_alloc | apply pw_below_drewN | apply below_drew1) | exact HB.out))) A6.out).mono ?_); (case side1 => repeat (first | exact (Kd.V_reads' HO281.out).2.2 | (with_reducible refine Kd.C_alloc ?_ _) | (with_reducible refine Kd.C_drewN ?_ _) | (with_reducible refine Kd.C_drew ?_))); (case side2 => exact (Kd.V_reads' HO281.out).2.1); (case side3 => repeat (first | exact (Kd.S_reads' HO284.out).2.2 | (with_reducible refine Kd.C_alloc ?_ _) | (with_reducible refine Kd.C_drewN ?_ _) | (with_reducible refine Kd.C_drew ?_))); (case side4 => exact (Kd.S_reads' HO284.out).2.1); rintro e w18 ⟨v287, rfl, ho0, hb⟩; refine ⟨_, rfl, ?_⟩; have n0_ := Aside0.mk (Kd.S_elder' (by (with_reducible repeat (first | apply Kd.S_alloc | apply Kd.S_drewN | apply Kd.S_drew)); exact HO278.out) (Kd.S_base ho0) hb); have n1_ := Aside0.mk (Kd.V_elder' (by (with_reducible repeat (first | apply Kd.V_alloc | apply Kd.V_drewN | apply Kd.V_drew)); exact HO281.out) (Kd.S_base ho0) hb); have n2_ := Aside0.mk (Kd.S_elder' (by (with_reducible repeat (first | apply Kd.S_alloc | apply Kd.S_drewN | apply Kd.S_drew)); exact HO284.out) (Kd.S_base ho0) hb); have n3_ := Aside0.mk (Kd.S_lower (Kd.S_new' (Kd.S_new' ho0 (Kd.S_lt (by (with_reducible repeat (first | apply Kd.S_alloc | apply Kd.S_drewN | apply Kd.S_drew)); exact HO278.out))) (Kd.S_lt (by (with_reducible repeat (first | apply Kd.S_alloc | apply Kd.S_drewN | apply Kd.S_drew)); exact HO284.out))) (below_size (by repeat (first | (with_reducible first | exact HB.out | apply below_alloc | apply pw_below_drewN | apply below_drew1) | exact HB.out)))); have n4_ := Aside0.mk (below_step (by repeat (first | (with_reducible first | exact HB.out | apply below_alloc | apply pw_below_drewN | apply below_drew1) | exact HB.out)) hb); clear HO278; clear HO281; clear HO284; clear HB; have HO278 := n0_; have HO281 := n1_; have HO284 := n2_; have HO288 := n3_; have HB := n4_; clear n0_ n1_ n2_ n3_ n4_; (try clear hb); (try clear hb2); (try clear hk); (try clear hi); (try clear ho0); obtain ⟨Ao19, co19, eo19⟩ := Kd.S_slice HO288.out; subst eo19) | ((with_reducible refine gate_callee (f := 13) rfl ?_); refine goesL_ (some 31) rfl rfl Tryd.func13 (by kernel_rfl) rfl #[.slice Ao19 t285.length co19] rfl (by (try simp only [List.map_toArray, List.map_cons, List.map_nil]); first | done | rfl | (simp only [List.length_drop, List.length_take]; rfl)) ?_; (with_reducible refine (bobbinetkeep_copiedRuns.calls k _ _ t285 t289 _ ?side1 ?side2 A7.out).mono ?_); (case side1 => repeat (first | exact (Kd.S_reads' HO288.out).2.2 | (with_reducible refine Kd.C_alloc ?_ _) | (with_reducible refine Kd.C_drewN ?_ _) | (with_reducible refine Kd.C_drew ?_))); (case side2 => exact (Kd.S_reads' HO288.out).2.1); rintro e w20 ⟨v290, rfl, ho0, hb⟩; refine ⟨_, rfl, ?_⟩; have n0_ := Aside0.mk (Kd.S_elder' (by (with_reducible repeat (first | apply Kd.S_alloc | apply Kd.S_drewN | apply Kd.S_drew)); exact HO278.out) (Kd.S_base ho0) hb); have n1_ := Aside0.mk (Kd.V_elder' (by (with_reducible repeat (first | apply Kd.V_alloc | apply Kd.V_drewN | apply Kd.V_drew)); exact HO281.out) (Kd.S_base ho0) hb); have n2_ := Aside0.mk (Kd.S_elder' (by (with_reducible repeat (first | apply Kd.S_alloc | apply Kd.S_drewN | apply Kd.S_drew)); exact HO284.out) (Kd.S_base ho0) hb); have n3_ := Aside0.mk (Kd.S_elder' (by (with_reducible repeat (first | apply Kd.S_alloc | apply Kd.S_drewN | apply Kd.S_drew)); exact HO288.out) (Kd.S_base ho0) hb); have n4_ := Aside0.mk (Kd.S_lower (Kd.S_new' (Kd.S_new' (Kd.S_new' ho0 (Kd.S_lt (by (with_reducible repeat (first | apply Kd.S_alloc | apply Kd.S_drewN | apply Kd.S_drew)); exact HO278.out))) (Kd.S_lt (by (with_reducible repeat (first | apply Kd.S_alloc | apply Kd.S_drewN | apply Kd.S_drew)); exact HO284.out))) (Kd.S_lt (by (with_reducible repeat (first | apply Kd.S_alloc | apply Kd.S_drewN | apply Kd.S_drew)); exact HO288.out))) (below_size (by repeat (first | (with_reducible first | exact HB.out | apply below_alloc | apply pw_below_drewN | apply below_drew1) | exact HB.out)))); have n5_ := Aside0.mk (below_step (by repeat (first | (with_reducible first | exact HB.out | apply below_alloc | apply pw_below_drewN | apply below_drew1) | exact HB.out)) hb); clear HO278; clear HO281; clear HO284; clear HO288; clear HB; have HO278 := n0_; have HO281 := n1_; have HO284 := n2_; have HO288 := n3_; have HO291 := n4_; have HB := n5_; clear n0_ n1_ n2_ n3_ n4_ n5_; (try clear hb); (try clear hb2); (try clear hk); (try clear hi); (try clear ho0); obtain ⟨Ao21, co21, eo21⟩ := Kd.S_slice HO291.out; subst eo21) | ((with_reducible refine gate_callee (f := 12) rfl ?_); refine goesL_ (some 32) rfl rfl Tryd.func12 (by kernel_rfl) rfl #[.slice Ao16 t279.length co16, .slice Ao21 t289.length co21] rfl (by (try simp only [List.map_toArray, List.map_cons, List.map_nil]); first | done | rfl | (simp only [List.length_drop, List.length_take]; rfl)) ?_; (with_reducible refine (marks_Norm.calls k _ _ t279 _ _ t289 t292 t293 _ ?side1 ?side2 ?side3 ?side4 (Glob.below HG_.out (by repeat (first | (with_reducible first | exact HB.out | apply below_alloc | apply pw_below_drewN | apply below_drew1) | exact HB.out))) A8.out).mono ?_); (case side1 => repeat (first | exact (Kd.V_reads' HO281.out).2.2 | (with_reducible refine Kd.C_alloc ?_ _) | (with_reducible refine Kd.C_drewN ?_ _) | (with_reducible refine Kd.C_drew ?_))); (case side2 => exact (Kd.V_reads' HO281.out).2.1); (case side3 => repeat (first | exact (Kd.S_reads' HO291.out).2.2 | (with_reducible refine Kd.C_alloc ?_ _) | (with_reducible refine Kd.C_drewN ?_ _) | (with_reducible refine Kd.C_drew ?_))); (case side4 => exact (Kd.S_reads' HO291.out).2.1); rintro e w22 ⟨v294, rfl, ho0, hb⟩; refine ⟨_, rfl, ?_⟩; have n0_ := Aside0.mk (Kd.S_elder' (by (with_reducible repeat (first | apply Kd.S_alloc | apply Kd.S_drewN | apply Kd.S_drew)); exact HO278.out) (Kd.S_base ho0) hb); have n1_ := Aside0.mk (Kd.V_elder' (by (with_reducible repeat (first | apply Kd.V_alloc | apply Kd.V_drewN | apply Kd.V_drew)); exact HO281.out) (Kd.S_base ho0) hb); have n2_ := Aside0.mk (Kd.S_elder' (by (with_reducible repeat (first | apply Kd.S_alloc | apply Kd.S_drewN | apply Kd.S_drew)); exact HO284.out) (Kd.S_base ho0) hb); have n3_ := Aside0.mk (Kd.S_elder' (by (with_reducible repeat (first | apply Kd.S_alloc | apply Kd.S_drewN | apply Kd.S_drew)); exact HO288.out) (Kd.S_base ho0) hb); have n4_ := Aside0.mk (Kd.S_elder' (by (with_reducible repeat (first | apply Kd.S_alloc | apply Kd.S_drewN | apply Kd.S_drew)); exact HO291.out) (Kd.S_base ho0) hb); have n5_ := Aside0.mk (Kd.S_lower (Kd.S_new' (Kd.S_new' (Kd.S_new' (Kd.S_new' ho0 (Kd.S_lt (by (with_reducible repeat (first | apply Kd.S_alloc | apply Kd.S_drewN | apply Kd.S_drew)); exact HO278.out))) (Kd.S_lt (by (with_reducible repeat (first | apply Kd.S_alloc | apply Kd.S_drewN | apply Kd.S_drew)); exact HO284.out))) (Kd.S_lt (by (with_reducible repeat (first | apply Kd.S_alloc | apply Kd.S_drewN | apply Kd.S_drew)); exact HO288.out))) (Kd.S_lt (by (with_reducible repeat (first | apply Kd.S_alloc | apply Kd.S_drewN | apply Kd.S_drew)); exact HO291.out))) (below_size (by repeat (first | (with_reducible first | exact HB.out | apply below_alloc | apply pw_below_drewN | apply below_drew1) | exact HB.out)))); have n6_ := Aside0.mk (below_step (by repeat (first | (with_reducible first | exact HB.out | apply below_alloc | apply pw_below_drewN | apply below_drew1) | exact HB.out)) hb); clear HO278; clear HO281; clear HO284; clear HO288; clear HO291; clear HB; have HO278 := n0_; have HO281 := n1_; have HO284 := n2_; have HO288 := n3_; have HO291 := n4_; have HO295 := n5_; have HB := n6_; clear n0_ n1_ n2_ n3_ n4_ n5_ n6_; (try clear hb); (try clear hb2); (try clear hk); (try clear hi); (try clear ho0)) | ((with_reducible refine gate_callee (f := 13) rfl ?_); refine goesL_ (some 38) rfl rfl Tryd.func13 (by kernel_rfl) rfl #[.slice Ao14 t276.length co14] rfl (by (try simp only [List.map_toArray, List.map_cons, List.map_nil]); first | done | rfl | (simp only [List.length_drop, List.length_take]; rfl)) ?_; (with_reducible refine (bobbinetkeep_copiedRuns.calls k _ _ t276 t296 _ ?side1 ?side2 A9.out).mono ?_); (case side1 => repeat (first | exact (Kd.S_reads' HO278.out).2.2 | (with_reducible refine Kd.C_alloc ?_ _) | (with_reducible refine Kd.C_drewN ?_ _) | (with_reducible refine Kd.C_drew ?_))); (case side2 => exact (Kd.S_reads' HO278.out).2.1); rintro e w23 ⟨v297, rfl, ho0, hb⟩; refine ⟨_, rfl, ?_⟩; have n0_ := Aside0.mk (Kd.S_elder' (by (with_reducible repeat (first | apply Kd.S_alloc | apply Kd.S_drewN | apply Kd.S_drew)); exact HO278.out) (Kd.S_base ho0) hb); have n1_ := Aside0.mk (Kd.V_elder' (by (with_reducible repeat (first | apply Kd.V_alloc | apply Kd.V_drewN | apply Kd.V_drew)); exact HO281.out) (Kd.S_base ho0) hb); have n2_ := Aside0.mk (Kd.S_elder' (by (with_reducible repeat (first | apply Kd.S_alloc | apply Kd.S_drewN | apply Kd.S_drew)); exact HO284.out) (Kd.S_base ho0) hb); have n3_ := Aside0.mk (Kd.S_elder' (by (with_reducible repeat (first | apply Kd.S_alloc | apply Kd.S_drewN | apply Kd.S_drew)); exact HO288.out) (Kd.S_base ho0) hb); have n4_ := Aside0.mk (Kd.S_elder' (by (with_reducible repeat (first | apply Kd.S_alloc | apply Kd.S_drewN | apply Kd.S_drew)); exact HO291.out) (Kd.S_base ho0) hb); have n5_ := Aside0.mk (Kd.S_elder' (by (with_reducible repeat (first | apply Kd.S_alloc | apply Kd.S_drewN | apply Kd.S_drew)); exact HO295.out) (Kd.S_base ho0) hb); have n6_ := Aside0.mk (Kd.S_lower (Kd.S_new' (Kd.S_new' (Kd.S_new' (Kd.S_new' (Kd.S_new' ho0 (Kd.S_lt (by (with_reducible repeat (first | apply Kd.S_alloc | apply Kd.S_drewN | apply Kd.S_drew)); exact HO278.out))) (Kd.S_lt (by (with_reducible repeat (first | apply Kd.S_alloc | apply Kd.S_drewN | apply Kd.S_drew)); exact HO284.out))) (Kd.S_lt (by (with_reducible repeat (first | apply Kd.S_alloc | apply Kd.S_drewN | apply Kd.S_drew)); exact HO288.out))) (Kd.S_lt (by (with_reducible repeat (first | apply Kd.S_alloc | apply Kd.S_drewN | apply Kd.S_drew)); exact HO291.out))) (Kd.S_lt (by (with_reducible repeat (first | apply Kd.S_alloc | apply Kd.S_drewN | apply Kd.S_drew)); exact HO295.out))) (below_size (by repeat (first | (with_reducible first | exact HB.out | apply below_alloc | apply pw_below_drewN | apply below_drew1) | exact HB.out)))); have n7_ := Aside0.mk (below_step (by repeat (first | (with_reducible first | exact HB.out | apply below_alloc | apply pw_below_drewN | apply below_drew1) | exact HB.out)) hb); clear HO278; clear HO281; clear HO284; clear HO288; clear HO291; clear HO295; clear HB; have HO278 := n0_; have HO281 := n1_; have HO284 := n2_; have HO288 := n3_; have HO291 := n4_; have HO295 := n5_; have HO298 := n6_; have HB := n7_; clear n0_ n1_ n2_ n3_ n4_ n5_ n6_ n7_; (try clear hb); (try clear hb2); (try clear hk); (try clear hi); (try clear ho0); obtain ⟨Ao24, co24, eo24⟩ := Kd.S_slice HO298.out; subst eo24) | ((with_reducible refine gate_callee (f := 7) rfl ?_); refine goesL_ (some 39) rfl rfl Tryd.func7 (by kernel_rfl) rfl #[.slice Ao16 t279.length co16, .slice Ao24 t296.length co24] rfl (by (try simp only [List.map_toArray, List.map_cons, List.map_nil]); first | done | rfl | (simp only [List.length_drop, List.length_take]; rfl)) ?_; (with_reducible refine (marks_Nest.calls k _ _ t279 _ _ t296 t299 t300 _ ?side1 ?side2 ?side3 ?side4 (Glob.below HG_.out (by repeat (first | (with_reducible first | exact HB.out | apply below_alloc | apply pw_below_drewN | apply below_drew1) | exact HB.out))) A10.out).mono ?_); (case side1 => repeat (first | exact (Kd.V_reads' HO281.out).2.2 | (with_reducible refine Kd.C_alloc ?_ _) | (with_reducible refine Kd.C_drewN ?_ _) | (with_reducible refine Kd.C_drew ?_))); (case side2 => exact (Kd.V_reads' HO281.out).2.1); (case side3 => repeat (first | exact (Kd.S_reads' HO298.out).2.2 | (with_reducible refine Kd.C_alloc ?_ _) | (with_reducible refine Kd.C_drewN ?_ _) | (with_reducible refine Kd.C_drew ?_))); (case side4 => exact (Kd.S_reads' HO298.out).2.1); rintro e w25 ⟨v301, rfl, ho0, hb⟩; refine ⟨_, rfl, ?_⟩; have n0_ := Aside0.mk (Kd.S_below (by (with_reducible repeat (first | apply Kd.S_alloc | apply Kd.S_drewN | apply Kd.S_drew)); exact HO278.out) hb); have n1_ := Aside0.mk (Kd.V_elder' (by (with_reducible repeat (first | apply Kd.V_alloc | apply Kd.V_drewN | apply Kd.V_drew)); exact HO281.out) (Kd.R_base ho0) hb); have n2_ := Aside0.mk (Kd.S_below (by (with_reducible repeat (first | apply Kd.S_alloc | apply Kd.S_drewN | apply Kd.S_drew)); exact HO284.out) hb); have n3_ := Aside0.mk (Kd.S_below (by (with_reducible repeat (first | apply Kd.S_alloc | apply Kd.S_drewN | apply Kd.S_drew)); exact HO288.out) hb); have n4_ := Aside0.mk (Kd.S_below (by (with_reducible repeat (first | apply Kd.S_alloc | apply Kd.S_drewN | apply Kd.S_drew)); exact HO291.out) hb); have n5_ := Aside0.mk (Kd.S_below (by (with_reducible repeat (first | apply Kd.S_alloc | apply Kd.S_drewN | apply Kd.S_drew)); exact HO295.out) hb); have n6_ := Aside0.mk (Kd.S_below (by (with_reducible repeat (first | apply Kd.S_alloc | apply Kd.S_drewN | apply Kd.S_drew)); exact HO298.out) hb); have n7_ := Aside0.mk (Kd.R_lower ho0 (below_size (by repeat (first | (with_reducible first | exact HB.out | apply below_alloc | apply pw_below_drewN | apply below_drew1) | exact HB.out)))); have n8_ := Aside0.mk (below_step (by repeat (first | (with_reducible first | exact HB.out | apply below_alloc | apply pw_below_drewN | apply below_drew1) | exact HB.out)) hb); clear HO278; clear HO281; clear HO284; clear HO288; clear HO291; clear HO295; clear HO298; clear HB; have HO278 := n0_; have HO281 := n1_; have HO284 := n2_; have HO288 := n3_; have HO291 := n4_; have HO295 := n5_; have HO298 := n6_; have HO302 := n7_; have HB := n8_; clear n0_ n1_ n2_ n3_ n4_ n5_ n6_ n7_ n8_; (try clear hb); (try clear hb2); (try clear hk); (try clear hi); (try clear ho0); obtain ⟨Ao26, co26, eo26⟩ := Kd.R_slice HO302.out; subst eo26) | ((with_reducible refine gate_callee (f := 14) rfl ?_); refine goesL_ (some 45) rfl rfl Tryd.func14 (by kernel_rfl) rfl #[.slice Ao16 t279.length co16, .slice Ao26 t299.length co26] rfl (by (try simp only [List.map_toArray, List.map_cons, List.map_nil]); first | done | rfl | (simp only [List.length_drop, List.length_take]; rfl)) ?_; (with_reducible refine (marks_Flat.calls k _ _ t279 _ _ t299 t303 t304 _ ?side1 ?side2 ?side3 ?side4 (Glob.below HG_.out (by repeat (first | (with_reducible first | exact HB.out | apply below_alloc | apply pw_below_drewN | apply below_drew1) | exact HB.out))) A11.out).mono ?_); (case side1 => repeat (first | exact (Kd.V_reads' HO281.out).2.2 | (with_reducible refine Kd.C_alloc ?_ _) | (with_reducible refine Kd.C_drewN ?_ _) | (with_reducible refine Kd.C_drew ?_))); (case side2 => exact (Kd.V_reads' HO281.out).2.1); (case side3 => repeat (first | exact (Kd.R_reads' HO302.out).2.2 | (with_reducible refine Kd.C_alloc ?_ _) | (with_reducible refine Kd.C_drewN ?_ _) | (with_reducible refine Kd.C_drew ?_))); (case side4 => exact (Kd.R_reads' HO302.out).2.1); rintro e w27 ⟨v305, rfl, ho0, hb⟩; refine ⟨_, rfl, ?_⟩; have n0_ := Aside0.mk (Kd.S_elder' (by (with_reducible repeat (first | apply Kd.S_alloc | apply Kd.S_drewN | apply Kd.S_drew)); exact HO278.out) (Kd.S_base ho0) hb); have n1_ := Aside0.mk (Kd.V_elder' (by (with_reducible repeat (first | apply Kd.V_alloc | apply Kd.V_drewN | apply Kd.V_drew)); exact HO281.out) (Kd.S_base ho0) hb); have n2_ := Aside0.mk (Kd.S_elder' (by (with_reducible repeat (first | apply Kd.S_alloc | apply Kd.S_drewN | apply Kd.S_drew)); exact HO284.out) (Kd.S_base ho0) hb); have n3_ := Aside0.mk (Kd.S_elder' (by (with_reducible repeat (first | apply Kd.S_alloc | apply Kd.S_drewN | apply Kd.S_drew)); exact HO288.out) (Kd.S_base ho0) hb); have n4_ := Aside0.mk (Kd.S_elder' (by (with_reducible repeat (first | apply Kd.S_alloc | apply Kd.S_drewN | apply Kd.S_drew)); exact HO291.out) (Kd.S_base ho0) hb); have n5_ := Aside0.mk (Kd.S_elder' (by (with_reducible repeat (first | apply Kd.S_alloc | apply Kd.S_drewN | apply Kd.S_drew)); exact HO295.out) (Kd.S_base ho0) hb); have n6_ := Aside0.mk (Kd.S_elder' (by (with_reducible repeat (first | apply Kd.S_alloc | apply Kd.S_drewN | apply Kd.S_drew)); exact HO298.out) (Kd.S_base ho0) hb); have n7_ := Aside0.mk (Kd.R_below (by (with_reducible repeat (first | apply Kd.R_alloc | apply Kd.R_drewN | apply Kd.R_drew)); exact HO302.out) hb); have n8_ := Aside0.mk (Kd.S_lower (Kd.S_new' (Kd.S_new' (Kd.S_new' (Kd.S_new' (Kd.S_new' (Kd.S_new' ho0 (Kd.S_lt (by (with_reducible repeat (first | apply Kd.S_alloc | apply Kd.S_drewN | apply Kd.S_drew)); exact HO278.out))) (Kd.S_lt (by (with_reducible repeat (first | apply Kd.S_alloc | apply Kd.S_drewN | apply Kd.S_drew)); exact HO284.out))) (Kd.S_lt (by (with_reducible repeat (first | apply Kd.S_alloc | apply Kd.S_drewN | apply Kd.S_drew)); exact HO288.out))) (Kd.S_lt (by (with_reducible repeat (first | apply Kd.S_alloc | apply Kd.S_drewN | apply Kd.S_drew)); exact HO291.out))) (Kd.S_lt (by (with_reducible repeat (first | apply Kd.S_alloc | apply Kd.S_drewN | apply Kd.S_drew)); exact HO295.out))) (Kd.S_lt (by (with_reducible repeat (first | apply Kd.S_alloc | apply Kd.S_drewN | apply Kd.S_drew)); exact HO298.out))) (below_size (by repeat (first | (with_reducible first | exact HB.out | apply below_alloc | apply pw_below_drewN | apply below_drew1) | exact HB.out)))); have n9_ := Aside0.mk (below_step (by repeat (first | (with_reducible first | exact HB.out | apply below_alloc | apply pw_below_drewN | apply below_drew1) | exact HB.out)) hb); clear HO278; clear HO281; clear HO284; clear HO288; clear HO291; clear HO295; clear HO298; clear HO302; clear HB; have HO278 := n0_; have HO281 := n1_; have HO284 := n2_; have HO288 := n3_; have HO291 := n4_; have HO295 := n5_; have HO298 := n6_; have HO302 := n7_; have HO306 := n8_; have HB := n9_; clear n0_ n1_ n2_ n3_ n4_ n5_ n6_ n7_ n8_ n9_; (try clear hb); (try clear hb2); (try clear hk); (try clear hi); (try clear ho0)))
 go_loopg [15, 16] k (fun kq v15 v16 w' => ∃ (x15_1 : ByteArray) (x16_1 : Int), v15 = .string x15_1 ∧ v16 = .int .i64 x16_1 ∧ Aside0 (bobbinetkeep_MarksBack.l0 kq t276 t285 t286 t292 t293 t299 t300 t303 t304 x15_1 x16_1 = some r) ∧ Aside0 (kq ≤ k) ∧ Aside0 (Kd.S k40 40 w' w.heap.size (fun k_ => some k_ ≠ ((.slice Ao19 t285.length co19) : Value).ownBlock ∧ some k_ ≠ (v294 : Value).ownBlock ∧ some k_ ≠ (v305 : Value).ownBlock) (.slice Ao14 t276.length co14) t276) ∧ Aside0 (Kd.S k40 40 w' w.heap.size (fun k_ => some k_ ≠ ((.slice Ao14 t276.length co14) : Value).ownBlock ∧ some k_ ≠ (v294 : Value).ownBlock ∧ some k_ ≠ (v305 : Value).ownBlock) (.slice Ao19 t285.length co19) t285) ∧ Aside0 (Kd.S k40 40 w' w.heap.size (fun k_ => some k_ ≠ ((.slice Ao14 t276.length co14) : Value).ownBlock ∧ some k_ ≠ ((.slice Ao19 t285.length co19) : Value).ownBlock ∧ some k_ ≠ (v305 : Value).ownBlock) v294 t292) ∧ Aside0 (Kd.R k49 49 w' w.heap.size (fun _ => True) (.slice Ao26 t299.length co26) t299) ∧ Aside0 (Kd.S k40 40 w' w.heap.size (fun k_ => some k_ ≠ ((.slice Ao14 t276.length co14) : Value).ownBlock ∧ some k_ ≠ ((.slice Ao19 t285.length co19) : Value).ownBlock ∧ some k_ ≠ (v294 : Value).ownBlock) v305 t303) ∧ Aside0 (Below w.heap.size w w'))
 case atStart => exact ⟨((⟨#[]⟩ : ByteArray)), (0), (by first | rfl | (simp; done) | (simp [*]; done) | (simp [bne]; done)), (by first | rfl | (simp; done) | (simp [*]; done) | (simp [bne]; done)), H', ⟨Nat.le_refl _⟩, ⟨by (with_reducible repeat (first | apply Kd.S_alloc | apply Kd.S_drewN | apply Kd.S_drew)); exact Kd.S_mono HO278.out (fun _ hk => ⟨hk.1.1.1.1.2, ⟨hk.1.1.2, hk.2⟩⟩)⟩, ⟨by (with_reducible repeat (first | apply Kd.S_alloc | apply Kd.S_drewN | apply Kd.S_drew)); exact Kd.S_mono HO288.out (fun _ hk => ⟨hk.1.1.1.1.1.2, ⟨hk.1.1.2, hk.2⟩⟩)⟩, ⟨by (with_reducible repeat (first | apply Kd.S_alloc | apply Kd.S_drewN | apply Kd.S_drew)); exact Kd.S_mono HO295.out (fun _ hk => ⟨hk.1.1.1.1.1.2, ⟨hk.1.1.1.2, hk.2⟩⟩)⟩, ⟨by (with_reducible repeat (first | apply Kd.R_alloc | apply Kd.R_drewN | apply Kd.R_drew)); exact HO302.out⟩, ⟨by (with_reducible repeat (first | apply Kd.S_alloc | apply Kd.S_drewN | apply Kd.S_drew)); exact Kd.S_mono HO306.out (fun _ hk => ⟨hk.1.1.1.1.1.2, ⟨hk.1.1.1.2, hk.1.2⟩⟩)⟩, ⟨by repeat (first | (with_reducible first | exact HB.out | apply below_alloc | apply pw_below_drewN | apply below_drew1) | exact HB.out)⟩⟩
 case round =>
  clear H'
  try clear c1
  try clear p2
  try clear c4
  try clear c6
  try clear c7
  try clear c8
  try clear c12
  try clear c13
  try clear c14
  obtain ⟨x15_1, x16_1, rfl, rfl, HA, HK1, HO_5, HO_7, HO_9, HO_11, HO_13, HB⟩ := hrel
  cases gk with
  | zero => exact absurd HA.out (by simp [bobbinetkeep_MarksBack.l0])
  | succ k1 =>
   have H := HA.out
   clear HA
   simp only [bobbinetkeep_MarksBack.l0] at H
   by_cases c28 : x16_1 < (t276.length : Int)
   ·
    rw [if_pos c28] at H
    have c28b0 : decide (x16_1 < (t276.length : Int)) = true := decide_eq_true c28
    clear c28
    by_cases c29 : 0 ≤ x16_1
    ·
     rw [if_pos c29] at H
     have c29b0 : decide (0 ≤ x16_1) = true := decide_eq_true c29
     clear c29
     by_cases c30 : x15_1.size + ((rd_T40 t276 x16_1).f0).size ≤ 9223372036854775807
     ·
      rw [if_pos c30] at H
      have c30b0 := eq_true c30
      have c30b1 : decide (x15_1.size + ((rd_T40 t276 x16_1).f0).size ≤ 9223372036854775807) = true := decide_eq_true c30
      try have c30b2 : (9223372036854775807 < x15_1.size + ((rd_T40 t276 x16_1).f0).size) = False := eq_false (Nat.not_lt.2 c30)
      have H' := Aside0.mk H
      clear H
      have p307 : 0 ≤ (x16_1 : Int) := of_decide_eq_true (by first | (with_reducible assumption) | assumption)
      have q307 : x16_1 < (t276.length : Int) := of_decide_eq_true (by first | (with_reducible assumption) | assumption)
      obtain ⟨ad307, A307_1, c307_1, e307, hx307_0, hx307_1, hl307_1, hi307_1⟩ := at_T40 (Kd.S_reads' HO_5.out).2.2 x16_1 p307 q307
      cases e307
      obtain ⟨ce307, hce307, hMe307, hcc307⟩ := Kd.S_get HO_5.out z40 x16_1 p307 (by first | exact q307 | exact of_decide_eq_true (by first | (with_reducible assumption) | assumption) | (have e_ := (Kd.S_reads' HO_5.out).1; omega))
      obtain ⟨ve307_1, rfl, ge307_1⟩ := k40_openM hMe307
      have hv307_1 := hcc307 1 _ rfl
      rw [add_field _ _ 1 (by omega)] at hv307_1
      replace hv307_1 := Option.some.inj (hv307_1.symm.trans hx307_1)
      rw [hv307_1] at ge307_1
      have HL307_1 := Aside0.mk (show Kd.R Kd.string 9 _ _ _ _ ((rd_T40 t276 x16_1).f1) from ge307_1)
      clear hv307_1 ge307_1
      clear hcc307 hce307
      have HR307_1 := Aside0.mk hi307_1
      have HC307_1 := Aside0.mk hl307_1
      clear hi307_1 hl307_1
      replace p307 := eq_true p307
      replace q307 := eq_true q307
      go_wp2
      go_roundg k1
      case measure => have := HK1.out; omega
      case rel => exact ⟨(x15_1 ++ ((rd_T40 t276 x16_1).f0)), (wrap64 (x16_1 + 1)), (by first | rfl | (simp; done) | (simp [*]; done) | (simp [bne]; done)), (by first | rfl | (simp; done) | (simp [*]; done) | (simp [bne]; done)), H', ⟨by have := HK1.out; omega⟩, ⟨by (with_reducible repeat (first | apply Kd.S_alloc | apply Kd.S_drewN | apply Kd.S_drew)); exact HO_5.out⟩, ⟨by (with_reducible repeat (first | apply Kd.S_alloc | apply Kd.S_drewN | apply Kd.S_drew)); exact HO_7.out⟩, ⟨by (with_reducible repeat (first | apply Kd.S_alloc | apply Kd.S_drewN | apply Kd.S_drew)); exact HO_9.out⟩, ⟨by (with_reducible repeat (first | apply Kd.R_alloc | apply Kd.R_drewN | apply Kd.R_drew)); exact HO_11.out⟩, ⟨by (with_reducible repeat (first | apply Kd.S_alloc | apply Kd.S_drewN | apply Kd.S_drew)); exact HO_13.out⟩, ⟨by repeat (first | (with_reducible first | exact HB.out | apply below_alloc | apply pw_below_drewN | apply below_drew1) | exact HB.out)⟩⟩
     ·
      rw [if_neg c30] at H
      exact absurd H (by simp)
    ·
     rw [if_neg c29] at H
     exact absurd H (by simp)
   ·
    rw [if_neg c28] at H
    have c28b0 : decide (x16_1 < (t276.length : Int)) = false := decide_eq_false c28
    clear c28
    by_cases c31 : t286 = 0
    ·
     rw [if_pos c31] at H
     have c31b0 : (t286 == 0) = true := beq_iff_eq.mpr c31
     have c31b1 : (t286 != 0) = false := bne_eq_false_iff_eq.mpr c31
     clear c31
     by_cases c32 : t293 = 0
     ·
      rw [if_pos c32] at H
      have c32b0 : (t293 == 0) = true := beq_iff_eq.mpr c32
      have c32b1 : (t293 != 0) = false := bne_eq_false_iff_eq.mpr c32
      clear c32
      by_cases c33 : t300 = 0
      ·
       rw [if_pos c33] at H
       have c33b0 : (t300 == 0) = true := beq_iff_eq.mpr c33
       have c33b1 : (t300 != 0) = false := bne_eq_false_iff_eq.mpr c33
       clear c33
       by_cases c34 : t304 = 0
       ·
        rw [if_pos c34] at H
        have c34b0 : (t304 == 0) = true := beq_iff_eq.mpr c34
        have c34b1 : (t304 != 0) = false := bne_eq_false_iff_eq.mpr c34
        clear c34
        replace H := Option.bind_eq_some_iff.mp H
        obtain ⟨t308, A350, H⟩ := H
        replace H : (if t308 = true then ((bobbinetkeep_sameRuns.f k1 t285 t292).bind fun t309 => (if t309 = true then ((bobbinetkeep_sameRuns.f k1 t285 t303).bind fun t310 => (if t310 = true then ((bobbinetkeep_words.f k1 t299).bind fun t311 => (some (t311.toList == x15_1.toList))) else (none))) else (none))) else (none)) = some r := H
        have A35 := Aside0.mk A350
        clear A350
        by_cases c36 : t308 = true
        ·
         subst c36
         have H1 : ((bobbinetkeep_sameRuns.f k1 t285 t292).bind fun t309 => (if t309 = true then ((bobbinetkeep_sameRuns.f k1 t285 t303).bind fun t310 => (if t310 = true then ((bobbinetkeep_words.f k1 t299).bind fun t311 => (some (t311.toList == x15_1.toList))) else (none))) else (none))) = some r := by rw [if_pos rfl] at H; exact H
         clear H
         have H := H1
         clear H1
         replace H := Option.bind_eq_some_iff.mp H
         obtain ⟨t309, A370, H⟩ := H
         replace H : (if t309 = true then ((bobbinetkeep_sameRuns.f k1 t285 t303).bind fun t310 => (if t310 = true then ((bobbinetkeep_words.f k1 t299).bind fun t311 => (some (t311.toList == x15_1.toList))) else (none))) else (none)) = some r := H
         have A37 := Aside0.mk A370
         clear A370
         by_cases c38 : t309 = true
         ·
          subst c38
          have H1 : ((bobbinetkeep_sameRuns.f k1 t285 t303).bind fun t310 => (if t310 = true then ((bobbinetkeep_words.f k1 t299).bind fun t311 => (some (t311.toList == x15_1.toList))) else (none))) = some r := by rw [if_pos rfl] at H; exact H
          clear H
          have H := H1
          clear H1
          replace H := Option.bind_eq_some_iff.mp H
          obtain ⟨t310, A390, H⟩ := H
          replace H : (if t310 = true then ((bobbinetkeep_words.f k1 t299).bind fun t311 => (some (t311.toList == x15_1.toList))) else (none)) = some r := H
          have A39 := Aside0.mk A390
          clear A390
          by_cases c40 : t310 = true
          ·
           subst c40
           have H1 : ((bobbinetkeep_words.f k1 t299).bind fun t311 => (some (t311.toList == x15_1.toList))) = some r := by rw [if_pos rfl] at H; exact H
           clear H
           have H := H1
           clear H1
           replace H := Option.bind_eq_some_iff.mp H
           obtain ⟨t311, A410, H⟩ := H
           replace H : (some (t311.toList == x15_1.toList)) = some r := H
           have A41 := Aside0.mk A410
           clear A410
           obtain rfl := Option.some.inj H
           go_wp2_with (first | (go_at_call 9; (with_reducible refine (bobbinetkeep_marksSure.calls k1  true _ (Glob.below HG_.out (by repeat (first | (with_reducible first | exact HB.out | apply below_alloc | apply pw_below_drewN | apply below_drew1) | exact HB.out))) A35.out).mono ?_); rintro e w42 ⟨rfl, hb⟩; have n0_ := Aside0.mk (Kd.S_below (by (with_reducible repeat (first | apply Kd.S_alloc | apply Kd.S_drewN | apply Kd.S_drew)); exact HO_5.out) hb); have n1_ := Aside0.mk (Kd.S_below (by (with_reducible repeat (first | apply Kd.S_alloc | apply Kd.S_drewN | apply Kd.S_drew)); exact HO_7.out) hb); have n2_ := Aside0.mk (Kd.S_below (by (with_reducible repeat (first | apply Kd.S_alloc | apply Kd.S_drewN | apply Kd.S_drew)); exact HO_9.out) hb); have n3_ := Aside0.mk (Kd.R_below (by (with_reducible repeat (first | apply Kd.R_alloc | apply Kd.R_drewN | apply Kd.R_drew)); exact HO_11.out) hb); have n4_ := Aside0.mk (Kd.S_below (by (with_reducible repeat (first | apply Kd.S_alloc | apply Kd.S_drewN | apply Kd.S_drew)); exact HO_13.out) hb); have n5_ := Aside0.mk (below_step (by repeat (first | (with_reducible first | exact HB.out | apply below_alloc | apply pw_below_drewN | apply below_drew1) | exact HB.out)) hb); clear HO_5; clear HO_7; clear HO_9; clear HO_11; clear HO_13; clear HB; have HO_5 := n0_; have HO_7 := n1_; have HO_9 := n2_; have HO_11 := n3_; have HO_13 := n4_; have HB := n5_; clear n0_ n1_ n2_ n3_ n4_ n5_; (try clear hb); (try clear hb2); (try clear hk); (try clear hi); obtain ⟨Ao43, co43, eo43⟩ := Kd.S_slice HO_9.out; subst eo43) | (go_at_call 15; (with_reducible refine (bobbinetkeep_sameRuns.calls k1 _ _ t285 _ _ t292 true _ ?side1 ?side2 ?side3 ?side4 A37.out).mono ?_); (case side1 => repeat (first | exact (Kd.S_reads' HO_7.out).2.2 | (with_reducible refine Kd.C_alloc ?_ _) | (with_reducible refine Kd.C_drewN ?_ _) | (with_reducible refine Kd.C_drew ?_))); (case side2 => exact (Kd.S_reads' HO_7.out).2.1); (case side3 => repeat (first | exact (Kd.S_reads' HO_9.out).2.2 | (with_reducible refine Kd.C_alloc ?_ _) | (with_reducible refine Kd.C_drewN ?_ _) | (with_reducible refine Kd.C_drew ?_))); (case side4 => exact (Kd.S_reads' HO_9.out).2.1); rintro e w' ⟨rfl, ⟨nd, rfl⟩⟩; obtain ⟨Ao44, co44, eo44⟩ := Kd.S_slice HO_13.out; subst eo44) | (go_at_call 15; (with_reducible refine (bobbinetkeep_sameRuns.calls k1 _ _ t285 _ _ t303 true _ ?side1 ?side2 ?side3 ?side4 A39.out).mono ?_); (case side1 => repeat (first | exact (Kd.S_reads' HO_7.out).2.2 | (with_reducible refine Kd.C_alloc ?_ _) | (with_reducible refine Kd.C_drewN ?_ _) | (with_reducible refine Kd.C_drew ?_))); (case side2 => exact (Kd.S_reads' HO_7.out).2.1); (case side3 => repeat (first | exact (Kd.S_reads' HO_13.out).2.2 | (with_reducible refine Kd.C_alloc ?_ _) | (with_reducible refine Kd.C_drewN ?_ _) | (with_reducible refine Kd.C_drew ?_))); (case side4 => exact (Kd.S_reads' HO_13.out).2.1); rintro e w' ⟨rfl, ⟨nd, rfl⟩⟩) | (go_at_call 16; (with_reducible refine (bobbinetkeep_words.calls k1 _ _ t299 t311 _ ?side1 ?side2 A41.out).mono ?_); (case side1 => repeat (first | exact (Kd.R_reads' HO_11.out).2.2 | (with_reducible refine Kd.C_alloc ?_ _) | (with_reducible refine Kd.C_drewN ?_ _) | (with_reducible refine Kd.C_drew ?_))); (case side2 => exact (Kd.R_reads' HO_11.out).2.1); rintro e w45 ⟨rfl, hb⟩; have n0_ := Aside0.mk (Kd.S_below (by (with_reducible repeat (first | apply Kd.S_alloc | apply Kd.S_drewN | apply Kd.S_drew)); exact HO_5.out) hb); have n1_ := Aside0.mk (Kd.S_below (by (with_reducible repeat (first | apply Kd.S_alloc | apply Kd.S_drewN | apply Kd.S_drew)); exact HO_7.out) hb); have n2_ := Aside0.mk (Kd.S_below (by (with_reducible repeat (first | apply Kd.S_alloc | apply Kd.S_drewN | apply Kd.S_drew)); exact HO_9.out) hb); have n3_ := Aside0.mk (Kd.R_below (by (with_reducible repeat (first | apply Kd.R_alloc | apply Kd.R_drewN | apply Kd.R_drew)); exact HO_11.out) hb); have n4_ := Aside0.mk (Kd.S_below (by (with_reducible repeat (first | apply Kd.S_alloc | apply Kd.S_drewN | apply Kd.S_drew)); exact HO_13.out) hb); have n5_ := Aside0.mk (below_step (by repeat (first | (with_reducible first | exact HB.out | apply below_alloc | apply pw_below_drewN | apply below_drew1) | exact HB.out)) hb); clear HO_5; clear HO_7; clear HO_9; clear HO_11; clear HO_13; clear HB; have HO_5 := n0_; have HO_7 := n1_; have HO_9 := n2_; have HO_11 := n3_; have HO_13 := n4_; have HB := n5_; clear n0_ n1_ n2_ n3_ n4_ n5_; (try clear hb); (try clear hb2); (try clear hk); (try clear hi)))
           go_ret
           exact ⟨by first | rfl | (simp [errW_none, errW_some] <;> rfl) | (simp [*, errW_none, errW_some] <;> rfl), by repeat (first | (with_reducible first | exact HB.out | apply below_alloc | apply pw_below_drewN | apply below_drew1) | exact HB.out)⟩
          ·
           replace c40 := Bool.eq_false_iff.mpr c40
           subst c40
           have H1 : (none) = some r := by rw [if_neg (show ¬ (false = true) by decide)] at H; exact H
           clear H
           have H := H1
           clear H1
           exact absurd H (by simp)
         ·
          replace c38 := Bool.eq_false_iff.mpr c38
          subst c38
          have H1 : (none) = some r := by rw [if_neg (show ¬ (false = true) by decide)] at H; exact H
          clear H
          have H := H1
          clear H1
          exact absurd H (by simp)
        ·
         replace c36 := Bool.eq_false_iff.mpr c36
         subst c36
         have H1 : (none) = some r := by rw [if_neg (show ¬ (false = true) by decide)] at H; exact H
         clear H
         have H := H1
         clear H1
         exact absurd H (by simp)
       ·
        rw [if_neg c34] at H
        exact absurd H (by simp)
      ·
       rw [if_neg c33] at H
       exact absurd H (by simp)
     ·
      rw [if_neg c32] at H
      exact absurd H (by simp)
    ·
     rw [if_neg c31] at H
     exact absurd H (by simp)
end Go.Proofs.YtjmhihadgpdiaaaDoor.X
end
section
namespace Go.Proofs.YtjmhihadgpdiaaaDoor.Base
open Go.RowKit Go.Proofs.YtjmhihadgpdiaaaDoorW.PrintWords
theorem toList_loop (s : ByteArray) : ∀ (n i : Nat) (r : List UInt8), s.size - i = n → ByteArray.toList.loop s i r = r.reverse ++ s.data.toList.drop i
  | 0, i, r, h => by
    unfold ByteArray.toList.loop
    have h1 : s.data.toList.drop i = [] := List.drop_eq_nil_of_le (by rw [Array.length_toList]; show s.size ≤ i; omega)
    rw [if_neg (by omega), h1, List.append_nil]
  | n + 1, i, r, h => by
    unfold ByteArray.toList.loop
    have hi : i < s.size := by omega
    have hl : i < s.data.toList.length := by rw [Array.length_toList]; exact hi
    have hg : s.get! i = s.data.toList[i] := by
      obtain ⟨d⟩ := s
      show d[i]! = _
      rw [getElem!_pos d i hi]
      simp
    rw [if_pos hi, toList_loop s n (i + 1) _ (by omega), hg, List.drop_eq_getElem_cons hl, List.reverse_cons, List.append_assoc]
    rfl
theorem toList_eq (s : ByteArray) : s.toList = s.data.toList := by
  unfold ByteArray.toList
  rw [toList_loop s _ 0 [] rfl]
  rfl
theorem toList_inj {s t : ByteArray} : s.toList = t.toList ↔ s = t := by
  rw [toList_eq, toList_eq]
  constructor
  · intro h
    exact ByteArray.ext (Array.toList_inj.1 h)
  · rintro rfl; rfl
theorem toList_nil {s : ByteArray} : s.toList = ([] : List UInt8) ↔ s = (⟨#[]⟩ : ByteArray) := by
  rw [toList_eq]
  constructor
  · intro h
    apply ByteArray.ext
    exact Array.toList_inj.1 h
  · rintro rfl; rfl
theorem Ev.ite_pos {α : Type} {c : Prop} [Decidable c] {g f : Nat → Option α} {r : α} (h : c) (k : Ev g r) : Ev (fun n => if c then g n else f n) r := by
  simpa only [if_pos h] using k
theorem Ev.ite_neg {α : Type} {c : Prop} [Decidable c] {g f : Nat → Option α} {r : α} (h : ¬ c) (k : Ev f r) : Ev (fun n => if c then g n else f n) r := by
  simpa only [if_neg h] using k
theorem Ev.some {α : Type} (r : α) : Ev (fun _ => Option.some r) r := ⟨0, fun _ _ => rfl⟩
/-- one round: what is told of k + 1 rounds -/
theorem Ev.one {α : Type} {g f : Nat → Option α} {r : α} (h : ∀ k, g (k + 1) = f k) (k : Ev f r) : Ev g r := by
  obtain ⟨K, hK⟩ := k
  refine ⟨K + 1, fun k hk => ?_⟩
  obtain ⟨m, rfl⟩ : ∃ m, k = m + 1 := ⟨k - 1, by omega⟩
  rw [h m]
  exact hK m (by omega)
theorem Ev.bnd {α β : Type} {g : Nat → Option α} {f : Nat → α → Option β} {a : α} {r : β} (h : Ev g a) (k : Ev (fun n => f n a) r) : Ev (fun n => (g n).bind (f n)) r := by
  obtain ⟨K, hK⟩ := h
  obtain ⟨L, hL⟩ := k
  refine ⟨K + L, fun n hn => ?_⟩
  show (g n).bind (f n) = _
  rw [hK n (by omega)]
  exact hL n (by omega)
theorem Ev.bnd0 {α β : Type} {g : Option α} {f : Nat → α → Option β} {a : α} {r : β} (h : g = Option.some a) (k : Ev (fun n => f n a) r) : Ev (fun n => g.bind (f n)) r := by
  subst h
  exact k
theorem wrap_id {i : Int} (h0 : -9223372036854775808 ≤ i) (h1 : i ≤ 9223372036854775807) : wrap64 i = i := by unfold wrap64; omega
theorem wrap_succ {i : Nat} {n : Nat} (h : i < n) (hn : n ≤ 9223372036854775807) : wrap64 ((i : Int) + 1) = ((i + 1 : Nat) : Int) := by unfold wrap64; omega
/-- Go's remainder, brought above 0 -/
theorem picked_eq (a n : Int) (h : 0 < n) (hn : n ≤ 4294967296) : (if Int.tmod a n < 0 then wrap64 (Int.tmod a n + n) else Int.tmod a n) = a % n := by
  have he := Int.tmod_eq_emod (a := a) (b := n)
  have h1 := Int.emod_nonneg a (show n ≠ 0 by omega)
  have h2 := Int.emod_lt_of_pos a h
  rw [he]
  split
  · rename_i hc
    rw [if_neg (by simp; omega)]
    simp
  · rename_i hc
    have hn2 : (n.natAbs : Int) = n := by omega
    rw [hn2, if_pos (by omega), wrap_id (by omega) (by omega)]
    omega
end Go.Proofs.YtjmhihadgpdiaaaDoor.Base
end
section
namespace Go.Proofs.YtjmhihadgpdiaaaDoor.Tree
open Go.RowKit Go.Proofs.YtjmhihadgpdiaaaDoor.X Go.Proofs.YtjmhihadgpdiaaaDoorW.PrintWords Go.Proofs.YtjmhihadgpdiaaaDoorW.PrintLast Go.Proofs.YtjmhihadgpdiaaaDoor.Base
set_option linter.unusedVariables false
set_option linter.unusedSimpArgs false
abbrev S := S49
theorem ind {P : List S → Prop} (h0 : P []) (h1 : ∀ n l, P n.f3 → P l → P (n :: l)) : ∀ l, P l
  | [] => h0
  | n :: l => h1 n l (ind h0 h1 n.f3) (ind h0 h1 l)
termination_by l => SizeOf.sizeOf l
decreasing_by all_goals (cases n; simp; omega)
/-- nodes, attributes and bytes of texts, all together -/
def tot : List S → Nat
  | [] => 0
  | n :: l => 1 + n.f1.length + n.f2.size + tot n.f3 + tot l
termination_by l => SizeOf.sizeOf l
decreasing_by all_goals (cases n; simp; omega)
theorem tot_nil : tot [] = 0 := by rw [tot]
theorem tot_cons (n : S) (l : List S) : tot (n :: l) = 1 + n.f1.length + n.f2.size + tot n.f3 + tot l := by rw [tot]
theorem tot_app (a b : List S) : tot (a ++ b) = tot a + tot b := by
  induction a with
  | nil => simp [tot_nil]
  | cons n a ih => rw [List.cons_append, tot_cons, tot_cons, ih]; omega
theorem tot_len : ∀ l : List S, l.length ≤ tot l
  | [] => by simp
  | n :: l => by have := tot_len l; rw [tot_cons]; simp; omega
theorem Ev.succ {α : Type} {g : Nat → Option α} {r : α} (h : Ev (fun k => g (k + 1)) r) : Ev g r := Ev.one (f := fun k => g (k + 1)) (fun _ => rfl) h
theorem rd_mid (pre : List S) (d : S) (suf : List S) : rd_T49 (pre ++ d :: suf) (pre.length : Int) = d := by
  simp [rd_T49, List.getD]
theorem B_nil_app (b : ByteArray) : (⟨#[]⟩ : ByteArray) ++ b = b := ByteArray.empty_append
theorem B_app_nil (b : ByteArray) : b ++ (⟨#[]⟩ : ByteArray) = b := ByteArray.append_empty
theorem ind2 {P : List S → Prop} (h : ∀ l, (∀ n ∈ l, P n.f3) → P l) (l : List S) : P l := by
  have : ∀ n ∈ l, P n.f3 := by
    induction l using ind with
    | h0 => simp
    | h1 n l ih1 ih2 =>
      intro m hm
      rcases List.mem_cons.1 hm with rfl | hm
      · exact h _ ih1
      · exact ih2 m hm
  exact h l this
theorem tot_mem {n : S} : ∀ {l : List S}, n ∈ l → 1 + n.f1.length + n.f2.size + tot n.f3 ≤ tot l
  | m :: l, h => by
    rw [tot_cons]
    rcases List.mem_cons.1 h with rfl | h
    · omega
    · have := tot_mem h; omega
theorem wrap_pre (pre : List S) (n : S) (suf : List S) (h : tot (pre ++ n :: suf) ≤ 4611686018427387904) : wrap64 ((pre.length : Int) + 1) = ((pre ++ [n]).length : Int) := by
  have h1 := tot_len (pre ++ n :: suf)
  simp at h1
  rw [wrap_id (by omega) (by omega)]
  simp
end Go.Proofs.YtjmhihadgpdiaaaDoor.Tree
end
section
namespace Go.Proofs.YtjmhihadgpdiaaaDoor.Tree
open Go.RowKit Go.Proofs.YtjmhihadgpdiaaaDoor.X Go.Proofs.YtjmhihadgpdiaaaDoorW.PrintWords Go.Proofs.YtjmhihadgpdiaaaDoorW.PrintLast Go.Proofs.YtjmhihadgpdiaaaDoor.Base
def wB : List S → ByteArray
  | [] => (⟨#[]⟩ : ByteArray)
  | n :: l => (n.f2 ++ wB n.f3) ++ wB l
termination_by l => SizeOf.sizeOf l
decreasing_by all_goals (cases n; simp; omega)
theorem wB_nil : wB [] = (⟨#[]⟩ : ByteArray) := by rw [wB]
theorem wB_cons (n : S) (l : List S) : wB (n :: l) = (n.f2 ++ wB n.f3) ++ wB l := by rw [wB]
theorem wB_size (l : List S) : (wB l).size ≤ tot l := by
  induction l using ind with
  | h0 => rw [wB_nil]; exact Nat.zero_le _
  | h1 n l ih1 ih2 =>
    rw [wB_cons, tot_cons, ByteArray.size_append, ByteArray.size_append]
    omega
theorem words_l0 : ∀ (suf pre : List S) (acc : ByteArray), tot (pre ++ suf) ≤ 1099511627776 → acc.size ≤ tot pre → (∀ n ∈ suf, Ev (fun k => bobbinetkeep_words.f k n.f3) (wB n.f3)) → Ev (fun k => bobbinetkeep_words.l0 k (pre ++ suf) acc (pre.length : Int)) (acc ++ wB suf)
  | [], pre, acc, ht, ha, h => by
    refine Ev.succ ?_
    simp only [bobbinetkeep_words.l0, List.append_nil, wB_nil, B_app_nil]
    exact Ev.ite_neg (by omega) (Ev.now _)
  | n :: suf, pre, acc, ht, ha, h => by
    have h1 := tot_len (pre ++ n :: suf)
    have h2 := tot_mem (show n ∈ pre ++ n :: suf by simp)
    have h3 : (pre ++ n :: suf).length = pre.length + suf.length + 1 := by simp; omega
    have h4 := wB_size n.f3
    have h5 := tot_app pre (n :: suf)
    have h6 := tot_cons n suf
    have ih := words_l0 suf (pre ++ [n]) (acc ++ (n.f2 ++ wB n.f3)) (by simpa using ht) (by rw [tot_app, tot_cons, tot_nil, ByteArray.size_append, ByteArray.size_append]; omega) (fun m hm => h m (List.mem_cons_of_mem _ hm))
    refine Ev.succ ?_
    simp only [bobbinetkeep_words.l0]
    rw [rd_mid, wrap_pre pre n suf (by omega)]
    refine Ev.ite_pos (by omega) (Ev.ite_pos (by omega) (Ev.bnd (h n List.mem_cons_self) (Ev.ite_pos (by omega) (Ev.ite_pos (by rw [ByteArray.size_append]; omega) ?_))))
    rw [wB_cons]
    simp only [ByteArray.append_assoc] at ih ⊢
    simpa using ih
theorem words_f (l : List S) : tot l ≤ 1099511627776 → Ev (fun k => bobbinetkeep_words.f k l) (wB l) := by
  induction l using ind2 with
  | h l ih =>
    intro ht
    refine Ev.succ ?_
    simp only [bobbinetkeep_words.f]
    have := words_l0 l [] (⟨#[]⟩ : ByteArray) ht (Nat.zero_le _) (fun n hn => ih n hn (by have := tot_mem hn; omega))
    rw [B_nil_app] at this
    exact this
end Go.Proofs.YtjmhihadgpdiaaaDoor.Tree
end
section
namespace Go.Proofs.YtjmhihadgpdiaaaDoor.X
open Go.RowKit Go.Proofs.YtjmhihadgpdiaaaDoorW.PrintWords Go.Proofs.YtjmhihadgpdiaaaDoorW.PrintLast Go.Proofs.YtjmhihadgpdiaaaDoorW.PrintMore
attribute [local go_sem] max2_int min2_int max_two min_two max_three min_three max_four min_four   -- for this text's walks alone
set_option linter.unusedVariables false
set_option linter.unusedSimpArgs false
end Go.Proofs.YtjmhihadgpdiaaaDoor.X
end
section
namespace Go.Proofs.YtjmhihadgpdiaaaDoor.X
open Go.RowKit Go.Proofs.YtjmhihadgpdiaaaDoorW.PrintWords Go.Proofs.YtjmhihadgpdiaaaDoorW.PrintLast Go.Proofs.YtjmhihadgpdiaaaDoorW.PrintMore
attribute [local go_sem] max2_int min2_int max_two min_two max_three min_three max_four min_four   -- for this text's walks alone
set_option linter.unusedVariables false
set_option linter.unusedSimpArgs false
end Go.Proofs.YtjmhihadgpdiaaaDoor.X
end
section
namespace Go.Proofs.YtjmhihadgpdiaaaDoor.X
open Go.RowKit Go.Proofs.YtjmhihadgpdiaaaDoorW.PrintWords Go.Proofs.YtjmhihadgpdiaaaDoorW.PrintLast Go.Proofs.YtjmhihadgpdiaaaDoorW.PrintMore
attribute [local go_sem] max2_int min2_int max_two min_two max_three min_three max_four min_four   -- for this text's walks alone
set_option linter.unusedVariables false
set_option linter.unusedSimpArgs false
end Go.Proofs.YtjmhihadgpdiaaaDoor.X
end
section
namespace Go.Proofs.YtjmhihadgpdiaaaDoor.Mk
open Go.RowKit Go.Proofs.YtjmhihadgpdiaaaDoor.X Go.Proofs.YtjmhihadgpdiaaaDoorW.PrintWords Go.Proofs.YtjmhihadgpdiaaaDoorW.PrintLast Go.Proofs.YtjmhihadgpdiaaaDoor.Base
set_option linter.unusedVariables false
set_option linter.unusedSimpArgs false
abbrev R := S40
abbrev Bs := List ByteArray
instance decB : DecidableEq ByteArray := fun a b => decidable_of_iff (a.toList = b.toList) toList_inj
instance decM (s : ByteArray) (l : Bs) : Decidable (s ∈ l) := decidable_of_iff (l.any (fun x => decide (x.toList = s.toList)) = true) (by
  rw [List.any_eq_true]
  constructor
  · rintro ⟨x, hx, h⟩; rw [← toList_inj.1 (of_decide_eq_true h)]; exact hx
  · intro h; exact ⟨s, h, decide_eq_true rfl⟩)
theorem pick_ev (xa : Int) (n : Int) (h0 : 0 < n) (hn : n ≤ 4294967296) : bobbinetkeep_Picked.f xa n = some (xa % n) := by
  unfold bobbinetkeep_Picked.f
  rw [if_neg (by omega), ← picked_eq xa n h0 hn]
  split <;> rfl
theorem rdB_at (l : Bs) (i : Nat) (h : i < l.length) : rdOf ByteArray.empty l (i : Int) = l[i] := by
  simp [rdOf, List.getD, h]
theorem rdR_at (l : List R) (i : Nat) (h : i < l.length) : rd_T40 l (i : Int) = l[i] := by
  simp [rd_T40, List.getD, h]
theorem index_l0 (l : Bs) (s : ByteArray) (hl : l.length < 1000000) : ∀ (d i : Nat) (k : Nat), l.length - i = d → i ≤ l.length → d < k → ∃ r : Int, slices_Index_string_string.l0 k l s (l.length : Int) (i : Int) = some r ∧ (decide (r ≥ 0) = decide (s ∈ l.drop i)) := by
  intro d
  induction d with
  | zero =>
    intro i k hd hi hk
    obtain ⟨m, rfl⟩ : ∃ m, k = m + 1 := ⟨k - 1, by omega⟩
    refine ⟨-1, ?_, ?_⟩
    · rw [slices_Index_string_string.l0, if_neg (by omega)]
    · rw [List.drop_eq_nil_of_le (by omega)]; simp
  | succ d ih =>
    intro i k hd hi hk
    obtain ⟨m, rfl⟩ : ∃ m, k = m + 1 := ⟨k - 1, by omega⟩
    have hlt : i < l.length := by omega
    have hw : wrap64 ((i : Int) + 1) = ((i + 1 : Nat) : Int) := wrap_succ hlt (by omega)
    rw [slices_Index_string_string.l0, if_pos (by omega), if_pos (by omega), if_pos (by omega), rdB_at l i hlt]
    by_cases h : s.toList = l[i].toList
    · rw [if_pos h]
      refine ⟨i, rfl, ?_⟩
      have e := List.drop_eq_getElem_cons hlt
      rw [toList_inj.1 h, decide_eq_true (show (i : Int) ≥ 0 by omega), decide_eq_true (show l[i] ∈ l.drop i by rw [e]; exact List.mem_cons_self)]
    · rw [if_neg h, hw]
      obtain ⟨r, h1, h2⟩ := ih (i + 1) m (by omega) (by omega) (by omega)
      refine ⟨r, h1, h2.trans ?_⟩
      have hne : s ≠ l[i] := fun e => h (by rw [e])
      have e := List.drop_eq_getElem_cons hlt
      exact decide_eq_decide.2 ⟨fun h => by rw [e]; exact List.mem_cons_of_mem _ h, fun h => by rw [e] at h; exact (List.mem_cons.1 h).resolve_left hne⟩
theorem contains_eq (l : Bs) (s : ByteArray) (hl : l.length < 1000000) (k : Nat) (hk : l.length < k) : slices_Contains_string_string.f k l s = some (decide (s ∈ l)) := by
  unfold slices_Contains_string_string.f slices_Index_string_string.f
  obtain ⟨r, h1, h2⟩ := index_l0 l s hl l.length 0 k (by omega) (by omega) hk
  have h3 : slices_Index_string_string.l0 k l s (l.length : Int) 0 = some r := h1
  rw [h3, Option.bind_some, h2, List.drop_zero]
theorem contains_ev (l : Bs) (s : ByteArray) (hl : l.length < 1000000) : Ev (fun k => slices_Contains_string_string.f k l s) (decide (s ∈ l)) := ⟨l.length + 1, fun k hk => contains_eq l s hl k hk⟩
theorem equal_l0 (a b : Bs) (h : a.length = b.length) (hl : a.length < 1000000) : ∀ (d i : Nat), a.length - i = d → i ≤ a.length →
    Ev (fun k => slices_Equal_string_string.l0 k a b (a.length : Int) (i : Int)) (decide (a.drop i = b.drop i)) := by
  intro d
  induction d with
  | zero =>
    intro i hd hi
    have e1 : a.drop i = [] := List.drop_eq_nil_of_le (by omega)
    have e2 : b.drop i = [] := List.drop_eq_nil_of_le (by omega)
    rw [e1, e2]
    exact Ev.one (f := fun k => _) (fun k => by rw [slices_Equal_string_string.l0]) (Ev.ite_neg (by omega) ⟨0, fun _ _ => by simp⟩)
  | succ d ih =>
    intro i hd hi
    have hlt : i < a.length := by omega
    have hlt2 : i < b.length := by omega
    have hw : wrap64 ((i : Int) + 1) = ((i + 1 : Nat) : Int) := wrap_succ hlt (by omega)
    rw [List.drop_eq_getElem_cons hlt, List.drop_eq_getElem_cons hlt2]
    refine Ev.one (f := fun k => _) (fun k => by rw [slices_Equal_string_string.l0, hw, rdB_at a i hlt, rdB_at b i hlt2]) ?_
    refine Ev.ite_pos (by omega) (Ev.ite_pos (by omega) (Ev.ite_pos (by omega) (Ev.ite_pos (by omega) ?_)))
    by_cases he : a[i] = b[i]
    · refine Ev.ite_pos (by rw [he]) ?_
      have := ih (i + 1) (by omega) (by omega)
      rw [show decide (a[i] :: List.drop (i + 1) a = b[i] :: List.drop (i + 1) b) = decide (List.drop (i + 1) a = List.drop (i + 1) b) by rw [he]; simp only [List.cons.injEq, true_and]]
      exact this
    · exact Ev.ite_neg (fun h => he (toList_inj.1 h)) ⟨0, fun _ _ => by simp only [List.cons.injEq, he, false_and, decide_false]⟩
theorem equal_ev (a b : Bs) (hl : a.length < 1000000) : Ev (fun k => slices_Equal_string_string.f k a b) (decide (a = b)) := by
  unfold slices_Equal_string_string.f
  by_cases h : a.length = b.length
  · exact Ev.ite_pos (by omega) (equal_l0 a b h hl a.length 0 (by omega) (by omega))
  · refine Ev.ite_neg (by omega) ⟨0, fun _ _ => ?_⟩
    rw [decide_eq_false (fun e => h (by rw [e]))]
def three : Bs := [(⟨#[98]⟩ : ByteArray), (⟨#[101, 109]⟩ : ByteArray), (⟨#[105]⟩ : ByteArray)]
def Rn (r : R) : Prop := (∀ m ∈ r.f1, m ∈ three) ∧ r.f1.length ≤ 3 ∧ r.f0.size ≤ 2
set_option maxHeartbeats 1000000 in
theorem runs_ev (l : List Int) : ∃ rs, Ev (fun k => bobbinetkeep_Runs.f k l 20) rs ∧ rs.length ≤ 20 ∧ ∀ r ∈ rs, Rn r := by
  have inner : ∀ (i : Nat) (acc : List R) (t : ByteArray), i < l.length → i < 20 → acc.length ≤ 20 → t.size ≤ 2 →
      (∀ r : R, Rn r → ∃ rs, Ev (fun k => bobbinetkeep_Runs.l0 k l 20 (acc ++ [r]) ((i + 1 : Nat) : Int)) rs ∧ rs.length ≤ 20 ∧ ∀ r ∈ rs, Rn r) →
      ∀ (n : Nat), bobbinetkeep_Picked.f (wrap64 (Int.tdiv (rd l (i : Int)) 4)) 4 = some (n : Int) → n ≤ 3 → ∀ (d j : Nat) (ms : Bs), n - j = d → j ≤ n → ms.length = j → (∀ m ∈ ms, m ∈ three) → ∃ rs, Ev (fun k => bobbinetkeep_Runs.l1 k l 20 acc (i : Int) (j : Int) t ms) rs ∧ rs.length ≤ 20 ∧ ∀ r ∈ rs, Rn r := by
    intro i acc t hi hi2 ha ht next n hp hn d
    have hw : Aside0 (wrap64 ((i : Int) + 1) = ((i + 1 : Nat) : Int)) := ⟨wrap_succ hi2 (by omega)⟩
    induction d with
    | zero =>
      intro j ms hd hjn hj hm
      obtain ⟨rs, h1, h2⟩ := next ⟨t, ms⟩ ⟨hm, by show ms.length ≤ 3; omega, ht⟩
      refine ⟨rs, ?_, h2⟩
      have c1 : 0 ≤ (i : Int) := by omega
      have c2 : (i : Int) < (l.length : Int) := by omega
      have c3 : ¬ (j : Int) < (n : Int) := by omega
      have c7 : acc.length < 3518437208883 := by omega
      refine Ev.one (fun k => ?_) h1
      rw [bobbinetkeep_Runs.l1, if_pos c1, if_pos c2, hp, Option.bind_some, if_neg c3, if_pos c7, hw.out]
    | succ d ih =>
      intro j ms hd hjn hj hm
      have hw2 : Aside0 (wrap64 ((j : Int) + 1) = ((j + 1 : Nat) : Int)) := ⟨wrap_succ (n := 4) (by omega) (by omega)⟩
      have hw3 : Aside0 (wrap64 (16 + (j : Int)) = 16 + (j : Int)) := ⟨wrap_id (by omega) (by omega)⟩
      have hq := pick_ev (wrap64 (Int.tdiv (rd l (i : Int)) (16 + (j : Int)))) 3 (by decide) (by decide)
      have hb : 0 ≤ wrap64 (Int.tdiv (rd l (i : Int)) (16 + (j : Int))) % 3 ∧ wrap64 (Int.tdiv (rd l (i : Int)) (16 + (j : Int))) % 3 < 3 := ⟨Int.emod_nonneg _ (by decide), Int.emod_lt_of_pos _ (by decide)⟩
      obtain ⟨u, hu⟩ : ∃ u : Nat, wrap64 (Int.tdiv (rd l (i : Int)) (16 + (j : Int))) % 3 = (u : Int) := ⟨_, (Int.toNat_of_nonneg hb.1).symm⟩
      rw [hu] at hq hb
      clear hu
      have HQ := Aside0.mk hq
      have HP := Aside0.mk hp
      clear hq
      have hlt : u < three.length := by show u < 3; omega
      obtain ⟨rs, h1, h2⟩ := ih (j + 1) (ms ++ [three[u]]) (by omega) (by omega) (by simp; omega) (fun m h => by
        rcases List.mem_append.1 h with h | h
        · exact hm m h
        · rw [List.mem_singleton.1 h]; exact List.getElem_mem hlt)
      refine ⟨rs, ?_, h2⟩
      have e : rdOf ByteArray.empty ([(⟨#[98]⟩ : ByteArray), (⟨#[101, 109]⟩ : ByteArray), (⟨#[105]⟩ : ByteArray)] : List ByteArray) (u : Int) = three[u] := rdB_at three u hlt
      have e2 : (([(⟨#[98]⟩ : ByteArray), (⟨#[101, 109]⟩ : ByteArray), (⟨#[105]⟩ : ByteArray)] : List ByteArray).length : Int) = 3 := rfl
      have c1 : 0 ≤ (i : Int) := by omega
      have c2 : (i : Int) < (l.length : Int) := by omega
      have c3 : (j : Int) < (n : Int) := by omega
      have c4 : ¬ 16 + (j : Int) = 0 := by omega
      have c5 : 0 ≤ (u : Int) := by omega
      have c6 : (u : Int) < 3 := by omega
      have c7 : ms.length < 8796093022208 := by omega
      refine Ev.one (fun k => ?_) h1
      rw [bobbinetkeep_Runs.l1, if_pos c1, if_pos c2, hp, Option.bind_some, if_pos c3, Option.bind_some, hw3.out, if_neg c4, HQ.out, Option.bind_some, if_pos c5, e2, if_pos c6, if_pos c7, e, hw2.out]
  have outer : ∀ (d i : Nat) (acc : List R), 20 - i = d → i ≤ 20 → acc.length = i → (∀ r ∈ acc, Rn r) → ∃ rs, Ev (fun k => bobbinetkeep_Runs.l0 k l 20 acc (i : Int)) rs ∧ rs.length ≤ 20 ∧ ∀ r ∈ rs, Rn r := by
    intro d
    induction d with
    | zero =>
      intro i acc hd hi ha hr
      refine ⟨acc, ?_, by omega, hr⟩
      refine Ev.one (f := fun k => _) (fun k => by rw [bobbinetkeep_Runs.l0]) ?_
      have hf : decide ((i : Int) < 20) = false := decide_eq_false (by omega)
      by_cases h : (i : Int) < (l.length : Int)
      · refine Ev.ite_pos h ?_
        rw [hf]
        exact Ev.one (f := fun k => _) (fun k => by rw [bobbinetkeep_Runs.j1]) (Ev.ite_neg (by decide) (Ev.some _))
      · exact Ev.ite_neg h (Ev.one (f := fun k => _) (fun k => by rw [bobbinetkeep_Runs.j1]) (Ev.ite_neg (by decide) (Ev.some _)))
    | succ d ih =>
      intro i acc hd hi ha hr
      by_cases h : (i : Int) < (l.length : Int)
      · have hp := pick_ev (wrap64 (Int.tdiv (rd l (i : Int)) 4)) 4 (by decide) (by decide)
        have hb : 0 ≤ wrap64 (Int.tdiv (rd l (i : Int)) 4) % 4 ∧ wrap64 (Int.tdiv (rd l (i : Int)) 4) % 4 < 4 := by omega
        obtain ⟨n, hn⟩ : ∃ n : Nat, wrap64 (Int.tdiv (rd l (i : Int)) 4) % 4 = (n : Int) := ⟨_, (Int.toNat_of_nonneg hb.1).symm⟩
        rw [hn] at hp hb
        clear hn
        have hq := pick_ev (rd l (i : Int)) 4 (by decide) (by decide)
        have hc : 0 ≤ rd l (i : Int) % 4 ∧ rd l (i : Int) % 4 < 4 := by omega
        generalize rd l (i : Int) % 4 = u at hq hc
        have ht : (rdOf ByteArray.empty ([(⟨#[]⟩ : ByteArray), (⟨#[120]⟩ : ByteArray), (⟨#[121, 122]⟩ : ByteArray), (⟨#[32]⟩ : ByteArray)] : List ByteArray) u).size ≤ 2 := by
          obtain rfl | rfl | rfl | rfl : u = 0 ∨ u = 1 ∨ u = 2 ∨ u = 3 := by omega
          · exact Nat.zero_le _
          · show 1 ≤ 2; omega
          · exact Nat.le_refl _
          · show 1 ≤ 2; omega
        obtain ⟨rs, h1, h2⟩ := inner i acc _ (by omega) (by omega) (by omega) ht (fun r hr2 => by
          refine ih (i + 1) (acc ++ [r]) (by omega) (by omega) (by simp; omega) (fun q hq => ?_)
          rcases List.mem_append.1 hq with hq | hq
          · exact hr q hq
          · rw [List.mem_singleton.1 hq]; exact hr2) n hp (by omega) n 0 [] (by omega) (by omega) rfl (fun m hm => by cases hm)
        refine ⟨rs, ?_, h2⟩
        have c1 : 0 ≤ (i : Int) := by omega
        have c2 : (i : Int) < 20 := by omega
        have e2 : (([(⟨#[]⟩ : ByteArray), (⟨#[120]⟩ : ByteArray), (⟨#[121, 122]⟩ : ByteArray), (⟨#[32]⟩ : ByteArray)] : List ByteArray).length : Int) = 4 := rfl
        have h3 : Ev (fun k => bobbinetkeep_Runs.j1 k l 20 acc (i : Int) true) rs := by
          refine Ev.one (fun k => ?_) h1
          rw [bobbinetkeep_Runs.j1, if_pos rfl, Option.bind_some, if_pos c1, if_pos h, hq, Option.bind_some, if_pos hc.1, e2, if_pos hc.2]
          rfl
        refine Ev.one (fun k => ?_) h3
        rw [bobbinetkeep_Runs.l0, if_pos h, decide_eq_true c2]
      · refine ⟨acc, ?_, by omega, hr⟩
        refine Ev.one (f := fun k => _) (fun k => by rw [bobbinetkeep_Runs.l0]) ?_
        exact Ev.ite_neg h (Ev.one (f := fun k => _) (fun k => by rw [bobbinetkeep_Runs.j1]) (Ev.ite_neg (by decide) (Ev.some _)))
  unfold bobbinetkeep_Runs.f
  exact outer 20 0 [] (by omega) (by omega) rfl (fun r hr => by cases hr)
end Go.Proofs.YtjmhihadgpdiaaaDoor.Mk
end
section
namespace Go.Proofs.YtjmhihadgpdiaaaDoor.Mk
open Go.RowKit Go.Proofs.YtjmhihadgpdiaaaDoor.X Go.Proofs.YtjmhihadgpdiaaaDoorW.PrintWords Go.Proofs.YtjmhihadgpdiaaaDoorW.PrintLast Go.Proofs.YtjmhihadgpdiaaaDoor.Base
set_option linter.unusedVariables false
set_option linter.unusedSimpArgs false
/-- the marks that a run has, in order -/
def keep (ms a : Bs) : Bs := ms.filter fun m => decide (m ∈ a)
def joins (out : List R) (b : Bs) : Prop := ∃ p, out.getLast? = some p ∧ p.f1 = b
instance (out : List R) (b : Bs) : Decidable (joins out b) := by
  unfold joins
  cases out.getLast? with
  | none => exact isFalse (by simp)
  | some p => exact decidable_of_iff (p.f1 = b) (by simp)
/-- one run more -/
def step (ms : Bs) (out : List R) (r : R) : List R :=
  if joins out (keep ms r.f1) then out.set (out.length - 1) ⟨(out.getD (out.length - 1) ⟨ByteArray.empty, []⟩).f0 ++ r.f0, (out.getD (out.length - 1) ⟨ByteArray.empty, []⟩).f1⟩
  else if r.f0.toList = ([] : List UInt8) then out else out ++ [⟨r.f0, keep ms r.f1⟩]
def nrm (ms : Bs) (l : List R) : List R := l.foldl (step ms) []
theorem step_len (ms : Bs) (out : List R) (r : R) : (step ms out r).length ≤ out.length + 1 := by
  unfold step
  split
  · rw [List.length_set]; omega
  · split
    · omega
    · simp
theorem keep_take (ms a : Bs) (j : Nat) (h : j < ms.length) : keep (ms.take (j + 1)) a = keep (ms.take j) a ++ (if ms[j] ∈ a then [ms[j]] else []) := by
  unfold keep
  rw [List.take_succ_eq_append_getElem h, List.filter_append]
  congr 1
  by_cases c : ms[j] ∈ a
  · rw [if_pos c]; simp [c]
  · rw [if_neg c]; simp [c]
theorem known_eq (ms a : Bs) (hm : ms.length < 1000000) (h : ∀ m ∈ a, m ∈ ms) : Ev (fun k => cf_marksNorm.f k a ms) false := by
  refine ⟨ms.length + 1, fun k hk => ?_⟩
  show cf_marksNorm.f k a ms = some false
  unfold cf_marksNorm.f
  have e : ∀ x, slices_Contains_string_string.f k ms x = some (decide (x ∈ ms)) := fun x => contains_eq ms x hm k (by omega)
  rw [if_pos (List.all_eq_true.2 (fun x hx => by rw [e]; rfl))]
  congr 1
  rw [List.any_eq_false]
  intro x hx
  unfold cf_marksNorm.P
  rw [e, decide_eq_true (h x hx)]
  decide
/-- texts of some length at most, few marks -/
def Lt (b : Nat) (out : List R) : Prop := ∀ p ∈ out, p.f0.size ≤ b ∧ p.f1.length ≤ 1000
theorem keep_len (ms a : Bs) : (keep ms a).length ≤ ms.length := List.length_filter_le _ _
theorem step_lt {ms : Bs} {out : List R} {r : R} {b c : Nat} (h : Lt b out) (hm : ms.length ≤ 1000) (hr : r.f0.size ≤ c) : Lt (b + c) (step ms out r) := by
  unfold step
  split
  · rename_i hj
    obtain ⟨p, hp, _⟩ := hj
    intro q hq
    rcases List.mem_or_eq_of_mem_set hq with hq | rfl
    · have := h q hq; exact ⟨by omega, this.2⟩
    · have hne : out ≠ [] := by rintro rfl; simp at hp
      have hlt : out.length - 1 < out.length := by have := List.length_pos_iff.2 hne; omega
      have h2 := h (out[out.length - 1]) (List.getElem_mem hlt)
      have e : out.getD (out.length - 1) ⟨ByteArray.empty, []⟩ = out[out.length - 1] := by simp [List.getD, hlt]
      rw [e]
      refine ⟨?_, h2.2⟩
      show (out[out.length - 1].f0 ++ r.f0).size ≤ _
      rw [ByteArray.size_append]
      omega
  · split
    · intro q hq; have := h q hq; exact ⟨by omega, this.2⟩
    · intro q hq
      rcases List.mem_append.1 hq with hq | hq
      · have := h q hq; exact ⟨by omega, this.2⟩
      · rw [List.mem_singleton.1 hq]; exact ⟨by show r.f0.size ≤ _; omega, Nat.le_trans (keep_len _ _) hm⟩
theorem norm_ev (ms : Bs) (hm : ms.length < 1000) (l : List R) (hl : l.length < 1000) (hk : ∀ r ∈ l, (∀ m ∈ r.f1, m ∈ ms) ∧ r.f1.length < 1000 ∧ r.f0.size ≤ 1000000) : Ev (fun k => marks_norm.f k ms l) (nrm ms l, 0) := by
  have loop : ∀ (d i : Nat) (out : List R), l.length - i = d → i ≤ l.length → out.length ≤ i → Lt (i * 1000000) out → Ev (fun k => marks_norm.l0 k out l (l.length : Int) (i : Int) ms) ((l.drop i).foldl (step ms) out, 0) := by
    intro d
    induction d with
    | zero =>
      intro i out hd hi ho _
      rw [List.drop_eq_nil_of_le (by omega)]
      refine Ev.one (f := fun k => _) (fun k => by rw [marks_norm.l0]) ?_
      exact Ev.ite_neg (by omega) (Ev.some _)
    | succ d ih =>
      intro i out hd hi ho hb
      have hlt : i < l.length := by omega
      have hw : Aside0 (wrap64 ((i : Int) + 1) = ((i + 1 : Nat) : Int)) := ⟨wrap_succ hlt (by omega)⟩
      obtain ⟨hk1, hk2, hk3⟩ := hk l[i] (List.getElem_mem hlt)
      have hnext := ih (i + 1) (step ms out l[i]) (by omega) (by omega) (Nat.le_trans (step_len _ _ _) (by omega)) (by have := step_lt (ms := ms) hb (by omega) hk3; rw [Nat.add_mul]; simpa using this)
      rw [List.drop_eq_getElem_cons hlt, List.foldl_cons]
      generalize hr : l[i] = r at hk1 hk2 hk3 hnext ⊢
      -- the end of a round
      have fin : ∀ b : Bool, (b = true ↔ joins out (keep ms r.f1)) → Ev (fun k => marks_norm.j2 k out (out.length : Int) l (l.length : Int) (i : Int) b ms r.f0 (keep ms r.f1)) ((l.drop (i + 1)).foldl (step ms) (step ms out r), 0) := by
        intro b hbj
        by_cases hj : joins out (keep ms r.f1)
        · obtain ⟨p, hp, hp2⟩ := hj
          have hne : out ≠ [] := by rintro rfl; simp at hp
          have hpos := List.length_pos_iff.2 hne
          have hw2 : Aside0 (wrap64 ((out.length : Int) - 1) = ((out.length - 1 : Nat) : Int)) := ⟨by rw [wrap_id (by omega) (by omega)]; omega⟩
          have hlt2 : out.length - 1 < out.length := by omega
          have hst : step ms out r = out.set (out.length - 1) ⟨out[out.length - 1].f0 ++ r.f0, out[out.length - 1].f1⟩ := by
            unfold step
            rw [if_pos ⟨p, hp, hp2⟩]
            simp [List.getD, hlt2]
          have hsz := (hb _ (List.getElem_mem hlt2)).1
          rw [hst] at hnext
          rw [hst]
          refine Ev.one (f := fun k => _) (fun k => by rw [marks_norm.j2, hw2.out, rdR_at out _ hlt2, hw.out]) ?_
          exact Ev.ite_pos (hbj.2 ⟨p, hp, hp2⟩) (Ev.ite_pos (by omega) (Ev.ite_pos (by omega) (Ev.ite_pos (by omega) hnext)))
        · have hbf : ¬ b = true := fun h => hj (hbj.1 h)
          unfold step at hnext ⊢
          rw [if_neg hj] at hnext ⊢
          refine Ev.one (f := fun k => _) (fun k => by rw [marks_norm.j2, hw.out]) (Ev.ite_neg hbf ?_)
          by_cases he : r.f0.toList = ([] : List UInt8)
          · rw [if_pos he] at hnext ⊢
            exact Ev.ite_pos he hnext
          · rw [if_neg he] at hnext ⊢
            exact Ev.ite_neg he (Ev.ite_pos (by omega) hnext)
      -- the marks that it has
      have inner : ∀ (e j : Nat), ms.length - j = e → j ≤ ms.length → Ev (fun k => marks_norm.l1 k out l (l.length : Int) (i : Int) ms (ms.length : Int) (j : Int) ms r.f0 r.f1 r.f0 (keep (ms.take j) r.f1)) ((l.drop (i + 1)).foldl (step ms) (step ms out r), 0) := by
        intro e
        induction e with
        | zero =>
          intro j he hj
          obtain rfl : j = ms.length := by omega
          rw [List.take_length]
          refine Ev.one (f := fun k => _) (fun k => by rw [marks_norm.l1]) (Ev.ite_neg (by omega) ?_)
          by_cases hpos : 0 < out.length
          · have hw2 : Aside0 (wrap64 ((out.length : Int) - 1) = ((out.length - 1 : Nat) : Int)) := ⟨by rw [wrap_id (by omega) (by omega)]; omega⟩
            have hlt2 : out.length - 1 < out.length := by omega
            rw [hw2.out, rdR_at out _ hlt2]
            refine Ev.ite_pos (by omega) (Ev.ite_pos (by omega) (Ev.ite_pos (by omega) ?_))
            have hlast : out.getLast? = some out[out.length - 1] := by rw [List.getLast?_eq_getElem?]; simp [hlt2]
            have hsame : out[out.length - 1].f1.length < 1000000 := by have := (hb _ (List.getElem_mem hlt2)).2; omega
            refine Ev.bnd (equal_ev _ _ hsame) (fin _ ?_)
            rw [decide_eq_true_eq]
            constructor
            · intro h; exact ⟨_, hlast, h⟩
            · rintro ⟨p, hp, h⟩
              rw [hlast] at hp
              rw [Option.some.inj hp]; exact h
          · have hnil : out = [] := List.eq_nil_of_length_eq_zero (by omega)
            refine Ev.ite_neg (by omega) (fin false ⟨fun h => (by cases h), fun ⟨p, hp, _⟩ => (by rw [hnil] at hp; simp at hp)⟩)
        | succ e ihe =>
          intro j he hj
          have hltj : j < ms.length := by omega
          have hwj : Aside0 (wrap64 ((j : Int) + 1) = ((j + 1 : Nat) : Int)) := ⟨wrap_succ hltj (by omega)⟩
          have hn := ihe (j + 1) (by omega) (by omega)
          rw [keep_take ms r.f1 j hltj] at hn
          have hlen : (keep (ms.take j) r.f1).length ≤ 1000 := by
            unfold keep
            refine Nat.le_trans (List.length_filter_le _ _) ?_
            rw [List.length_take]; omega
          refine Ev.one (f := fun k => _) (fun k => by rw [marks_norm.l1, hwj.out, rdB_at ms j hltj]) ?_
          refine Ev.ite_pos (by omega) (Ev.ite_pos (by omega) (Ev.ite_pos (by omega) (Ev.bnd (contains_ev r.f1 ms[j] (by omega)) ?_)))
          by_cases hc : ms[j] ∈ r.f1
          · rw [if_pos hc] at hn
            exact Ev.ite_pos (decide_eq_true hc) (Ev.ite_pos (by omega) hn)
          · rw [if_neg hc, List.append_nil] at hn
            exact Ev.ite_neg (by simp [hc]) hn
      refine Ev.one (f := fun k => _) (fun k => by rw [marks_norm.l0, rdR_at l i hlt, hr]) ?_
      refine Ev.ite_pos (by omega) (Ev.ite_pos (by omega) (Ev.ite_pos (by omega) (Ev.bnd (known_eq ms r.f1 (by omega) hk1) (Ev.ite_neg (by decide) ?_))))
      exact inner ms.length 0 (by omega) (by omega)
  unfold marks_norm.f nrm
  exact loop l.length 0 [] (by omega) (by omega) (Nat.le_refl _) (fun p hp => by cases hp)
end Go.Proofs.YtjmhihadgpdiaaaDoor.Mk
end
section
namespace Go.Proofs.YtjmhihadgpdiaaaDoor.Mk
open Go.RowKit Go.Proofs.YtjmhihadgpdiaaaDoor.X Go.Proofs.YtjmhihadgpdiaaaDoorW.PrintWords Go.Proofs.YtjmhihadgpdiaaaDoorW.PrintLast Go.Proofs.YtjmhihadgpdiaaaDoor.Base
set_option linter.unusedVariables false
set_option linter.unusedSimpArgs false
abbrev Nd := S49
def AdjL : List Bs → Prop
  | [] => True
  | [_] => True
  | a :: b :: l => a ≠ b ∧ AdjL (b :: l)
theorem AdjL.tail {a : Bs} {l : List Bs} (h : AdjL (a :: l)) : AdjL l := by
  cases l with
  | nil => trivial
  | cons b l => exact h.2
theorem AdjL.drop {l : List Bs} (h : AdjL l) : ∀ n, AdjL (l.drop n) := by
  intro n
  induction n generalizing l with
  | zero => exact h
  | succ n ih =>
    cases l with
    | nil => trivial
    | cons a l => exact ih h.tail
theorem AdjL.take {l : List Bs} (h : AdjL l) : ∀ n, AdjL (l.take n) := by
  intro n
  induction n generalizing l with
  | zero => trivial
  | succ n ih =>
    match l, h with
    | [], _ => trivial
    | [a], _ => simp [AdjL]
    | a :: b :: l, h =>
      cases n with
      | zero => trivial
      | succ n => exact ⟨h.1, ih h.2⟩
theorem AdjL.snoc {l : List Bs} {b : Bs} (h : AdjL l) (hb : l.getLast? ≠ some b) : AdjL (l ++ [b]) := by
  match l, h, hb with
  | [], _, _ => trivial
  | [a], _, hb => exact ⟨fun e => hb (by rw [e]; rfl), trivial⟩
  | a :: c :: l, h, hb =>
    refine ⟨h.1, AdjL.snoc (l := c :: l) h.2 (fun e => hb ?_)⟩
    rw [List.getLast?_cons_cons]; exact e
/-- what the norm gives -/
def PN (ms : Bs) (l : List R) : Prop := (∀ r ∈ l, r.f0.toList ≠ [] ∧ ∃ a, r.f1 = keep ms a) ∧ AdjL (l.map (·.f1))
theorem step_pn {ms : Bs} {out : List R} (h : PN ms out) (r : R) : PN ms (step ms out r) := by
  unfold step
  split
  · rename_i hj
    obtain ⟨p, hp, _⟩ := hj
    have hne : out ≠ [] := by rintro rfl; simp at hp
    have hlt : out.length - 1 < out.length := by have := List.length_pos_iff.2 hne; omega
    have e : out.getD (out.length - 1) ⟨ByteArray.empty, []⟩ = out[out.length - 1] := by simp [List.getD, hlt]
    rw [e]
    have h2 := h.1 (out[out.length - 1]) (List.getElem_mem hlt)
    refine ⟨fun q hq => ?_, ?_⟩
    · rcases List.mem_or_eq_of_mem_set hq with hq | rfl
      · exact h.1 q hq
      · refine ⟨fun e => h2.1 ?_, h2.2⟩
        have e2 : (out[out.length - 1].f0 ++ r.f0).toList = [] := e
        rw [toList_eq, ByteArray.data_append, Array.toList_append] at e2
        rw [toList_eq]; exact (List.append_eq_nil_iff.1 e2).1
    · have e3 : (out.set (out.length - 1) ⟨out[out.length - 1].f0 ++ r.f0, out[out.length - 1].f1⟩).map (·.f1) = out.map (·.f1) := by
        rw [List.map_set]
        apply List.ext_getElem?
        intro j
        rw [List.getElem?_set]
        split
        · rename_i hji
          subst hji
          simp [hlt]
        · rfl
      rw [e3]; exact h.2
  · rename_i hj
    split
    · exact h
    · rename_i hr
      refine ⟨fun q hq => ?_, ?_⟩
      · rcases List.mem_append.1 hq with hq | hq
        · exact h.1 q hq
        · rw [List.mem_singleton.1 hq]; exact ⟨hr, r.f1, rfl⟩
      · rw [List.map_append]
        refine AdjL.snoc h.2 (fun e => hj ?_)
        rw [List.getLast?_map] at e
        obtain ⟨p, hp, e2⟩ := Option.map_eq_some_iff.1 e
        exact ⟨p, hp, e2⟩
theorem nrm_pn (ms : Bs) (l : List R) : PN ms (nrm ms l) := by
  have : ∀ (l : List R) (out : List R), PN ms out → PN ms (l.foldl (step ms) out) := by
    intro l
    induction l with
    | nil => intro out h; exact h
    | cons r l ih => intro out h; exact ih _ (step_pn h r)
  exact this l [] ⟨fun r hr => (by cases hr), trivial⟩
theorem nrm_len (ms : Bs) (l : List R) : (nrm ms l).length ≤ l.length := by
  have : ∀ (l : List R) (out : List R), (l.foldl (step ms) out).length ≤ out.length + l.length := by
    intro l
    induction l with
    | nil => intro out; simp
    | cons r l ih =>
      intro out
      have := ih (step ms out r)
      have := step_len ms out r
      rw [List.foldl_cons, List.length_cons]; omega
  have h2 := this l []
  rw [List.length_nil, Nat.zero_add] at h2
  exact h2
def flt (pre : Bs) : List Nd → List R
  | [] => []
  | n :: l => (if n.f0.toList = ([] : List UInt8) then [⟨n.f2, pre⟩] else flt (pre ++ [n.f0]) n.f3) ++ flt pre l
termination_by l => SizeOf.sizeOf l
decreasing_by all_goals (cases n; simp; omega)
theorem flt_nil (pre : Bs) : flt pre [] = [] := by rw [flt]
theorem flt_cons (pre : Bs) (n : Nd) (l : List Nd) : flt pre (n :: l) = (if n.f0.toList = ([] : List UInt8) then [⟨n.f2, pre⟩] else flt (pre ++ [n.f0]) n.f3) ++ flt pre l := by rw [flt]
/-- nested in the order of marks, no two of one name side by side -/
def NB (prev : Option ByteArray) (ms : Bs) : List Nd → Prop
  | [] => True
  | n :: l => (n.f0.toList ≠ [] → ∃ l1 l2, ms = l1 ++ n.f0 :: l2 ∧ prev ≠ some n.f0 ∧ n.f3 ≠ [] ∧ NB none l2 n.f3) ∧ NB (some n.f0) ms l
termination_by l => SizeOf.sizeOf l
decreasing_by all_goals (cases n; simp; omega)
theorem NB_nil (prev : Option ByteArray) (ms : Bs) : NB prev ms [] := by rw [NB]; trivial
theorem NB_cons (prev : Option ByteArray) (ms : Bs) (n : Nd) (l : List Nd) : NB prev ms (n :: l) = ((n.f0.toList ≠ [] → ∃ l1 l2, ms = l1 ++ n.f0 :: l2 ∧ prev ≠ some n.f0 ∧ n.f3 ≠ [] ∧ NB none l2 n.f3) ∧ NB (some n.f0) ms l) := by rw [NB]
/-- texts are not empty and apart -/
def AT (prev : Option ByteArray) : List Nd → Prop
  | [] => True
  | n :: l => (if n.f0.toList = ([] : List UInt8) then n.f2.toList ≠ [] ∧ n.f3 = [] ∧ n.f1 = [] ∧ (∀ p, prev = some p → p.toList ≠ []) else n.f2.toList = [] ∧ AT none n.f3 ∧ n.f1 = []) ∧ AT (some n.f0) l
termination_by l => SizeOf.sizeOf l
decreasing_by all_goals (cases n; simp; omega)
theorem AT_nil (prev : Option ByteArray) : AT prev [] := by rw [AT]; trivial
theorem AT_cons (prev : Option ByteArray) (n : Nd) (l : List Nd) : AT prev (n :: l) = ((if n.f0.toList = ([] : List UInt8) then n.f2.toList ≠ [] ∧ n.f3 = [] ∧ n.f1 = [] ∧ (∀ p, prev = some p → p.toList ≠ []) else n.f2.toList = [] ∧ AT none n.f3 ∧ n.f1 = []) ∧ AT (some n.f0) l) := by rw [AT]
/-- what stands ahead of runs that are nested at a place -/
def Pv (prev : Option ByteArray) (pre : Bs) (L : List R) : Prop := ∀ r p, L.head? = some r → prev = some p → (p.toList = [] → r.f1 ≠ pre) ∧ (p.toList ≠ [] → ∀ s, r.f1 ≠ pre ++ p :: s)
theorem sub_after {m : ByteArray} {s l1 l2 : Bs} (h : (m :: s).Sublist (l1 ++ m :: l2)) (hn : m ∉ l1) : s.Sublist l2 := by
  induction l1 with
  | nil =>
    cases h with
    | cons _ h => exact (List.sublist_cons_self m s).trans h
    | cons_cons _ h => exact h
  | cons a l1 ih =>
    have hne : m ≠ a := fun e => hn (by rw [e]; exact List.mem_cons_self)
    cases h with
    | cons _ h => exact ih h (fun e => hn (List.mem_cons_of_mem _ e))
    | cons_cons _ h => exact absurd rfl hne
theorem first_of {m : ByteArray} {l : Bs} (h : m ∈ l) : ∃ l1 l2, l = l1 ++ m :: l2 ∧ m ∉ l1 := by
  induction l with
  | nil => cases h
  | cons a l ih =>
    by_cases e : m = a
    · subst e; exact ⟨[], l, rfl, fun h => (by cases h)⟩
    · obtain ⟨l1, l2, h1, h2⟩ := ih ((List.mem_cons.1 h).resolve_left e)
      exact ⟨a :: l1, l2, by rw [h1]; rfl, fun h3 => (List.mem_cons.1 h3).elim e h2⟩
/-- the runs that go into an element -/
theorem nest_step {L : List R} {r : R} {L' : List R} (hL : L = r :: L') {pre s' : Bs} {m : ByteArray} (hr : r.f1 = pre ++ m :: s') (hlen : ∀ x ∈ L, pre.length ≤ x.f1.length) (hL2 : L.length < 1000000) (hp2 : pre.length < 1000000) (acc : List Nd) (ha : acc.length < 1000000) :
    ∃ i, 1 ≤ i ∧ i ≤ L.length ∧ (∀ x ∈ L.take i, ix_marksNest.P (pre.length : Int) m x = false) ∧ (∀ x, (L.drop i).head? = some x → ix_marksNest.P (pre.length : Int) m x = true) ∧
      ∀ (parts : List Nd) (RR : List Nd), Ev (fun k => marks_nest.f k (L.take i) ((pre ++ [m]).length : Int)) parts → Ev (fun k => marks_nest.l0 k (L.drop i) (acc ++ [(⟨m, [], ⟨#[]⟩, parts⟩ : Nd)]) (pre.length : Int)) RR → Ev (fun k => marks_nest.l0 k L acc (pre.length : Int)) RR := by
  have hrd : rd_T40 L 0 = r := by rw [hL]; rfl
  have hpl : pre.length < r.f1.length := by rw [hr]; simp
  have hm : rdOf ByteArray.empty r.f1 (pre.length : Int) = m := by rw [rdB_at _ _ hpl]; simp [hr]
  have hpos : 0 < L.length := by rw [hL]; simp
  have hw : Aside0 (wrap64 ((pre.length : Int) + 1) = ((pre ++ [m]).length : Int)) := ⟨by rw [wrap_id (by omega) (by omega)]; simp⟩
  have hg : L.all (ix_marksNest.g (pre.length : Int)) = true := by
    rw [List.all_eq_true]
    intro x hx
    have := hlen x hx
    unfold ix_marksNest.g
    by_cases e : (x.f1.length : Int) = (pre.length : Int)
    · simp [e]
    · have e3 : (pre.length : Int) < (x.f1.length : Int) := by omega
      simp [e3]
  have hix : ix_marksNest.f L (pre.length : Int) m = some (ix_marksNest.idx (pre.length : Int) m L) := by unfold ix_marksNest.f; rw [if_pos hg]
  have hP0 : ix_marksNest.P (pre.length : Int) m r = false := by
    unfold ix_marksNest.P
    rw [hm, decide_eq_false (by omega)]
    simp
  have c1 : (L.length : Int) > 0 := by omega
  have c2 : 0 < (L.length : Int) := by omega
  have c3 : ¬ ((r.f1.length : Int) = (pre.length : Int)) := by omega
  have c4 : 0 ≤ (pre.length : Int) := by omega
  have c5 : (pre.length : Int) < (r.f1.length : Int) := by omega
  have c6 : acc.length < 1759218604441 := by omega
  have c7 : 0 ≤ (L.length : Int) := by omega
  have c8 : (L.length : Int) ≤ (L.length : Int) := by omega
  have hix2 := hix
  unfold ix_marksNest.idx at hix2
  cases hf : L.findIdx? (ix_marksNest.P (pre.length : Int) m) with
  | none =>
    rw [hf] at hix2
    rw [List.findIdx?_eq_none_iff] at hf
    refine ⟨L.length, hpos, Nat.le_refl _, fun x hx => hf x (List.mem_of_mem_take hx), fun x hx => ?_, fun parts RR h1 h2 => ?_⟩
    · rw [List.drop_length] at hx; cases hx
    · refine Ev.one (f := fun k => (marks_nest.f k (L.take L.length) ((pre ++ [m]).length : Int)).bind fun t => marks_nest.l0 k (L.drop L.length) (acc ++ [(⟨m, [], ⟨#[]⟩, t⟩ : Nd)]) (pre.length : Int)) (fun k => ?_) (Ev.bnd h1 h2)
      rw [marks_nest.l0, if_pos c1, if_pos c2, hrd, if_neg c3, if_pos c4, if_pos c5, hm, hix2, Option.bind_some, if_pos (by decide), if_pos c7, if_pos c8, hw.out, Int.toNat_natCast]
      simp only [if_pos c6]
  | some i =>
    rw [hf] at hix2
    rw [List.findIdx?_eq_some_iff_getElem] at hf
    obtain ⟨hi, ht, hb⟩ := hf
    have hi1 : 1 ≤ i := by
      cases i with
      | zero =>
        have : L[0] = r := by simp [hL]
        rw [this, hP0] at ht; cases ht
      | succ i => omega
    have c9 : ¬ ((i : Int) < 0) := by omega
    have c10 : 0 ≤ (i : Int) := by omega
    have c11 : (i : Int) ≤ (L.length : Int) := by omega
    refine ⟨i, hi1, by omega, fun x hx => ?_, fun x hx => ?_, fun parts RR h1 h2 => ?_⟩
    · obtain ⟨j, hj, rfl⟩ := List.getElem_of_mem hx
      rw [List.getElem_take]
      have hj2 : j < i := by rw [List.length_take] at hj; omega
      have := hb j hj2
      simpa using this
    · rw [List.head?_drop, List.getElem?_eq_getElem hi] at hx
      rw [← Option.some.inj hx]; exact ht
    · refine Ev.one (f := fun k => (marks_nest.f k (L.take i) ((pre ++ [m]).length : Int)).bind fun t => marks_nest.l0 k (L.drop i) (acc ++ [(⟨m, [], ⟨#[]⟩, t⟩ : Nd)]) (pre.length : Int)) (fun k => ?_) (Ev.bnd h1 h2)
      rw [marks_nest.l0, if_pos c1, if_pos c2, hrd, if_neg c3, if_pos c4, if_pos c5, hm, hix2, Option.bind_some, if_neg c9, if_pos c10, if_pos c11, hw.out, Int.toNat_natCast]
      simp only [if_pos c6]
theorem nest_ev : ∀ (N : Nat) (ms2 : Bs), ms2.length ≤ N → ms2.Nodup → (∀ m ∈ ms2, m.toList ≠ []) → ∀ (n : Nat) (L : List R) (pre : Bs) (acc : List Nd), L.length ≤ n → acc.length + n < 100000 → pre.length + N < 100000 → (∀ r ∈ L, r.f0.toList ≠ [] ∧ ∃ s, r.f1 = pre ++ s ∧ s.Sublist ms2) → AdjL (L.map (·.f1)) →
    ∃ nodes, Ev (fun k => marks_nest.l0 k L acc (pre.length : Int)) (acc ++ nodes) ∧ (L ≠ [] → nodes ≠ []) ∧ flt pre nodes = L ∧ ∀ prev, Pv prev pre L → NB prev ms2 nodes ∧ AT prev nodes := by
  intro N
  induction N with
  | zero => exact fun ms2 hN hnd hne => nest_aux 0 (fun _ h => absurd h (by omega)) ms2 hN hnd hne
  | succ N ihN => exact fun ms2 hN hnd hne => nest_aux (N + 1) (fun M hM ms3 h3 hnd3 hne3 n L pre acc h1 h2 h4 h5 h6 => ihN ms3 (by omega) hnd3 hne3 n L pre acc h1 h2 (by omega) h5 h6) ms2 hN hnd hne
where
  nest_aux (N : Nat) (ihN : ∀ M, M < N → ∀ (ms2 : Bs), ms2.length ≤ M → ms2.Nodup → (∀ m ∈ ms2, m.toList ≠ []) → ∀ (n : Nat) (L : List R) (pre : Bs) (acc : List Nd), L.length ≤ n → acc.length + n < 100000 → pre.length + N ≤ 100000 → (∀ r ∈ L, r.f0.toList ≠ [] ∧ ∃ s, r.f1 = pre ++ s ∧ s.Sublist ms2) → AdjL (L.map (·.f1)) →
      ∃ nodes, Ev (fun k => marks_nest.l0 k L acc (pre.length : Int)) (acc ++ nodes) ∧ (L ≠ [] → nodes ≠ []) ∧ flt pre nodes = L ∧ ∀ prev, Pv prev pre L → NB prev ms2 nodes ∧ AT prev nodes) (ms2 : Bs) (hN : ms2.length ≤ N) (hnd : ms2.Nodup) (hne : ∀ m ∈ ms2, m.toList ≠ []) : ∀ (n : Nat) (L : List R) (pre : Bs) (acc : List Nd), L.length ≤ n → acc.length + n < 100000 → pre.length + N < 100000 → (∀ r ∈ L, r.f0.toList ≠ [] ∧ ∃ s, r.f1 = pre ++ s ∧ s.Sublist ms2) → AdjL (L.map (·.f1)) →
      ∃ nodes, Ev (fun k => marks_nest.l0 k L acc (pre.length : Int)) (acc ++ nodes) ∧ (L ≠ [] → nodes ≠ []) ∧ flt pre nodes = L ∧ ∀ prev, Pv prev pre L → NB prev ms2 nodes ∧ AT prev nodes := by
    intro n
    induction n with
    | zero =>
      intro L pre acc hl _ _ _ _
      obtain rfl : L = [] := List.eq_nil_of_length_eq_zero (by omega)
      refine ⟨[], ?_, fun h => absurd rfl h, flt_nil pre, fun prev _ => ⟨NB_nil _ _, AT_nil _⟩⟩
      rw [List.append_nil]
      refine Ev.one (f := fun k => _) (fun k => by rw [marks_nest.l0]) ?_
      exact Ev.ite_neg (by simp) (Ev.some _)
    | succ n ih =>
      intro L pre acc hl ha hpre hr hadj
      cases hL : L with
      | nil =>
        refine ⟨[], ?_, fun h => absurd rfl h, flt_nil pre, fun prev _ => ⟨NB_nil _ _, AT_nil _⟩⟩
        rw [List.append_nil]
        refine Ev.one (f := fun k => _) (fun k => by rw [marks_nest.l0]) ?_
        exact Ev.ite_neg (by simp) (Ev.some _)
      | cons r L' =>
        obtain ⟨hr0, s, hs, hsub⟩ := hr r (by rw [hL]; exact List.mem_cons_self)
        have hlen' : L.length = L'.length + 1 := by rw [hL]; rfl
        cases s with
        | nil =>
          rw [List.append_nil] at hs
          have ee : (⟨#[]⟩ : ByteArray).toList = ([] : List UInt8) := toList_nil.2 rfl
          obtain ⟨nodes, h1, h2, h3, h4⟩ := ih L' pre (acc ++ [(⟨⟨#[]⟩, [], r.f0, []⟩ : Nd)]) (by omega) (by simp; omega) hpre (fun x hx => hr x (by rw [hL]; exact List.mem_cons_of_mem _ hx)) (by rw [hL, List.map_cons] at hadj; exact hadj.tail)
          refine ⟨(⟨⟨#[]⟩, [], r.f0, []⟩ : Nd) :: nodes, ?_, fun _ => by simp, ?_, fun prev hp => ?_⟩
          · rw [List.append_assoc, List.singleton_append] at h1
            have c1 : (((r :: L').length : Nat) : Int) > 0 := by rw [List.length_cons]; omega
            have c2 : 0 < (((r :: L').length : Nat) : Int) := by omega
            have c3 : (r.f1.length : Int) = (pre.length : Int) := by rw [hs]
            have c4 : acc.length < 1759218604441 := by omega
            have c5 : 1 ≤ (((r :: L').length : Nat) : Int) := by omega
            refine Ev.one (fun k => ?_) h1
            have e0 : rd_T40 (r :: L') 0 = r := rfl
            rw [marks_nest.l0, if_pos c1, if_pos c2, e0, if_pos c3, if_pos c4, if_pos c5]
            rfl
          · rw [flt_cons]
            dsimp only
            rw [if_pos ee, h3, ← hs]; rfl
          · have h5 := h4 (some ⟨#[]⟩) (fun x p hx hp => by
              obtain rfl := Option.some.inj hp
              refine ⟨fun _ e => ?_, fun h => absurd ee h⟩
              cases hL2 : L' with
              | nil => rw [hL2] at hx; cases hx
              | cons y L2 =>
                rw [hL2] at hx
                obtain rfl := Option.some.inj hx
                rw [hL, hL2, List.map_cons, List.map_cons] at hadj
                exact hadj.1 (by rw [hs, e]))
            rw [NB_cons, AT_cons]
            dsimp only
            rw [if_pos ee]
            refine ⟨⟨fun h => absurd ee h, h5.1⟩, ⟨hr0, rfl, rfl, fun p he hpe => ?_⟩, h5.2⟩
            exact ((hp r p rfl he).1 hpe) hs
        | cons m s' =>
          have hm : m ∈ ms2 := hsub.subset List.mem_cons_self
          have hmne := hne m hm
          obtain ⟨l1, l2, hms, hml1⟩ := first_of hm
          have hnd2 := hnd
          rw [hms] at hnd2
          have hl2nd : l2.Nodup := ((List.nodup_append.1 hnd2).2.1).tail
          have hl2len : l2.length < ms2.length := by rw [hms]; simp; omega
          have hplen : ∀ x ∈ L, pre.length ≤ x.f1.length := fun x hx => by
            obtain ⟨_, sx, e, _⟩ := hr x hx
            rw [e]; simp
          obtain ⟨i, hi1, hi2, hG, hR, hstep⟩ := nest_step hL hs hplen (by omega) (by omega) acc (by omega)
          have hin : ∀ x ∈ L.take i, x.f0.toList ≠ [] ∧ ∃ s, x.f1 = (pre ++ [m]) ++ s ∧ s.Sublist l2 := by
            intro x hx
            obtain ⟨hx0, sx, e, hsx⟩ := hr x (List.mem_of_mem_take hx)
            have hP := hG x hx
            unfold ix_marksNest.P at hP
            rw [Bool.or_eq_false_iff] at hP
            refine ⟨hx0, ?_⟩
            cases sx with
            | nil => exact absurd hP.1 (by rw [e]; simp)
            | cons q sx =>
              have hpl : pre.length < x.f1.length := by rw [e]; simp
              have hq : rdOf ByteArray.empty x.f1 (pre.length : Int) = q := by rw [rdB_at _ _ hpl]; simp [e]
              have hqm : q = m := by
                have := hP.2
                rw [hq] at this
                exact toList_inj.1 (by simpa using this)
              subst hqm
              refine ⟨sx, by rw [e]; simp, ?_⟩
              rw [hms] at hsx
              exact sub_after hsx hml1
          have hadjT : AdjL ((L.take i).map (·.f1)) := by rw [List.map_take]; exact hadj.take i
          have hadjD : AdjL ((L.drop i).map (·.f1)) := by rw [List.map_drop]; exact hadj.drop i
          obtain ⟨parts, p1, p2, p3, p4⟩ := ihN (N - 1) (by omega) l2 (by omega) hl2nd (fun q hq => hne q (by rw [hms]; simp [hq])) (n + 1) (L.take i) (pre ++ [m]) [] (by rw [List.length_take]; omega) (by simp; omega) (by simp; omega) hin hadjT
          obtain ⟨nodes, h1, h2, h3, h4⟩ := ih (L.drop i) pre (acc ++ [(⟨m, [], ⟨#[]⟩, parts⟩ : Nd)]) (by rw [List.length_drop]; omega) (by simp; omega) hpre (fun x hx => hr x (List.mem_of_mem_drop hx)) hadjD
          rw [List.append_assoc, List.singleton_append] at h1
          have p1' : Ev (fun k => marks_nest.f k (L.take i) ((pre ++ [m]).length : Int)) parts := by
            refine Ev.one (fun k => ?_) p1
            rw [marks_nest.f]
          have hmain := hstep parts _ p1' h1
          rw [hL] at hmain
          refine ⟨(⟨m, [], ⟨#[]⟩, parts⟩ : Nd) :: nodes, hmain, fun _ => by simp, ?_, fun prev hp => ?_⟩
          · rw [flt_cons]
            dsimp only
            rw [if_neg hmne, p3, h3, ← hL]
            exact List.take_append_drop i L
          · have hv := p4 none (fun _ _ _ h => (by cases h))
            have h5 := h4 (some m) (fun x p hx he => by
              obtain rfl := Option.some.inj he
              refine ⟨fun h => absurd h hmne, fun _ sx e => ?_⟩
              have hP := hR x hx
              unfold ix_marksNest.P at hP
              have hpl : pre.length < x.f1.length := by rw [e]; simp
              have hq : rdOf ByteArray.empty x.f1 (pre.length : Int) = m := by rw [rdB_at _ _ hpl]; simp [e]
              rw [hq, decide_eq_false (by omega)] at hP
              simp at hP)
            have hpne : parts ≠ [] := p2 (fun e => by
              have h6 : (L.take i).length = 0 := by rw [e]; rfl
              rw [List.length_take] at h6
              omega)
            rw [NB_cons, AT_cons]
            dsimp only
            rw [if_neg hmne]
            refine ⟨⟨fun _ => ⟨l1, l2, hms, fun e => ?_, hpne, hv.1⟩, h5.1⟩, ⟨toList_nil.2 rfl, hv.2, rfl⟩, h5.2⟩
            exact (hp r m rfl e).2 hmne s' hs
end Go.Proofs.YtjmhihadgpdiaaaDoor.Mk
end
section
namespace Go.Proofs.YtjmhihadgpdiaaaDoor.Mk
open Go.RowKit Go.Proofs.YtjmhihadgpdiaaaDoor.X Go.Proofs.YtjmhihadgpdiaaaDoorW.PrintWords Go.Proofs.YtjmhihadgpdiaaaDoorW.PrintLast Go.Proofs.YtjmhihadgpdiaaaDoor.Base
set_option linter.unusedVariables false
set_option linter.unusedSimpArgs false
def cnt : List Nd → Nat
  | [] => 0
  | n :: l => 1 + cnt n.f3 + cnt l
termination_by l => SizeOf.sizeOf l
decreasing_by all_goals (cases n; simp; omega)
theorem cnt_nil : cnt [] = 0 := by rw [cnt]
theorem cnt_cons (n : Nd) (l : List Nd) : cnt (n :: l) = 1 + cnt n.f3 + cnt l := by rw [cnt]
theorem cnt_len : ∀ l : List Nd, l.length ≤ cnt l
  | [] => Nat.zero_le _
  | n :: l => by have := cnt_len l; rw [cnt_cons, List.length_cons]; omega
theorem cnt_le : ∀ (N : Nat) (nodes : List Nd) (prev : Option ByteArray) (ms pre : Bs), cnt nodes ≤ N → AT prev nodes → NB prev ms nodes → cnt nodes ≤ (flt pre nodes).length * (ms.length + 1) := by
  intro N
  induction N with
  | zero =>
    intro nodes prev ms pre h _ _
    omega
  | succ N ih =>
    intro nodes prev ms pre h hA hB
    cases nodes with
    | nil => rw [cnt_nil]; omega
    | cons n l =>
      rw [cnt_cons] at h
      rw [NB_cons] at hB
      rw [AT_cons] at hA
      have h1 := ih l (some n.f0) ms pre (by omega) hA.2 hB.2
      rw [cnt_cons, flt_cons, List.length_append, Nat.add_mul]
      by_cases e : n.f0.toList = ([] : List UInt8)
      · rw [if_pos e] at hA
        rw [if_pos e, hA.1.2.1, cnt_nil]
        simp
        omega
      · rw [if_neg e]
        rw [if_neg e] at hA
        obtain ⟨l1, l2, hms, _, hne, hb⟩ := hB.1 e
        have h2 := ih n.f3 none l2 (pre ++ [n.f0]) (by omega) hA.1.2.1 hb
        have h3 : 1 ≤ cnt n.f3 := by
          have := cnt_len n.f3
          have := List.length_pos_iff.2 hne
          omega
        have h4 : 1 ≤ (flt (pre ++ [n.f0]) n.f3).length := by
          rcases Nat.eq_zero_or_pos (flt (pre ++ [n.f0]) n.f3).length with h0 | h0
          · rw [h0, Nat.zero_mul] at h2; omega
          · exact h0
        have h5 : l2.length + 1 ≤ ms.length := by rw [hms]; simp
        have h6 : (flt (pre ++ [n.f0]) n.f3).length * (l2.length + 1) + (flt (pre ++ [n.f0]) n.f3).length ≤ (flt (pre ++ [n.f0]) n.f3).length * (ms.length + 1) := by
          rw [← Nat.mul_succ]
          exact Nat.mul_le_mul_left _ (by omega)
        omega
end Go.Proofs.YtjmhihadgpdiaaaDoor.Mk
end
section
namespace Go.Proofs.YtjmhihadgpdiaaaDoor.Mk
open Go.RowKit Go.Proofs.YtjmhihadgpdiaaaDoor.X Go.Proofs.YtjmhihadgpdiaaaDoorW.PrintWords Go.Proofs.YtjmhihadgpdiaaaDoorW.PrintLast Go.Proofs.YtjmhihadgpdiaaaDoor.Base
set_option linter.unusedVariables false
set_option linter.unusedSimpArgs false
def orders : List Bs := [[(⟨#[98]⟩ : ByteArray), (⟨#[101, 109]⟩ : ByteArray), (⟨#[105]⟩ : ByteArray)], [(⟨#[105]⟩ : ByteArray), (⟨#[98]⟩ : ByteArray), (⟨#[101, 109]⟩ : ByteArray)], [(⟨#[101, 109]⟩ : ByteArray), (⟨#[105]⟩ : ByteArray), (⟨#[98]⟩ : ByteArray)], [(⟨#[105]⟩ : ByteArray), (⟨#[101, 109]⟩ : ByteArray), (⟨#[98]⟩ : ByteArray)]]
theorem order_ev (a : Int) : ∃ ms ∈ orders, bobbinetkeep_markOrder.f a = some ms := by
  have hp := pick_ev a 4 (by decide) (by decide)
  have hb : 0 ≤ a % 4 ∧ a % 4 < 4 := by omega
  generalize a % 4 = u at hp hb
  unfold bobbinetkeep_markOrder.f
  rw [Option.bind_some, hp, Option.bind_some, if_pos hb.1, if_pos (show u < _ by simp; omega)]
  obtain rfl | rfl | rfl | rfl : u = 0 ∨ u = 1 ∨ u = 2 ∨ u = 3 := by omega
  · exact ⟨_, List.mem_cons_self, rfl⟩
  · exact ⟨_, List.mem_cons_of_mem _ List.mem_cons_self, rfl⟩
  · exact ⟨_, List.mem_cons_of_mem _ (List.mem_cons_of_mem _ List.mem_cons_self), rfl⟩
  · exact ⟨_, List.mem_cons_of_mem _ (List.mem_cons_of_mem _ (List.mem_cons_of_mem _ List.mem_cons_self)), rfl⟩
theorem check_orders : orders.all (fun ms => marks_Check.f 100 ms == some 0) = true := by decide +kernel
theorem sure_ev : bobbinetkeep_marksSure.f 100 = some true := by decide +kernel
theorem sub_orders : orders.all (fun ms => decide (ms.Nodup) && three.all (fun m => decide (m ∈ ms)) && decide (ms.length = 3) && ms.all (fun m => decide (m.size ≠ 0))) = true := by decide +kernel
structure Ord (ms : Bs) : Prop where
  nodup : ms.Nodup
  all : ∀ m ∈ three, m ∈ ms
  len : ms.length = 3
  ne : ∀ m ∈ ms, m.toList ≠ []
  check : marks_Check.f 100 ms = some 0
theorem ord {ms : Bs} (h : ms ∈ orders) : Ord ms := by
  have h1 := List.all_eq_true.1 check_orders ms h
  have h2 := List.all_eq_true.1 sub_orders ms h
  simp only [Bool.and_eq_true] at h2
  obtain ⟨⟨⟨a, b⟩, c⟩, d⟩ := h2
  refine ⟨of_decide_eq_true a, fun m hm => ?_, of_decide_eq_true c, fun m hm e => ?_, by simpa using h1⟩
  · exact of_decide_eq_true (List.all_eq_true.1 b m hm)
  · have := of_decide_eq_true (List.all_eq_true.1 d m hm)
    rw [toList_nil.1 e] at this
    exact this rfl
theorem mono_up {α : Type} {g : Nat → Option α} (hm : ∀ k, LeO (g k) (g (k + 1))) {k : Nat} {r : α} (h : g k = some r) : Ev g r := by
  refine ⟨k, fun n hn => ?_⟩
  obtain ⟨d, rfl⟩ : ∃ d, n = k + d := ⟨n - k, by omega⟩
  induction d with
  | zero => exact h
  | succ d ih => exact hm _ _ (ih (by omega))
theorem norm_all {ms : Bs} (h : Ord ms) {rs : List R} (hl : rs.length ≤ 60) (hr : ∀ r ∈ rs, (∀ m ∈ r.f1, m ∈ three) ∧ r.f1.length < 1000 ∧ r.f0.size ≤ 1000000) : Ev (fun k => marks_Norm.f k ms rs) (nrm ms rs, 0) := by
  unfold marks_Norm.f
  have h1 : Ev (fun k => marks_fault.f k ms rs) 0 := by
    unfold marks_fault.f
    exact Ev.bnd (mono_up (marks_Check.mono ms) h.check) (Ev.ite_pos rfl (Ev.ite_neg (by omega) (Ev.some _)))
  have h2 := norm_ev ms (by rw [h.len]; omega) rs (by omega) (fun r hx => ⟨fun m hm => h.all m ((hr r hx).1 m hm), (hr r hx).2⟩)
  exact Ev.bnd h1 (Ev.ite_pos rfl (Ev.bnd h2 (Ev.some _)))
theorem nest_all {ms : Bs} (h : Ord ms) {rs : List R} (hl : rs.length ≤ 60) (hr : ∀ r ∈ rs, (∀ m ∈ r.f1, m ∈ three) ∧ r.f1.length < 1000 ∧ r.f0.size ≤ 1000000) :
    ∃ nodes, Ev (fun k => marks_Nest.f k ms rs) (nodes, 0) ∧ flt [] nodes = nrm ms rs ∧ NB none ms nodes ∧ AT none nodes ∧ cnt nodes ≤ 240 := by
  have h1 := norm_all h hl hr
  have hp := nrm_pn ms rs
  have hn := nrm_len ms rs
  obtain ⟨nodes, e1, _, e3, e4⟩ := nest_ev 3 ms (by rw [h.len]; omega) h.nodup h.ne 60 (nrm ms rs) [] [] (by omega) (by simp) (by simp) (fun r hx => by
    obtain ⟨h0, a, ha⟩ := hp.1 r hx
    exact ⟨h0, keep ms a, by rw [ha]; rfl, List.filter_sublist⟩) hp.2
  have e5 := e4 none (fun _ _ _ hq => (by cases hq))
  have e6 := cnt_le (cnt nodes) nodes none ms [] (Nat.le_refl _) e5.2 e5.1
  rw [e3, h.len] at e6
  refine ⟨nodes, ?_, e3, e5.1, e5.2, by omega⟩
  unfold marks_Nest.f
  have e7 : Ev (fun k => marks_nest.f k (nrm ms rs) 0) nodes := by
    refine Ev.one (fun k => ?_) e1
    rw [marks_nest.f]; rfl
  exact Ev.bnd h1 (Ev.ite_pos rfl (Ev.bnd e7 (Ev.some _)))
end Go.Proofs.YtjmhihadgpdiaaaDoor.Mk
end
section
namespace Go.Proofs.YtjmhihadgpdiaaaDoor.Mk
open Go.RowKit Go.Proofs.YtjmhihadgpdiaaaDoor.X Go.Proofs.YtjmhihadgpdiaaaDoorW.PrintWords Go.Proofs.YtjmhihadgpdiaaaDoorW.PrintLast Go.Proofs.YtjmhihadgpdiaaaDoor.Base
set_option linter.unusedVariables false
set_option linter.unusedSimpArgs false
/-- letters with their marks -/
def sp (l : List R) : List (UInt8 × Bs) := l.flatMap fun r => r.f0.toList.map fun b => (b, r.f1)
theorem sp_nil : sp [] = [] := rfl
theorem sp_cons (r : R) (l : List R) : sp (r :: l) = r.f0.toList.map (fun b => (b, r.f1)) ++ sp l := rfl
theorem sp_app (a b : List R) : sp (a ++ b) = sp a ++ sp b := by unfold sp; rw [List.flatMap_append]
theorem toList_app (a b : ByteArray) : (a ++ b).toList = a.toList ++ b.toList := by
  rw [toList_eq, toList_eq, toList_eq, ByteArray.data_append, Array.toList_append]
/-- the same with the marks of an order -/
def spk (ms : Bs) (l : List R) : List (UInt8 × Bs) := l.flatMap fun r => r.f0.toList.map fun b => (b, keep ms r.f1)
theorem sp_step (ms : Bs) (out : List R) (r : R) : sp (step ms out r) = sp out ++ r.f0.toList.map (fun b => (b, keep ms r.f1)) := by
  unfold step
  split
  · rename_i hj
    obtain ⟨p, hp, hp2⟩ := hj
    obtain ⟨o, rfl⟩ := List.getLast?_eq_some_iff.1 hp
    have h1 : (o ++ [p]).length - 1 = o.length := by simp
    have h2 : (o ++ [p]).getD o.length ⟨ByteArray.empty, []⟩ = p := by simp [List.getD]
    rw [h1, h2, List.set_append_right _ _ (Nat.le_refl _), Nat.sub_self, List.set_cons_zero, sp_app, sp_app, sp_cons, sp_cons, sp_nil, List.append_nil, List.append_nil, List.append_assoc]
    dsimp only
    rw [toList_app, List.map_append, hp2]
  · split
    · rename_i hr
      rw [hr, List.map_nil, List.append_nil]
    · rw [sp_app]
      congr 1
      rw [sp_cons, sp_nil, List.append_nil]
theorem sp_nrm (ms : Bs) (l : List R) : sp (nrm ms l) = spk ms l := by
  have : ∀ (l out : List R), sp (l.foldl (step ms) out) = sp out ++ spk ms l := by
    intro l
    induction l with
    | nil => intro out; unfold spk; simp
    | cons r l ih =>
      intro out
      rw [List.foldl_cons, ih, sp_step, List.append_assoc]
      rfl
  have h := this l []
  rw [sp_nil, List.nil_append] at h
  exact h
/-- texts that are not empty, marks that change -/
def Can (l : List R) : Prop := (∀ r ∈ l, r.f0.toList ≠ []) ∧ AdjL (l.map (·.f1))
theorem PN.can {ms : Bs} {l : List R} (h : PN ms l) : Can l := ⟨fun r hr => (h.1 r hr).1, h.2⟩
theorem Can.tail {r : R} {l : List R} (h : Can (r :: l)) : Can l := ⟨fun q hq => h.1 q (List.mem_cons_of_mem _ hq), by have := h.2; rw [List.map_cons] at this; exact this.tail⟩
theorem Can.next {r : R} {l : List R} (h : Can (r :: l)) : ∀ c ∈ (sp l).head?, c.2 ≠ r.f1 := by
  cases l with
  | nil => intro c hc; rw [sp_nil] at hc; cases hc
  | cons q l =>
    intro c hc
    have hq := h.1 q (by simp)
    have ha : r.f1 ≠ q.f1 := h.2.1
    rw [sp_cons] at hc
    cases hq2 : q.f0.toList with
    | nil => exact absurd hq2 hq
    | cons b bs =>
      rw [hq2] at hc
      have : (b, q.f1) = c := by simpa using hc
      rw [← this]
      exact fun e => ha e.symm
theorem cut_eq {m : Bs} : ∀ {xs ys : List UInt8} {U V : List (UInt8 × Bs)}, xs.map (fun b => (b, m)) ++ U = ys.map (fun b => (b, m)) ++ V → (∀ c ∈ U.head?, c.2 ≠ m) → (∀ c ∈ V.head?, c.2 ≠ m) → xs = ys ∧ U = V
  | [], [], U, V, h, _, _ => ⟨rfl, by simpa using h⟩
  | [], y :: ys, U, V, h, hU, _ => by
    exfalso
    have : U = (y, m) :: (ys.map (fun b => (b, m)) ++ V) := by simpa using h
    exact hU (y, m) (by rw [this]; rfl) rfl
  | x :: xs, [], U, V, h, _, hV => by
    exfalso
    have : V = (x, m) :: (xs.map (fun b => (b, m)) ++ U) := by simpa using h.symm
    exact hV (x, m) (by rw [this]; rfl) rfl
  | x :: xs, y :: ys, U, V, h, hU, hV => by
    rw [List.map_cons, List.map_cons, List.cons_append, List.cons_append, List.cons.injEq] at h
    obtain ⟨h1, h2⟩ := h
    obtain ⟨h3, h4⟩ := cut_eq h2 hU hV
    have : x = y := (Prod.mk.injEq _ _ _ _ ▸ h1).1
    exact ⟨by rw [this, h3], h4⟩
theorem R_ext {a b : R} (h0 : a.f0 = b.f0) (h1 : a.f1 = b.f1) : a = b := by
  cases a; cases b
  dsimp only at h0 h1
  rw [h0, h1]
theorem can_eq : ∀ {a b : List R}, Can a → Can b → sp a = sp b → a = b
  | [], [], _, _, _ => rfl
  | [], q :: b, _, hb, h => by
    exfalso
    have h1 := hb.1 q (by simp)
    rw [sp_cons, sp_nil] at h
    have := (List.append_eq_nil_iff.1 h.symm).1
    exact h1 (by simpa using this)
  | r :: a, [], ha, _, h => by
    exfalso
    have h1 := ha.1 r (by simp)
    rw [sp_cons, sp_nil] at h
    have := (List.append_eq_nil_iff.1 h).1
    exact h1 (by simpa using this)
  | r :: a, q :: b, ha, hb, h => by
    rw [sp_cons, sp_cons] at h
    have hr := ha.1 r (by simp)
    have hq := hb.1 q (by simp)
    have hm : r.f1 = q.f1 := by
      cases e1 : r.f0.toList with
      | nil => exact absurd e1 hr
      | cons x xs =>
        cases e2 : q.f0.toList with
        | nil => exact absurd e2 hq
        | cons y ys =>
          rw [e1, e2] at h
          rw [List.map_cons, List.map_cons, List.cons_append, List.cons_append, List.cons.injEq] at h
          exact (Prod.mk.injEq _ _ _ _ ▸ h.1).2
    have h2 := ha.next
    have h3 := hb.next
    rw [← hm] at h h3
    obtain ⟨h4, h5⟩ := cut_eq h h2 h3
    rw [can_eq ha.tail hb.tail h5, R_ext (toList_inj.1 h4) hm]
theorem spk_of_sp (b : Bs) (l : List R) : spk b l = (sp l).map fun c => (c.1, keep b c.2) := by
  unfold spk sp
  rw [List.map_flatMap]
  congr 1
  funext r
  rw [List.map_map]
  rfl
theorem nrm_same (a : Bs) (l : List R) : nrm a (nrm a l) = nrm a l := by
  refine can_eq (nrm_pn _ _).can (nrm_pn _ _).can ?_
  rw [sp_nrm, sp_nrm, spk_of_sp, sp_nrm]
  unfold spk
  rw [List.map_flatMap]
  congr 1
  funext r
  rw [List.map_map]
  apply List.map_congr_left
  intro x _
  show (x, keep a (keep a r.f1)) = _
  congr 1
  unfold keep
  apply List.filter_congr
  intro m hm
  rw [decide_eq_decide, List.mem_filter, decide_eq_true_eq]
  exact ⟨fun h2 => h2.2, fun h2 => ⟨hm, h2⟩⟩
/-- all texts of runs -/
def txs : List R → ByteArray
  | [] => ⟨#[]⟩
  | r :: l => r.f0 ++ txs l
theorem txs_app (a b : List R) : txs (a ++ b) = txs a ++ txs b := by
  induction a with
  | nil => exact ByteArray.empty_append.symm
  | cons r a ih => rw [List.cons_append, txs, txs, ih, ByteArray.append_assoc]
theorem txs_sp (l : List R) : (txs l).toList = (sp l).map (·.1) := by
  induction l with
  | nil => rw [txs, sp_nil]; exact toList_nil.2 rfl
  | cons r l ih =>
    rw [txs, sp_cons, toList_app, ih, List.map_append, List.map_map]
    congr 1
    exact (List.map_id' _).symm
theorem txs_nrm (a : Bs) (l : List R) : txs (nrm a l) = txs l := by
  apply toList_inj.1
  rw [txs_sp, txs_sp, sp_nrm, spk_of_sp, List.map_map]
  rfl
theorem txs_size {l : List R} {b : Nat} (h : ∀ r ∈ l, r.f0.size ≤ b) : (txs l).size ≤ l.length * b := by
  induction l with
  | nil => exact Nat.zero_le _
  | cons r l ih =>
    have h1 := h r (by simp)
    have h2 := ih (fun q hq => h q (List.mem_cons_of_mem _ hq))
    rw [txs, ByteArray.size_append, List.length_cons, Nat.add_mul]
    omega
end Go.Proofs.YtjmhihadgpdiaaaDoor.Mk
end
section
namespace Go.Proofs.YtjmhihadgpdiaaaDoor.Mk
open Go.RowKit Go.Proofs.YtjmhihadgpdiaaaDoor.X Go.Proofs.YtjmhihadgpdiaaaDoorW.PrintWords Go.Proofs.YtjmhihadgpdiaaaDoorW.PrintLast Go.Proofs.YtjmhihadgpdiaaaDoor.Base
set_option linter.unusedVariables false
set_option linter.unusedSimpArgs false
theorem copied_ev (l : List R) (hl : l.length < 1000000) (hr : ∀ r ∈ l, r.f1.length < 1000000) : Ev (fun k => bobbinetkeep_copiedRuns.f k l) l := by
  have loop : ∀ (d i : Nat), l.length - i = d → i ≤ l.length → Ev (fun k => bobbinetkeep_copiedRuns.l0 k l (l.take i) (i : Int)) l := by
    intro d
    induction d with
    | zero =>
      intro i hd hi
      obtain rfl : i = l.length := by omega
      rw [List.take_length]
      refine Ev.one (f := fun k => _) (fun k => by rw [bobbinetkeep_copiedRuns.l0]) ?_
      exact Ev.ite_neg (by omega) (Ev.some _)
    | succ d ih =>
      intro i hd hi
      have hlt : i < l.length := by omega
      have hw : Aside0 (wrap64 ((i : Int) + 1) = ((i + 1 : Nat) : Int)) := ⟨wrap_succ hlt (by omega)⟩
      have hn := ih (i + 1) (by omega) (by omega)
      have hlen := hr l[i] (List.getElem_mem hlt)
      rw [List.take_succ_eq_append_getElem hlt] at hn
      refine Ev.one (f := fun k => _) (fun k => by rw [bobbinetkeep_copiedRuns.l0, hw.out, rdR_at l i hlt]) ?_
      refine Ev.ite_pos (by omega) (Ev.ite_pos (by omega) (Ev.ite_pos (by rw [List.length_nil]; omega) (Ev.ite_pos (by rw [List.length_take]; omega) ?_)))
      rw [List.nil_append]
      exact hn
  unfold bobbinetkeep_copiedRuns.f
  exact loop l.length 0 (by omega) (by omega)
theorem same_ev (l : List R) (hl : l.length < 1000000) (hr : ∀ r ∈ l, r.f1.length < 1000000) : Ev (fun k => bobbinetkeep_sameRuns.f k l l) true := by
  have loop : ∀ (d i : Nat), l.length - i = d → i ≤ l.length → Ev (fun k => bobbinetkeep_sameRuns.l0 k l l (i : Int)) true := by
    intro d
    induction d with
    | zero =>
      intro i hd hi
      refine Ev.one (f := fun k => _) (fun k => by rw [bobbinetkeep_sameRuns.l0]) ?_
      exact Ev.ite_neg (by omega) (Ev.some _)
    | succ d ih =>
      intro i hd hi
      have hlt : i < l.length := by omega
      have hw : Aside0 (wrap64 ((i : Int) + 1) = ((i + 1 : Nat) : Int)) := ⟨wrap_succ hlt (by omega)⟩
      have hn := ih (i + 1) (by omega) (by omega)
      have hlen := hr l[i] (List.getElem_mem hlt)
      have inner : ∀ (e j : Nat), l[i].f1.length - j = e → j ≤ l[i].f1.length → Ev (fun k => bobbinetkeep_sameRuns.l1 k l l (i : Int) (j : Int)) true := by
        intro e
        induction e with
        | zero =>
          intro j he hj
          refine Ev.one (f := fun k => _) (fun k => by rw [bobbinetkeep_sameRuns.l1, hw.out, rdR_at l i hlt]) ?_
          exact Ev.ite_pos (by omega) (Ev.ite_pos (by omega) (Ev.ite_neg (by omega) hn))
        | succ e ihe =>
          intro j he hj
          have hw2 : Aside0 (wrap64 ((j : Int) + 1) = ((j + 1 : Nat) : Int)) := ⟨wrap_succ (n := l[i].f1.length) (by omega) (by omega)⟩
          refine Ev.one (f := fun k => _) (fun k => by rw [bobbinetkeep_sameRuns.l1, hw2.out, rdR_at l i hlt]) ?_
          exact Ev.ite_pos (by omega) (Ev.ite_pos (by omega) (Ev.ite_pos (by omega) (Ev.ite_pos (by omega) (Ev.ite_pos (by omega) (Ev.ite_pos (by omega) (Ev.ite_pos rfl (ihe (j + 1) (by omega) (by omega))))))))
      refine Ev.one (f := fun k => _) (fun k => by rw [bobbinetkeep_sameRuns.l0, rdR_at l i hlt]) ?_
      refine Ev.ite_pos (by omega) (Ev.ite_pos (by omega) (Ev.ite_pos (by omega) (Ev.ite_pos rfl ?_)))
      refine Ev.one (f := fun k => _) (fun k => by rw [bobbinetkeep_sameRuns.j1]) ?_
      exact Ev.ite_neg (by simp) (inner _ 0 rfl (by omega))
  unfold bobbinetkeep_sameRuns.f
  exact Ev.ite_pos rfl (loop l.length 0 (by omega) (by omega))
theorem flt_cnt : ∀ (N : Nat) (nodes : List Nd) (ws : Bs), cnt nodes ≤ N → (flt ws nodes).length ≤ cnt nodes := by
  intro N
  induction N with
  | zero =>
    intro nodes ws h
    obtain rfl : nodes = [] := List.eq_nil_of_length_eq_zero (by have := cnt_len nodes; omega)
    rw [flt_nil]; exact Nat.zero_le _
  | succ N ih =>
    intro nodes ws h
    cases nodes with
    | nil => rw [flt_nil]; exact Nat.zero_le _
    | cons n l =>
      rw [cnt_cons] at h
      have h1 := ih l ws (by omega)
      have h2 := ih n.f3 (ws ++ [n.f0]) (by omega)
      rw [flt_cons, cnt_cons, List.length_append]
      split
      · simp; omega
      · omega
theorem fl_ev (ms : Bs) (hm : ms.length < 1000000) : ∀ (N : Nat) (nodes : List Nd) (prev : Option ByteArray) (sub out : _) (ws : Bs), cnt nodes ≤ N → (∀ m ∈ sub, m ∈ ms) → NB prev sub nodes → AT prev nodes → out.length + cnt nodes < 1000000 → ws.length + sub.length < 1000000 →
    Ev (fun k => marks_flat.fl ms k nodes out ws) (out ++ flt ws nodes) := by
  intro N
  induction N with
  | zero =>
    intro nodes prev sub out ws h _ _ _ _ _
    obtain rfl : nodes = [] := List.eq_nil_of_length_eq_zero (by have := cnt_len nodes; omega)
    refine Ev.one (f := fun k => _) (fun k => by rw [marks_flat.fl]) ?_
    rw [flt_nil, List.append_nil]; exact Ev.some _
  | succ N ih =>
    intro nodes prev sub out ws h hs hB hA ho hw
    cases nodes with
    | nil =>
      refine Ev.one (f := fun k => _) (fun k => by rw [marks_flat.fl]) ?_
      rw [flt_nil, List.append_nil]; exact Ev.some _
    | cons n l =>
      rw [cnt_cons] at h ho
      rw [NB_cons] at hB
      rw [AT_cons] at hA
      rw [flt_cons]
      refine Ev.one (f := fun k => _) (fun k => by rw [marks_flat.fl]) ?_
      by_cases e : n.f0.toList = ([] : List UInt8)
      · rw [if_pos e] at hA
        rw [if_pos e]
        refine Ev.ite_pos e (Ev.ite_pos ⟨by rw [hA.1.2.2.1]; rfl, by rw [hA.1.2.1]; rfl, by omega⟩ ?_)
        have := ih l (some n.f0) sub (out ++ [⟨n.f2, ws⟩]) ws (by omega) hs hB.2 hA.2 (by simp; omega) hw
        rw [List.append_assoc] at this
        exact this
      · rw [if_neg e] at hA
        rw [if_neg e]
        obtain ⟨l1, l2, hms, _, _, hb⟩ := hB.1 e
        have hmem : n.f0 ∈ ms := hs _ (by rw [hms]; simp)
        have hlen : l1.length + 1 + l2.length = sub.length := by rw [hms]; simp; omega
        have h1 := ih n.f3 none l2 [] (ws ++ [n.f0]) (by omega) (fun m hm2 => hs m (by rw [hms]; simp [hm2])) hb hA.1.2.1 (by simp; omega) (by simp; omega)
        have h2 := flt_cnt (cnt n.f3) n.f3 (ws ++ [n.f0]) (Nat.le_refl _)
        have h3 := ih l (some n.f0) sub (out ++ flt (ws ++ [n.f0]) n.f3) ws (by omega) hs hB.2 hA.2 (by simp; omega) hw
        rw [List.append_assoc] at h3
        rw [List.nil_append] at h1
        refine Ev.ite_neg e ?_
        obtain ⟨K, hK⟩ := Ev.bnd (f := fun k ps => if out.length + ps.length < 3518437208883 then marks_flat.fl ms k l (out ++ ps) ws else none) h1 (Ev.ite_pos (by omega) h3)
        refine ⟨K + ms.length + 1, fun k hk => ?_⟩
        have hc : n.f1.length = 0 ∧ n.f2.toList = ([] : List UInt8) ∧ slices_Contains_string_string.f k ms n.f0 = some true ∧ ws.length < 8796093022207 := by
          refine ⟨by rw [hA.1.2.2]; rfl, hA.1.1, ?_, by omega⟩
          rw [contains_eq ms n.f0 hm k (by omega), decide_eq_true hmem]
        show (if _ then _ else _) = _
        rw [if_pos hc]
        exact hK k (by omega)
theorem sub3 : orders.all (fun ms => ms.all (fun m => decide (m ∈ three))) = true := by decide +kernel
theorem ord_sub {ms : Bs} (h : ms ∈ orders) : ∀ m ∈ ms, m ∈ three := fun m hm => of_decide_eq_true (List.all_eq_true.1 (List.all_eq_true.1 sub3 ms h) m hm)
theorem txs_mem {r : R} : ∀ {l : List R}, r ∈ l → r.f0.size ≤ (txs l).size
  | q :: l, h => by
    rw [txs, ByteArray.size_append]
    rcases List.mem_cons.1 h with rfl | h
    · omega
    · have := txs_mem h; omega
/-- what is asked of runs that are normed again -/
theorem nrm_fine {ms : Bs} (h : ms ∈ orders) {rs : List R} (hl : rs.length ≤ 60) (hr : ∀ r ∈ rs, r.f0.size ≤ 2) : ∀ r ∈ nrm ms rs, (∀ m ∈ r.f1, m ∈ three) ∧ r.f1.length < 1000 ∧ r.f0.size ≤ 1000000 := by
  intro r hx
  obtain ⟨_, a, ha⟩ := (nrm_pn ms rs).1 r hx
  have h1 := txs_mem hx
  rw [txs_nrm] at h1
  have h2 := txs_size hr
  have h3 := (ord h).len
  refine ⟨fun m hm => ?_, ?_, by omega⟩
  · rw [ha] at hm
    exact ord_sub h m (List.mem_filter.1 hm).1
  · rw [ha]
    have := keep_len ms a
    omega
theorem flat_ev {a b : Bs} (ha : a ∈ orders) (hb : b ∈ orders) {nodes : List Nd} {rs : List R} (hl : rs.length ≤ 60) (hr : ∀ r ∈ rs, r.f0.size ≤ 2) (h1 : flt [] nodes = nrm a rs) (h2 : NB none a nodes) (h3 : AT none nodes) (h4 : cnt nodes ≤ 240) :
    Ev (fun k => marks_Flat.f k b nodes) (nrm b (nrm a rs), 0) := by
  have hoa := ord ha
  have hob := ord hb
  have h5 := fl_ev b (by rw [hob.len]; omega) (cnt nodes) nodes none a [] [] (Nat.le_refl _) (fun m hm => hob.all m (ord_sub ha m hm)) h2 h3 (by simp; omega) (by rw [hoa.len]; simp)
  rw [List.nil_append, h1] at h5
  have h6 : Ev (fun k => marks_flat.f k b nodes []) (nrm a rs, 0) := by
    obtain ⟨K, hK⟩ := h5
    refine ⟨K, fun k hk => ?_⟩
    have hk2 : marks_flat.fl b k nodes [] [] = some (nrm a rs) := hK k hk
    show marks_flat.f k b nodes [] = _
    unfold marks_flat.f
    rw [if_pos (show ([] : List ByteArray).length = 0 from rfl), hk2]
    rfl
  have h7 := norm_all hob (rs := nrm a rs) (by have := nrm_len a rs; omega) (nrm_fine ha hl hr)
  unfold marks_Flat.f
  refine Ev.bnd (mono_up (marks_Check.mono b) hob.check) (Ev.ite_pos rfl (Ev.bnd h6 (Ev.ite_pos rfl (Ev.bnd h7 (Ev.some _)))))
/-- words of nodes, and how much there is in them -/
theorem wB_flt : ∀ (N : Nat) (nodes : List Nd) (prev : Option ByteArray) (ws : Bs), cnt nodes ≤ N → AT prev nodes → Tree.wB nodes = txs (flt ws nodes) ∧ Tree.tot nodes = cnt nodes + (Tree.wB nodes).size := by
  intro N
  induction N with
  | zero =>
    intro nodes prev ws h _
    obtain rfl : nodes = [] := List.eq_nil_of_length_eq_zero (by have := cnt_len nodes; omega)
    rw [flt_nil, Tree.wB_nil, Tree.tot_nil, cnt_nil]
    exact ⟨rfl, rfl⟩
  | succ N ih =>
    intro nodes prev ws h hA
    cases nodes with
    | nil =>
      rw [flt_nil, Tree.wB_nil, Tree.tot_nil, cnt_nil]
      exact ⟨rfl, rfl⟩
    | cons n l =>
      rw [cnt_cons] at h
      rw [AT_cons] at hA
      obtain ⟨i1, i2⟩ := ih l (some n.f0) ws (by omega) hA.2
      rw [flt_cons, Tree.wB_cons, Tree.tot_cons, cnt_cons, txs_app, ByteArray.size_append, ByteArray.size_append]
      by_cases e : n.f0.toList = ([] : List UInt8)
      · rw [if_pos e] at hA
        rw [if_pos e, hA.1.2.1, hA.1.2.2.1, Tree.wB_nil, Tree.tot_nil, cnt_nil, i1]
        rw [i1] at i2
        refine ⟨by rw [txs, txs], ?_⟩
        rw [i2]
        show _ = _ + (_ + 0 + _)
        simp
        omega
      · rw [if_neg e] at hA
        rw [if_neg e]
        obtain ⟨j1, j2⟩ := ih n.f3 none (ws ++ [n.f0]) (by omega) hA.1.2.1
        have h2 := toList_nil.1 hA.1.1
        rw [h2, ← j1, ← i1, hA.1.2.2]
        refine ⟨by rw [Tree.B_nil_app], ?_⟩
        rw [i2, j2]
        show 1 + 0 + 0 + _ + _ = _ + (0 + _ + _)
        omega
end Go.Proofs.YtjmhihadgpdiaaaDoor.Mk
end
section
namespace Go.Proofs.YtjmhihadgpdiaaaDoor.Pure
open Go.RowKit Go.Proofs.YtjmhihadgpdiaaaDoor.X Go.Proofs.YtjmhihadgpdiaaaDoorW.PrintWords Go.Proofs.YtjmhihadgpdiaaaDoorW.PrintLast Go.Proofs.YtjmhihadgpdiaaaDoor.Base Go.Proofs.YtjmhihadgpdiaaaDoor.Mk
theorem MarksBack (l0 : List Int) (a1 : Int) : ∃ k, bobbinetkeep_MarksBack.f k l0 a1 = some true := by
  obtain ⟨ms, hms, h1⟩ := order_ev a1
  have ho := ord hms
  obtain ⟨rs, h2, h3, h4⟩ := runs_ev l0
  have hsz : ∀ r ∈ rs, r.f0.size ≤ 2 := fun r hr => (h4 r hr).2.2
  have hfine : ∀ r ∈ rs, (∀ m ∈ r.f1, m ∈ three) ∧ r.f1.length < 1000 ∧ r.f0.size ≤ 1000000 := fun r hr => ⟨(h4 r hr).1, by have := (h4 r hr).2.1; omega, by have := (h4 r hr).2.2; omega⟩
  have hn := nrm_fine hms (rs := rs) (by omega) hsz
  have hnl := nrm_len ms rs
  obtain ⟨nodes, e1, e2, e3, e4, e5⟩ := nest_all ho (rs := rs) (by omega) hfine
  have c1 := copied_ev rs (by omega) (fun r hr => by have := (hfine r hr).2.1; omega)
  have c2 := copied_ev (nrm ms rs) (by omega) (fun r hr => by have := (hn r hr).2.1; omega)
  have n1 := norm_all ho (rs := rs) (by omega) hfine
  have n2 := norm_all ho (rs := nrm ms rs) (by omega) hn
  have f1 := flat_ev hms hms (by omega) hsz e2 e3 e4 e5
  rw [nrm_same] at n2 f1
  have s1 := same_ev (nrm ms rs) (by omega) (fun r hr => by have := (hn r hr).2.1; omega)
  obtain ⟨w1, w2⟩ := wB_flt (cnt nodes) nodes none [] (Nat.le_refl _) e4
  rw [e2, txs_nrm] at w1
  have hts := txs_size hsz
  have w3 := Tree.words_f nodes (by rw [w2, w1]; omega)
  rw [w1] at w3
  have tsz : ∀ i, (txs (rs.take i)).size ≤ 2 * i := by
    intro i
    have := txs_size (l := rs.take i) (b := 2) (fun r hr => hsz r (List.mem_of_mem_take hr))
    rw [List.length_take] at this
    omega
  have loop : ∀ (d i : Nat), rs.length - i = d → i ≤ rs.length → Ev (fun k => bobbinetkeep_MarksBack.l0 k rs (nrm ms rs) 0 (nrm ms rs) 0 nodes 0 (nrm ms rs) 0 (txs (rs.take i)) (i : Int)) true := by
    intro d
    induction d with
    | zero =>
      intro i hd hi
      obtain rfl : i = rs.length := by omega
      rw [List.take_length]
      refine Ev.one (f := fun k => _) (fun k => by rw [bobbinetkeep_MarksBack.l0]) ?_
      refine Ev.ite_neg (by omega) (Ev.ite_pos rfl (Ev.ite_pos rfl (Ev.ite_pos rfl (Ev.ite_pos rfl (Ev.bnd (mono_up bobbinetkeep_marksSure.mono sure_ev) (Ev.ite_pos rfl (Ev.bnd s1 (Ev.ite_pos rfl (Ev.bnd s1 (Ev.ite_pos rfl (Ev.bnd w3 ?_)))))))))))
      rw [beq_iff_eq.2 rfl]
      exact Ev.some _
    | succ d ih =>
      intro i hd hi
      have hlt : i < rs.length := by omega
      have hw : Aside0 (wrap64 ((i : Int) + 1) = ((i + 1 : Nat) : Int)) := ⟨wrap_succ hlt (by omega)⟩
      have hnx := ih (i + 1) (by omega) (by omega)
      have hs1 := tsz i
      have hs2 := hsz rs[i] (List.getElem_mem hlt)
      have he : txs [rs[i]] = rs[i].f0 := by rw [txs, txs]; exact ByteArray.append_empty
      rw [List.take_succ_eq_append_getElem hlt, txs_app, he] at hnx
      refine Ev.one (f := fun k => _) (fun k => by rw [bobbinetkeep_MarksBack.l0, hw.out, rdR_at rs i hlt]) ?_
      exact Ev.ite_pos (by omega) (Ev.ite_pos (by omega) (Ev.ite_pos (by omega) hnx))
  have main : Ev (fun k => bobbinetkeep_MarksBack.f k l0 a1) true := by
    unfold bobbinetkeep_MarksBack.f
    exact Ev.bnd h2 (Ev.bnd0 h1 (Ev.bnd c1 (Ev.bnd n1 (Ev.bnd c2 (Ev.bnd n2 (Ev.bnd c1 (Ev.bnd e1 (Ev.bnd f1 (loop rs.length 0 (by omega) (by omega))))))))))
  obtain ⟨K, hK⟩ := main
  exact ⟨K, hK K (Nat.le_refl _)⟩
end Go.Proofs.YtjmhihadgpdiaaaDoor.Pure
end
