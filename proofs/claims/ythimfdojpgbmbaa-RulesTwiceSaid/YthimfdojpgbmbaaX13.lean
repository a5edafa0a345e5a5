-- Written by xprint.py (a program of this repo) for seat Ythimfdojpgbmbaa.
import Derived.StillTailTactics
import Derived.Test.YthimfdojpgbmbaaX0
namespace Go.Proofs.Ythimfdojpgbmbaa.X
open Go.RowKit Go.Proofs.YthimfdojpgbmbaaW.PrintWords Go.Proofs.YthimfdojpgbmbaaW.PrintLast Go.Proofs.YthimfdojpgbmbaaW.PrintMore
attribute [local go_sem] max2_int min2_int max_two min_two max_three min_three max_four min_four   -- for this text's walks alone
set_option linter.unusedVariables false
set_option linter.unusedSimpArgs false

/-! ### rules_Joined: function 53 -/
def rules_Joined.one (out : List S60) (n : S60) : List S60 := if n.f0.toList = ([] : List UInt8) ∧ 0 < out.length ∧ (rd_T60 out ((out.length : Int) - 1)).f0.toList = ([] : List UInt8) then out.set ((out.length : Int) - 1).toNat ⟨(rd_T60 out ((out.length : Int) - 1)).f0, (rd_T60 out ((out.length : Int) - 1)).f1, (rd_T60 out ((out.length : Int) - 1)).f2 ++ n.f2, (rd_T60 out ((out.length : Int) - 1)).f3⟩ else out ++ [n]
def rules_Joined.join (out more : List S60) : List S60 := more.foldl rules_Joined.one out
def rules_Joined.txt (l : List S60) : Nat := (l.map (fun n => n.f2.size)).sum
def rules_Joined.fits (out more : List S60) : Bool := decide (out.length + more.length < 1759218604441) && decide (rules_Joined.txt out + rules_Joined.txt more ≤ 70368744177664)
theorem rules_Joined.fits_iff (out more : List S60) : rules_Joined.fits out more = true ↔ out.length + more.length < 1759218604441 ∧ rules_Joined.txt out + rules_Joined.txt more ≤ 70368744177664 := by simp [rules_Joined.fits]
theorem rules_Joined.one_len (out : List S60) (n : S60) : (rules_Joined.one out n).length ≤ out.length + 1 := by
  unfold rules_Joined.one
  split <;> simp
theorem rules_Joined.txt_app (a b : List S60) : rules_Joined.txt (a ++ b) = rules_Joined.txt a + rules_Joined.txt b := by simp [rules_Joined.txt]
theorem rules_Joined.txt_rd (out : List S60) (i : Nat) (h : i < out.length) : ∃ r, rules_Joined.txt out = r + (rd_T60 out (i : Int)).f2.size ∧ ∀ x, rules_Joined.txt (out.set i x) = r + x.f2.size := by
  refine ⟨rules_Joined.txt (out.take i) + rules_Joined.txt (out.drop (i + 1)), ?_, fun x => ?_⟩
  · have e : out = out.take i ++ (rd_T60 out (i : Int) :: out.drop (i + 1)) := by
      have : rd_T60 out (i : Int) = out[i] := by simp [rd_T60, List.getD, h]
      rw [this]
      simp
    conv => lhs; rw [e]
    rw [rules_Joined.txt_app]
    simp [rules_Joined.txt]
    omega
  · rw [List.set_eq_take_append_cons_drop, if_pos h, rules_Joined.txt_app]
    simp [rules_Joined.txt]
    omega
theorem rules_Joined.txt_one (out : List S60) (n : S60) : rules_Joined.txt (rules_Joined.one out n) = rules_Joined.txt out + n.f2.size := by
  unfold rules_Joined.one
  split
  · rename_i h
    obtain ⟨_, h, _⟩ := h
    have e : ((out.length : Int) - 1).toNat = out.length - 1 := by omega
    have e2 : ((out.length : Int) - 1) = ((out.length - 1 : Nat) : Int) := by omega
    obtain ⟨r, h1, h2⟩ := rules_Joined.txt_rd out (out.length - 1) (by omega)
    rw [e, h2, e2, h1, ByteArray.size_append]
    omega
  · rw [rules_Joined.txt_app]
    simp [rules_Joined.txt]
theorem rules_Joined.join_bd (out : List S60) : ∀ more : List S60, (rules_Joined.join out more).length ≤ out.length + more.length ∧ rules_Joined.txt (rules_Joined.join out more) = rules_Joined.txt out + rules_Joined.txt more := by
  intro more
  induction more generalizing out with
  | nil => simp [rules_Joined.join, rules_Joined.txt]
  | cons n more ih =>
    have h := ih (rules_Joined.one out n)
    have h1 := rules_Joined.one_len out n
    have h2 := rules_Joined.txt_one out n
    have e : rules_Joined.join out (n :: more) = rules_Joined.join (rules_Joined.one out n) more := rfl
    have e2 : rules_Joined.txt (n :: more) = n.f2.size + rules_Joined.txt more := by simp [rules_Joined.txt]
    rw [e, e2]
    simp only [List.length_cons]
    omega
theorem rules_Joined.txt_take (l : List S60) (i : Nat) (h : i < l.length) : rules_Joined.txt (l.take i) + (rd_T60 l (i : Int)).f2.size ≤ rules_Joined.txt l := by
  have e : l = l.take i ++ (rd_T60 l (i : Int) :: l.drop (i + 1)) := by
    have : rd_T60 l (i : Int) = l[i] := by simp [rd_T60, List.getD, h]
    rw [this]
    simp
  conv => rhs; rw [e]
  rw [rules_Joined.txt_app]
  simp [rules_Joined.txt]
theorem rules_Joined.join_succ (out more : List S60) (i : Nat) (h : i < more.length) : rules_Joined.join out (more.take (i + 1)) = rules_Joined.one (rules_Joined.join out (more.take i)) (rd_T60 more (i : Int)) := by
  have : rd_T60 more (i : Int) = more[i] := by simp [rd_T60, List.getD, h]
  rw [this, List.take_succ_eq_append_getElem h]
  simp only [rules_Joined.join, List.foldl_append, List.foldl_cons, List.foldl_nil]
def rules_Joined.Inv (w0 W : World) (base : Nat) (v : Value) (ok : Nat → Prop) (wr : World) (u : Value) (acc : List S60) : Prop :=
  Kd.N k60 60 wr base ok u acc ∧ Below base w0 wr ∧ W.grownBy wr v.ownBlock ∧ (u.ownBlock = v.ownBlock ∨ ∃ b, u.ownBlock = some b ∧ W.heap.size ≤ b)
theorem rules_Joined.Inv.below {w0 W wr w' : World} {base : Nat} {v u : Value} {ok : Nat → Prop} {acc : List S60} (h : rules_Joined.Inv w0 W base v ok wr u acc) (hb : Below wr.heap.size wr w') (hs : base ≤ W.heap.size) : rules_Joined.Inv w0 W base v ok w' u acc := by
  obtain ⟨h1, h2, h3, h4⟩ := h
  have h5 := h3.size
  refine ⟨Kd.N_below h1 hb, h2.trans (hb.mono (by omega)), ?_, h4⟩
  exact ⟨hb.os.trans h3.os, hb.tape.trans h3.tape, hb.output.trans h3.output, by have := hb.size; omega, fun i hi hr => (hb.block i (by omega)).trans (h3.block i hi hr)⟩
theorem rules_Joined.Inv.grown {w0 W W2 w1 : World} {base : Nat} {v u u1 : Value} {ok : Nat → Prop} {acc acc1 : List S60} (h : rules_Joined.Inv w0 W base v ok W2 u acc) (hN : Kd.N k60 60 w1 base ok u1 acc1) (hB : Below base w0 w1) (hg : W2.grownBy w1 u.ownBlock) (hat : u1.ownBlock = u.ownBlock ∨ ∃ b, u1.ownBlock = some b ∧ W2.heap.size ≤ b) : rules_Joined.Inv w0 W base v ok w1 u1 acc1 := by
  obtain ⟨h1, h2, h3, h4⟩ := h
  have h5 := h3.size
  refine ⟨hN, hB, ⟨hg.os.trans h3.os, hg.tape.trans h3.tape, hg.output.trans h3.output, by have := hg.size; omega, fun i hi hr => ?_⟩, ?_⟩
  · refine (hg.block i (by omega) ?_).trans (h3.block i hi hr)
    rcases h4 with h4 | ⟨b, h4, hb⟩
    · rw [h4]; exact hr
    · rw [h4]; intro he; injection he with he; omega
  · rcases hat with h6 | ⟨b, h6, hb⟩
    · rw [h6]; exact h4
    · exact .inr ⟨b, h6, by omega⟩
set_option maxHeartbeats 4000000 in
set_option maxRecDepth 100000 in
theorem rules_Joined.calls {w0 W : World} (base : Nat) (v : Value) (xs ys : List S60) (A : Option Addr) (m c : Nat) (ok okp : Nat → Prop) (HO : Kd.N k60 60 W base ok v xs) (HR : Kd.F k60 W okp A m ys) (hokp : ∀ k, okp k → ok k ∧ some k ≠ v.ownBlock) (hfresh : ∀ k, W.heap.size ≤ k → ok k) (HB : Below base w0 W) (hbase : base ≤ W.heap.size) (hl0 : rules_Joined.fits xs ys = true) :
    Calls Try.prog 53 #[v, .slice A m c] W fun e w1 => ∃ v1, e = .returned v1 ∧ rules_Joined.Inv w0 W base v ok w1 v1 (rules_Joined.join xs ys) := by
  have hl := (rules_Joined.fits_iff xs ys).1 hl0
  clear hl0
  have HXR := Aside0.mk (Kd.F_mono (Kd.F_bound HR) (fun k hk => (⟨hokp k hk.1, hk.2⟩ : (ok k ∧ some k ≠ v.ownBlock) ∧ k < W.heap.size)))
  obtain rfl : ys.length = m := Kd.F_len HR
  have HL := Aside0.mk hl
  have HF0 := Aside0.mk hfresh
  have HS0 := Aside0.mk hbase
  have hq := hl.1
  have HI0 : Aside0 (rules_Joined.Inv w0 W base v ok W v xs) := ⟨HO, HB, ⟨rfl, rfl, rfl, Nat.le_refl _, fun _ _ _ => rfl⟩, .inl rfl⟩
  clear HR hl hokp hfresh HO HB hbase
  go_enter Try.func53, Try.ntmps53
  go_wp2
  go_loopw [0, 10] (fun v0 v10 wr => ∃ (acc : List S60) (x10 : Int), v10 = .int .i64 x10 ∧ Aside0 (acc = rules_Joined.join xs (ys.take x10.toNat)) ∧ Aside0 (0 ≤ x10 ∧ x10 ≤ ys.length) ∧ Aside0 (rules_Joined.Inv w0 W base v ok wr v0 acc)) (fun _ v10 _ => ys.length - (intOf v10).toNat)
  case atStart => exact ⟨xs, 0, rfl, ⟨by simp [rules_Joined.join]⟩, ⟨by omega⟩, HI0⟩
  case round =>
    clear HI0
    obtain ⟨acc, x10, rfl, HE, HX, HI⟩ := hrel
    have p0 := HX.out.1
    by_cases q0 : x10 < (ys.length : Int)
    · have HF := Kd.F_grown HXR.out HI.out.2.2.1 (fun k hk => hk.1.2)
      obtain ⟨ad, c, eA, hcl_, hFK, hcc, hin_⟩ := Kd.F_get HF z60 x10 p0 q0
      replace hFK : Kd.FK k60 wr (fun k => (ok k ∧ some k ≠ v.ownBlock) ∧ k < W.heap.size) (rd_T60 ys x10) c := hFK
      obtain ⟨⟨n0, n1, n2, n3⟩, hn⟩ : ∃ n, rd_T60 ys x10 = n := ⟨_, rfl⟩
      have HN := Aside0.mk hn
      rw [hn] at hFK
      clear hn HF
      have HFK := Aside0.mk hFK
      obtain ⟨A1, c1, A3, c3, rfl, hy1, hy2, hy3, hy4⟩ := k60_openF hFK
      clear hcl_ hin_ hy1 hy2 hy3 hy4
      subst eA
      have hx0 : wr.cell? (ad.add (x10.toNat * 4)) = some (.string n0) := hcc 0 _ rfl
      have hx1 : wr.cell? ⟨(ad.add (x10.toNat * 4)).block, (ad.add (x10.toNat * 4)).off + 1, none⟩ = some (.slice A1 n1.length c1) := by rw [← add_field _ _ 1 (by omega)]; exact hcc 1 _ rfl
      have hx2 : wr.cell? ⟨(ad.add (x10.toNat * 4)).block, (ad.add (x10.toNat * 4)).off + 2, none⟩ = some (.string n2) := by rw [← add_field _ _ 2 (by omega)]; exact hcc 2 _ rfl
      have hx3 : wr.cell? ⟨(ad.add (x10.toNat * 4)).block, (ad.add (x10.toNat * 4)).off + 3, none⟩ = some (.slice A3 n3.length c3) := by rw [← add_field _ _ 3 (by omega)]; exact hcc 3 _ rfl
      clear hcc hFK
      obtain ⟨Ao, co, eo⟩ := Kd.N_slice HI.out.1
      subst eo
      have hw : wrap64 (x10 + 1) = x10 + 1 := by unfold wrap64; omega
      have HW := Aside0.mk hw
      clear hw
      have hb0 : decide (x10 < (ys.length : Int)) = true := decide_eq_true q0
      have HQ := Aside0.mk q0
      replace p0 := eq_true p0
      replace q0 := eq_true q0
      have hbd := rules_Joined.join_bd xs (ys.take x10.toNat)
      rw [← HE.out] at hbd
      have hb1 := hbd.1
      have hlq := HL.out.1
      have hla : acc.length < 1759218604441 := by simp at hb1; omega
      clear hbd hb1 hlq
      go_upto_region 5 with (first
        | ((with_reducible refine gate_dst (N := 6) rfl ?_); refine box_event ?hg (N := 6) ?hd (cs := #[.string (⟨#[]⟩ : ByteArray), .slice none 0 0, .string (⟨#[]⟩ : ByteArray), .slice none 0 0]) (t := 60) ?hr ?_; (case hd => rfl); (case hg => rfl); (case hr => first | (go_simp; done) | (go_simp; rfl)); intro gb hg w7 hbox hb; have BK := Aside0.mk hbox; have HB7 := Aside0.mk hb; have HG7 := Aside0.mk hg; clear hbox hb hg; have hcz0 : w7.cell? ⟨gb, 0, none⟩ = some (.string (⟨#[]⟩ : ByteArray)) := (blk_cell BK.out 0).trans rfl; have hcz1 : w7.cell? ⟨gb, 1, none⟩ = some (.slice none 0 0) := (blk_cell BK.out 1).trans rfl; have hcz2 : w7.cell? ⟨gb, 2, none⟩ = some (.string (⟨#[]⟩ : ByteArray)) := (blk_cell BK.out 2).trans rfl; have hcz3 : w7.cell? ⟨gb, 3, none⟩ = some (.slice none 0 0) := (blk_cell BK.out 3).trans rfl; have hfz0 := blk_frozen BK.out 0; have hfz1 := blk_frozen BK.out 1; have hfz2 := blk_frozen BK.out 2; have hfz3 := blk_frozen BK.out 3)
        | ((with_reducible refine gate_store (t := 60) (p := 6) rfl ?_); refine store_event (t := 60) (p := 6) (v := ?vo_w15) (w1 := (((w7.setCell ⟨gb, 0, none⟩ (.string n0)).setCell ⟨gb, 1, none⟩ (.slice A1 n1.length c1)).setCell ⟨gb, 2, none⟩ (.string n2)).setCell ⟨gb, 3, none⟩ (.slice A3 n3.length c3)) ?hg ?ho ?hn ?hr ?_; (case ho => rfl); (case hg => rfl); (case hn => rfl); (case hr => first | (go_simp; done) | (go_simp; rfl)); intro w15 hw; have GE : wr.heap.size ≤ gb := Nat.le_of_eq HG7.out.symm; have BK2 : Aside0 (w15.heap[gb]? = some (.cells #[.string n0, .slice A1 n1.length c1, .string n2, .slice A3 n3.length c3] 60 (0, 0))) := ⟨by rw [hw]; refine blk_put (cs := #[.string n0, .slice A1 n1.length c1, .string n2, .slice none 0 0]) ?_ 3 _ rfl; refine blk_put (cs := #[.string n0, .slice A1 n1.length c1, .string (⟨#[]⟩ : ByteArray), .slice none 0 0]) ?_ 2 _ rfl; refine blk_put (cs := #[.string n0, .slice none 0 0, .string (⟨#[]⟩ : ByteArray), .slice none 0 0]) ?_ 1 _ rfl; refine blk_put (cs := #[.string (⟨#[]⟩ : ByteArray), .slice none 0 0, .string (⟨#[]⟩ : ByteArray), .slice none 0 0]) ?_ 0 _ rfl; exact BK.out⟩; have HB8 : Aside0 (Below wr.heap.size wr w15) := ⟨by rw [hw]; refine below_set ?_ GE; refine below_set ?_ GE; refine below_set ?_ GE; refine below_set ?_ GE; exact HB7.out⟩; have HI8 := Aside0.mk (HI.out.below HB8.out HS0.out); clear hw hcz0 hcz1 hcz2 hcz3 hfz0 hfz1 hfz2 hfz3; have GEA := Aside0.mk GE; clear GE; have hcz0 : w15.cell? ⟨gb, 0, none⟩ = some (.string n0) := (blk_cell BK2.out 0).trans rfl; have hcz1 : w15.cell? ⟨gb, 1, none⟩ = some (.slice A1 n1.length c1) := (blk_cell BK2.out 1).trans rfl; have hcz2 : w15.cell? ⟨gb, 2, none⟩ = some (.string n2) := (blk_cell BK2.out 2).trans rfl; have hcz3 : w15.cell? ⟨gb, 3, none⟩ = some (.slice A3 n3.length c3) := (blk_cell BK2.out 3).trans rfl; have hfz0 := blk_frozen BK2.out 0; have hfz1 := blk_frozen BK2.out 1; have hfz2 := blk_frozen BK2.out 2; have hfz3 := blk_frozen BK2.out 3))
      have HOK : Aside0 (∀ k, (ok k ∧ some k ≠ v.ownBlock) ∧ k < W.heap.size → ok k ∧ some k ≠ (Value.slice Ao acc.length co).ownBlock) := ⟨fun k hk => ⟨hk.1.1, by
        rcases HI.out.2.2.2 with h4 | ⟨b, h4, hb⟩
        · rw [h4]; exact hk.1.2
        · rw [h4]; intro he; injection he with he; have := hk.2; omega⟩⟩
      have HF8 : Aside0 (∀ k, w15.heap.size ≤ k → ok k) := ⟨fun k hk => HF0.out k (by have h1 := HI8.out.2.2.1.size; omega)⟩
      have HS8 : Aside0 (base ≤ w15.heap.size) := ⟨by have h1 := HI8.out.2.2.1.size; have := HS0.out; omega⟩
      have HST : Aside0 (rules_Joined.one acc (⟨n0, n1, n2, n3⟩ : S60) = rules_Joined.join xs (ys.take (x10 + 1).toNat)) := ⟨by
        have h1 := rules_Joined.join_succ xs ys x10.toNat (by have := HX.out; have := HQ.out; omega)
        have h2 : ((x10.toNat : Nat) : Int) = x10 := by have := HX.out; omega
        have h3 : (x10 + 1).toNat = x10.toNat + 1 := by have := HX.out; omega
        rw [h2, HN.out] at h1
        rw [h3, h1, HE.out]⟩
      by_cases k1 : n0.toList = ([] : List UInt8)
      · have e1 : (n0.toList == ([] : List UInt8)) = true := beq_iff_eq.mpr k1
        by_cases k2 : 0 < acc.length
        · have e2 : decide ((0 : Int) < (acc.length : Int)) = true := decide_eq_true (by omega)
          have e2n : decide (0 < acc.length) = true := decide_eq_true k2
          obtain ⟨g, cap, hv, hg0, hglt, cells, hgc⟩ := Kd.N_form HI8.out.1 k2
          injection hv with ha hb_ hc_
          subst ha hc_
          obtain ⟨c', hcl', hFK', hcc', hfr'⟩ := Kd.N_elem HI8.out.1 z60 ((acc.length : Int) - 1) (by omega) (by omega)
          replace hFK' : Kd.FK k60 w15 (fun k => ok k ∧ k ≠ g) (rd_T60 acc ((acc.length : Int) - 1)) c' := hFK'
          obtain ⟨⟨l0, l1, l2, l3⟩, hl⟩ : ∃ n, rd_T60 acc ((acc.length : Int) - 1) = n := ⟨_, rfl⟩
          have HLN := Aside0.mk hl
          rw [hl] at hFK'
          clear hl
          have HFK2 := Aside0.mk hFK'
          obtain ⟨B1, d1, B3, d3, rfl, hy1, hy2, hy3, hy4⟩ := k60_openF hFK'
          have HCC := Aside0.mk hcc'
          have HFR := Aside0.mk hfr'
          have HYF := Aside0.mk (And.intro hy1 (And.intro hy2 (And.intro hy3 hy4)))
          clear hb_ hFK' hcc' hfr' hcl' hg0 hglt hgc cells hy1 hy2 hy3 hy4
          have HJ : Aside0 (((acc.length : Int) - 1).toNat = acc.length - 1) := ⟨by omega⟩
          have hz0 : w15.cell? ⟨g, (acc.length - 1) * 4, none⟩ = some (.string l0) := by rw [← HJ.out]; exact HCC.out 0 _ rfl
          have hz2 : w15.cell? ⟨g, (acc.length - 1) * 4 + 2, none⟩ = some (.string l2) := by rw [← HJ.out]; exact HCC.out 2 _ rfl
          have hfz : w15.frozen? ⟨g, (acc.length - 1) * 4 + 2, none⟩ = false := by rw [← HJ.out]; exact HFR.out 2
          have ew : wrap64 ((acc.length : Int) - 1) = (acc.length : Int) - 1 := by unfold wrap64; omega
          have p1 : (0 ≤ (acc.length : Int) - 1) = True := eq_true (by omega)
          have p2 : (1 ≤ (acc.length : Int)) = True := eq_true (by omega)
          have p3 : ((acc.length : Int) - 1 < (acc.length : Int)) = True := eq_true (by omega)
          by_cases k3 : l0.toList = ([] : List UInt8)
          · have e3 : (l0.toList == ([] : List UInt8)) = true := beq_iff_eq.mpr k3
            have H1 : Aside0 (rules_Joined.one acc (⟨n0, n1, n2, n3⟩ : S60) = acc.set ((acc.length : Int) - 1).toNat (⟨l0, l1, l2 ++ n2, l3⟩ : S60)) := ⟨by
              unfold rules_Joined.one
              rw [if_pos ⟨k1, k2, by rw [HLN.out]; exact k3⟩, HLN.out]⟩
            have HSZ : l2.size + n2.size ≤ 70368744177664 := by
              obtain ⟨r, hr1, _⟩ := rules_Joined.txt_rd acc (acc.length - 1) (by omega)
              have h1 := (rules_Joined.join_bd xs (ys.take x10.toNat)).2
              have h2 := rules_Joined.txt_take ys x10.toNat (by have := HX.out; have := HQ.out; omega)
              have h3 : ((x10.toNat : Nat) : Int) = x10 := by have := HX.out; omega
              have h4 : ((acc.length - 1 : Nat) : Int) = (acc.length : Int) - 1 := by omega
              rw [h3, HN.out] at h2
              rw [← HE.out] at h1
              rw [h4, HLN.out] at hr1
              have h5 := HL.out.2
              simp only at h2 hr1
              omega
            have q5 : (9223372036854775807 < l2.size + n2.size) = False := eq_false (by omega)
            clear HSZ
            go_upto_region 6 with (fail)
            have ew2 : IntKind.i64.wrap ((acc.length : Int) - 1) = (acc.length : Int) - 1 := by rw [i64_w]; exact ew
            have ew3 : ((acc.length : Int) - 1).toNat = acc.length - 1 := HJ.out
            go_still_tail 11, (by kernel_rfl)
            refine Kd.N_store k60 (W := w15.drew) (w0 := w0) (n := acc.length) (cap := co) base rfl rfl 9 (.tmp 42) (.tmp 40) rfl 60 ((acc.length : Int) - 1) 2 acc (⟨l0, l1, l2 ++ n2, l3⟩ : S60) (.string (l2 ++ n2)) [.string (l2 ++ n2)] [.string l0, .slice B1 l1.length d1, .string l2, .slice B3 l3.length d3] ok (fun k => ok k ∧ k ≠ g) rfl ?aoff rfl rfl ?aT ?a1 ?aO ?a0 ?ai rfl ?acc ?aj ?aM ?aK ?aB ?_
            case aoff => rw [HJ.out]; rfl
            case aT => kernel_rfl
            case a1 => intro q hq; simp at hq; subst hq; rfl
            case aO => exact Kd.N_drew HI8.out.1
            case a0 => omega
            case ai => omega
            case acc => exact fun j u h => HCC.out j u h
            case aj => exact (by decide : 2 + 1 ≤ 4)
            case aM => exact k60_mkF _ _ (⟨l0, l1, l2 ++ n2, l3⟩ : S60) HYF.out.1 (Kd.F_drew HYF.out.2.1) HYF.out.2.2.1 (Kd.F_drew HYF.out.2.2.2)
            case aK => exact fun k hk => hk
            case aB => exact below_drew HI8.out.2.1
            intro w1 ho hb hg
            have HI9 := Aside0.mk (HI8.out.grown ho hb (by
              have e : (Value.slice (some ⟨g, 0, none⟩) acc.length co).ownBlock = some g := by simp [Value.ownBlock]
              rw [e]
              exact ⟨hg.os, hg.tape, hg.output, hg.size, hg.block⟩) (.inl rfl))
            clear ho hb hg k1 k2 k3
            go_wp2
            go_roundw
            case rel => exact ⟨_, x10 + 1, by rw [HW.out], ⟨H1.out.symm.trans HST.out⟩, ⟨by have := HX.out; have := HQ.out; omega⟩, HI9⟩
            case measure => have := HQ.out; have := HX.out; simp [intOf, HW.out]; omega
          · have e3 : (l0.toList == ([] : List UInt8)) = false := beq_eq_false_iff_ne.mpr k3
            have H1 : Aside0 (rules_Joined.one acc (⟨n0, n1, n2, n3⟩ : S60) = acc ++ [(⟨n0, n1, n2, n3⟩ : S60)]) := ⟨if_neg (fun h => k3 (by have := h.2.2; rw [HLN.out] at this; exact this))⟩
            clear k1 k2 k3
            go_upto_region 8 with (first | ((with_reducible refine gate_builtin (b := .append) (xs := #[.tmp 43, .tmp 45]) rfl ?_); at_builtin; refine Kd.N_append k60 (w0 := w0) base rfl (.tmp 43) (.tmp 45) 47 60 (.agg #[(.string ⟨#[]⟩), (.slice none 0 0), (.string ⟨#[]⟩), (.slice none 0 0)]) 80 rfl Try.underlying47 info60 rfl (by decide) (by omega) (.slice (some ⟨g, 0, none⟩) acc.length co) acc (⟨n0, n1, n2, n3⟩ : S60) [.string n0, .slice A1 n1.length c1, .string n2, .slice A3 n3.length c3] ok (fun k => (ok k ∧ some k ≠ v.ownBlock) ∧ k < W.heap.size) rfl rfl ?aP ?aK ?aF ?aO ?aB ?aS ?aL ?_; (case aP => exact Kd.FK_below HFK.out HB8.out); (case aK => exact HOK.out); (case aF => exact HF8.out); (case aO => exact HI8.out.1); (case aB => exact HI8.out.2.1); (case aS => exact HS8.out); (case aL => omega); intro v1 w1 ho hb hg hat; have HI9 := Aside0.mk (HI8.out.grown ho hb hg hat); clear ho hb hg hat))
            go_wp2
            go_roundw
            case rel => exact ⟨_, x10 + 1, by rw [HW.out], ⟨H1.out.symm.trans HST.out⟩, ⟨by have := HX.out; have := HQ.out; omega⟩, HI9⟩
            case measure => have := HQ.out; have := HX.out; simp [intOf, HW.out]; omega
        · have e2 : decide ((0 : Int) < (acc.length : Int)) = false := decide_eq_false (by omega)
          have e2n : decide (0 < acc.length) = false := decide_eq_false k2
          have H1 : Aside0 (rules_Joined.one acc (⟨n0, n1, n2, n3⟩ : S60) = acc ++ [(⟨n0, n1, n2, n3⟩ : S60)]) := ⟨if_neg (fun h => k2 h.2.1)⟩
          clear k1 k2
          go_upto_region 8 with (first | ((with_reducible refine gate_builtin (b := .append) (xs := #[.tmp 43, .tmp 45]) rfl ?_); at_builtin; refine Kd.N_append k60 (w0 := w0) base rfl (.tmp 43) (.tmp 45) 47 60 (.agg #[(.string ⟨#[]⟩), (.slice none 0 0), (.string ⟨#[]⟩), (.slice none 0 0)]) 80 rfl Try.underlying47 info60 rfl (by decide) (by omega) (.slice Ao acc.length co) acc (⟨n0, n1, n2, n3⟩ : S60) [.string n0, .slice A1 n1.length c1, .string n2, .slice A3 n3.length c3] ok (fun k => (ok k ∧ some k ≠ v.ownBlock) ∧ k < W.heap.size) rfl rfl ?aP ?aK ?aF ?aO ?aB ?aS ?aL ?_; (case aP => exact Kd.FK_below HFK.out HB8.out); (case aK => exact HOK.out); (case aF => exact HF8.out); (case aO => exact HI8.out.1); (case aB => exact HI8.out.2.1); (case aS => exact HS8.out); (case aL => omega); intro v1 w1 ho hb hg hat; have HI9 := Aside0.mk (HI8.out.grown ho hb hg hat); clear ho hb hg hat))
          go_wp2
          go_roundw
          case rel => exact ⟨_, x10 + 1, by rw [HW.out], ⟨H1.out.symm.trans HST.out⟩, ⟨by have := HX.out; have := HQ.out; omega⟩, HI9⟩
          case measure => have := HQ.out; have := HX.out; simp [intOf, HW.out]; omega
      · have e1 : (n0.toList == ([] : List UInt8)) = false := beq_eq_false_iff_ne.mpr k1
        have H1 : Aside0 (rules_Joined.one acc (⟨n0, n1, n2, n3⟩ : S60) = acc ++ [(⟨n0, n1, n2, n3⟩ : S60)]) := ⟨if_neg (fun h => k1 h.1)⟩
        clear k1
        go_upto_region 8 with (first | ((with_reducible refine gate_builtin (b := .append) (xs := #[.tmp 43, .tmp 45]) rfl ?_); at_builtin; refine Kd.N_append k60 (w0 := w0) base rfl (.tmp 43) (.tmp 45) 47 60 (.agg #[(.string ⟨#[]⟩), (.slice none 0 0), (.string ⟨#[]⟩), (.slice none 0 0)]) 80 rfl Try.underlying47 info60 rfl (by decide) (by omega) (.slice Ao acc.length co) acc (⟨n0, n1, n2, n3⟩ : S60) [.string n0, .slice A1 n1.length c1, .string n2, .slice A3 n3.length c3] ok (fun k => (ok k ∧ some k ≠ v.ownBlock) ∧ k < W.heap.size) rfl rfl ?aP ?aK ?aF ?aO ?aB ?aS ?aL ?_; (case aP => exact Kd.FK_below HFK.out HB8.out); (case aK => exact HOK.out); (case aF => exact HF8.out); (case aO => exact HI8.out.1); (case aB => exact HI8.out.2.1); (case aS => exact HS8.out); (case aL => omega); intro v1 w1 ho hb hg hat; have HI9 := Aside0.mk (HI8.out.grown ho hb hg hat); clear ho hb hg hat))
        go_wp2
        go_roundw
        case rel => exact ⟨_, x10 + 1, by rw [HW.out], ⟨H1.out.symm.trans HST.out⟩, ⟨by have := HX.out; have := HQ.out; omega⟩, HI9⟩
        case measure => have := HQ.out; have := HX.out; simp [intOf, HW.out]; omega
    · have hb0 : decide (x10 < (ys.length : Int)) = false := decide_eq_false q0
      have HEE : Aside0 (acc = rules_Joined.join xs ys) := ⟨by rw [HE.out, List.take_of_length_le (by omega)]⟩
      have HI9 := HI
      obtain ⟨Ao, co, eo⟩ := Kd.N_slice HI.out.1
      subst eo
      clear q0 HI
      go_wp2
      go_ret
      exact ⟨_, rfl, by rw [← HEE.out]; exact HI9.out⟩

end Go.Proofs.Ythimfdojpgbmbaa.X
