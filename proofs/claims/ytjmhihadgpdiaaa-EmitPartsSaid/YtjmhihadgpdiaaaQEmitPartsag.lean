/- Parts of the proof of EmitParts that are needed, put together by pack.py. -/
import Derived.Test.YtjmhihadgpdiaaaQEmitPartsaf
section
namespace Go.Proofs.Ytjmhihadgpdiaaa.X
open Go.RowKit Go.Proofs.YtjmhihadgpdiaaaW.PrintWords Go.Proofs.YtjmhihadgpdiaaaW.PrintLast Go.Proofs.YtjmhihadgpdiaaaW.PrintMore
attribute [local go_sem] max2_int min2_int max_two min_two max_three min_three max_four min_four   -- for this text's walks alone
set_option linter.unusedVariables false
set_option linter.unusedSimpArgs false
def bobbinetkeep_Picked.f (a0 : Int) (a1 : Int) : Option (Int) := if a1 = 0 then (none) else (if (Int.tmod a0 a1) < 0 then (some (wrap64 ((Int.tmod a0 a1) + a1))) else (some (Int.tmod a0 a1)))
set_option maxHeartbeats 8000000 in
set_option maxRecDepth 100000 in
theorem bobbinetkeep_Picked.calls (a0 : Int) (a1 : Int) (r : Int) (w : World) (h : bobbinetkeep_Picked.f a0 a1 = some r) :
    Calls Try.prog 10 #[.int .i64 a0, .int .i64 a1] w fun e w' => e = .returned (.int .i64 r) ∧ Drawn0 w w' := by
  have H : (if a1 = 0 then (none) else (if (Int.tmod a0 a1) < 0 then (some (wrap64 ((Int.tmod a0 a1) + a1))) else (some (Int.tmod a0 a1)))) = some r := h
  clear h
  by_cases c3 : a1 = 0
  · rw [if_pos c3] at H
    exact absurd H (by simp)
  · rw [if_neg c3] at H
    have c3b0 : (a1 == 0) = false := beq_eq_false_iff_ne.mpr c3
    have c3b1 : (a1 != 0) = true := bne_iff_ne.mpr c3
    by_cases c4 : (Int.tmod a0 a1) < 0
    · rw [if_pos c4] at H
      have c4b0 : decide ((Int.tmod a0 a1) < 0) = true := decide_eq_true c4
      clear c4
      obtain rfl := Option.some.inj H
      go_enter Try.func10, Try.ntmps10
      go_wp2
      go_ret
      exact ⟨by first | rfl | (simp; done) | (simp [*]; done), by repeat (first | exact Drawn0.refl _ | apply Drawn0.step)⟩
    · rw [if_neg c4] at H
      have c4b0 : decide ((Int.tmod a0 a1) < 0) = false := decide_eq_false c4
      clear c4
      obtain rfl := Option.some.inj H
      go_enter Try.func10, Try.ntmps10
      go_wp2
      go_ret
      exact ⟨by first | rfl | (simp; done) | (simp [*]; done), by repeat (first | exact Drawn0.refl _ | apply Drawn0.step)⟩
end Go.Proofs.Ytjmhihadgpdiaaa.X
end
section
namespace Go.Proofs.Ytjmhihadgpdiaaa.X
open Go.RowKit Go.Proofs.YtjmhihadgpdiaaaW.PrintWords Go.Proofs.YtjmhihadgpdiaaaW.PrintLast Go.Proofs.YtjmhihadgpdiaaaW.PrintMore
attribute [local go_sem] max2_int min2_int max_two min_two max_three min_three max_four min_four   -- for this text's walks alone
set_option linter.unusedVariables false
set_option linter.unusedSimpArgs false
def bobbinetkeep_Tokens.names : List ByteArray := [(⟨#[112]⟩ : ByteArray), (⟨#[98]⟩ : ByteArray), (⟨#[105]⟩ : ByteArray), (⟨#[108, 105]⟩ : ByteArray), (⟨#[104, 45, 49]⟩ : ByteArray)]
def bobbinetkeep_Tokens.texts : List ByteArray := [(⟨#[120]⟩ : ByteArray), (⟨#[97, 60, 98]⟩ : ByteArray), (⟨#[38, 97, 109, 112, 59]⟩ : ByteArray), (⟨#[34, 113, 34]⟩ : ByteArray), (⟨#[60, 112, 62]⟩ : ByteArray), (⟨#[32, 62, 32]⟩ : ByteArray), (⟨#[38, 35, 54, 48, 59]⟩ : ByteArray)]
def bobbinetkeep_Tokens.keys : List ByteArray := [(⟨#[99, 108, 97, 115, 115]⟩ : ByteArray), (⟨#[104, 114, 101, 102]⟩ : ByteArray)]
def bobbinetkeep_Tokens.vals : List ByteArray := [(⟨#[]⟩ : ByteArray), (⟨#[120]⟩ : ByteArray), (⟨#[97, 34, 98]⟩ : ByteArray), (⟨#[60, 38, 62]⟩ : ByteArray), (⟨#[97, 32, 98]⟩ : ByteArray), (⟨#[38, 108, 116, 59]⟩ : ByteArray)]
def bobbinetkeep_Tokens.nameOf (xa : Int) : ByteArray := bobbinetkeep_Tokens.names.getD (wrap64 (Int.tdiv xa 4) % 5).toNat ByteArray.empty
def bobbinetkeep_Tokens.textOf (xa : Int) : ByteArray := bobbinetkeep_Tokens.texts.getD (wrap64 (Int.tdiv xa 4) % 7).toNat ByteArray.empty
def bobbinetkeep_Tokens.attr (xa : Int) (i : Nat) : S63 := ⟨bobbinetkeep_Tokens.keys.getD i ByteArray.empty, bobbinetkeep_Tokens.vals.getD (wrap64 (Int.tdiv xa (80 + i)) % 6).toNat ByteArray.empty⟩
def bobbinetkeep_Tokens.many (xa : Int) : Nat := (wrap64 (Int.tdiv xa 40) % 3).toNat
def bobbinetkeep_Tokens.attrs (xa : Int) : List S63 := (List.range (bobbinetkeep_Tokens.many xa)).map (bobbinetkeep_Tokens.attr xa)
def bobbinetkeep_Tokens.tok (xa : Int) : S47 :=
  if xa % 4 = 0 then ⟨2, bobbinetkeep_Tokens.nameOf xa, ([] : List S63), false, (⟨#[]⟩ : ByteArray)⟩
  else if xa % 4 = 1 then ⟨3, (⟨#[]⟩ : ByteArray), ([] : List S63), false, bobbinetkeep_Tokens.textOf xa⟩
  else if xa % 4 = 2 then ⟨1, bobbinetkeep_Tokens.nameOf xa, bobbinetkeep_Tokens.attrs xa, decide (wrap64 (Int.tdiv xa 20) % 2 = 0), (⟨#[]⟩ : ByteArray)⟩
  else ⟨1, bobbinetkeep_Tokens.nameOf xa, ([] : List S63), false, (⟨#[]⟩ : ByteArray)⟩
def bobbinetkeep_Tokens.text3 (acc : List S47) : Bool := if acc.length = 0 then false else decide ((rd_T47 acc ((acc.length : Int) - 1)).f0 = 3)
def bobbinetkeep_Tokens.go (n : Int) : List Int → List S47 → List S47
  | [], acc => acc
  | xa :: l, acc => if (acc.length : Int) < n then (if xa % 4 = 1 then (if bobbinetkeep_Tokens.text3 acc = true then bobbinetkeep_Tokens.go n l acc else bobbinetkeep_Tokens.go n l (acc ++ [bobbinetkeep_Tokens.tok xa])) else bobbinetkeep_Tokens.go n l (acc ++ [bobbinetkeep_Tokens.tok xa])) else acc
def bobbinetkeep_Tokens.f (_k : Nat) (l0 : List Int) (a1 : Int) : Option (List S47) := if a1 ≤ 1000000 then some (bobbinetkeep_Tokens.go a1 l0 []) else none
theorem bobbinetkeep_Tokens.pick (xa : Int) (n : Int) (h0 : 0 < n) (hn : n ≤ 4294967296) : bobbinetkeep_Picked.f xa n = some (xa % n) := by
  have h1 := Int.tmod_lt_of_pos xa h0
  have e := Int.tmod_eq_emod (a := xa) (b := n)
  have hl : (n.natAbs : Int) = n := by omega
  have q0 := Int.emod_nonneg xa (show n ≠ 0 by omega)
  have q1 := Int.emod_lt_of_pos xa h0
  unfold bobbinetkeep_Picked.f
  rw [if_neg (by omega)]
  by_cases c : Int.tmod xa n < 0
  · rw [if_pos c]
    split at e
    · omega
    · rw [show wrap64 (Int.tmod xa n + n) = Int.tmod xa n + n by unfold wrap64; omega]
      congr 1
      omega
  · rw [if_neg c]
    congr 1
    split at e
    · omega
    · omega
theorem bobbinetkeep_Tokens.lit (l : List ByteArray) (i : Nat) (h : i < l.length) : (l.map Value.string)[i]? = some (.string (l.getD i ByteArray.empty)) := by simp [List.getD, h]
theorem bobbinetkeep_Tokens.pack {P : Program} {c : Code} {Q : Exit → Act → World → Prop} {xa : Act} {W : World} (F : World → Prop) (h1 : F W) (h : ∀ W', F W' → Code.wp P c Q xa W') : Code.wp P c Q xa W := h W h1
def bobbinetkeep_Tokens.T19 : Bool × List (List Nat × List Nat) := (true, [([], []), ([0], [0]), ([], []), ([], []), ([2, 3], [2, 3]), ([4], [4]), ([], []), ([], []), ([], []), ([8], [8]), ([7, 9], [7, 9]), ([10], [10]), ([6, 11], [6, 11]), ([12], [12]), ([5, 13], [5, 13]), ([14], [14]), ([1, 15, 11], [1, 15]), ([0, 1, 2, 3, 4, 5, 6, 7, 8, 9, 10, 11, 12, 13, 14, 15, 16], []), ([17, 16, 16, 0, 1, 2, 3, 4, 5, 6, 7, 8, 9, 10, 11, 12, 13, 14, 15, 16], [16, 17])])
def bobbinetkeep_Tokens.B19 : List Nat := [0, 1, 0, 0, 12, 28, 0, 0, 0, 256, 896, 1920, 4032, 8128, 16380, 32764, 65535, 131071, 262143]
theorem bobbinetkeep_Tokens.tab19 : rtab .any (opsOf Try.f17 19) = bobbinetkeep_Tokens.T19 := by kernel_rfl
theorem bobbinetkeep_Tokens.bits19 : waitsOk bobbinetkeep_Tokens.T19.2 bobbinetkeep_Tokens.B19 = true := by kernel_rfl
theorem bobbinetkeep_Tokens.fin {w W w1 : World} {B g8 : Nat} {vR v1 va : Value} {sf : Bool} {nm : ByteArray} {acc : List S47} {ys : List S63} (bk : W.heap[g8]? = some (.cells #[.int .i64 1, .string nm, vR, .bool sf, .string (⟨#[]⟩ : ByteArray)] 47 (0, 0))) (hs : Kd.S k47 47 W B (fun k => k < g8) va acc) (ho : ∀ k, vR.ownBlock = some k → g8 < k) (hr : k63.R 63 w1 B (fun k => g8 < k) v1 ys) (hb : Below B w w1) (hB : B ≤ g8) (hg : W.grownBy w1 vR.ownBlock) :
    (w1.setCell ⟨g8, 2, none⟩ v1).heap[g8]? = some (.cells #[.int .i64 1, .string nm, v1, .bool sf, .string (⟨#[]⟩ : ByteArray)] 47 (0, 0)) ∧ Kd.S k47 47 (w1.setCell ⟨g8, 2, none⟩ v1) B (fun k => k < g8) va acc ∧ k63.R 63 (w1.setCell ⟨g8, 2, none⟩ v1) B (fun k => g8 < k) v1 ys ∧ Below B w (w1.setCell ⟨g8, 2, none⟩ v1) :=
  ⟨blk_put (blk_grown bk hg (fun e => by have := ho g8 e.symm; omega)) 2 _ rfl, Kd.S_far (Kd.S_grown hs hg (fun k hk e => by have := ho k e.symm; omega)) (p := ⟨g8, 2, none⟩) (fun k hk => by show k ≠ g8; omega) _, Kd.R_far hr (p := ⟨g8, 2, none⟩) (fun k hk => by show k ≠ g8; omega) _, hb.setCell hB _⟩
set_option maxHeartbeats 8000000 in
set_option maxRecDepth 100000 in
theorem bobbinetkeep_Tokens.calls (k : Nat) (A0 : Option Addr) (c0 : Nat) (l0 : List Int) (a1 : Int) (r : List S47) (w : World) (hr0 : Kd.C (Kd.int .i64) w A0 l0.length l0) (hc0 : l0.length ≤ c0) (h : bobbinetkeep_Tokens.f k l0 a1 = some r) :
    Calls Try.prog 17 #[.slice A0 l0.length c0, .int .i64 a1] w fun e w' => ∃ v0_ : Value, e = .returned (v0_) ∧ Kd.S k47 47 w' w.heap.size (fun _ => True) v0_ r ∧ Below w.heap.size w w' := by
  have hu47 := Try.underlying47
  have hu63 := Try.underlying63
  have hmx := Kd.C_max hr0
  have HR := Aside0.mk hr0
  have HC0 := Aside0.mk hc0
  unfold bobbinetkeep_Tokens.f at h
  by_cases ha1 : a1 ≤ 1000000
  case neg => rw [if_neg ha1] at h; simp at h
  rw [if_pos ha1] at h
  have H := Aside0.mk (Option.some.inj h)
  have HA := Aside0.mk ha1
  have HM := Aside0.mk hmx
  clear hr0 hc0 h ha1 hmx
  go_enter Try.func17, Try.ntmps17
  go_wp2
  go_loopw [5, 6] (fun v5 v6 wr => ∃ (i : Nat) (acc : List S47), v6 = .int .i64 (i : Int) ∧ Aside0 (i ≤ l0.length) ∧ Aside0 (bobbinetkeep_Tokens.go a1 (l0.drop i) acc = r) ∧ Aside0 (acc.length ≤ 1000000) ∧ Aside0 (Kd.S k47 47 wr w.heap.size (fun _ => True) v5 acc) ∧ Aside0 (Below w.heap.size w wr)) (fun v5 v6 _ => l0.length - (intOf v6).toNat)
  case atStart => exact ⟨0, [], rfl, ⟨Nat.zero_le _⟩, H, ⟨by simp⟩, ⟨Kd.S_nil _ _ _ _ _⟩, ⟨Below.refl _ _⟩⟩
  case round =>
    clear H
    obtain ⟨i, acc, rfl, HI, H, HL, HS, HB⟩ := hrel
    obtain ⟨Ac, cc, e5, hcc, hC⟩ := Kd.S_reads HS.out
    subst e5
    have HCC := Aside0.mk hC
    have HCc := Aside0.mk hcc
    have hmx2 := Kd.C_max hC
    have HMX := Aside0.mk hmx2
    clear hC hcc hmx2
    by_cases hi : i < l0.length
    · have hlt : decide ((i : Int) < (l0.length : Int)) = true := decide_eq_true (by omega)
      have hlt2 : (i < l0.length) = True := eq_true hi
      by_cases hn : (acc.length : Int) < a1
      · have hnt : decide ((acc.length : Int) < a1) = true := decide_eq_true hn
        obtain ⟨xa, ha⟩ : ∃ xa, rd l0 (i : Int) = xa := ⟨_, rfl⟩
        have hdr : l0.drop i = xa :: l0.drop (i + 1) := by
          rw [List.drop_eq_getElem_cons hi, ← ha]
          simp [rd, List.getD, hi]
        have hgo := H.out
        rw [hdr, bobbinetkeep_Tokens.go, if_pos hn] at hgo
        replace H := Aside0.mk hgo
        have HN := Aside0.mk hn
        have HII := Aside0.mk hi
        clear hgo hdr hn
        obtain ⟨ax, eax, hx0⟩ := Kd.at_int HR.out (i : Int) (by omega) (by omega)
        rw [ha, Int.toNat_natCast] at hx0
        subst eax
        have hx := (HB.out.cell (World.block_lt_of_cell? w _ hx0)).trans hx0
        obtain ⟨t5, ht5⟩ : ∃ t5 : Nat, wrap64 (Int.tdiv xa 4) % 5 = (t5 : Int) := ⟨_, (Int.toNat_of_nonneg (Int.emod_nonneg _ (by decide))).symm⟩
        have q5 : (t5 : Int) < 5 := by rw [← ht5]; exact Int.emod_lt_of_pos _ (by decide)
        have P5 := Aside0.mk (bobbinetkeep_Tokens.pick (wrap64 (Int.tdiv xa 4)) 5 (by decide) (by decide))
        rw [ht5] at P5
        have N5 : bobbinetkeep_Tokens.names.getD t5 ByteArray.empty = bobbinetkeep_Tokens.nameOf xa := by unfold bobbinetkeep_Tokens.nameOf; rw [ht5]; rfl
        have hT5 : ([Value.string (⟨#[112]⟩ : ByteArray), Value.string (⟨#[98]⟩ : ByteArray), Value.string (⟨#[105]⟩ : ByteArray), Value.string (⟨#[108, 105]⟩ : ByteArray), Value.string (⟨#[104, 45, 49]⟩ : ByteArray)] : List Value)[t5]? = some (Value.string (bobbinetkeep_Tokens.nameOf xa)) := by rw [← N5]; exact bobbinetkeep_Tokens.lit bobbinetkeep_Tokens.names t5 (by simp [bobbinetkeep_Tokens.names]; omega)
        clear N5
        have hi0 : (0 : Int) ≤ (i : Int) := by omega
        have hi1 : (i : Int) < (l0.length : Int) := by omega
        have hp5 : (0 : Int) ≤ (t5 : Int) := by omega
        have hw : wrap64 ((i : Int) + 1) = (i : Int) + 1 := by have := HM.out; unfold wrap64; omega
        clear ha ht5 hx0 hi
        go_upto_region 7 with (first
          | (go_at_call 10; (with_reducible refine (bobbinetkeep_Picked.calls _ _ _ _ P5.out).mono ?_); rintro e w' ⟨rfl, ⟨nd, rfl⟩⟩)
          | ((with_reducible refine gate_dst (N := 8) rfl ?_); (try (refine gate_guard (by rfl) ?_; dsimp only)); refine box_event ?hg (N := 8) ?hd (cs := #[.int .i64 0, .string (⟨#[]⟩ : ByteArray), .slice none 0 0, .bool false, .string (⟨#[]⟩ : ByteArray)]) (t := 47) ?hr ?_; (case hd => rfl); (case hg => rfl); (case hr => first | (go_simp; done) | (go_simp; rfl)); intro g8 hg8 w18 hbox hb8; have n1 := Aside0.mk (Kd.S_below (Kd.S_mono (Kd.S_bound (Kd.S_below HS.out (show Below wr.heap.size wr _ by repeat (first | exact Below.refl _ _ | apply below_alloc | apply pw_below_drewN | apply below_drew1)))) (fun k hk => (by have := hk.2.2.1; rw [hg8]; exact this : k < g8))) hb8); have n2 := Aside0.mk (below_step (by repeat (first | (with_reducible first | exact HB.out | apply below_alloc | apply pw_below_drewN | apply below_drew1) | exact HB.out)) hb8); have n3 := Aside0.mk (by rw [hg8]; exact below_size (by repeat (first | (with_reducible first | exact HB.out | apply below_alloc | apply pw_below_drewN | apply below_drew1) | exact HB.out)) : w.heap.size ≤ g8); clear HS HB hb8 hg8 hx hT5; have HS := n1; have HB := n2; have GE := n3; clear n1 n2 n3; have BK := Aside0.mk hbox; clear hbox; have hcz0 := blk_cell BK.out 0; have hcz1 := blk_cell BK.out 1; have hcz2 := blk_cell BK.out 2; have hcz3 := blk_cell BK.out 3; have hcz4 := blk_cell BK.out 4; simp only [List.getElem?_toArray, List.getElem?_cons_zero, List.getElem?_cons_succ] at hcz0 hcz1 hcz2 hcz3 hcz4; have hfz0 := blk_frozen BK.out 0; have hfz1 := blk_frozen BK.out 1; have hfz2 := blk_frozen BK.out 2; have hfz3 := blk_frozen BK.out 3; have hfz4 := blk_frozen BK.out 4)
          | fail)
        refine bobbinetkeep_Tokens.pack (fun W => W.heap[g8]? = some (.cells #[.int .i64 1, .string (bobbinetkeep_Tokens.nameOf xa), .slice none 0 0, .bool false, .string (⟨#[]⟩ : ByteArray)] 47 (0, 0)) ∧ Kd.S k47 47 W w.heap.size (fun k => k < g8) (.slice Ac acc.length cc) acc ∧ Below w.heap.size w W) ⟨?p1, ?p2, ?p3⟩ ?_
        case p1 => exact blk_put (blk_put (blk_put (blk_put (blk_put BK.out 0 _ rfl) 1 _ rfl) 2 _ rfl) 3 _ rfl) 4 _ rfl
        case p2 => exact Kd.S_far (Kd.S_far (Kd.S_far (Kd.S_far (Kd.S_far HS.out (p := ⟨g8, 0, none⟩) (fun k hk => by show k ≠ g8; omega) _) (p := ⟨g8, 1, none⟩) (fun k hk => by show k ≠ g8; omega) _) (p := ⟨g8, 2, none⟩) (fun k hk => by show k ≠ g8; omega) _) (p := ⟨g8, 3, none⟩) (fun k hk => by show k ≠ g8; omega) _) (p := ⟨g8, 4, none⟩) (fun k hk => by show k ≠ g8; omega) _
        case p3 => exact below_set (below_set (below_set (below_set (below_set HB.out GE.out) GE.out) GE.out) GE.out) GE.out
        clear BK HS HB hcz0 hcz1 hcz2 hcz3 hcz4 hfz0 hfz1 hfz2 hfz3 hfz4 P5 q5 hp5
        rintro W7 ⟨bk7, hs7, hb7⟩
        have BK := Aside0.mk bk7
        have HS := Aside0.mk hs7
        have HB := Aside0.mk hb7
        clear bk7 hs7 hb7
        have hcz0 := blk_cell BK.out 0
        have hcz1 := blk_cell BK.out 1
        have hcz2 := blk_cell BK.out 2
        have hcz3 := blk_cell BK.out 3
        have hcz4 := blk_cell BK.out 4
        simp only [List.getElem?_toArray, List.getElem?_cons_zero, List.getElem?_cons_succ] at hcz0 hcz1 hcz2 hcz3 hcz4
        have hfz0 := blk_frozen BK.out 0
        have hfz1 := blk_frozen BK.out 1
        have hfz2 := blk_frozen BK.out 2
        have hfz3 := blk_frozen BK.out 3
        have hfz4 := blk_frozen BK.out 4
        have P4 := Aside0.mk (bobbinetkeep_Tokens.pick xa 4 (by decide) (by decide))
        have m0 := Int.emod_nonneg xa (show (4 : Int) ≠ 0 by decide)
        have m1 := Int.emod_lt_of_pos xa (show (0 : Int) < 4 by decide)
        have hm : xa % 4 = 0 ∨ xa % 4 = 1 ∨ xa % 4 = 2 ∨ xa % 4 = 3 := by omega
        clear m0 m1
        rcases hm with hm | hm | hm | hm
        · have HT : Aside0 (bobbinetkeep_Tokens.tok xa = ⟨2, bobbinetkeep_Tokens.nameOf xa, ([] : List S63), false, (⟨#[]⟩ : ByteArray)⟩) := ⟨by unfold bobbinetkeep_Tokens.tok; rw [if_pos hm]⟩
          have hgo := H.out
          rw [if_neg (by omega), HT.out] at hgo
          replace H := Aside0.mk hgo
          rw [hm] at P4
          clear hm hgo HT
          go_upto_region 20 with (first
            | (go_at_call 10; (with_reducible refine (bobbinetkeep_Picked.calls _ _ _ _ P4.out).mono ?_); rintro e w' ⟨rfl, ⟨nd, rfl⟩⟩)
            | fail)
          refine bobbinetkeep_Tokens.pack (fun W => W.heap[g8]? = some (.cells #[.int .i64 2, .string (bobbinetkeep_Tokens.nameOf xa), .slice none 0 0, .bool false, .string (⟨#[]⟩ : ByteArray)] 47 (0, 0)) ∧ Kd.S k47 47 W w.heap.size (fun k => k < g8) (.slice Ac acc.length cc) acc ∧ Below w.heap.size w W) ⟨?p1, ?p2, ?p3⟩ ?_
          case p1 => exact blk_put (blk_drewN BK.out _) 0 _ rfl
          case p2 => exact Kd.S_far (Kd.S_drewN HS.out _) (p := ⟨g8, 0, none⟩) (fun k hk => by show k ≠ g8; omega) _
          case p3 => exact below_set (pw_below_drewN HB.out _) GE.out
          clear BK HS HB hcz0 hcz1 hcz2 hcz3 hcz4 hfz0 hfz1 hfz2 hfz3 hfz4
          rintro W8 ⟨bk7, hs7, hb7⟩
          have BK := Aside0.mk bk7
          have HS := Aside0.mk hs7
          have HB := Aside0.mk hb7
          clear bk7 hs7 hb7
          have hcz0 := blk_cell BK.out 0
          have hcz1 := blk_cell BK.out 1
          have hcz2 := blk_cell BK.out 2
          have hcz3 := blk_cell BK.out 3
          have hcz4 := blk_cell BK.out 4
          simp only [List.getElem?_toArray, List.getElem?_cons_zero, List.getElem?_cons_succ] at hcz0 hcz1 hcz2 hcz3 hcz4
          go_wp2_with (first | ((with_reducible refine gate_builtin (b := .append) (xs := #[.tmp 93, .tmp 95]) rfl ?_); (try (refine gate_guard (by rfl) ?_; dsimp only)); at_builtin; refine Kd.S_append k47 (w0 := w) w.heap.size rfl (.tmp 93) (.tmp 95) 42 47 (.agg #[(.int .i64 0), (.string ⟨#[]⟩), (.slice none 0 0), (.bool false), (.string ⟨#[]⟩)]) 72 rfl Try.underlying42 info47 rfl (by decide) (by omega) (.slice Ac acc.length cc) acc (⟨2, bobbinetkeep_Tokens.nameOf xa, ([] : List S63), false, (⟨#[]⟩ : ByteArray)⟩ : S47) [.int .i64 2, .string (bobbinetkeep_Tokens.nameOf xa), .slice none 0 0, .bool false, .string (⟨#[]⟩ : ByteArray)] (fun _ => True) (fun k => g8 < k) rfl (by first | (go_simp; done) | (go_simp; rfl)) ?aP ?aK (fun _ _ => trivial) ?aO ?aB ?aS ?aL ?_; (case aP => exact k47_mkM _ _ _ (⟨2, bobbinetkeep_Tokens.nameOf xa, ([] : List S63), false, (⟨#[]⟩ : ByteArray)⟩ : S47) (Kd.R_nil _ _ _ _ _)); (case aK => exact fun k hk => ⟨trivial, fun e_ => by have := (Kd.S_R HS.out).1 k e_.symm; omega⟩); (case aO => exact Kd.S_mono (by (with_reducible repeat (first | apply Kd.S_alloc | apply Kd.S_drewN | apply Kd.S_drew)); exact HS.out) (fun k hk => ⟨trivial, by omega⟩)); (case aB => exact (by repeat (first | (with_reducible first | exact HB.out | apply below_alloc | apply pw_below_drewN | apply below_drew1) | exact HB.out))); (case aS => exact (below_size (by repeat (first | (with_reducible first | exact HB.out | apply below_alloc | apply pw_below_drewN | apply below_drew1) | exact HB.out)))); (case aL => have := HL.out; omega); intro v20 w20 ho hb hg hat; clear hg hat; replace HS := Aside0.mk ho; replace HB := Aside0.mk hb; clear ho hb) | fail)
          go_roundw
          case rel => exact ⟨i + 1, acc ++ [(⟨2, bobbinetkeep_Tokens.nameOf xa, ([] : List S63), false, (⟨#[]⟩ : ByteArray)⟩ : S47)], by simp [hw], ⟨by have := HII.out; omega⟩, H, ⟨by have := HN.out; have := HA.out; simp; omega⟩, HS, HB⟩
          case measure => have := HII.out; rw [hw]; simp [intOf]; omega
        · have HT : Aside0 (bobbinetkeep_Tokens.tok xa = ⟨3, (⟨#[]⟩ : ByteArray), ([] : List S63), false, bobbinetkeep_Tokens.textOf xa⟩) := ⟨by unfold bobbinetkeep_Tokens.tok; rw [if_neg (by omega), if_pos hm]⟩
          have hgo := H.out
          rw [if_pos hm, HT.out] at hgo
          rw [hm] at P4
          clear hm HT H
          obtain ⟨t7, ht7⟩ : ∃ t7 : Nat, wrap64 (Int.tdiv xa 4) % 7 = (t7 : Int) := ⟨_, (Int.toNat_of_nonneg (Int.emod_nonneg _ (by decide))).symm⟩
          have q7 : (t7 : Int) < 7 := by rw [← ht7]; exact Int.emod_lt_of_pos _ (by decide)
          have P7 := Aside0.mk (bobbinetkeep_Tokens.pick (wrap64 (Int.tdiv xa 4)) 7 (by decide) (by decide))
          rw [ht7] at P7
          have N7 : bobbinetkeep_Tokens.texts.getD t7 ByteArray.empty = bobbinetkeep_Tokens.textOf xa := by unfold bobbinetkeep_Tokens.textOf; rw [ht7]; rfl
          have hT7 : ([Value.string (⟨#[120]⟩ : ByteArray), Value.string (⟨#[97, 60, 98]⟩ : ByteArray), Value.string (⟨#[38, 97, 109, 112, 59]⟩ : ByteArray), Value.string (⟨#[34, 113, 34]⟩ : ByteArray), Value.string (⟨#[60, 112, 62]⟩ : ByteArray), Value.string (⟨#[32, 62, 32]⟩ : ByteArray), Value.string (⟨#[38, 35, 54, 48, 59]⟩ : ByteArray)] : List Value)[t7]? = some (Value.string (bobbinetkeep_Tokens.textOf xa)) := by rw [← N7]; exact bobbinetkeep_Tokens.lit bobbinetkeep_Tokens.texts t7 (by simp [bobbinetkeep_Tokens.texts]; omega)
          have hp7 : (0 : Int) ≤ (t7 : Int) := by omega
          clear N7 ht7
          go_upto_region 8 with (first
            | (go_at_call 10; (with_reducible refine (bobbinetkeep_Picked.calls _ _ _ _ P4.out).mono ?_); rintro e w' ⟨rfl, ⟨nd, rfl⟩⟩)
            | fail)
          refine bobbinetkeep_Tokens.pack (fun W => W.heap[g8]? = some (.cells #[.int .i64 1, .string (bobbinetkeep_Tokens.nameOf xa), .slice none 0 0, .bool false, .string (⟨#[]⟩ : ByteArray)] 47 (0, 0)) ∧ Kd.S k47 47 W w.heap.size (fun k => k < g8) (.slice Ac acc.length cc) acc ∧ Below w.heap.size w W) ⟨blk_drewN BK.out _, Kd.S_drewN HS.out _, pw_below_drewN HB.out _⟩ ?_
          clear BK HS HB hcz0 hcz1 hcz2 hcz3 hcz4 hfz0 hfz1 hfz2 hfz3 hfz4
          rintro W9 ⟨bk7, hs7, hb7⟩
          have BK := Aside0.mk bk7
          have HS := Aside0.mk hs7
          have HB := Aside0.mk hb7
          clear bk7 hs7 hb7
          have hcz0 := blk_cell BK.out 0
          have hcz1 := blk_cell BK.out 1
          have hcz2 := blk_cell BK.out 2
          have hcz3 := blk_cell BK.out 3
          have hcz4 := blk_cell BK.out 4
          simp only [List.getElem?_toArray, List.getElem?_cons_zero, List.getElem?_cons_succ] at hcz0 hcz1 hcz2 hcz3 hcz4
          have hfz0 := blk_frozen BK.out 0
          have hfz1 := blk_frozen BK.out 1
          have hfz2 := blk_frozen BK.out 2
          have hfz3 := blk_frozen BK.out 3
          have hfz4 := blk_frozen BK.out 4
          by_cases hz : acc.length = 0
          · have h3 : ¬ bobbinetkeep_Tokens.text3 acc = true := by unfold bobbinetkeep_Tokens.text3; rw [if_pos hz]; simp
            rw [if_neg h3] at hgo
            have H := Aside0.mk hgo
            have z1 : decide ((0 : Int) < (acc.length : Int)) = false := decide_eq_false (by omega)
            have z2 : (0 < acc.length) = False := eq_false (by omega)
            clear hgo h3 hz
            go_upto_region 20 with (first
              | (go_at_call 10; (with_reducible refine (bobbinetkeep_Picked.calls _ _ _ _ P7.out).mono ?_); rintro e W10 ⟨rfl, hdr⟩; have n1 := Aside0.mk (show W10.heap[g8]? = some (.cells #[.int .i64 1, .string (bobbinetkeep_Tokens.nameOf xa), .slice none 0 0, .bool false, .string (⟨#[]⟩ : ByteArray)] 47 (0, 0)) by obtain ⟨nd, rfl⟩ := hdr; exact blk_drewN (blk_alloc BK.out _) _); have n2 := Aside0.mk (show Kd.S k47 47 W10 w.heap.size (fun k => k < g8) (.slice Ac acc.length cc) acc by obtain ⟨nd, rfl⟩ := hdr; exact Kd.S_drewN (Kd.S_alloc HS.out _) _); have n3 := Aside0.mk (show Below w.heap.size w W10 by obtain ⟨nd, rfl⟩ := hdr; exact pw_below_drewN (below_alloc HB.out _) _); have hrow : W10.cell? ⟨W9.heap.size, t7, none⟩ = some (.string (bobbinetkeep_Tokens.textOf xa)) := (by obtain ⟨nd, rfl⟩ := hdr; exact (blk_cell (blk_drewN (blk_new W9 _) nd) t7).trans (by simpa using hT7)); clear hdr BK HS HB hcz0 hcz1 hcz2 hcz3 hcz4 hfz0 hfz1 hfz2 hfz3 hfz4; have BK := n1; have HS := n2; have HB := n3; clear n1 n2 n3; have hcz0 := blk_cell BK.out 0; have hcz1 := blk_cell BK.out 1; have hcz2 := blk_cell BK.out 2; have hcz3 := blk_cell BK.out 3; have hcz4 := blk_cell BK.out 4; simp only [List.getElem?_toArray, List.getElem?_cons_zero, List.getElem?_cons_succ] at hcz0 hcz1 hcz2 hcz3 hcz4; have hfz0 := blk_frozen BK.out 0; have hfz1 := blk_frozen BK.out 1; have hfz2 := blk_frozen BK.out 2; have hfz3 := blk_frozen BK.out 3; have hfz4 := blk_frozen BK.out 4)
              | fail)
            refine bobbinetkeep_Tokens.pack (fun W => W.heap[g8]? = some (.cells #[.int .i64 3, .string (⟨#[]⟩ : ByteArray), .slice none 0 0, .bool false, .string (bobbinetkeep_Tokens.textOf xa)] 47 (0, 0)) ∧ Kd.S k47 47 W w.heap.size (fun k => k < g8) (.slice Ac acc.length cc) acc ∧ Below w.heap.size w W) ⟨?p1, ?p2, ?p3⟩ ?_
            case p1 => exact blk_put (blk_put (blk_put (blk_put (blk_put (by repeat (first | exact BK.out | refine blk_drewN ?_ _ | refine blk_alloc ?_ _)) 0 _ rfl) 1 _ rfl) 2 _ rfl) 3 _ rfl) 4 _ rfl
            case p2 => exact Kd.S_far (Kd.S_far (Kd.S_far (Kd.S_far (Kd.S_far (by (with_reducible repeat (first | apply Kd.S_alloc | apply Kd.S_drewN | apply Kd.S_drew)); exact HS.out) (p := ⟨g8, 0, none⟩) (fun k hk => by show k ≠ g8; omega) _) (p := ⟨g8, 1, none⟩) (fun k hk => by show k ≠ g8; omega) _) (p := ⟨g8, 2, none⟩) (fun k hk => by show k ≠ g8; omega) _) (p := ⟨g8, 3, none⟩) (fun k hk => by show k ≠ g8; omega) _) (p := ⟨g8, 4, none⟩) (fun k hk => by show k ≠ g8; omega) _
            case p3 => exact below_set (below_set (below_set (below_set (below_set (by repeat (first | (with_reducible first | exact HB.out | apply below_alloc | apply pw_below_drewN | apply below_drew1) | exact HB.out)) GE.out) GE.out) GE.out) GE.out) GE.out
            clear BK HS HB hcz0 hcz1 hcz2 hcz3 hcz4 hfz0 hfz1 hfz2 hfz3 hfz4
            rintro W8 ⟨bk7, hs7, hb7⟩
            have BK := Aside0.mk bk7
            have HS := Aside0.mk hs7
            have HB := Aside0.mk hb7
            clear bk7 hs7 hb7
            have hcz0 := blk_cell BK.out 0
            have hcz1 := blk_cell BK.out 1
            have hcz2 := blk_cell BK.out 2
            have hcz3 := blk_cell BK.out 3
            have hcz4 := blk_cell BK.out 4
            simp only [List.getElem?_toArray, List.getElem?_cons_zero, List.getElem?_cons_succ] at hcz0 hcz1 hcz2 hcz3 hcz4
            go_wp2_with (first | ((with_reducible refine gate_builtin (b := .append) (xs := #[.tmp 93, .tmp 95]) rfl ?_); (try (refine gate_guard (by rfl) ?_; dsimp only)); at_builtin; refine Kd.S_append k47 (w0 := w) w.heap.size rfl (.tmp 93) (.tmp 95) 42 47 (.agg #[(.int .i64 0), (.string ⟨#[]⟩), (.slice none 0 0), (.bool false), (.string ⟨#[]⟩)]) 72 rfl Try.underlying42 info47 rfl (by decide) (by omega) (.slice Ac acc.length cc) acc (⟨3, (⟨#[]⟩ : ByteArray), ([] : List S63), false, bobbinetkeep_Tokens.textOf xa⟩ : S47) [.int .i64 3, .string (⟨#[]⟩ : ByteArray), .slice none 0 0, .bool false, .string (bobbinetkeep_Tokens.textOf xa)] (fun _ => True) (fun k => g8 < k) rfl (by first | (go_simp; done) | (go_simp; rfl)) ?aP ?aK (fun _ _ => trivial) ?aO ?aB ?aS ?aL ?_; (case aP => exact k47_mkM _ _ _ (⟨3, (⟨#[]⟩ : ByteArray), ([] : List S63), false, bobbinetkeep_Tokens.textOf xa⟩ : S47) (Kd.R_nil _ _ _ _ _)); (case aK => exact fun k hk => ⟨trivial, fun e_ => by have := (Kd.S_R HS.out).1 k e_.symm; omega⟩); (case aO => exact Kd.S_mono (by (with_reducible repeat (first | apply Kd.S_alloc | apply Kd.S_drewN | apply Kd.S_drew)); exact HS.out) (fun k hk => ⟨trivial, by omega⟩)); (case aB => exact (by repeat (first | (with_reducible first | exact HB.out | apply below_alloc | apply pw_below_drewN | apply below_drew1) | exact HB.out))); (case aS => exact (below_size (by repeat (first | (with_reducible first | exact HB.out | apply below_alloc | apply pw_below_drewN | apply below_drew1) | exact HB.out)))); (case aL => have := HL.out; omega); intro v20 w20 ho hb hg hat; clear hg hat; replace HS := Aside0.mk ho; replace HB := Aside0.mk hb; clear ho hb) | fail)
            go_roundw
            case rel => exact ⟨i + 1, acc ++ [(⟨3, (⟨#[]⟩ : ByteArray), ([] : List S63), false, bobbinetkeep_Tokens.textOf xa⟩ : S47)], by simp [hw], ⟨by have := HII.out; omega⟩, H, ⟨by have := HN.out; have := HA.out; simp; omega⟩, HS, HB⟩
            case measure => have := HII.out; rw [hw]; simp [intOf]; omega
          · obtain ⟨la, hla⟩ : ∃ la : Nat, (la : Int) = (acc.length : Int) - 1 := ⟨acc.length - 1, by omega⟩
            have z1 : decide ((0 : Int) < (acc.length : Int)) = true := decide_eq_true (by omega)
            have z2 : (0 < acc.length) = True := eq_true (by omega)
            have hw2 : wrap64 ((acc.length : Int) - 1) = (la : Int) := by have := HL.out; rw [← hla]; exact (by unfold wrap64; omega)
            have hl0 : (0 : Int) ≤ (la : Int) := by omega
            have hl1 : (la : Int) < (acc.length : Int) := by omega
            obtain ⟨al, A2, c2, ea, hk0, _⟩ := at_T47 (Kd.S_reads' HS.out).2.2 (la : Int) hl0 hl1
            rw [Int.toNat_natCast] at hk0
            subst ea
            obtain ⟨kd, hkd⟩ : ∃ kd, (rd_T47 acc (la : Int)).f0 = kd := ⟨_, rfl⟩
            rw [hkd] at hk0
            have e3 : bobbinetkeep_Tokens.text3 acc = decide (kd = 3) := by unfold bobbinetkeep_Tokens.text3; rw [if_neg hz, ← hla, hkd]
            rw [e3] at hgo
            clear hz hla hkd e3
            by_cases h3 : kd = 3
            · rw [if_pos (by simp [h3])] at hgo
              have H := Aside0.mk hgo
              subst h3
              clear hgo
              go_wp2_with (first
                | (go_at_call 10; (with_reducible refine (bobbinetkeep_Picked.calls _ _ _ _ P4.out).mono ?_); rintro e w' ⟨rfl, ⟨nd, rfl⟩⟩)
                | fail)
              go_roundw
              case rel => exact ⟨i + 1, acc, by simp [hw], ⟨by have := HII.out; omega⟩, H, HL, ⟨Kd.S_mono (by (with_reducible repeat (first | apply Kd.S_alloc | apply Kd.S_drewN | apply Kd.S_drew)); exact HS.out) (fun _ _ => trivial)⟩, ⟨by repeat (first | (with_reducible first | exact HB.out | apply below_alloc | apply pw_below_drewN | apply below_drew1) | exact HB.out)⟩⟩
              case measure => have := HII.out; rw [hw]; simp [intOf]; omega
            · rw [if_neg (by simp [h3])] at hgo
              have H := Aside0.mk hgo
              have z3 : (kd == 3) = false := beq_eq_false_iff_ne.mpr h3
              have z4 : decide (kd = 3) = false := decide_eq_false h3
              clear hgo h3
              go_upto_region 20 with (first
                | (go_at_call 10; (with_reducible refine (bobbinetkeep_Picked.calls _ _ _ _ P7.out).mono ?_); rintro e W10 ⟨rfl, hdr⟩; have n1 := Aside0.mk (show W10.heap[g8]? = some (.cells #[.int .i64 1, .string (bobbinetkeep_Tokens.nameOf xa), .slice none 0 0, .bool false, .string (⟨#[]⟩ : ByteArray)] 47 (0, 0)) by obtain ⟨nd, rfl⟩ := hdr; exact blk_drewN (blk_alloc BK.out _) _); have n2 := Aside0.mk (show Kd.S k47 47 W10 w.heap.size (fun k => k < g8) (.slice (some al) acc.length cc) acc by obtain ⟨nd, rfl⟩ := hdr; exact Kd.S_drewN (Kd.S_alloc HS.out _) _); have n3 := Aside0.mk (show Below w.heap.size w W10 by obtain ⟨nd, rfl⟩ := hdr; exact pw_below_drewN (below_alloc HB.out _) _); have hrow : W10.cell? ⟨W9.heap.size, t7, none⟩ = some (.string (bobbinetkeep_Tokens.textOf xa)) := (by obtain ⟨nd, rfl⟩ := hdr; exact (blk_cell (blk_drewN (blk_new W9 _) nd) t7).trans (by simpa using hT7)); clear hdr BK HS HB hcz0 hcz1 hcz2 hcz3 hcz4 hfz0 hfz1 hfz2 hfz3 hfz4; have BK := n1; have HS := n2; have HB := n3; clear n1 n2 n3; have hcz0 := blk_cell BK.out 0; have hcz1 := blk_cell BK.out 1; have hcz2 := blk_cell BK.out 2; have hcz3 := blk_cell BK.out 3; have hcz4 := blk_cell BK.out 4; simp only [List.getElem?_toArray, List.getElem?_cons_zero, List.getElem?_cons_succ] at hcz0 hcz1 hcz2 hcz3 hcz4; have hfz0 := blk_frozen BK.out 0; have hfz1 := blk_frozen BK.out 1; have hfz2 := blk_frozen BK.out 2; have hfz3 := blk_frozen BK.out 3; have hfz4 := blk_frozen BK.out 4)
                | fail)
              refine bobbinetkeep_Tokens.pack (fun W => W.heap[g8]? = some (.cells #[.int .i64 3, .string (⟨#[]⟩ : ByteArray), .slice none 0 0, .bool false, .string (bobbinetkeep_Tokens.textOf xa)] 47 (0, 0)) ∧ Kd.S k47 47 W w.heap.size (fun k => k < g8) (.slice (some al) acc.length cc) acc ∧ Below w.heap.size w W) ⟨?p1, ?p2, ?p3⟩ ?_
              case p1 => exact blk_put (blk_put (blk_put (blk_put (blk_put (by repeat (first | exact BK.out | refine blk_drewN ?_ _ | refine blk_alloc ?_ _)) 0 _ rfl) 1 _ rfl) 2 _ rfl) 3 _ rfl) 4 _ rfl
              case p2 => exact Kd.S_far (Kd.S_far (Kd.S_far (Kd.S_far (Kd.S_far (by (with_reducible repeat (first | apply Kd.S_alloc | apply Kd.S_drewN | apply Kd.S_drew)); exact HS.out) (p := ⟨g8, 0, none⟩) (fun k hk => by show k ≠ g8; omega) _) (p := ⟨g8, 1, none⟩) (fun k hk => by show k ≠ g8; omega) _) (p := ⟨g8, 2, none⟩) (fun k hk => by show k ≠ g8; omega) _) (p := ⟨g8, 3, none⟩) (fun k hk => by show k ≠ g8; omega) _) (p := ⟨g8, 4, none⟩) (fun k hk => by show k ≠ g8; omega) _
              case p3 => exact below_set (below_set (below_set (below_set (below_set (by repeat (first | (with_reducible first | exact HB.out | apply below_alloc | apply pw_below_drewN | apply below_drew1) | exact HB.out)) GE.out) GE.out) GE.out) GE.out) GE.out
              clear BK HS HB hcz0 hcz1 hcz2 hcz3 hcz4 hfz0 hfz1 hfz2 hfz3 hfz4
              rintro W8 ⟨bk7, hs7, hb7⟩
              have BK := Aside0.mk bk7
              have HS := Aside0.mk hs7
              have HB := Aside0.mk hb7
              clear bk7 hs7 hb7
              have hcz0 := blk_cell BK.out 0
              have hcz1 := blk_cell BK.out 1
              have hcz2 := blk_cell BK.out 2
              have hcz3 := blk_cell BK.out 3
              have hcz4 := blk_cell BK.out 4
              simp only [List.getElem?_toArray, List.getElem?_cons_zero, List.getElem?_cons_succ] at hcz0 hcz1 hcz2 hcz3 hcz4
              go_wp2_with (first | ((with_reducible refine gate_builtin (b := .append) (xs := #[.tmp 93, .tmp 95]) rfl ?_); (try (refine gate_guard (by rfl) ?_; dsimp only)); at_builtin; refine Kd.S_append k47 (w0 := w) w.heap.size rfl (.tmp 93) (.tmp 95) 42 47 (.agg #[(.int .i64 0), (.string ⟨#[]⟩), (.slice none 0 0), (.bool false), (.string ⟨#[]⟩)]) 72 rfl Try.underlying42 info47 rfl (by decide) (by omega) (.slice (some al) acc.length cc) acc (⟨3, (⟨#[]⟩ : ByteArray), ([] : List S63), false, bobbinetkeep_Tokens.textOf xa⟩ : S47) [.int .i64 3, .string (⟨#[]⟩ : ByteArray), .slice none 0 0, .bool false, .string (bobbinetkeep_Tokens.textOf xa)] (fun _ => True) (fun k => g8 < k) rfl (by first | (go_simp; done) | (go_simp; rfl)) ?aP ?aK (fun _ _ => trivial) ?aO ?aB ?aS ?aL ?_; (case aP => exact k47_mkM _ _ _ (⟨3, (⟨#[]⟩ : ByteArray), ([] : List S63), false, bobbinetkeep_Tokens.textOf xa⟩ : S47) (Kd.R_nil _ _ _ _ _)); (case aK => exact fun k hk => ⟨trivial, fun e_ => by have := (Kd.S_R HS.out).1 k e_.symm; omega⟩); (case aO => exact Kd.S_mono (by (with_reducible repeat (first | apply Kd.S_alloc | apply Kd.S_drewN | apply Kd.S_drew)); exact HS.out) (fun k hk => ⟨trivial, by omega⟩)); (case aB => exact (by repeat (first | (with_reducible first | exact HB.out | apply below_alloc | apply pw_below_drewN | apply below_drew1) | exact HB.out))); (case aS => exact (below_size (by repeat (first | (with_reducible first | exact HB.out | apply below_alloc | apply pw_below_drewN | apply below_drew1) | exact HB.out)))); (case aL => have := HL.out; omega); intro v20 w20 ho hb hg hat; clear hg hat; replace HS := Aside0.mk ho; replace HB := Aside0.mk hb; clear ho hb) | fail)
              go_roundw
              case rel => exact ⟨i + 1, acc ++ [(⟨3, (⟨#[]⟩ : ByteArray), ([] : List S63), false, bobbinetkeep_Tokens.textOf xa⟩ : S47)], by simp [hw], ⟨by have := HII.out; omega⟩, H, ⟨by have := HN.out; have := HA.out; simp; omega⟩, HS, HB⟩
              case measure => have := HII.out; rw [hw]; simp [intOf]; omega
        · have HT : Aside0 (bobbinetkeep_Tokens.tok xa = ⟨1, bobbinetkeep_Tokens.nameOf xa, bobbinetkeep_Tokens.attrs xa, decide (wrap64 (Int.tdiv xa 20) % 2 = 0), (⟨#[]⟩ : ByteArray)⟩) := ⟨by unfold bobbinetkeep_Tokens.tok; rw [if_neg (by omega), if_neg (by omega), if_pos hm]⟩
          have hgo := H.out
          rw [if_neg (by omega), HT.out] at hgo
          rw [hm] at P4
          clear hm HT H
          obtain ⟨x2, hx2⟩ : ∃ x2 : Int, wrap64 (Int.tdiv xa 20) % 2 = x2 := ⟨_, rfl⟩
          have P2 := Aside0.mk (bobbinetkeep_Tokens.pick (wrap64 (Int.tdiv xa 20)) 2 (by decide) (by decide))
          rw [hx2] at P2 hgo
          obtain ⟨m3, hm3⟩ : ∃ m3 : Nat, bobbinetkeep_Tokens.many xa = m3 := ⟨_, rfl⟩
          have e3 : wrap64 (Int.tdiv xa 40) % 3 = (m3 : Int) := by rw [← hm3]; exact (Int.toNat_of_nonneg (Int.emod_nonneg _ (by decide))).symm
          have m3l : m3 < 3 := by have := Int.emod_lt_of_pos (wrap64 (Int.tdiv xa 40)) (show (0 : Int) < 3 by decide); omega
          have P3 := Aside0.mk (bobbinetkeep_Tokens.pick (wrap64 (Int.tdiv xa 40)) 3 (by decide) (by decide))
          rw [e3] at P3
          have hat : bobbinetkeep_Tokens.attrs xa = (List.range m3).map (bobbinetkeep_Tokens.attr xa) := by unfold bobbinetkeep_Tokens.attrs; rw [hm3]
          rw [hat] at hgo
          have H := Aside0.mk hgo
          have M3 := Aside0.mk m3l
          clear hx2 hm3 e3 hat hgo m3l
          go_upto_region 16 with (first
            | (go_at_call 10; (first | (with_reducible refine (bobbinetkeep_Picked.calls _ _ _ _ P4.out).mono ?_) | (with_reducible refine (bobbinetkeep_Picked.calls _ _ _ _ P2.out).mono ?_)); rintro e w' ⟨rfl, ⟨nd, rfl⟩⟩)
            | fail)
          refine bobbinetkeep_Tokens.pack (fun W => W.heap[g8]? = some (.cells #[.int .i64 1, .string (bobbinetkeep_Tokens.nameOf xa), .slice none 0 0, .bool (decide (x2 = 0)), .string (⟨#[]⟩ : ByteArray)] 47 (0, 0)) ∧ Kd.S k47 47 W w.heap.size (fun k => k < g8) (.slice Ac acc.length cc) acc ∧ Below w.heap.size w W) ⟨?p1, ?p2, ?p3⟩ ?_
          case p1 => exact blk_put (by repeat (first | exact BK.out | refine blk_drewN ?_ _)) 3 _ rfl
          case p2 => exact Kd.S_far (by (with_reducible repeat (first | apply Kd.S_alloc | apply Kd.S_drewN | apply Kd.S_drew)); exact HS.out) (p := ⟨g8, 3, none⟩) (fun k hk => by show k ≠ g8; omega) _
          case p3 => exact below_set (by repeat (first | (with_reducible first | exact HB.out | apply below_alloc | apply pw_below_drewN | apply below_drew1) | exact HB.out)) GE.out
          clear BK HS HB hcz0 hcz1 hcz2 hcz3 hcz4 hfz0 hfz1 hfz2 hfz3 hfz4
          rintro W7 ⟨bk7, hs7, hb7⟩
          go_wp2
          go_loopw [10] (fun v10 W => ∃ (j : Nat) (vR : Value), v10 = .int .i64 (j : Int) ∧ Aside0 (j ≤ m3) ∧ Aside0 (W.heap[g8]? = some (.cells #[.int .i64 1, .string (bobbinetkeep_Tokens.nameOf xa), vR, .bool (decide (x2 = 0)), .string (⟨#[]⟩ : ByteArray)] 47 (0, 0))) ∧ Aside0 (Kd.S k47 47 W w.heap.size (fun k => k < g8) (.slice Ac acc.length cc) acc) ∧ Aside0 (k63.R 63 W w.heap.size (fun k => g8 < k) vR ((List.range j).map (bobbinetkeep_Tokens.attr xa))) ∧ Aside0 (Below w.heap.size w W)) (fun v10 _ => m3 - (intOf v10).toNat)
          case atStart => exact ⟨0, _, rfl, ⟨by omega⟩, ⟨bk7⟩, ⟨hs7⟩, ⟨Kd.R_nil _ _ _ _ _⟩, ⟨hb7⟩⟩
          case round =>
            clear bk7 hs7 hb7
            rename_i W9 hrel
            obtain ⟨j, vR, rfl, HJ, BK, HS, HR2, HB⟩ := hrel
            have hcz0 := blk_cell BK.out 0
            have hcz1 := blk_cell BK.out 1
            have hcz2 := blk_cell BK.out 2
            have hcz3 := blk_cell BK.out 3
            have hcz4 := blk_cell BK.out 4
            simp only [List.getElem?_toArray, List.getElem?_cons_zero, List.getElem?_cons_succ] at hcz0 hcz1 hcz2 hcz3 hcz4
            have hfz0 := blk_frozen BK.out 0
            have hfz1 := blk_frozen BK.out 1
            have hfz2 := blk_frozen BK.out 2
            have hfz3 := blk_frozen BK.out 3
            have hfz4 := blk_frozen BK.out 4
            by_cases hj : j < m3
            · have hjt : decide ((j : Int) < (m3 : Int)) = true := decide_eq_true (by omega)
              have hjt2 : (j < m3) = True := eq_true hj
              obtain ⟨t6, ht6⟩ : ∃ t6 : Nat, wrap64 (Int.tdiv xa (80 + (j : Int))) % 6 = (t6 : Int) := ⟨_, (Int.toNat_of_nonneg (Int.emod_nonneg _ (by decide))).symm⟩
              have q6 : (t6 : Int) < 6 := by rw [← ht6]; exact Int.emod_lt_of_pos _ (by decide)
              have P6 := Aside0.mk (bobbinetkeep_Tokens.pick (wrap64 (Int.tdiv xa (80 + (j : Int)))) 6 (by decide) (by decide))
              rw [ht6] at P6
              have j2 : j < 2 := by have := M3.out; omega
              have hp6 : (0 : Int) ≤ (t6 : Int) := by omega
              have hpj : (0 : Int) ≤ (j : Int) := by omega
              have hqj : (j : Int) < 2 := by omega
              obtain ⟨p, hp⟩ : ∃ p, bobbinetkeep_Tokens.attr xa j = p := ⟨_, rfl⟩
              have hKy : ([Value.string (⟨#[99, 108, 97, 115, 115]⟩ : ByteArray), Value.string (⟨#[104, 114, 101, 102]⟩ : ByteArray)] : List Value)[j]? = some (Value.string p.f0) := by rw [← hp]; exact bobbinetkeep_Tokens.lit bobbinetkeep_Tokens.keys j (by simp [bobbinetkeep_Tokens.keys]; omega)
              have hVl : ([Value.string (⟨#[]⟩ : ByteArray), Value.string (⟨#[120]⟩ : ByteArray), Value.string (⟨#[97, 34, 98]⟩ : ByteArray), Value.string (⟨#[60, 38, 62]⟩ : ByteArray), Value.string (⟨#[97, 32, 98]⟩ : ByteArray), Value.string (⟨#[38, 108, 116, 59]⟩ : ByteArray)] : List Value)[t6]? = some (Value.string p.f1) := by rw [← hp]; show _ = some (Value.string (bobbinetkeep_Tokens.vals.getD (wrap64 (Int.tdiv xa (80 + j)) % 6).toNat ByteArray.empty)); rw [ht6]; exact bobbinetkeep_Tokens.lit bobbinetkeep_Tokens.vals t6 (by simp [bobbinetkeep_Tokens.vals]; omega)
              have hw80 : IntKind.i64.wrap (80 + (j : Int)) = 80 + (j : Int) := by rw [IntKind.wrap_i64]; omega
              have HP := Aside0.mk hp
              have hro := fun k hk => (HR2.out).1 k hk
              have HRO := Aside0.mk hro
              have HJJ := Aside0.mk hj
              clear hp hro ht6 hj
              go_upto_region 19 with (first
                | (go_at_call 10; (with_reducible refine (bobbinetkeep_Picked.calls _ _ _ _ P3.out).mono ?_); rintro e w' ⟨rfl, ⟨nd, rfl⟩⟩)
                | fail)
              refine bobbinetkeep_Tokens.pack (fun W => W.heap[g8]? = some (.cells #[.int .i64 1, .string (bobbinetkeep_Tokens.nameOf xa), vR, .bool (decide (x2 = 0)), .string (⟨#[]⟩ : ByteArray)] 47 (0, 0)) ∧ Kd.S k47 47 W w.heap.size (fun k => k < g8) (.slice Ac acc.length cc) acc ∧ k63.R 63 W w.heap.size (fun k => g8 < k) vR ((List.range j).map (bobbinetkeep_Tokens.attr xa)) ∧ Below w.heap.size w W) ⟨blk_drewN BK.out _, Kd.S_drewN HS.out _, Kd.R_drewN HR2.out _, pw_below_drewN HB.out _⟩ ?_
              clear BK HS HB HR2 hcz0 hcz1 hcz2 hcz3 hcz4 hfz0 hfz1 hfz2 hfz3 hfz4
              rintro W1 ⟨bk, hs, hr, hb⟩
              have BK := Aside0.mk bk
              have HS := Aside0.mk hs
              have HR := Aside0.mk hr
              have HB := Aside0.mk hb
              have hz80 : ((80 + (j : Int)) == 0) = false := beq_eq_false_iff_ne.mpr (by omega)
              have hd80 : ((80 + (j : Int)) = 0) = False := eq_false (by omega)
              clear bk hs hr hb
              refine start_ (n := 19) (S := fun w' => True) (ds := []) #[false, false, false, false, false, false, false, false, false, false, false, false, false, false, false, false, false, false, false] (by kernel_rfl) rfl rfl trivial (fun hHeld => ?_)
              refine with_tabW bobbinetkeep_Tokens.tab19 bobbinetkeep_Tokens.bits19 (fun HT_ HW_ => ?_)
              have BK := Aside0.mk (blk_drew BK.out)
              have HS := Aside0.mk (Kd.S_drew HS.out)
              have HR := Aside0.mk (Kd.R_drew HR.out)
              have HB := Aside0.mk (below_drew1 HB.out)
              generalize World.drew W1 = W1 at BK HS HR HB ⊢
              refine pure_ (i := 0) (N := some 75) (v := ?_) (a' := ?_) #[true, false, false, false, false, false, false, false, false, false, false, false, false, false, false, false, false, false, false] rfl rfl (any_of HT_.out (by kernel_rfl)) (fun _ _ _ h => h) (Or.inl ⟨by rfl, ?_⟩) ?_ ?_
              rotate_left
              · intro w'
                go_simp
                with_reducible rfl
              rotate_left
              · simp only [Act.put, List.setIfInBounds_toArray, List.set_cons_zero, List.set_cons_succ, i64_w, i32_w]
                rfl
              refine pure_ (i := 3) (N := some 78) (v := ?_) (a' := ?_) #[true, false, false, true, false, false, false, false, false, false, false, false, false, false, false, false, false, false, false] rfl rfl (any_of HT_.out (by kernel_rfl)) (fun _ _ _ h => h) (Or.inl ⟨by rfl, ?_⟩) ?_ ?_
              rotate_left
              · intro w'
                go_simp
                with_reducible rfl
              rotate_left
              · simp only [Act.put, List.setIfInBounds_toArray, List.set_cons_zero, List.set_cons_succ, i64_w, i32_w]
                rfl
              refine pure_ (i := 7) (N := some 82) (v := ?_) (a' := ?_) #[true, false, false, true, false, false, false, true, false, false, false, false, false, false, false, false, false, false, false] rfl rfl (any_of HT_.out (by kernel_rfl)) (fun _ _ _ h => h) (Or.inl ⟨by rfl, ?_⟩) ?_ ?_
              rotate_left
              · intro w'
                go_simp
                with_reducible rfl
              rotate_left
              · simp only [Act.put, List.setIfInBounds_toArray, List.set_cons_zero, List.set_cons_succ, i64_w, i32_w]
                rfl
              refine pure_ (i := 8) (N := some 83) (v := ?_) (a' := ?_) #[true, false, false, true, false, false, false, true, true, false, false, false, false, false, false, false, false, false, false] rfl rfl (any_of HT_.out (by kernel_rfl)) (fun _ _ _ h => h) (Or.inl ⟨by rfl, ?_⟩) ?_ ?_
              rotate_left
              · intro w'
                go_simp
                with_reducible rfl
              rotate_left
              · simp only [Act.put, List.setIfInBounds_toArray, List.set_cons_zero, List.set_cons_succ, i64_w, i32_w]
                rfl
              refine pure_ (i := 9) (N := some 84) (v := ?_) (a' := ?_) #[true, false, false, true, false, false, false, true, true, true, false, false, false, false, false, false, false, false, false] rfl rfl (any_of HT_.out (by kernel_rfl)) (fun _ _ _ h => h) (Or.inl ⟨by rfl, ?_⟩) ?_ ?_
              rotate_left
              · intro w'
                go_simp
                with_reducible rfl
              rotate_left
              · simp only [Act.put, List.setIfInBounds_toArray, List.set_cons_zero, List.set_cons_succ, i64_w, i32_w]
                rfl
              refine pure_ (i := 10) (N := some 85) (v := ?_) (a' := ?_) #[true, false, false, true, false, false, false, true, true, true, true, false, false, false, false, false, false, false, false] rfl rfl (any_of HT_.out (by kernel_rfl)) (fun _ _ _ h => h) (Or.inl ⟨by rfl, ?_⟩) ?_ ?_
              rotate_left
              · intro w'
                go_simp
                with_reducible rfl
              rotate_left
              · simp only [Act.put, List.setIfInBounds_toArray, List.set_cons_zero, List.set_cons_succ, i64_w, i32_w]
                rfl
              refine inv_at [1, 2, 4, 5, 6, 11, 12, 13, 14, 15, 16, 17, 18] (fun a0_ b a w' => ∃ (g77 : Nat) (g81 : Nat) (g90 : Nat) (v1 : Value) (m2_ : Value) (m4_ : Value) (m6_ : Value) (m12_ : Value) (m15_ : Value), a = putSel a0_ b [(1, 76, vR), (2, 77, m2_), (4, 79, m4_), (5, 80, .string p.f0), (6, 81, m6_), (11, 86, .int .i64 (t6 : Int)), (12, 87, m12_), (13, 88, .string p.f1), (14, 89, .agg #[.string p.f0, .string p.f1]), (15, 90, m15_), (16, 91, v1), (17, 92, .pointer (some ⟨g8, 2, none⟩))] ∧ (Below w.heap.size w w') ∧ (Kd.S k47 47 w' w.heap.size (fun k => k < g8) (.slice Ac acc.length cc) acc) ∧ (b 18 = false → w'.heap[g8]? = some (.cells #[.int .i64 1, .string (bobbinetkeep_Tokens.nameOf xa), vR, .bool (decide (x2 = 0)), .string (⟨#[]⟩ : ByteArray)] 47 (0, 0))) ∧ (b 16 = false → k63.R 63 w' w.heap.size (fun k => g8 < k) vR ((List.range j).map (bobbinetkeep_Tokens.attr xa))) ∧ (b 2 = true → b 16 = false → w'.heap[g77]? = some (.cells #[.string (⟨#[99, 108, 97, 115, 115]⟩ : ByteArray), .string (⟨#[104, 114, 101, 102]⟩ : ByteArray)] 9 (0, 0))) ∧ (b 6 = true → b 16 = false → w'.heap[g81]? = some (.cells #[.string (⟨#[]⟩ : ByteArray), .string (⟨#[120]⟩ : ByteArray), .string (⟨#[97, 34, 98]⟩ : ByteArray), .string (⟨#[60, 38, 62]⟩ : ByteArray), .string (⟨#[97, 32, 98]⟩ : ByteArray), .string (⟨#[38, 108, 116, 59]⟩ : ByteArray)] 9 (0, 0))) ∧ (b 15 = true → b 16 = false → ∃ W2 : World, g90 = W2.heap.size ∧ w' = W2.alloc (.cells #[.string p.f0, .string p.f1] 63) ∧ (W2.heap[g8]? = some (.cells #[.int .i64 1, .string (bobbinetkeep_Tokens.nameOf xa), vR, .bool (decide (x2 = 0)), .string (⟨#[]⟩ : ByteArray)] 47 (0, 0))) ∧ (Kd.S k47 47 W2 w.heap.size (fun k => k < g8) (.slice Ac acc.length cc) acc) ∧ (k63.R 63 W2 w.heap.size (fun k => g8 < k) vR ((List.range j).map (bobbinetkeep_Tokens.attr xa))) ∧ (Below w.heap.size w W2)) ∧ (b 16 = true → b 18 = false → (w'.setCell ⟨g8, 2, none⟩ v1).heap[g8]? = some (.cells #[.int .i64 1, .string (bobbinetkeep_Tokens.nameOf xa), v1, .bool (decide (x2 = 0)), .string (⟨#[]⟩ : ByteArray)] 47 (0, 0)) ∧ (Kd.S k47 47 (w'.setCell ⟨g8, 2, none⟩ v1) w.heap.size (fun k => k < g8) (.slice Ac acc.length cc) acc) ∧ (k63.R 63 (w'.setCell ⟨g8, 2, none⟩ v1) w.heap.size (fun k => g8 < k) v1 (((List.range j).map (bobbinetkeep_Tokens.attr xa)) ++ [p])) ∧ (Below w.heap.size w (w'.setCell ⟨g8, 2, none⟩ v1))) ∧ (b 16 = true → b 18 = false → ∃ (A_ : Option Addr) (n_ c_ : Nat), v1 = .slice A_ n_ c_) ∧ (b 18 = true → w'.heap[g8]? = some (.cells #[.int .i64 1, .string (bobbinetkeep_Tokens.nameOf xa), v1, .bool (decide (x2 = 0)), .string (⟨#[]⟩ : ByteArray)] 47 (0, 0))) ∧ (b 18 = true → k63.R 63 w' w.heap.size (fun k => g8 < k) v1 (((List.range j).map (bobbinetkeep_Tokens.attr xa)) ++ [p])) ∧ (b 2 = true → (m2_ : Value) = .slice (some ⟨g77, 0, none⟩) 2 2) ∧ (b 4 = true → (m4_ : Value) = .pointer (some ⟨g77, j, none⟩)) ∧ (b 6 = true → (m6_ : Value) = .slice (some ⟨g81, 0, none⟩) 6 6) ∧ (b 12 = true → (m12_ : Value) = .pointer (some ⟨g81, t6, none⟩)) ∧ (b 15 = true → (m15_ : Value) = .slice (some ⟨g90, 0, none⟩) 1 1)) HT_.out HW_.out (by kernel_rfl) (by kernel_rfl) ?_ ?_ ?_
              · exact ⟨0, 0, 0, .bool false, .bool false, .bool false, .bool false, .bool false, .bool false, by simp only [putSel, Bool.false_eq_true, if_false], HB.out, HS.out, fun _ => BK.out, fun _ => HR.out, fun h_ => absurd h_ (by decide), fun h_ => absurd h_ (by decide), fun h_ => absurd h_ (by decide), fun h_ => absurd h_ (by decide), fun h_ => absurd h_ (by decide), fun h_ => absurd h_ (by decide), fun h_ => absurd h_ (by decide), fun h_ => absurd h_ (by decide), fun h_ => absurd h_ (by decide), fun h_ => absurd h_ (by decide), fun h_ => absurd h_ (by decide), fun h_ => absurd h_ (by decide)⟩
              · skip
                clear BK HB HR HS
                refine steps_cons ?_ ?_
                · rintro b a w' ⟨g77, g81, g90, v1, m2_, m4_, m6_, m12_, m15_, ha, Q_HB, Q_HS, Q_BK, Q_HR, Q_L77, Q_L81, Q_BX, Q_FN, Q_V1, Q_BKF, Q_HRF, Q_X2_, Q_X4_, Q_X6_, Q_X12_, Q_X15_⟩ hb_ hon hoff
                  refine ⟨_, rfl, fun K hK => ?_⟩
                  have e75 : a.tmps[75]? = some (.pointer (some ⟨g8, 2, none⟩)) := by rw [ha]; exact (putSel_off rfl).trans rfl
                  replace ha := Aside0.mk ha
                  have HB := Aside0.mk Q_HB
                  have HS := Aside0.mk Q_HS
                  have BK := Aside0.mk (Q_BK (hoff 18 (by kernel_rfl)))
                  have HR := Aside0.mk (Q_HR (hoff 16 (by kernel_rfl)))
                  have hc_ := blk_cell BK.out 2
                  simp only [List.getElem?_toArray, List.getElem?_cons_zero, List.getElem?_cons_succ] at hc_
                  refine value_ (w1 := w') (v := vR) (by rfl) rfl ?_ ?_
                  · go_simp
                    (try simp only [i64_w])
                    try rfl
                  refine hK.out _ _ ⟨g77, g81, g90, v1, m2_, m4_, m6_, m12_, m15_, (by rw [ha.out]; exact putSel_upk 0 hb_ rfl rfl rfl), Q_HB, Q_HS, Q_BK, Q_HR, Q_L77, Q_L81, Q_BX, fun h0_ _ => absurd ((hoff 16 (by kernel_rfl)).symm.trans h0_) (by decide), fun h0_ _ => absurd ((hoff 16 (by kernel_rfl)).symm.trans h0_) (by decide), fun h0_ => absurd ((hoff 18 (by kernel_rfl)).symm.trans h0_) (by decide), fun h0_ => absurd ((hoff 18 (by kernel_rfl)).symm.trans h0_) (by decide), Q_X2_, Q_X4_, Q_X6_, Q_X12_, Q_X15_⟩
                refine steps_cons ?_ ?_
                · rintro b a w' ⟨g77, g81, g90, v1, m2_, m4_, m6_, m12_, m15_, ha, Q_HB, Q_HS, Q_BK, Q_HR, Q_L77, Q_L81, Q_BX, Q_FN, Q_V1, Q_BKF, Q_HRF, Q_X2_, Q_X4_, Q_X6_, Q_X12_, Q_X15_⟩ hb_ hon hoff
                  refine ⟨_, rfl, fun K hK => ?_⟩
                  replace ha := Aside0.mk ha
                  have HB := Aside0.mk Q_HB
                  have HS := Aside0.mk Q_HS
                  have BK := Aside0.mk (Q_BK (hoff 18 (by kernel_rfl)))
                  have HR := Aside0.mk (Q_HR (hoff 16 (by kernel_rfl)))
                  refine value_ (w1 := w'.alloc (.cells #[.string (⟨#[99, 108, 97, 115, 115]⟩ : ByteArray), .string (⟨#[104, 114, 101, 102]⟩ : ByteArray)] 9)) (v := .slice (some ⟨w'.heap.size, 0, none⟩) 2 2) (by rfl) rfl ?_ ?_
                  · go_simp
                    try rfl
                  refine hK.out _ _ ⟨w'.heap.size, g81, g90, v1, (.slice (some ⟨w'.heap.size, 0, none⟩) 2 2), m4_, m6_, m12_, m15_, (by rw [ha.out]; exact putSel_upk 1 hb_ rfl rfl rfl), below_alloc HB.out _, Kd.S_alloc HS.out _, fun _ => blk_alloc BK.out _, fun _ => Kd.R_alloc HR.out _, fun _ _ => blk_new w' _, fun h0_ h1_ => blk_alloc (Q_L81 h0_ h1_) _, fun h0_ _ => absurd ((hoff 15 (by kernel_rfl)).symm.trans h0_) (by decide), fun h0_ _ => absurd ((hoff 16 (by kernel_rfl)).symm.trans h0_) (by decide), fun h0_ _ => absurd ((hoff 16 (by kernel_rfl)).symm.trans h0_) (by decide), fun h0_ => absurd ((hoff 18 (by kernel_rfl)).symm.trans h0_) (by decide), fun h0_ => absurd ((hoff 18 (by kernel_rfl)).symm.trans h0_) (by decide), fun _ => rfl, fun h0_ => absurd ((hoff 4 (by kernel_rfl)).symm.trans h0_) (by decide), Q_X6_, Q_X12_, fun h0_ => absurd ((hoff 15 (by kernel_rfl)).symm.trans h0_) (by decide)⟩
                refine steps_cons ?_ ?_
                · rintro b a w' ⟨g77, g81, g90, v1, m2_, m4_, m6_, m12_, m15_, ha, Q_HB, Q_HS, Q_BK, Q_HR, Q_L77, Q_L81, Q_BX, Q_FN, Q_V1, Q_BKF, Q_HRF, Q_X2_, Q_X4_, Q_X6_, Q_X12_, Q_X15_⟩ hb_ hon hoff
                  refine ⟨_, rfl, fun K hK => ?_⟩
                  have e77 : a.tmps[77]? = some (m2_) := by rw [ha]; exact putSel_on (e := (2, 77, m2_)) 1 rfl rfl (hon 2 (by kernel_rfl)) rfl
                  rw [Q_X2_ (hon 2 (by kernel_rfl))] at e77
                  have e78 : a.tmps[78]? = some (.int .i64 (j : Int)) := by rw [ha]; exact (putSel_off rfl).trans rfl
                  replace ha := Aside0.mk ha
                  have HB := Aside0.mk Q_HB
                  have HS := Aside0.mk Q_HS
                  have BK := Aside0.mk (Q_BK (hoff 18 (by kernel_rfl)))
                  have HR := Aside0.mk (Q_HR (hoff 16 (by kernel_rfl)))
                  have L77 := Aside0.mk (Q_L77 (hon 2 (by kernel_rfl)) (hoff 16 (by kernel_rfl)))
                  refine value_ (w1 := w') (v := .pointer (some ⟨g77, j, none⟩)) (by rfl) rfl ?_ ?_
                  · go_simp
                    (try simp only [i64_w])
                    try rfl
                  refine hK.out _ _ ⟨g77, g81, g90, v1, m2_, (.pointer (some ⟨g77, j, none⟩)), m6_, m12_, m15_, (by rw [ha.out]; exact putSel_upk 2 hb_ rfl rfl rfl), Q_HB, Q_HS, Q_BK, Q_HR, Q_L77, Q_L81, fun h0_ _ => absurd ((hoff 15 (by kernel_rfl)).symm.trans h0_) (by decide), fun h0_ _ => absurd ((hoff 16 (by kernel_rfl)).symm.trans h0_) (by decide), fun h0_ _ => absurd ((hoff 16 (by kernel_rfl)).symm.trans h0_) (by decide), fun h0_ => absurd ((hoff 18 (by kernel_rfl)).symm.trans h0_) (by decide), fun h0_ => absurd ((hoff 18 (by kernel_rfl)).symm.trans h0_) (by decide), Q_X2_, fun _ => rfl, Q_X6_, Q_X12_, fun h0_ => absurd ((hoff 15 (by kernel_rfl)).symm.trans h0_) (by decide)⟩
                refine steps_cons ?_ ?_
                · rintro b a w' ⟨g77, g81, g90, v1, m2_, m4_, m6_, m12_, m15_, ha, Q_HB, Q_HS, Q_BK, Q_HR, Q_L77, Q_L81, Q_BX, Q_FN, Q_V1, Q_BKF, Q_HRF, Q_X2_, Q_X4_, Q_X6_, Q_X12_, Q_X15_⟩ hb_ hon hoff
                  refine ⟨_, rfl, fun K hK => ?_⟩
                  have e79 : a.tmps[79]? = some (m4_) := by rw [ha]; exact putSel_on (e := (4, 79, m4_)) 2 rfl rfl (hon 4 (by kernel_rfl)) rfl
                  rw [Q_X4_ (hon 4 (by kernel_rfl))] at e79
                  replace ha := Aside0.mk ha
                  have HB := Aside0.mk Q_HB
                  have HS := Aside0.mk Q_HS
                  have BK := Aside0.mk (Q_BK (hoff 18 (by kernel_rfl)))
                  have HR := Aside0.mk (Q_HR (hoff 16 (by kernel_rfl)))
                  have L77 := Aside0.mk (Q_L77 (hon 2 (by kernel_rfl)) (hoff 16 (by kernel_rfl)))
                  have hc_ := blk_cell L77.out j
                  simp only [List.getElem?_toArray] at hc_
                  rw [hKy] at hc_
                  refine value_ (w1 := w') (v := .string p.f0) (by rfl) rfl ?_ ?_
                  · go_simp
                    (try simp only [i64_w])
                    try rfl
                  refine hK.out _ _ ⟨g77, g81, g90, v1, m2_, m4_, m6_, m12_, m15_, (by rw [ha.out]; exact putSel_upk 3 hb_ rfl rfl rfl), Q_HB, Q_HS, Q_BK, Q_HR, Q_L77, Q_L81, fun h0_ _ => absurd ((hoff 15 (by kernel_rfl)).symm.trans h0_) (by decide), fun h0_ _ => absurd ((hoff 16 (by kernel_rfl)).symm.trans h0_) (by decide), fun h0_ _ => absurd ((hoff 16 (by kernel_rfl)).symm.trans h0_) (by decide), fun h0_ => absurd ((hoff 18 (by kernel_rfl)).symm.trans h0_) (by decide), fun h0_ => absurd ((hoff 18 (by kernel_rfl)).symm.trans h0_) (by decide), Q_X2_, Q_X4_, Q_X6_, Q_X12_, fun h0_ => absurd ((hoff 15 (by kernel_rfl)).symm.trans h0_) (by decide)⟩
                refine steps_cons ?_ ?_
                · rintro b a w' ⟨g77, g81, g90, v1, m2_, m4_, m6_, m12_, m15_, ha, Q_HB, Q_HS, Q_BK, Q_HR, Q_L77, Q_L81, Q_BX, Q_FN, Q_V1, Q_BKF, Q_HRF, Q_X2_, Q_X4_, Q_X6_, Q_X12_, Q_X15_⟩ hb_ hon hoff
                  refine ⟨_, rfl, fun K hK => ?_⟩
                  replace ha := Aside0.mk ha
                  have HB := Aside0.mk Q_HB
                  have HS := Aside0.mk Q_HS
                  have BK := Aside0.mk (Q_BK (hoff 18 (by kernel_rfl)))
                  have HR := Aside0.mk (Q_HR (hoff 16 (by kernel_rfl)))
                  refine value_ (w1 := w'.alloc (.cells #[.string (⟨#[]⟩ : ByteArray), .string (⟨#[120]⟩ : ByteArray), .string (⟨#[97, 34, 98]⟩ : ByteArray), .string (⟨#[60, 38, 62]⟩ : ByteArray), .string (⟨#[97, 32, 98]⟩ : ByteArray), .string (⟨#[38, 108, 116, 59]⟩ : ByteArray)] 9)) (v := .slice (some ⟨w'.heap.size, 0, none⟩) 6 6) (by rfl) rfl ?_ ?_
                  · go_simp
                    try rfl
                  refine hK.out _ _ ⟨g77, w'.heap.size, g90, v1, m2_, m4_, (.slice (some ⟨w'.heap.size, 0, none⟩) 6 6), m12_, m15_, (by rw [ha.out]; exact putSel_upk 4 hb_ rfl rfl rfl), below_alloc HB.out _, Kd.S_alloc HS.out _, fun _ => blk_alloc BK.out _, fun _ => Kd.R_alloc HR.out _, fun h0_ h1_ => blk_alloc (Q_L77 h0_ h1_) _, fun _ _ => blk_new w' _, fun h0_ _ => absurd ((hoff 15 (by kernel_rfl)).symm.trans h0_) (by decide), fun h0_ _ => absurd ((hoff 16 (by kernel_rfl)).symm.trans h0_) (by decide), fun h0_ _ => absurd ((hoff 16 (by kernel_rfl)).symm.trans h0_) (by decide), fun h0_ => absurd ((hoff 18 (by kernel_rfl)).symm.trans h0_) (by decide), fun h0_ => absurd ((hoff 18 (by kernel_rfl)).symm.trans h0_) (by decide), Q_X2_, Q_X4_, fun _ => rfl, fun h0_ => absurd ((hoff 12 (by kernel_rfl)).symm.trans h0_) (by decide), fun h0_ => absurd ((hoff 15 (by kernel_rfl)).symm.trans h0_) (by decide)⟩
                refine steps_cons ?_ ?_
                · rintro b a w' ⟨g77, g81, g90, v1, m2_, m4_, m6_, m12_, m15_, ha, Q_HB, Q_HS, Q_BK, Q_HR, Q_L77, Q_L81, Q_BX, Q_FN, Q_V1, Q_BKF, Q_HRF, Q_X2_, Q_X4_, Q_X6_, Q_X12_, Q_X15_⟩ hb_ hon hoff
                  refine ⟨_, rfl, fun K hK => ?_⟩
                  have e85 : a.tmps[85]? = some (.int .i64 (wrap64 (Int.tdiv xa (80 + (j : Int))))) := by rw [ha]; exact (putSel_off rfl).trans rfl
                  replace ha := Aside0.mk ha
                  have HB := Aside0.mk Q_HB
                  have HS := Aside0.mk Q_HS
                  have BK := Aside0.mk (Q_BK (hoff 18 (by kernel_rfl)))
                  have HR := Aside0.mk (Q_HR (hoff 16 (by kernel_rfl)))
                  refine goes_ Try.func10 (by kernel_rfl) rfl #[.int .i64 (wrap64 (Int.tdiv xa (80 + (j : Int)))), .int .i64 6] (by rfl) rfl rfl (by first | (simp only [List.map_toArray, List.map_cons, List.map_nil, Act.eval, Array.getD_eq_getD_getElem?, Option.getD_some, e85]; done) | (simp only [List.map_toArray, List.map_cons, List.map_nil, Act.eval, Array.getD_eq_getD_getElem?, Option.getD_some, e85]; rfl)) ?_
                  with_reducible refine (bobbinetkeep_Picked.calls _ _ _ _ P6.out).mono ?_
                  rintro e w3 ⟨rfl, ⟨nd, rfl⟩⟩
                  refine ⟨_, rfl, ?_⟩
                  refine hK.out _ _ ⟨g77, g81, g90, v1, m2_, m4_, m6_, m12_, m15_, (by rw [ha.out]; exact putSel_upk 5 hb_ rfl rfl rfl), pw_below_drewN HB.out _, Kd.S_drewN HS.out _, fun _ => blk_drewN BK.out _, fun _ => Kd.R_drewN HR.out _, fun h0_ h1_ => blk_drewN (Q_L77 h0_ h1_) _, fun h0_ h1_ => blk_drewN (Q_L81 h0_ h1_) _, fun h0_ _ => absurd ((hoff 15 (by kernel_rfl)).symm.trans h0_) (by decide), fun h0_ _ => absurd ((hoff 16 (by kernel_rfl)).symm.trans h0_) (by decide), fun h0_ _ => absurd ((hoff 16 (by kernel_rfl)).symm.trans h0_) (by decide), fun h0_ => absurd ((hoff 18 (by kernel_rfl)).symm.trans h0_) (by decide), fun h0_ => absurd ((hoff 18 (by kernel_rfl)).symm.trans h0_) (by decide), Q_X2_, Q_X4_, Q_X6_, fun h0_ => absurd ((hoff 12 (by kernel_rfl)).symm.trans h0_) (by decide), fun h0_ => absurd ((hoff 15 (by kernel_rfl)).symm.trans h0_) (by decide)⟩
                refine steps_cons ?_ ?_
                · rintro b a w' ⟨g77, g81, g90, v1, m2_, m4_, m6_, m12_, m15_, ha, Q_HB, Q_HS, Q_BK, Q_HR, Q_L77, Q_L81, Q_BX, Q_FN, Q_V1, Q_BKF, Q_HRF, Q_X2_, Q_X4_, Q_X6_, Q_X12_, Q_X15_⟩ hb_ hon hoff
                  refine ⟨_, rfl, fun K hK => ?_⟩
                  have e81 : a.tmps[81]? = some (m6_) := by rw [ha]; exact putSel_on (e := (6, 81, m6_)) 4 rfl rfl (hon 6 (by kernel_rfl)) rfl
                  rw [Q_X6_ (hon 6 (by kernel_rfl))] at e81
                  have e86 : a.tmps[86]? = some (.int .i64 (t6 : Int)) := by rw [ha]; exact putSel_on (e := (11, 86, .int .i64 (t6 : Int))) 5 rfl rfl (hon 11 (by kernel_rfl)) rfl
                  replace ha := Aside0.mk ha
                  have HB := Aside0.mk Q_HB
                  have HS := Aside0.mk Q_HS
                  have BK := Aside0.mk (Q_BK (hoff 18 (by kernel_rfl)))
                  have HR := Aside0.mk (Q_HR (hoff 16 (by kernel_rfl)))
                  have L81 := Aside0.mk (Q_L81 (hon 6 (by kernel_rfl)) (hoff 16 (by kernel_rfl)))
                  refine value_ (w1 := w') (v := .pointer (some ⟨g81, t6, none⟩)) (by rfl) rfl ?_ ?_
                  · go_simp
                    (try simp only [i64_w])
                    try rfl
                  refine hK.out _ _ ⟨g77, g81, g90, v1, m2_, m4_, m6_, (.pointer (some ⟨g81, t6, none⟩)), m15_, (by rw [ha.out]; exact putSel_upk 6 hb_ rfl rfl rfl), Q_HB, Q_HS, Q_BK, Q_HR, Q_L77, Q_L81, fun h0_ _ => absurd ((hoff 15 (by kernel_rfl)).symm.trans h0_) (by decide), fun h0_ _ => absurd ((hoff 16 (by kernel_rfl)).symm.trans h0_) (by decide), fun h0_ _ => absurd ((hoff 16 (by kernel_rfl)).symm.trans h0_) (by decide), fun h0_ => absurd ((hoff 18 (by kernel_rfl)).symm.trans h0_) (by decide), fun h0_ => absurd ((hoff 18 (by kernel_rfl)).symm.trans h0_) (by decide), Q_X2_, Q_X4_, Q_X6_, fun _ => rfl, fun h0_ => absurd ((hoff 15 (by kernel_rfl)).symm.trans h0_) (by decide)⟩
                refine steps_cons ?_ ?_
                · rintro b a w' ⟨g77, g81, g90, v1, m2_, m4_, m6_, m12_, m15_, ha, Q_HB, Q_HS, Q_BK, Q_HR, Q_L77, Q_L81, Q_BX, Q_FN, Q_V1, Q_BKF, Q_HRF, Q_X2_, Q_X4_, Q_X6_, Q_X12_, Q_X15_⟩ hb_ hon hoff
                  refine ⟨_, rfl, fun K hK => ?_⟩
                  have e87 : a.tmps[87]? = some (m12_) := by rw [ha]; exact putSel_on (e := (12, 87, m12_)) 6 rfl rfl (hon 12 (by kernel_rfl)) rfl
                  rw [Q_X12_ (hon 12 (by kernel_rfl))] at e87
                  replace ha := Aside0.mk ha
                  have HB := Aside0.mk Q_HB
                  have HS := Aside0.mk Q_HS
                  have BK := Aside0.mk (Q_BK (hoff 18 (by kernel_rfl)))
                  have HR := Aside0.mk (Q_HR (hoff 16 (by kernel_rfl)))
                  have L81 := Aside0.mk (Q_L81 (hon 6 (by kernel_rfl)) (hoff 16 (by kernel_rfl)))
                  have hc_ := blk_cell L81.out t6
                  simp only [List.getElem?_toArray] at hc_
                  rw [hVl] at hc_
                  refine value_ (w1 := w') (v := .string p.f1) (by rfl) rfl ?_ ?_
                  · go_simp
                    (try simp only [i64_w])
                    try rfl
                  refine hK.out _ _ ⟨g77, g81, g90, v1, m2_, m4_, m6_, m12_, m15_, (by rw [ha.out]; exact putSel_upk 7 hb_ rfl rfl rfl), Q_HB, Q_HS, Q_BK, Q_HR, Q_L77, Q_L81, fun h0_ _ => absurd ((hoff 15 (by kernel_rfl)).symm.trans h0_) (by decide), fun h0_ _ => absurd ((hoff 16 (by kernel_rfl)).symm.trans h0_) (by decide), fun h0_ _ => absurd ((hoff 16 (by kernel_rfl)).symm.trans h0_) (by decide), fun h0_ => absurd ((hoff 18 (by kernel_rfl)).symm.trans h0_) (by decide), fun h0_ => absurd ((hoff 18 (by kernel_rfl)).symm.trans h0_) (by decide), Q_X2_, Q_X4_, Q_X6_, Q_X12_, fun h0_ => absurd ((hoff 15 (by kernel_rfl)).symm.trans h0_) (by decide)⟩
                refine steps_cons ?_ ?_
                · rintro b a w' ⟨g77, g81, g90, v1, m2_, m4_, m6_, m12_, m15_, ha, Q_HB, Q_HS, Q_BK, Q_HR, Q_L77, Q_L81, Q_BX, Q_FN, Q_V1, Q_BKF, Q_HRF, Q_X2_, Q_X4_, Q_X6_, Q_X12_, Q_X15_⟩ hb_ hon hoff
                  refine ⟨_, rfl, fun K hK => ?_⟩
                  have e80 : a.tmps[80]? = some (.string p.f0) := by rw [ha]; exact putSel_on (e := (5, 80, .string p.f0)) 3 rfl rfl (hon 5 (by kernel_rfl)) rfl
                  have e88 : a.tmps[88]? = some (.string p.f1) := by rw [ha]; exact putSel_on (e := (13, 88, .string p.f1)) 7 rfl rfl (hon 13 (by kernel_rfl)) rfl
                  replace ha := Aside0.mk ha
                  have HB := Aside0.mk Q_HB
                  have HS := Aside0.mk Q_HS
                  have BK := Aside0.mk (Q_BK (hoff 18 (by kernel_rfl)))
                  have HR := Aside0.mk (Q_HR (hoff 16 (by kernel_rfl)))
                  have L77 := Aside0.mk (Q_L77 (hon 2 (by kernel_rfl)) (hoff 16 (by kernel_rfl)))
                  have L81 := Aside0.mk (Q_L81 (hon 6 (by kernel_rfl)) (hoff 16 (by kernel_rfl)))
                  refine value_ (w1 := w') (v := .agg #[.string p.f0, .string p.f1]) (by rfl) rfl ?_ ?_
                  · go_simp
                    (try simp only [i64_w])
                    try rfl
                  refine hK.out _ _ ⟨g77, g81, g90, v1, m2_, m4_, m6_, m12_, m15_, (by rw [ha.out]; exact putSel_upk 8 hb_ rfl rfl rfl), Q_HB, Q_HS, Q_BK, Q_HR, Q_L77, Q_L81, fun h0_ _ => absurd ((hoff 15 (by kernel_rfl)).symm.trans h0_) (by decide), fun h0_ _ => absurd ((hoff 16 (by kernel_rfl)).symm.trans h0_) (by decide), fun h0_ _ => absurd ((hoff 16 (by kernel_rfl)).symm.trans h0_) (by decide), fun h0_ => absurd ((hoff 18 (by kernel_rfl)).symm.trans h0_) (by decide), fun h0_ => absurd ((hoff 18 (by kernel_rfl)).symm.trans h0_) (by decide), Q_X2_, Q_X4_, Q_X6_, Q_X12_, fun h0_ => absurd ((hoff 15 (by kernel_rfl)).symm.trans h0_) (by decide)⟩
                refine steps_cons ?_ ?_
                · rintro b a w' ⟨g77, g81, g90, v1, m2_, m4_, m6_, m12_, m15_, ha, Q_HB, Q_HS, Q_BK, Q_HR, Q_L77, Q_L81, Q_BX, Q_FN, Q_V1, Q_BKF, Q_HRF, Q_X2_, Q_X4_, Q_X6_, Q_X12_, Q_X15_⟩ hb_ hon hoff
                  refine ⟨_, rfl, fun K hK => ?_⟩
                  have e89 : a.tmps[89]? = some (.agg #[.string p.f0, .string p.f1]) := by rw [ha]; exact putSel_on (e := (14, 89, .agg #[.string p.f0, .string p.f1])) 8 rfl rfl (hon 14 (by kernel_rfl)) rfl
                  replace ha := Aside0.mk ha
                  have HB := Aside0.mk Q_HB
                  have HS := Aside0.mk Q_HS
                  have BK := Aside0.mk (Q_BK (hoff 18 (by kernel_rfl)))
                  have HR := Aside0.mk (Q_HR (hoff 16 (by kernel_rfl)))
                  have L77 := Aside0.mk (Q_L77 (hon 2 (by kernel_rfl)) (hoff 16 (by kernel_rfl)))
                  have L81 := Aside0.mk (Q_L81 (hon 6 (by kernel_rfl)) (hoff 16 (by kernel_rfl)))
                  refine value_ (w1 := w'.alloc (.cells #[.string p.f0, .string p.f1] 63)) (v := .slice (some ⟨w'.heap.size, 0, none⟩) 1 1) (by rfl) rfl ?_ ?_
                  · go_simp
                    try rfl
                  refine hK.out _ _ ⟨g77, g81, w'.heap.size, v1, m2_, m4_, m6_, m12_, (.slice (some ⟨w'.heap.size, 0, none⟩) 1 1), (by rw [ha.out]; exact putSel_upk 9 hb_ rfl rfl rfl), below_alloc HB.out _, Kd.S_alloc HS.out _, fun _ => blk_alloc BK.out _, fun _ => Kd.R_alloc HR.out _, fun _ _ => blk_alloc L77.out _, fun _ _ => blk_alloc L81.out _, fun _ _ => ⟨w', rfl, rfl, BK.out, HS.out, HR.out, HB.out⟩, fun h0_ _ => absurd ((hoff 16 (by kernel_rfl)).symm.trans h0_) (by decide), fun h0_ _ => absurd ((hoff 16 (by kernel_rfl)).symm.trans h0_) (by decide), fun h0_ => absurd ((hoff 18 (by kernel_rfl)).symm.trans h0_) (by decide), fun h0_ => absurd ((hoff 18 (by kernel_rfl)).symm.trans h0_) (by decide), Q_X2_, Q_X4_, Q_X6_, Q_X12_, fun _ => rfl⟩
                refine steps_cons ?_ ?_
                · rintro b a w' ⟨g77, g81, g90, v1, m2_, m4_, m6_, m12_, m15_, ha, Q_HB, Q_HS, Q_BK, Q_HR, Q_L77, Q_L81, Q_BX, Q_FN, Q_V1, Q_BKF, Q_HRF, Q_X2_, Q_X4_, Q_X6_, Q_X12_, Q_X15_⟩ hb_ hon hoff
                  refine ⟨_, rfl, fun K hK => ?_⟩
                  have e76 : a.tmps[76]? = some (vR) := by rw [ha]; exact putSel_on (e := (1, 76, vR)) 0 rfl rfl (hon 1 (by kernel_rfl)) rfl
                  have e90 : a.tmps[90]? = some (m15_) := by rw [ha]; exact putSel_on (e := (15, 90, m15_)) 9 rfl rfl (hon 15 (by kernel_rfl)) rfl
                  rw [Q_X15_ (hon 15 (by kernel_rfl))] at e90
                  replace ha := Aside0.mk ha
                  have HB := Aside0.mk Q_HB
                  have HS := Aside0.mk Q_HS
                  have BK := Aside0.mk (Q_BK (hoff 18 (by kernel_rfl)))
                  have HR := Aside0.mk (Q_HR hb_)
                  have L77 := Aside0.mk (Q_L77 (hon 2 (by kernel_rfl)) hb_)
                  have L81 := Aside0.mk (Q_L81 (hon 6 (by kernel_rfl)) hb_)
                  have BX := Aside0.mk (Q_BX (hon 15 (by kernel_rfl)) hb_)
                  obtain ⟨W2, q0, q1, q2, q3, q4, q5⟩ := BX.out
                  subst q0 q1
                  refine Kd.R_append_step k63 (w0 := w) w.heap.size (by rfl) (.tmp 76) (.tmp 90) 45 63 (.agg #[(.string ⟨#[]⟩), (.string ⟨#[]⟩)]) 32 (by rfl) Try.underlying45 info63 rfl (by decide) (by omega) vR ((List.range j).map (bobbinetkeep_Tokens.attr xa)) p [.string p.f0, .string p.f1] (fun k => g8 < k) (fun _ => False) (eval_of e76) (eval_of e90) (k63_mkM _ _ _ p) (fun k hk => hk.elim) (fun k hk => Nat.lt_of_lt_of_le (blk_lt q2) hk) q4 q5 (below_size q5) (by simp; omega) ?_
                  intro v1_ w1 ho hb2 hg hat
                  obtain ⟨A1_, c1_, eV_, _⟩ := Kd.R_reads ho
                  have n1_ := bobbinetkeep_Tokens.fin q2 q3 HRO.out ho hb2 GE.out hg
                  refine hK.out _ _ ⟨g77, g81, W2.heap.size, v1_, m2_, m4_, m6_, m12_, m15_, (by rw [ha.out]; exact putSel_upk 10 hb_ rfl rfl rfl), hb2, Kd.S_grown q3 hg (fun k hk e => by have := HRO.out k e.symm; omega), fun _ => blk_grown q2 hg (fun e => by have := HRO.out g8 e.symm; omega), fun h0_ => absurd ((up_self b 16).symm.trans h0_) (by decide), fun _ h1_ => absurd ((up_self b 16).symm.trans h1_) (by decide), fun _ h1_ => absurd ((up_self b 16).symm.trans h1_) (by decide), fun _ h1_ => absurd ((up_self b 16).symm.trans h1_) (by decide), fun _ _ => n1_, fun _ _ => ⟨_, _, _, eV_⟩, fun h0_ => absurd ((hoff 18 (by kernel_rfl)).symm.trans h0_) (by decide), fun h0_ => absurd ((hoff 18 (by kernel_rfl)).symm.trans h0_) (by decide), Q_X2_, Q_X4_, Q_X6_, Q_X12_, Q_X15_⟩
                refine steps_cons ?_ ?_
                · rintro b a w' ⟨g77, g81, g90, v1, m2_, m4_, m6_, m12_, m15_, ha, Q_HB, Q_HS, Q_BK, Q_HR, Q_L77, Q_L81, Q_BX, Q_FN, Q_V1, Q_BKF, Q_HRF, Q_X2_, Q_X4_, Q_X6_, Q_X12_, Q_X15_⟩ hb_ hon hoff
                  refine ⟨_, rfl, fun K hK => ?_⟩
                  have e8 : a.tmps[8]? = some (.pointer (some ⟨g8, 0, none⟩)) := by rw [ha]; exact (putSel_off rfl).trans rfl
                  replace ha := Aside0.mk ha
                  have HB := Aside0.mk Q_HB
                  have HS := Aside0.mk Q_HS
                  have BK := Aside0.mk (Q_BK (hoff 18 (by kernel_rfl)))
                  have FN := Aside0.mk (Q_FN (hon 16 (by kernel_rfl)) (hoff 18 (by kernel_rfl)))
                  have V1 := Aside0.mk (Q_V1 (hon 16 (by kernel_rfl)) (hoff 18 (by kernel_rfl)))
                  refine value_ (w1 := w') (v := .pointer (some ⟨g8, 2, none⟩)) (by rfl) rfl ?_ ?_
                  · go_simp
                    (try simp only [i64_w])
                    try rfl
                  refine hK.out _ _ ⟨g77, g81, g90, v1, m2_, m4_, m6_, m12_, m15_, (by rw [ha.out]; exact putSel_upk 11 hb_ rfl rfl rfl), Q_HB, Q_HS, Q_BK, fun h0_ => absurd ((hon 16 (by kernel_rfl)).symm.trans h0_) (by decide), fun _ h1_ => absurd ((hon 16 (by kernel_rfl)).symm.trans h1_) (by decide), fun _ h1_ => absurd ((hon 16 (by kernel_rfl)).symm.trans h1_) (by decide), fun _ h1_ => absurd ((hon 16 (by kernel_rfl)).symm.trans h1_) (by decide), Q_FN, Q_V1, fun h0_ => absurd ((hoff 18 (by kernel_rfl)).symm.trans h0_) (by decide), fun h0_ => absurd ((hoff 18 (by kernel_rfl)).symm.trans h0_) (by decide), Q_X2_, Q_X4_, Q_X6_, Q_X12_, Q_X15_⟩
                refine steps_cons ?_ ?_
                · rintro b a w' ⟨g77, g81, g90, v1, m2_, m4_, m6_, m12_, m15_, ha, Q_HB, Q_HS, Q_BK, Q_HR, Q_L77, Q_L81, Q_BX, Q_FN, Q_V1, Q_BKF, Q_HRF, Q_X2_, Q_X4_, Q_X6_, Q_X12_, Q_X15_⟩ hb_ hon hoff
                  refine ⟨_, rfl, fun K hK => ?_⟩
                  have e92 : a.tmps[92]? = some (.pointer (some ⟨g8, 2, none⟩)) := by rw [ha]; exact putSel_on (e := (17, 92, .pointer (some ⟨g8, 2, none⟩))) 11 rfl rfl (hon 17 (by kernel_rfl)) rfl
                  have e91 : a.tmps[91]? = some (v1) := by rw [ha]; exact putSel_on (e := (16, 91, v1)) 10 rfl rfl (hon 16 (by kernel_rfl)) rfl
                  replace ha := Aside0.mk ha
                  have HB := Aside0.mk Q_HB
                  have HS := Aside0.mk Q_HS
                  have BK := Aside0.mk (Q_BK hb_)
                  have FN := Aside0.mk (Q_FN (hon 16 (by kernel_rfl)) hb_)
                  have V1 := Aside0.mk (Q_V1 (hon 16 (by kernel_rfl)) hb_)
                  obtain ⟨A_, n_, c_, eV_⟩ := V1.out
                  subst eV_
                  have hc_ := blk_cell BK.out 2
                  have hf_ := blk_frozen BK.out 2
                  simp only [List.getElem?_toArray, List.getElem?_cons_zero, List.getElem?_cons_succ] at hc_
                  refine skip_ (w1 := w'.setCell ⟨g8, 2, none⟩ (.slice A_ n_ c_)) (by rfl) rfl ?_ ?_
                  · go_simp
                    try rfl
                  refine hK.out _ _ ⟨g77, g81, g90, (.slice A_ n_ c_), m2_, m4_, m6_, m12_, m15_, (by rw [ha.out]; exact putSel_none (v := undef) rfl), FN.out.2.2.2, FN.out.2.1, fun h0_ => absurd ((up_self b 18).symm.trans h0_) (by decide), fun h0_ => absurd ((hon 16 (by kernel_rfl)).symm.trans h0_) (by decide), fun _ h1_ => absurd ((hon 16 (by kernel_rfl)).symm.trans h1_) (by decide), fun _ h1_ => absurd ((hon 16 (by kernel_rfl)).symm.trans h1_) (by decide), fun _ h1_ => absurd ((hon 16 (by kernel_rfl)).symm.trans h1_) (by decide), fun _ h1_ => absurd ((up_self b 18).symm.trans h1_) (by decide), fun _ h1_ => absurd ((up_self b 18).symm.trans h1_) (by decide), fun _ => FN.out.1, fun _ => FN.out.2.2.1, Q_X2_, Q_X4_, Q_X6_, Q_X12_, Q_X15_⟩
                exact steps_nil
              · rintro b a w' hall ⟨g77, g81, g90, v1, m2_, m4_, m6_, m12_, m15_, ha, Q_HB, Q_HS, Q_BK, Q_HR, Q_L77, Q_L81, Q_BX, Q_FN, Q_V1, Q_BKF, Q_HRF, Q_X2_, Q_X4_, Q_X6_, Q_X12_, Q_X15_⟩
                clear BK HB HR HS
                have hb1_ := hall 1 (by kernel_rfl)
                have hb2_ := hall 2 (by kernel_rfl)
                have hb4_ := hall 4 (by kernel_rfl)
                have hb5_ := hall 5 (by kernel_rfl)
                have hb6_ := hall 6 (by kernel_rfl)
                have hb11_ := hall 11 (by kernel_rfl)
                have hb12_ := hall 12 (by kernel_rfl)
                have hb13_ := hall 13 (by kernel_rfl)
                have hb14_ := hall 14 (by kernel_rfl)
                have hb15_ := hall 15 (by kernel_rfl)
                have hb16_ := hall 16 (by kernel_rfl)
                have hb17_ := hall 17 (by kernel_rfl)
                have hb18_ := hall 18 (by kernel_rfl)
                subst ha
                obtain rfl := Q_X2_ hb2_
                obtain rfl := Q_X4_ hb4_
                obtain rfl := Q_X6_ hb6_
                obtain rfl := Q_X12_ hb12_
                obtain rfl := Q_X15_ hb15_
                simp only [putSel, hb1_, hb2_, hb4_, hb5_, hb6_, hb11_, hb12_, hb13_, hb14_, hb15_, hb16_, hb17_, hb18_, if_true, Act.put, List.setIfInBounds_toArray, List.set_cons_zero, List.set_cons_succ]
                have HB := Aside0.mk Q_HB
                clear Q_HB
                have HS := Aside0.mk Q_HS
                clear Q_HS
                clear Q_BK
                clear Q_HR
                clear Q_L77
                clear Q_L81
                clear Q_BX
                clear Q_FN
                clear Q_V1
                have BKF := Aside0.mk (Q_BKF hb18_)
                clear Q_BKF
                have HRF := Aside0.mk (Q_HRF hb18_)
                clear Q_HRF
                clear hall hb1_ hb2_ hb4_ hb5_ hb6_ hb11_ hb12_ hb13_ hb14_ hb15_ hb16_ hb17_ hb18_
                go_wp2
                go_roundw
                case rel => exact ⟨j + 1, v1, by first | rfl | (simp; done) | (congr 1; omega), ⟨by have := HJJ.out; clear hw80; omega⟩, BKF, HS, ⟨by have h_ := HRF.out; rw [← HP.out] at h_; rw [List.range_succ, List.map_append]; exact h_⟩, HB⟩
                case measure => have := HJJ.out; clear hw80; simp [intOf]; omega
            · have hjt : decide ((j : Int) < (m3 : Int)) = false := decide_eq_false (by omega)
              have hjt2 : (j < m3) = False := eq_false hj
              have hR := HR2.out
              rw [show j = m3 by have := HJ.out; omega] at hR
              have HR3 := Aside0.mk hR
              clear hj hR HR2
              go_upto_region 20 with (first
                | (go_at_call 10; (with_reducible refine (bobbinetkeep_Picked.calls _ _ _ _ P3.out).mono ?_); rintro e w' ⟨rfl, ⟨nd, rfl⟩⟩)
                | fail)
              go_wp2_with (first | ((with_reducible refine gate_builtin (b := .append) (xs := #[.tmp 93, .tmp 95]) rfl ?_); (try (refine gate_guard (by rfl) ?_; dsimp only)); at_builtin; refine Kd.S_append k47 (w0 := w) w.heap.size rfl (.tmp 93) (.tmp 95) 42 47 (.agg #[(.int .i64 0), (.string ⟨#[]⟩), (.slice none 0 0), (.bool false), (.string ⟨#[]⟩)]) 72 rfl Try.underlying42 info47 rfl (by decide) (by omega) (.slice Ac acc.length cc) acc (⟨1, bobbinetkeep_Tokens.nameOf xa, (List.range m3).map (bobbinetkeep_Tokens.attr xa), decide (x2 = 0), (⟨#[]⟩ : ByteArray)⟩ : S47) [.int .i64 1, .string (bobbinetkeep_Tokens.nameOf xa), vR, .bool (decide (x2 = 0)), .string (⟨#[]⟩ : ByteArray)] (fun _ => True) (fun k => g8 < k) rfl (by first | (go_simp; done) | (go_simp; rfl)) ?aP ?aK (fun _ _ => trivial) ?aO ?aB ?aS ?aL ?_; (case aP => exact k47_mkM _ _ _ (⟨1, bobbinetkeep_Tokens.nameOf xa, (List.range m3).map (bobbinetkeep_Tokens.attr xa), decide (x2 = 0), (⟨#[]⟩ : ByteArray)⟩ : S47) (by (with_reducible repeat (first | apply Kd.R_alloc | apply Kd.R_drewN | apply Kd.R_drew)); exact HR3.out)); (case aK => exact fun k hk => ⟨trivial, fun e_ => by have := (Kd.S_R HS.out).1 k e_.symm; omega⟩); (case aO => exact Kd.S_mono (by (with_reducible repeat (first | apply Kd.S_alloc | apply Kd.S_drewN | apply Kd.S_drew)); exact HS.out) (fun k hk => ⟨trivial, by omega⟩)); (case aB => exact (by repeat (first | (with_reducible first | exact HB.out | apply below_alloc | apply pw_below_drewN | apply below_drew1) | exact HB.out))); (case aS => exact (below_size (by repeat (first | (with_reducible first | exact HB.out | apply below_alloc | apply pw_below_drewN | apply below_drew1) | exact HB.out)))); (case aL => have := HL.out; omega); intro v20 w20 ho hb hg hat; clear hg hat; replace HS := Aside0.mk ho; replace HB := Aside0.mk hb; clear ho hb) | fail)
              go_roundw
              case rel => exact ⟨i + 1, acc ++ [(⟨1, bobbinetkeep_Tokens.nameOf xa, (List.range m3).map (bobbinetkeep_Tokens.attr xa), decide (x2 = 0), (⟨#[]⟩ : ByteArray)⟩ : S47)], by simp [hw], ⟨by have := HII.out; omega⟩, H, ⟨by have := HN.out; have := HA.out; simp; omega⟩, HS, HB⟩
              case measure => have := HII.out; rw [hw]; simp [intOf]; omega
        · have HT : Aside0 (bobbinetkeep_Tokens.tok xa = ⟨1, bobbinetkeep_Tokens.nameOf xa, ([] : List S63), false, (⟨#[]⟩ : ByteArray)⟩) := ⟨by unfold bobbinetkeep_Tokens.tok; rw [if_neg (by omega), if_neg (by omega), if_neg (by omega)]⟩
          have hgo := H.out
          rw [if_neg (by omega), HT.out] at hgo
          replace H := Aside0.mk hgo
          rw [hm] at P4
          clear hm hgo HT
          go_upto_region 20 with (first
            | (go_at_call 10; (with_reducible refine (bobbinetkeep_Picked.calls _ _ _ _ P4.out).mono ?_); rintro e w' ⟨rfl, ⟨nd, rfl⟩⟩)
            | fail)
          refine bobbinetkeep_Tokens.pack (fun W => W.heap[g8]? = some (.cells #[.int .i64 1, .string (bobbinetkeep_Tokens.nameOf xa), .slice none 0 0, .bool false, .string (⟨#[]⟩ : ByteArray)] 47 (0, 0)) ∧ Kd.S k47 47 W w.heap.size (fun k => k < g8) (.slice Ac acc.length cc) acc ∧ Below w.heap.size w W) ⟨?p1, ?p2, ?p3⟩ ?_
          case p1 => exact blk_drewN BK.out _
          case p2 => exact Kd.S_drewN HS.out _
          case p3 => exact pw_below_drewN HB.out _
          clear BK HS HB hcz0 hcz1 hcz2 hcz3 hcz4 hfz0 hfz1 hfz2 hfz3 hfz4
          rintro W8 ⟨bk7, hs7, hb7⟩
          have BK := Aside0.mk bk7
          have HS := Aside0.mk hs7
          have HB := Aside0.mk hb7
          clear bk7 hs7 hb7
          have hcz0 := blk_cell BK.out 0
          have hcz1 := blk_cell BK.out 1
          have hcz2 := blk_cell BK.out 2
          have hcz3 := blk_cell BK.out 3
          have hcz4 := blk_cell BK.out 4
          simp only [List.getElem?_toArray, List.getElem?_cons_zero, List.getElem?_cons_succ] at hcz0 hcz1 hcz2 hcz3 hcz4
          go_wp2_with (first | ((with_reducible refine gate_builtin (b := .append) (xs := #[.tmp 93, .tmp 95]) rfl ?_); (try (refine gate_guard (by rfl) ?_; dsimp only)); at_builtin; refine Kd.S_append k47 (w0 := w) w.heap.size rfl (.tmp 93) (.tmp 95) 42 47 (.agg #[(.int .i64 0), (.string ⟨#[]⟩), (.slice none 0 0), (.bool false), (.string ⟨#[]⟩)]) 72 rfl Try.underlying42 info47 rfl (by decide) (by omega) (.slice Ac acc.length cc) acc (⟨1, bobbinetkeep_Tokens.nameOf xa, ([] : List S63), false, (⟨#[]⟩ : ByteArray)⟩ : S47) [.int .i64 1, .string (bobbinetkeep_Tokens.nameOf xa), .slice none 0 0, .bool false, .string (⟨#[]⟩ : ByteArray)] (fun _ => True) (fun k => g8 < k) rfl (by first | (go_simp; done) | (go_simp; rfl)) ?aP ?aK (fun _ _ => trivial) ?aO ?aB ?aS ?aL ?_; (case aP => exact k47_mkM _ _ _ (⟨1, bobbinetkeep_Tokens.nameOf xa, ([] : List S63), false, (⟨#[]⟩ : ByteArray)⟩ : S47) (Kd.R_nil _ _ _ _ _)); (case aK => exact fun k hk => ⟨trivial, fun e_ => by have := (Kd.S_R HS.out).1 k e_.symm; omega⟩); (case aO => exact Kd.S_mono (by (with_reducible repeat (first | apply Kd.S_alloc | apply Kd.S_drewN | apply Kd.S_drew)); exact HS.out) (fun k hk => ⟨trivial, by omega⟩)); (case aB => exact (by repeat (first | (with_reducible first | exact HB.out | apply below_alloc | apply pw_below_drewN | apply below_drew1) | exact HB.out))); (case aS => exact (below_size (by repeat (first | (with_reducible first | exact HB.out | apply below_alloc | apply pw_below_drewN | apply below_drew1) | exact HB.out)))); (case aL => have := HL.out; omega); intro v20 w20 ho hb hg hat; clear hg hat; replace HS := Aside0.mk ho; replace HB := Aside0.mk hb; clear ho hb) | fail)
          go_roundw
          case rel => exact ⟨i + 1, acc ++ [(⟨1, bobbinetkeep_Tokens.nameOf xa, ([] : List S63), false, (⟨#[]⟩ : ByteArray)⟩ : S47)], by simp [hw], ⟨by have := HII.out; omega⟩, H, ⟨by have := HN.out; have := HA.out; simp; omega⟩, HS, HB⟩
          case measure => have := HII.out; rw [hw]; simp [intOf]; omega
      · have hnt : decide ((acc.length : Int) < a1) = false := decide_eq_false hn
        have hnt2 : ((acc.length : Int) < a1) = False := eq_false hn
        have hE : acc = r := by
          have := H.out
          obtain ⟨xa, ha⟩ : ∃ xa, l0.drop i = xa :: l0.drop (i + 1) := ⟨l0[i], List.drop_eq_getElem_cons hi⟩
          rw [ha, bobbinetkeep_Tokens.go, if_neg hn] at this
          exact this
        subst hE
        clear hn hi H
        go_wp2
        go_ret
        exact ⟨_, rfl, HS.out, HB.out⟩
    · have hlt : decide ((i : Int) < (l0.length : Int)) = false := decide_eq_false (by omega)
      have hlt2 : (i < l0.length) = False := eq_false hi
      have hE : acc = r := by
        have := H.out
        rw [List.drop_eq_nil_of_le (by omega)] at this
        exact this
      subst hE
      clear hi H
      go_wp2
      go_ret
      exact ⟨_, rfl, HS.out, HB.out⟩
end Go.Proofs.Ytjmhihadgpdiaaa.X
end
