/- Parts of the proof of PickLast that are needed, put together by pack.py. -/
import Derived.Test.YtaibikajpacemaaQPickLastaf
import Derived.Test.YtaibikajpacemaaQPickLastag
section
namespace Go.Proofs.Ytaibikajpacemaa.X
open Go.RowKit Go.Proofs.YtaibikajpacemaaW.PrintWords Go.Proofs.YtaibikajpacemaaW.PrintLast Go.Proofs.YtaibikajpacemaaW.PrintMore
attribute [local go_sem] max2_int min2_int max_two min_two max_three min_three max_four min_four   -- for this text's walks alone
set_option linter.unusedVariables false
set_option linter.unusedSimpArgs false
def bobbinetkeep_Picks.names : List ByteArray := [(⟨#[]⟩ : ByteArray), (⟨#[100, 105, 118]⟩ : ByteArray), (⟨#[98]⟩ : ByteArray), (⟨#[112]⟩ : ByteArray), (⟨#[101, 109]⟩ : ByteArray)]
def bobbinetkeep_Picks.keys : List ByteArray := [(⟨#[]⟩ : ByteArray), (⟨#[]⟩ : ByteArray), (⟨#[104, 114, 101, 102]⟩ : ByteArray)]
def bobbinetkeep_Picks.one (i : Nat) (a : Int) : S61 := ⟨bobbinetkeep_Picks.names.getD (a % 5).toNat ByteArray.empty, bobbinetkeep_Picks.keys.getD (wrap64 (Int.tdiv a 5) % 3).toNat ByteArray.empty, decide (i = 0) || decide (wrap64 (Int.tdiv a 15) % 2 = 0)⟩
def bobbinetkeep_Picks.pre (l : List Int) (i : Nat) : List S61 := if i = 0 then [(⟨(⟨#[98]⟩ : ByteArray), (⟨#[]⟩ : ByteArray), true⟩ : S61)] else (List.range i).map fun j => bobbinetkeep_Picks.one j (rd l (j : Int))
def bobbinetkeep_Picks.f (l0 : List Int) (a1 : Int) : Option (List S61) := if a1 ≤ 1000000 then some (bobbinetkeep_Picks.pre l0 (min l0.length a1.toNat)) else none
theorem bobbinetkeep_Picks.pick (xa : Int) (n : Int) (h0 : 0 < n) (hn : n ≤ 4294967296) : bobbinetkeep_Picked.f xa n = some (xa % n) := by
  have h1 := Int.tmod_lt_of_pos xa h0
  have e := Int.tmod_eq_emod (a := xa) (b := n)
  have hl : (n.natAbs : Int) = n := by omega
  have q0 := Int.emod_nonneg xa (show n ≠ 0 by omega)
  have q1 := Int.emod_lt_of_pos xa h0
  unfold bobbinetkeep_Picked.f
  rw [if_neg (by omega)]
  by_cases c : Int.tmod xa n < 0
  · rw [if_pos c]
    split at e
    · omega
    · rw [show wrap64 (Int.tmod xa n + n) = Int.tmod xa n + n by unfold wrap64; omega]
      congr 1
      omega
  · rw [if_neg c]
    congr 1
    split at e
    · omega
    · omega
theorem bobbinetkeep_Picks.lit (l : List ByteArray) (i : Nat) (h : i < l.length) : (l.map Value.string)[i]? = some (.string (l.getD i ByteArray.empty)) := by simp [List.getD, h]
theorem bobbinetkeep_Picks.pack {P : Program} {c : Code} {Q : Exit → Act → World → Prop} {xa : Act} {W : World} (F : World → Prop) (h1 : F W) (h : ∀ W', F W' → Code.wp P c Q xa W') : Code.wp P c Q xa W := h W h1
theorem bobbinetkeep_Picks.lit1 (w : World) : k61.R 61 (w.alloc (.cells #[.string (⟨#[98]⟩ : ByteArray), .string (⟨#[]⟩ : ByteArray), .bool true] 61)) w.heap.size (fun _ => True) (.slice (some ⟨w.heap.size, 0, none⟩) 1 1) [(⟨(⟨#[98]⟩ : ByteArray), (⟨#[]⟩ : ByteArray), true⟩ : S61)] :=
  ⟨fun _ _ => trivial, OwnRow.lit (ps := [(⟨(⟨#[98]⟩ : ByteArray), (⟨#[]⟩ : ByteArray), true⟩ : S61)]) w w.heap.size ((Reps.none _ _).snoc (k61_mkM _ _ _ (⟨(⟨#[98]⟩ : ByteArray), (⟨#[]⟩ : ByteArray), true⟩ : S61)) rfl) (Nat.le_refl _) (by simp)⟩
theorem bobbinetkeep_Picks.pre_zero (l : List Int) (x : Int) (h : rd l 0 = x) : ([] : List S61) ++ [bobbinetkeep_Picks.one 0 x] = bobbinetkeep_Picks.pre l 1 := by
  simp [bobbinetkeep_Picks.pre, h]
theorem bobbinetkeep_Picks.pre_succ (l : List Int) (i : Nat) (x : Int) (h : rd l (i : Int) = x) (hi : i ≠ 0) : bobbinetkeep_Picks.pre l i ++ [bobbinetkeep_Picks.one i x] = bobbinetkeep_Picks.pre l (i + 1) := by
  unfold bobbinetkeep_Picks.pre
  rw [if_neg hi, if_neg (by omega), List.range_succ, List.map_append, List.map_singleton, h]
theorem bobbinetkeep_Picks.pre_len (l : List Int) (i : Nat) (hi : i ≠ 0) : (bobbinetkeep_Picks.pre l i).length = i := by
  unfold bobbinetkeep_Picks.pre
  rw [if_neg hi, List.length_map, List.length_range]
def bobbinetkeep_Picks.rPicks5a.T5 : Bool × List (List Nat × List Nat) := (true, [([], []), ([], []), ([], []), ([1, 2], [1, 2]), ([3], [3]), ([4], [4]), ([0, 5], [0, 5]), ([6], [6]), ([], []), ([], []), ([], []), ([9, 10], [9, 10]), ([11], [11]), ([12], [12]), ([13, 5], [13]), ([8, 14], [8, 14]), ([15], [15]), ([], []), ([17], [17]), ([18, 14], [18]), ([19], [19]), ([19], [19]), ([20, 21, 19], [19, 20, 21]), ([22, 19], [19, 22]), ([23, 19], [19, 23]), ([24, 19, 19], [19, 24]), ([25, 19], [19, 25]), ([19, 26], [19, 26]), ([7, 16, 27], [7, 16, 27]), ([], []), ([29, 28, 25, 0, 1, 2, 3, 4, 5, 6, 7, 8, 9, 10, 11, 12, 13, 14, 15, 16, 17, 18, 19, 20, 21, 22, 23, 24, 25, 26, 27, 28, 29], [28, 29])])
def bobbinetkeep_Picks.rPicks5a.B5 : List Nat := [0, 0, 0, 6, 14, 30, 63, 127, 0, 0, 0, 1536, 3584, 7680, 15934, 32574, 65342, 0, 131072, 425534, 949822, 949822, 4095550, 8289854, 16678462, 33455678, 67010110, 134118974, 268435455, 0, 1073741823]
theorem bobbinetkeep_Picks.rPicks5a.tab5 : rtab .any (opsOf Try.f26 5) = bobbinetkeep_Picks.rPicks5a.T5 := by kernel_rfl
theorem bobbinetkeep_Picks.rPicks5a.bits5 : waitsOk bobbinetkeep_Picks.rPicks5a.T5.2 bobbinetkeep_Picks.rPicks5a.B5 = true := by kernel_rfl
def bobbinetkeep_Picks.rPicks5b.T5 : Bool × List (List Nat × List Nat) := (true, [([], []), ([], []), ([], []), ([1, 2], [1, 2]), ([3], [3]), ([4], [4]), ([0, 5], [0, 5]), ([6], [6]), ([], []), ([], []), ([], []), ([9, 10], [9, 10]), ([11], [11]), ([12], [12]), ([13, 5], [13]), ([8, 14], [8, 14]), ([15], [15]), ([], []), ([17], [17]), ([18, 14], [18]), ([19], [19]), ([19], [19]), ([20, 21, 19], [19, 20, 21]), ([22, 19], [19, 22]), ([23, 19], [19, 23]), ([24, 19, 19], [19, 24]), ([25, 19], [19, 25]), ([19, 26], [19, 26]), ([7, 16, 27], [7, 16, 27]), ([], []), ([29, 28, 25, 0, 1, 2, 3, 4, 5, 6, 7, 8, 9, 10, 11, 12, 13, 14, 15, 16, 17, 18, 19, 20, 21, 22, 23, 24, 25, 26, 27, 28, 29], [28, 29])])
def bobbinetkeep_Picks.rPicks5b.B5 : List Nat := [0, 0, 0, 6, 14, 30, 63, 127, 0, 0, 0, 1536, 3584, 7680, 15934, 32574, 65342, 0, 131072, 425534, 949822, 949822, 4095550, 8289854, 16678462, 33455678, 67010110, 134118974, 268435455, 0, 1073741823]
theorem bobbinetkeep_Picks.rPicks5b.tab5 : rtab .any (opsOf Try.f26 5) = bobbinetkeep_Picks.rPicks5b.T5 := by kernel_rfl
theorem bobbinetkeep_Picks.rPicks5b.bits5 : waitsOk bobbinetkeep_Picks.rPicks5b.T5.2 bobbinetkeep_Picks.rPicks5b.B5 = true := by kernel_rfl
set_option maxHeartbeats 8000000 in
set_option maxRecDepth 100000 in
theorem bobbinetkeep_Picks.calls (A0 : Option Addr) (c0 : Nat) (l0 : List Int) (a1 : Int) (r : List S61) (w : World) (hr0 : Kd.C (Kd.int .i64) w A0 l0.length l0) (hc0 : l0.length ≤ c0) (h : bobbinetkeep_Picks.f l0 a1 = some r) :
    Calls Try.prog 26 #[.slice A0 l0.length c0, .int .i64 a1] w fun e w' => ∃ v0_ : Value, e = .returned (v0_) ∧ Kd.R k61 61 w' w.heap.size (fun _ => True) v0_ r ∧ Below w.heap.size w w' := by
  have hmx := Kd.C_max hr0
  have HR := Aside0.mk hr0
  unfold bobbinetkeep_Picks.f at h
  by_cases ha1 : a1 ≤ 1000000
  case neg => rw [if_neg ha1] at h; simp at h
  rw [if_pos ha1] at h
  have H := Aside0.mk (Option.some.inj h)
  have HA := Aside0.mk ha1
  have HM := Aside0.mk hmx
  clear hr0 hc0 h ha1 hmx
  go_enter Try.func26, Try.ntmps26
  go_wp2
  go_loopw [5, 6] (fun v5 v6 wr => ∃ i : Nat, v6 = .int .i64 (i : Int) ∧ Aside0 (i ≤ l0.length) ∧ Aside0 (i ≤ a1.toNat) ∧ Aside0 (k61.R 61 wr w.heap.size (fun _ => True) v5 (bobbinetkeep_Picks.pre l0 i)) ∧ Aside0 (Below w.heap.size w wr)) (fun v5 v6 _ => l0.length - (intOf v6).toNat)
  case atStart => exact ⟨0, rfl, ⟨Nat.zero_le _⟩, ⟨Nat.zero_le _⟩, ⟨bobbinetkeep_Picks.lit1 w⟩, ⟨below_alloc (Below.refl _ _) _⟩⟩
  case round =>
    obtain ⟨i, rfl, HI, HIA, HS, HB⟩ := hrel
    obtain ⟨W0, rfl⟩ : ∃ W0 : World, W0 = wr := ⟨_, rfl⟩
    obtain ⟨Ac, cc, e5⟩ := Kd.R_slice HS.out
    subst e5
    by_cases hi : i < l0.length
    · have hlt : decide ((i : Int) < (l0.length : Int)) = true := decide_eq_true (by omega)
      have hlt2 : (i < l0.length) = True := eq_true hi
      by_cases hn : (i : Int) < a1
      · have hnt : decide ((i : Int) < a1) = true := decide_eq_true hn
        have hi0 : (0 : Int) ≤ (i : Int) := by omega
        have hi1 : (i : Int) < (l0.length : Int) := by omega
        obtain ⟨xa, ha⟩ : ∃ xa, rd l0 (i : Int) = xa := ⟨_, rfl⟩
        obtain ⟨ax, eax, hx⟩ := Kd.at_int HR.out (i : Int) hi0 hi1
        rw [ha, Int.toNat_natCast] at hx
        subst eax
        replace hx := (HB.out.cell (World.block_lt_of_cell? w _ hx)).trans hx
        obtain ⟨t5, ht5⟩ : ∃ t5 : Nat, xa % 5 = (t5 : Int) := ⟨_, (Int.toNat_of_nonneg (Int.emod_nonneg _ (by decide))).symm⟩
        have q5 : (t5 : Int) < 5 := by rw [← ht5]; exact Int.emod_lt_of_pos _ (by decide)
        have P5 := Aside0.mk (bobbinetkeep_Picks.pick xa 5 (by decide) (by decide))
        rw [ht5] at P5
        obtain ⟨t3, ht3⟩ : ∃ t3 : Nat, wrap64 (Int.tdiv xa 5) % 3 = (t3 : Int) := ⟨_, (Int.toNat_of_nonneg (Int.emod_nonneg _ (by decide))).symm⟩
        have q3 : (t3 : Int) < 3 := by rw [← ht3]; exact Int.emod_lt_of_pos _ (by decide)
        have P3 := Aside0.mk (bobbinetkeep_Picks.pick (wrap64 (Int.tdiv xa 5)) 3 (by decide) (by decide))
        rw [ht3] at P3
        obtain ⟨x2, hx2⟩ : ∃ x2 : Int, wrap64 (Int.tdiv xa 15) % 2 = x2 := ⟨_, rfl⟩
        have P2 := Aside0.mk (bobbinetkeep_Picks.pick (wrap64 (Int.tdiv xa 15)) 2 (by decide) (by decide))
        rw [hx2] at P2
        obtain ⟨p0, hp0⟩ : ∃ p0, bobbinetkeep_Picks.names.getD t5 ByteArray.empty = p0 := ⟨_, rfl⟩
        obtain ⟨p1, hp1⟩ : ∃ p1, bobbinetkeep_Picks.keys.getD t3 ByteArray.empty = p1 := ⟨_, rfl⟩
        have hone : bobbinetkeep_Picks.one i xa = ⟨p0, p1, decide (i = 0) || (x2 == 0)⟩ := by
          unfold bobbinetkeep_Picks.one
          rw [ht5, ht3, hx2, Int.toNat_natCast, Int.toNat_natCast, hp0, hp1]
          rfl
        have hT5 : ([Value.string (⟨#[]⟩ : ByteArray), Value.string (⟨#[100, 105, 118]⟩ : ByteArray), Value.string (⟨#[98]⟩ : ByteArray), Value.string (⟨#[112]⟩ : ByteArray), Value.string (⟨#[101, 109]⟩ : ByteArray)] : List Value)[t5]? = some (Value.string p0) := by rw [← hp0]; exact bobbinetkeep_Picks.lit bobbinetkeep_Picks.names t5 (by simp [bobbinetkeep_Picks.names]; omega)
        have hT3 : ([Value.string (⟨#[]⟩ : ByteArray), Value.string (⟨#[]⟩ : ByteArray), Value.string (⟨#[104, 114, 101, 102]⟩ : ByteArray)] : List Value)[t3]? = some (Value.string p1) := by rw [← hp1]; exact bobbinetkeep_Picks.lit bobbinetkeep_Picks.keys t3 (by simp [bobbinetkeep_Picks.keys]; omega)
        have hp5 : (0 : Int) ≤ (t5 : Int) := by omega
        have hp3 : (0 : Int) ≤ (t3 : Int) := by omega
        have HONE := Aside0.mk hone
        have HRD := Aside0.mk ha
        have HII := Aside0.mk hi
        have HN := Aside0.mk hn
        have HWI : Aside0 (wrap64 ((i : Int) + 1) = (i : Int) + 1) := ⟨by have := HM.out; unfold wrap64; omega⟩
        have HWS : Aside0 (w.heap.size ≤ W0.heap.size) := ⟨HB.out.size⟩
        have HIN : Aside0 (i + 1 ≤ a1.toNat) := ⟨by omega⟩
        clear ht5 ht3 hx2 hp0 hp1 hone ha hi hn
        by_cases iz : i = 0
        · subst iz
          have y1 : decide ((0 : Int) < (l0.length : Int)) = true := hlt
          have y2 : (0 < l0.length) = True := hlt2
          have y3 : decide ((0 : Int) < a1) = true := hnt
          have y4 : ((0 : Int) < a1) = True := eq_true (of_decide_eq_true hnt)
          have HX : Aside0 (W0.cell? ax = some (.int .i64 xa)) := ⟨by have := hx; rwa [Addr.add_zero'] at this⟩
          go_upto_region 5 with (fail)
          refine bobbinetkeep_Picks.pack (fun W => W = W0) rfl ?_
          rintro W1 rfl
          clear hx
          refine start_ (n := 31) (S := fun w' => True) (ds := []) #[false, false, false, false, false, false, false, false, false, false, false, false, false, false, false, false, false, false, false, false, false, false, false, false, false, false, false, false, false, false, false] (by kernel_rfl) rfl rfl trivial (fun hHeld => ?_)
          refine with_tabW bobbinetkeep_Picks.rPicks5a.tab5 bobbinetkeep_Picks.rPicks5a.bits5 (fun HT_ HW_ => ?_)
          have HBi := Aside0.mk (below_drew (Below.refl W1.heap.size W1))
          generalize World.drew W1 = W2 at HBi ⊢
          refine pure_ (i := 1) (N := some 22) (v := ?_) (a' := ?_) #[false, true, false, false, false, false, false, false, false, false, false, false, false, false, false, false, false, false, false, false, false, false, false, false, false, false, false, false, false, false, false] rfl rfl (any_of HT_.out (by kernel_rfl)) (fun _ _ _ h => h) (Or.inl ⟨by rfl, ?_⟩) ?_ ?_
          rotate_left
          · intro w'
            go_simp
            with_reducible rfl
          rotate_left
          · simp only [Act.put, List.setIfInBounds_toArray, List.set_cons_zero, List.set_cons_succ, i64_w, i32_w]
            rfl
          refine pure_ (i := 2) (N := some 23) (v := ?_) (a' := ?_) #[false, true, true, false, false, false, false, false, false, false, false, false, false, false, false, false, false, false, false, false, false, false, false, false, false, false, false, false, false, false, false] rfl rfl (any_of HT_.out (by kernel_rfl)) (fun _ _ _ h => h) (Or.inl ⟨by rfl, ?_⟩) ?_ ?_
          rotate_left
          · intro w'
            go_simp
            with_reducible rfl
          rotate_left
          · simp only [Act.put, List.setIfInBounds_toArray, List.set_cons_zero, List.set_cons_succ, i64_w, i32_w]
            rfl
          refine pure_ (i := 3) (N := some 24) (v := ?_) (a' := ?_) #[false, true, true, true, false, false, false, false, false, false, false, false, false, false, false, false, false, false, false, false, false, false, false, false, false, false, false, false, false, false, false] rfl rfl (any_of HT_.out (by kernel_rfl)) (fun _ _ _ h => h) (Or.inl ⟨by rfl, ?_⟩) ?_ ?_
          rotate_left
          · intro w'
            go_simp
            with_reducible rfl
          rotate_left
          · simp only [Act.put, List.setIfInBounds_toArray, List.set_cons_zero, List.set_cons_succ, i64_w, i32_w]
            rfl
          refine pure_ (i := 9) (N := some 30) (v := ?_) (a' := ?_) #[false, true, true, true, false, false, false, false, false, true, false, false, false, false, false, false, false, false, false, false, false, false, false, false, false, false, false, false, false, false, false] rfl rfl (any_of HT_.out (by kernel_rfl)) (fun _ _ _ h => h) (Or.inl ⟨by rfl, ?_⟩) ?_ ?_
          rotate_left
          · intro w'
            go_simp
            with_reducible rfl
          rotate_left
          · simp only [Act.put, List.setIfInBounds_toArray, List.set_cons_zero, List.set_cons_succ, i64_w, i32_w]
            rfl
          refine pure_ (i := 10) (N := some 31) (v := ?_) (a' := ?_) #[false, true, true, true, false, false, false, false, false, true, true, false, false, false, false, false, false, false, false, false, false, false, false, false, false, false, false, false, false, false, false] rfl rfl (any_of HT_.out (by kernel_rfl)) (fun _ _ _ h => h) (Or.inl ⟨by rfl, ?_⟩) ?_ ?_
          rotate_left
          · intro w'
            go_simp
            with_reducible rfl
          rotate_left
          · simp only [Act.put, List.setIfInBounds_toArray, List.set_cons_zero, List.set_cons_succ, i64_w, i32_w]
            rfl
          refine pure_ (i := 11) (N := some 32) (v := ?_) (a' := ?_) #[false, true, true, true, false, false, false, false, false, true, true, true, false, false, false, false, false, false, false, false, false, false, false, false, false, false, false, false, false, false, false] rfl rfl (any_of HT_.out (by kernel_rfl)) (fun _ _ _ h => h) (Or.inl ⟨by rfl, ?_⟩) ?_ ?_
          rotate_left
          · intro w'
            go_simp
            with_reducible rfl
          rotate_left
          · simp only [Act.put, List.setIfInBounds_toArray, List.set_cons_zero, List.set_cons_succ, i64_w, i32_w]
            rfl
          refine pure_ (i := 17) (N := some 38) (v := ?_) (a' := ?_) #[false, true, true, true, false, false, false, false, false, true, true, true, false, false, false, false, false, true, false, false, false, false, false, false, false, false, false, false, false, false, false] rfl rfl (any_of HT_.out (by kernel_rfl)) (fun _ _ _ h => h) (Or.inl ⟨by rfl, ?_⟩) ?_ ?_
          rotate_left
          · intro w'
            go_simp
            with_reducible rfl
          rotate_left
          · simp only [Act.put, List.setIfInBounds_toArray, List.set_cons_zero, List.set_cons_succ, i64_w, i32_w]
            rfl
          refine pure_ (i := 18) (N := some 39) (v := ?_) (a' := ?_) #[false, true, true, true, false, false, false, false, false, true, true, true, false, false, false, false, false, true, true, false, false, false, false, false, false, false, false, false, false, false, false] rfl rfl (any_of HT_.out (by kernel_rfl)) (fun _ _ _ h => h) (Or.inl ⟨by rfl, ?_⟩) ?_ ?_
          rotate_left
          · intro w'
            go_simp
            with_reducible rfl
          rotate_left
          · simp only [Act.put, List.setIfInBounds_toArray, List.set_cons_zero, List.set_cons_succ, i64_w, i32_w]
            rfl
          refine inv_at [0, 4, 5, 6, 7, 8, 12, 13, 14, 15, 16, 19, 20, 21, 22, 23, 24, 25, 26, 27, 28, 29, 30] (fun a0_ b a w' => ∃ (g21 : Nat) (g29 : Nat) (g7 : Nat) (m0_ : Value) (m6_ : Value) (m8_ : Value) (m15_ : Value) (m29_ : Value), a = putSel a0_ b [(0, 21, m0_), (4, 25, .int .i64 xa), (5, 26, .int .i64 (t5 : Int)), (6, 27, m6_), (7, 28, .string p0), (8, 29, m8_), (12, 33, .int .i64 xa), (13, 34, .int .i64 (wrap64 (Int.tdiv xa 5))), (14, 35, .int .i64 (t3 : Int)), (15, 36, m15_), (16, 37, .string p1), (19, 40, .bool true), (20, 41, undef), (21, 42, undef), (22, 43, undef), (23, 44, undef), (24, 45, undef), (25, 46, undef), (26, 47, undef), (27, 48, .bool true), (28, 49, .agg #[.string p0, .string p1, .bool true]), (29, 7, m29_)] ∧ (Below W1.heap.size W1 w') ∧ (b 0 = true → b 30 = false → w'.heap[g21]? = some (.cells #[.string (⟨#[]⟩ : ByteArray), .string (⟨#[100, 105, 118]⟩ : ByteArray), .string (⟨#[98]⟩ : ByteArray), .string (⟨#[112]⟩ : ByteArray), .string (⟨#[101, 109]⟩ : ByteArray)] 9 (0, 0))) ∧ (b 8 = true → b 30 = false → w'.heap[g29]? = some (.cells #[.string (⟨#[]⟩ : ByteArray), .string (⟨#[]⟩ : ByteArray), .string (⟨#[104, 114, 101, 102]⟩ : ByteArray)] 9 (0, 0))) ∧ (b 29 = true → b 30 = false → w'.heap[g7]? = some (.cells #[.string (⟨#[]⟩ : ByteArray), .string (⟨#[]⟩ : ByteArray), .bool false] 61 (0, 0))) ∧ (b 29 = true → W1.heap.size ≤ g7) ∧ (b 30 = true → w'.heap[g7]? = some (.cells #[.string p0, .string p1, .bool true] 61 (0, 0))) ∧ (b 0 = true → (m0_ : Value) = .slice (some ⟨g21, 0, none⟩) 5 5) ∧ (b 6 = true → (m6_ : Value) = .pointer (some ⟨g21, t5, none⟩)) ∧ (b 8 = true → (m8_ : Value) = .slice (some ⟨g29, 0, none⟩) 3 3) ∧ (b 15 = true → (m15_ : Value) = .pointer (some ⟨g29, t3, none⟩)) ∧ (b 29 = true → (m29_ : Value) = .pointer (some ⟨g7, 0, none⟩))) HT_.out HW_.out (by kernel_rfl) (by kernel_rfl) ?_ ?_ ?_
          · exact ⟨0, 0, 0, .bool false, .bool false, .bool false, .bool false, .bool false, by simp only [putSel, Bool.false_eq_true, if_false], HBi.out, fun h_ => absurd h_ (by decide), fun h_ => absurd h_ (by decide), fun h_ => absurd h_ (by decide), fun h_ => absurd h_ (by decide), fun h_ => absurd h_ (by decide), fun h_ => absurd h_ (by decide), fun h_ => absurd h_ (by decide), fun h_ => absurd h_ (by decide), fun h_ => absurd h_ (by decide), fun h_ => absurd h_ (by decide)⟩
          · skip
            clear HBi
            refine steps_cons ?_ ?_
            · rintro b a w' ⟨g21, g29, g7, m0_, m6_, m8_, m15_, m29_, ha, Q_HBi, Q_L21, Q_L29, Q_BP, Q_HG7, Q_BPF, Q_X0_, Q_X6_, Q_X8_, Q_X15_, Q_X29_⟩ hb_ hon hoff
              refine ⟨_, rfl, fun K hK => ?_⟩
              replace ha := Aside0.mk ha
              have HBi := Aside0.mk Q_HBi
              refine value_ (w1 := w'.alloc (.cells #[.string (⟨#[]⟩ : ByteArray), .string (⟨#[100, 105, 118]⟩ : ByteArray), .string (⟨#[98]⟩ : ByteArray), .string (⟨#[112]⟩ : ByteArray), .string (⟨#[101, 109]⟩ : ByteArray)] 9)) (v := .slice (some ⟨w'.heap.size, 0, none⟩) 5 5) (by rfl) rfl ?_ ?_
              · go_simp
                try rfl
              refine hK.out _ _ ⟨w'.heap.size, g29, g7, (.slice (some ⟨w'.heap.size, 0, none⟩) 5 5), m6_, m8_, m15_, m29_, (by rw [ha.out]; exact putSel_upk 0 hb_ rfl rfl rfl), HBi.out.alloc HBi.out.size _, fun _ _ => blk_new w' _, fun h0_ h1_ => blk_alloc (Q_L29 h0_ h1_) _, fun h0_ h1_ => blk_alloc (Q_BP h0_ h1_) _, fun h0_ => (Q_HG7 h0_), fun h0_ => absurd ((hoff 30 (by kernel_rfl)).symm.trans h0_) (by decide), fun _ => rfl, fun h0_ => absurd ((hoff 6 (by kernel_rfl)).symm.trans h0_) (by decide), Q_X8_, Q_X15_, Q_X29_⟩
            refine steps_cons ?_ ?_
            · rintro b a w' ⟨g21, g29, g7, m0_, m6_, m8_, m15_, m29_, ha, Q_HBi, Q_L21, Q_L29, Q_BP, Q_HG7, Q_BPF, Q_X0_, Q_X6_, Q_X8_, Q_X15_, Q_X29_⟩ hb_ hon hoff
              refine ⟨_, rfl, fun K hK => ?_⟩
              have e24 : a.tmps[24]? = some (.pointer (some ax)) := by rw [ha]; exact (putSel_off rfl).trans rfl
              replace ha := Aside0.mk ha
              have HBi := Aside0.mk Q_HBi
              have hc_ := (HBi.out.cell (World.block_lt_of_cell? _ _ HX.out)).trans HX.out
              refine value_ (w1 := w') (v := .int .i64 xa) (by rfl) rfl ?_ ?_
              · go_simp
                (try simp only [i64_w])
                try rfl
              refine hK.out _ _ ⟨g21, g29, g7, m0_, m6_, m8_, m15_, m29_, (by rw [ha.out]; exact putSel_upk 1 hb_ rfl rfl rfl), Q_HBi, Q_L21, Q_L29, Q_BP, Q_HG7, fun h0_ => absurd ((hoff 30 (by kernel_rfl)).symm.trans h0_) (by decide), Q_X0_, fun h0_ => absurd ((hoff 6 (by kernel_rfl)).symm.trans h0_) (by decide), Q_X8_, fun h0_ => absurd ((hoff 15 (by kernel_rfl)).symm.trans h0_) (by decide), Q_X29_⟩
            refine steps_cons ?_ ?_
            · rintro b a w' ⟨g21, g29, g7, m0_, m6_, m8_, m15_, m29_, ha, Q_HBi, Q_L21, Q_L29, Q_BP, Q_HG7, Q_BPF, Q_X0_, Q_X6_, Q_X8_, Q_X15_, Q_X29_⟩ hb_ hon hoff
              refine ⟨_, rfl, fun K hK => ?_⟩
              have e25 : a.tmps[25]? = some (.int .i64 xa) := by rw [ha]; exact putSel_on (e := (4, 25, .int .i64 xa)) 1 rfl rfl (hon 4 (by kernel_rfl)) rfl
              replace ha := Aside0.mk ha
              have HBi := Aside0.mk Q_HBi
              refine goes_ Try.func22 (by kernel_rfl) rfl #[.int .i64 xa, .int .i64 5] (by rfl) rfl rfl (by first | (simp only [List.map_toArray, List.map_cons, List.map_nil, Act.eval, Array.getD_eq_getD_getElem?, Option.getD_some, e25]; done) | (simp only [List.map_toArray, List.map_cons, List.map_nil, Act.eval, Array.getD_eq_getD_getElem?, Option.getD_some, e25]; rfl)) ?_
              with_reducible refine (bobbinetkeep_Picked.calls _ _ _ _ P5.out).mono ?_
              rintro e w3 ⟨rfl, ⟨nd, rfl⟩⟩
              refine ⟨_, rfl, ?_⟩
              refine hK.out _ _ ⟨g21, g29, g7, m0_, m6_, m8_, m15_, m29_, (by rw [ha.out]; exact putSel_upk 2 hb_ rfl rfl rfl), pw_below_drewN HBi.out _, fun h0_ h1_ => blk_drewN (Q_L21 h0_ h1_) _, fun h0_ h1_ => blk_drewN (Q_L29 h0_ h1_) _, fun h0_ h1_ => blk_drewN (Q_BP h0_ h1_) _, fun h0_ => (Q_HG7 h0_), fun h0_ => absurd ((hoff 30 (by kernel_rfl)).symm.trans h0_) (by decide), Q_X0_, fun h0_ => absurd ((hoff 6 (by kernel_rfl)).symm.trans h0_) (by decide), Q_X8_, fun h0_ => absurd ((hoff 15 (by kernel_rfl)).symm.trans h0_) (by decide), Q_X29_⟩
            refine steps_cons ?_ ?_
            · rintro b a w' ⟨g21, g29, g7, m0_, m6_, m8_, m15_, m29_, ha, Q_HBi, Q_L21, Q_L29, Q_BP, Q_HG7, Q_BPF, Q_X0_, Q_X6_, Q_X8_, Q_X15_, Q_X29_⟩ hb_ hon hoff
              refine ⟨_, rfl, fun K hK => ?_⟩
              have e21 : a.tmps[21]? = some (m0_) := by rw [ha]; exact putSel_on (e := (0, 21, m0_)) 0 rfl rfl (hon 0 (by kernel_rfl)) rfl
              rw [Q_X0_ (hon 0 (by kernel_rfl))] at e21
              have e26 : a.tmps[26]? = some (.int .i64 (t5 : Int)) := by rw [ha]; exact putSel_on (e := (5, 26, .int .i64 (t5 : Int))) 2 rfl rfl (hon 5 (by kernel_rfl)) rfl
              replace ha := Aside0.mk ha
              have HBi := Aside0.mk Q_HBi
              have L21 := Aside0.mk (Q_L21 (hon 0 (by kernel_rfl)) (hoff 30 (by kernel_rfl)))
              refine value_ (w1 := w') (v := .pointer (some ⟨g21, t5, none⟩)) (by rfl) rfl ?_ ?_
              · go_simp
                (try simp only [i64_w])
                try rfl
              refine hK.out _ _ ⟨g21, g29, g7, m0_, (.pointer (some ⟨g21, t5, none⟩)), m8_, m15_, m29_, (by rw [ha.out]; exact putSel_upk 3 hb_ rfl rfl rfl), Q_HBi, Q_L21, Q_L29, Q_BP, Q_HG7, fun h0_ => absurd ((hoff 30 (by kernel_rfl)).symm.trans h0_) (by decide), Q_X0_, fun _ => rfl, Q_X8_, Q_X15_, Q_X29_⟩
            refine steps_cons ?_ ?_
            · rintro b a w' ⟨g21, g29, g7, m0_, m6_, m8_, m15_, m29_, ha, Q_HBi, Q_L21, Q_L29, Q_BP, Q_HG7, Q_BPF, Q_X0_, Q_X6_, Q_X8_, Q_X15_, Q_X29_⟩ hb_ hon hoff
              refine ⟨_, rfl, fun K hK => ?_⟩
              have e27 : a.tmps[27]? = some (m6_) := by rw [ha]; exact putSel_on (e := (6, 27, m6_)) 3 rfl rfl (hon 6 (by kernel_rfl)) rfl
              rw [Q_X6_ (hon 6 (by kernel_rfl))] at e27
              replace ha := Aside0.mk ha
              have HBi := Aside0.mk Q_HBi
              have L21 := Aside0.mk (Q_L21 (hon 0 (by kernel_rfl)) (hoff 30 (by kernel_rfl)))
              have hc_ := blk_cell L21.out t5
              simp only [List.getElem?_toArray] at hc_
              rw [hT5] at hc_
              refine value_ (w1 := w') (v := .string p0) (by rfl) rfl ?_ ?_
              · go_simp
                (try simp only [i64_w])
                try rfl
              refine hK.out _ _ ⟨g21, g29, g7, m0_, m6_, m8_, m15_, m29_, (by rw [ha.out]; exact putSel_upk 4 hb_ rfl rfl rfl), Q_HBi, Q_L21, Q_L29, Q_BP, Q_HG7, fun h0_ => absurd ((hoff 30 (by kernel_rfl)).symm.trans h0_) (by decide), Q_X0_, Q_X6_, Q_X8_, Q_X15_, Q_X29_⟩
            refine steps_cons ?_ ?_
            · rintro b a w' ⟨g21, g29, g7, m0_, m6_, m8_, m15_, m29_, ha, Q_HBi, Q_L21, Q_L29, Q_BP, Q_HG7, Q_BPF, Q_X0_, Q_X6_, Q_X8_, Q_X15_, Q_X29_⟩ hb_ hon hoff
              refine ⟨_, rfl, fun K hK => ?_⟩
              replace ha := Aside0.mk ha
              have HBi := Aside0.mk Q_HBi
              refine value_ (w1 := w'.alloc (.cells #[.string (⟨#[]⟩ : ByteArray), .string (⟨#[]⟩ : ByteArray), .string (⟨#[104, 114, 101, 102]⟩ : ByteArray)] 9)) (v := .slice (some ⟨w'.heap.size, 0, none⟩) 3 3) (by rfl) rfl ?_ ?_
              · go_simp
                try rfl
              refine hK.out _ _ ⟨g21, w'.heap.size, g7, m0_, m6_, (.slice (some ⟨w'.heap.size, 0, none⟩) 3 3), m15_, m29_, (by rw [ha.out]; exact putSel_upk 5 hb_ rfl rfl rfl), HBi.out.alloc HBi.out.size _, fun h0_ h1_ => blk_alloc (Q_L21 h0_ h1_) _, fun _ _ => blk_new w' _, fun h0_ h1_ => blk_alloc (Q_BP h0_ h1_) _, fun h0_ => (Q_HG7 h0_), fun h0_ => absurd ((hoff 30 (by kernel_rfl)).symm.trans h0_) (by decide), Q_X0_, Q_X6_, fun _ => rfl, fun h0_ => absurd ((hoff 15 (by kernel_rfl)).symm.trans h0_) (by decide), Q_X29_⟩
            refine steps_cons ?_ ?_
            · rintro b a w' ⟨g21, g29, g7, m0_, m6_, m8_, m15_, m29_, ha, Q_HBi, Q_L21, Q_L29, Q_BP, Q_HG7, Q_BPF, Q_X0_, Q_X6_, Q_X8_, Q_X15_, Q_X29_⟩ hb_ hon hoff
              refine ⟨_, rfl, fun K hK => ?_⟩
              have e32 : a.tmps[32]? = some (.pointer (some ax)) := by rw [ha]; exact (putSel_off rfl).trans rfl
              replace ha := Aside0.mk ha
              have HBi := Aside0.mk Q_HBi
              have hc_ := (HBi.out.cell (World.block_lt_of_cell? _ _ HX.out)).trans HX.out
              refine value_ (w1 := w') (v := .int .i64 xa) (by rfl) rfl ?_ ?_
              · go_simp
                (try simp only [i64_w])
                try rfl
              refine hK.out _ _ ⟨g21, g29, g7, m0_, m6_, m8_, m15_, m29_, (by rw [ha.out]; exact putSel_upk 6 hb_ rfl rfl rfl), Q_HBi, Q_L21, Q_L29, Q_BP, Q_HG7, fun h0_ => absurd ((hoff 30 (by kernel_rfl)).symm.trans h0_) (by decide), Q_X0_, Q_X6_, Q_X8_, fun h0_ => absurd ((hoff 15 (by kernel_rfl)).symm.trans h0_) (by decide), Q_X29_⟩
            refine steps_cons ?_ ?_
            · rintro b a w' ⟨g21, g29, g7, m0_, m6_, m8_, m15_, m29_, ha, Q_HBi, Q_L21, Q_L29, Q_BP, Q_HG7, Q_BPF, Q_X0_, Q_X6_, Q_X8_, Q_X15_, Q_X29_⟩ hb_ hon hoff
              refine ⟨_, rfl, fun K hK => ?_⟩
              have e33 : a.tmps[33]? = some (.int .i64 xa) := by rw [ha]; exact putSel_on (e := (12, 33, .int .i64 xa)) 6 rfl rfl (hon 12 (by kernel_rfl)) rfl
              replace ha := Aside0.mk ha
              have HBi := Aside0.mk Q_HBi
              refine value_ (w1 := w') (v := .int .i64 (wrap64 (Int.tdiv xa 5))) (by rfl) rfl ?_ ?_
              · go_simp
                (try simp only [i64_w])
                try rfl
              refine hK.out _ _ ⟨g21, g29, g7, m0_, m6_, m8_, m15_, m29_, (by rw [ha.out]; exact putSel_upk 7 hb_ rfl rfl rfl), Q_HBi, Q_L21, Q_L29, Q_BP, Q_HG7, fun h0_ => absurd ((hoff 30 (by kernel_rfl)).symm.trans h0_) (by decide), Q_X0_, Q_X6_, Q_X8_, fun h0_ => absurd ((hoff 15 (by kernel_rfl)).symm.trans h0_) (by decide), Q_X29_⟩
            refine steps_cons ?_ ?_
            · rintro b a w' ⟨g21, g29, g7, m0_, m6_, m8_, m15_, m29_, ha, Q_HBi, Q_L21, Q_L29, Q_BP, Q_HG7, Q_BPF, Q_X0_, Q_X6_, Q_X8_, Q_X15_, Q_X29_⟩ hb_ hon hoff
              refine ⟨_, rfl, fun K hK => ?_⟩
              have e34 : a.tmps[34]? = some (.int .i64 (wrap64 (Int.tdiv xa 5))) := by rw [ha]; exact putSel_on (e := (13, 34, .int .i64 (wrap64 (Int.tdiv xa 5)))) 7 rfl rfl (hon 13 (by kernel_rfl)) rfl
              replace ha := Aside0.mk ha
              have HBi := Aside0.mk Q_HBi
              refine goes_ Try.func22 (by kernel_rfl) rfl #[.int .i64 (wrap64 (Int.tdiv xa 5)), .int .i64 3] (by rfl) rfl rfl (by first | (simp only [List.map_toArray, List.map_cons, List.map_nil, Act.eval, Array.getD_eq_getD_getElem?, Option.getD_some, e34]; done) | (simp only [List.map_toArray, List.map_cons, List.map_nil, Act.eval, Array.getD_eq_getD_getElem?, Option.getD_some, e34]; rfl)) ?_
              with_reducible refine (bobbinetkeep_Picked.calls _ _ _ _ P3.out).mono ?_
              rintro e w3 ⟨rfl, ⟨nd, rfl⟩⟩
              refine ⟨_, rfl, ?_⟩
              refine hK.out _ _ ⟨g21, g29, g7, m0_, m6_, m8_, m15_, m29_, (by rw [ha.out]; exact putSel_upk 8 hb_ rfl rfl rfl), pw_below_drewN HBi.out _, fun h0_ h1_ => blk_drewN (Q_L21 h0_ h1_) _, fun h0_ h1_ => blk_drewN (Q_L29 h0_ h1_) _, fun h0_ h1_ => blk_drewN (Q_BP h0_ h1_) _, fun h0_ => (Q_HG7 h0_), fun h0_ => absurd ((hoff 30 (by kernel_rfl)).symm.trans h0_) (by decide), Q_X0_, Q_X6_, Q_X8_, fun h0_ => absurd ((hoff 15 (by kernel_rfl)).symm.trans h0_) (by decide), Q_X29_⟩
            refine steps_cons ?_ ?_
            · rintro b a w' ⟨g21, g29, g7, m0_, m6_, m8_, m15_, m29_, ha, Q_HBi, Q_L21, Q_L29, Q_BP, Q_HG7, Q_BPF, Q_X0_, Q_X6_, Q_X8_, Q_X15_, Q_X29_⟩ hb_ hon hoff
              refine ⟨_, rfl, fun K hK => ?_⟩
              have e29 : a.tmps[29]? = some (m8_) := by rw [ha]; exact putSel_on (e := (8, 29, m8_)) 5 rfl rfl (hon 8 (by kernel_rfl)) rfl
              rw [Q_X8_ (hon 8 (by kernel_rfl))] at e29
              have e35 : a.tmps[35]? = some (.int .i64 (t3 : Int)) := by rw [ha]; exact putSel_on (e := (14, 35, .int .i64 (t3 : Int))) 8 rfl rfl (hon 14 (by kernel_rfl)) rfl
              replace ha := Aside0.mk ha
              have HBi := Aside0.mk Q_HBi
              have L29 := Aside0.mk (Q_L29 (hon 8 (by kernel_rfl)) (hoff 30 (by kernel_rfl)))
              refine value_ (w1 := w') (v := .pointer (some ⟨g29, t3, none⟩)) (by rfl) rfl ?_ ?_
              · go_simp
                (try simp only [i64_w])
                try rfl
              refine hK.out _ _ ⟨g21, g29, g7, m0_, m6_, m8_, (.pointer (some ⟨g29, t3, none⟩)), m29_, (by rw [ha.out]; exact putSel_upk 9 hb_ rfl rfl rfl), Q_HBi, Q_L21, Q_L29, Q_BP, Q_HG7, fun h0_ => absurd ((hoff 30 (by kernel_rfl)).symm.trans h0_) (by decide), Q_X0_, Q_X6_, Q_X8_, fun _ => rfl, Q_X29_⟩
            refine steps_cons ?_ ?_
            · rintro b a w' ⟨g21, g29, g7, m0_, m6_, m8_, m15_, m29_, ha, Q_HBi, Q_L21, Q_L29, Q_BP, Q_HG7, Q_BPF, Q_X0_, Q_X6_, Q_X8_, Q_X15_, Q_X29_⟩ hb_ hon hoff
              refine ⟨_, rfl, fun K hK => ?_⟩
              have e36 : a.tmps[36]? = some (m15_) := by rw [ha]; exact putSel_on (e := (15, 36, m15_)) 9 rfl rfl (hon 15 (by kernel_rfl)) rfl
              rw [Q_X15_ (hon 15 (by kernel_rfl))] at e36
              replace ha := Aside0.mk ha
              have HBi := Aside0.mk Q_HBi
              have L29 := Aside0.mk (Q_L29 (hon 8 (by kernel_rfl)) (hoff 30 (by kernel_rfl)))
              have hc_ := blk_cell L29.out t3
              simp only [List.getElem?_toArray] at hc_
              rw [hT3] at hc_
              refine value_ (w1 := w') (v := .string p1) (by rfl) rfl ?_ ?_
              · go_simp
                (try simp only [i64_w])
                try rfl
              refine hK.out _ _ ⟨g21, g29, g7, m0_, m6_, m8_, m15_, m29_, (by rw [ha.out]; exact putSel_upk 10 hb_ rfl rfl rfl), Q_HBi, Q_L21, Q_L29, Q_BP, Q_HG7, fun h0_ => absurd ((hoff 30 (by kernel_rfl)).symm.trans h0_) (by decide), Q_X0_, Q_X6_, Q_X8_, Q_X15_, Q_X29_⟩
            refine steps_cons ?_ ?_
            · rintro b a w' ⟨g21, g29, g7, m0_, m6_, m8_, m15_, m29_, ha, Q_HBi, Q_L21, Q_L29, Q_BP, Q_HG7, Q_BPF, Q_X0_, Q_X6_, Q_X8_, Q_X15_, Q_X29_⟩ hb_ hon hoff
              refine ⟨_, rfl, fun K hK => ?_⟩
              have e39 : a.tmps[39]? = some (.bool true) := by rw [ha]; exact (putSel_off rfl).trans rfl
              replace ha := Aside0.mk ha
              have HBi := Aside0.mk Q_HBi
              refine value_ (w1 := w') (v := .bool true) (by rfl) rfl ?_ ?_
              · go_simp
                (try simp only [i64_w])
                try rfl
              refine hK.out _ _ ⟨g21, g29, g7, m0_, m6_, m8_, m15_, m29_, (by rw [ha.out]; exact putSel_upk 11 hb_ rfl rfl rfl), Q_HBi, Q_L21, Q_L29, Q_BP, Q_HG7, fun h0_ => absurd ((hoff 30 (by kernel_rfl)).symm.trans h0_) (by decide), Q_X0_, Q_X6_, Q_X8_, Q_X15_, Q_X29_⟩
            refine steps_cons ?_ ?_
            · rintro b a w' ⟨g21, g29, g7, m0_, m6_, m8_, m15_, m29_, ha, Q_HBi, Q_L21, Q_L29, Q_BP, Q_HG7, Q_BPF, Q_X0_, Q_X6_, Q_X8_, Q_X15_, Q_X29_⟩ hb_ hon hoff
              refine ⟨_, rfl, fun K hK => ?_⟩
              have e40 : a.tmps[40]? = some (.bool true) := by rw [ha]; exact putSel_on (e := (19, 40, .bool true)) 11 rfl rfl (hon 19 (by kernel_rfl)) rfl
              replace ha := Aside0.mk ha
              have HBi := Aside0.mk Q_HBi
              refine off_ (wanted_off rfl rfl rfl (e40.trans (by first | rfl | (simp [*]; done)))) ?_
              refine hK.out _ _ ⟨g21, g29, g7, m0_, m6_, m8_, m15_, m29_, (by rw [ha.out]; exact putSel_upk 12 hb_ rfl rfl rfl), Q_HBi, Q_L21, Q_L29, Q_BP, Q_HG7, fun h0_ => absurd ((hoff 30 (by kernel_rfl)).symm.trans h0_) (by decide), Q_X0_, Q_X6_, Q_X8_, Q_X15_, Q_X29_⟩
            refine steps_cons ?_ ?_
            · rintro b a w' ⟨g21, g29, g7, m0_, m6_, m8_, m15_, m29_, ha, Q_HBi, Q_L21, Q_L29, Q_BP, Q_HG7, Q_BPF, Q_X0_, Q_X6_, Q_X8_, Q_X15_, Q_X29_⟩ hb_ hon hoff
              refine ⟨_, rfl, fun K hK => ?_⟩
              have e40 : a.tmps[40]? = some (.bool true) := by rw [ha]; exact putSel_on (e := (19, 40, .bool true)) 11 rfl rfl (hon 19 (by kernel_rfl)) rfl
              replace ha := Aside0.mk ha
              have HBi := Aside0.mk Q_HBi
              refine off_ (wanted_off rfl rfl rfl (e40.trans (by first | rfl | (simp [*]; done)))) ?_
              refine hK.out _ _ ⟨g21, g29, g7, m0_, m6_, m8_, m15_, m29_, (by rw [ha.out]; exact putSel_upk 13 hb_ rfl rfl rfl), Q_HBi, Q_L21, Q_L29, Q_BP, Q_HG7, fun h0_ => absurd ((hoff 30 (by kernel_rfl)).symm.trans h0_) (by decide), Q_X0_, Q_X6_, Q_X8_, Q_X15_, Q_X29_⟩
            refine steps_cons ?_ ?_
            · rintro b a w' ⟨g21, g29, g7, m0_, m6_, m8_, m15_, m29_, ha, Q_HBi, Q_L21, Q_L29, Q_BP, Q_HG7, Q_BPF, Q_X0_, Q_X6_, Q_X8_, Q_X15_, Q_X29_⟩ hb_ hon hoff
              refine ⟨_, rfl, fun K hK => ?_⟩
              have e40 : a.tmps[40]? = some (.bool true) := by rw [ha]; exact putSel_on (e := (19, 40, .bool true)) 11 rfl rfl (hon 19 (by kernel_rfl)) rfl
              replace ha := Aside0.mk ha
              have HBi := Aside0.mk Q_HBi
              refine off_ (wanted_off rfl rfl rfl (e40.trans (by first | rfl | (simp [*]; done)))) ?_
              refine hK.out _ _ ⟨g21, g29, g7, m0_, m6_, m8_, m15_, m29_, (by rw [ha.out]; exact putSel_upk 14 hb_ rfl rfl rfl), Q_HBi, Q_L21, Q_L29, Q_BP, Q_HG7, fun h0_ => absurd ((hoff 30 (by kernel_rfl)).symm.trans h0_) (by decide), Q_X0_, Q_X6_, Q_X8_, Q_X15_, Q_X29_⟩
            refine steps_cons ?_ ?_
            · rintro b a w' ⟨g21, g29, g7, m0_, m6_, m8_, m15_, m29_, ha, Q_HBi, Q_L21, Q_L29, Q_BP, Q_HG7, Q_BPF, Q_X0_, Q_X6_, Q_X8_, Q_X15_, Q_X29_⟩ hb_ hon hoff
              refine ⟨_, rfl, fun K hK => ?_⟩
              have e40 : a.tmps[40]? = some (.bool true) := by rw [ha]; exact putSel_on (e := (19, 40, .bool true)) 11 rfl rfl (hon 19 (by kernel_rfl)) rfl
              replace ha := Aside0.mk ha
              have HBi := Aside0.mk Q_HBi
              have hc_ := (HBi.out.cell (World.block_lt_of_cell? _ _ HX.out)).trans HX.out
              refine off_ (wanted_off rfl rfl rfl (e40.trans (by first | rfl | (simp [*]; done)))) ?_
              refine hK.out _ _ ⟨g21, g29, g7, m0_, m6_, m8_, m15_, m29_, (by rw [ha.out]; exact putSel_upk 15 hb_ rfl rfl rfl), Q_HBi, Q_L21, Q_L29, Q_BP, Q_HG7, fun h0_ => absurd ((hoff 30 (by kernel_rfl)).symm.trans h0_) (by decide), Q_X0_, Q_X6_, Q_X8_, Q_X15_, Q_X29_⟩
            refine steps_cons ?_ ?_
            · rintro b a w' ⟨g21, g29, g7, m0_, m6_, m8_, m15_, m29_, ha, Q_HBi, Q_L21, Q_L29, Q_BP, Q_HG7, Q_BPF, Q_X0_, Q_X6_, Q_X8_, Q_X15_, Q_X29_⟩ hb_ hon hoff
              refine ⟨_, rfl, fun K hK => ?_⟩
              have e40 : a.tmps[40]? = some (.bool true) := by rw [ha]; exact putSel_on (e := (19, 40, .bool true)) 11 rfl rfl (hon 19 (by kernel_rfl)) rfl
              replace ha := Aside0.mk ha
              have HBi := Aside0.mk Q_HBi
              refine off_ (wanted_off rfl rfl rfl (e40.trans (by first | rfl | (simp [*]; done)))) ?_
              refine hK.out _ _ ⟨g21, g29, g7, m0_, m6_, m8_, m15_, m29_, (by rw [ha.out]; exact putSel_upk 16 hb_ rfl rfl rfl), Q_HBi, Q_L21, Q_L29, Q_BP, Q_HG7, fun h0_ => absurd ((hoff 30 (by kernel_rfl)).symm.trans h0_) (by decide), Q_X0_, Q_X6_, Q_X8_, Q_X15_, Q_X29_⟩
            refine steps_cons ?_ ?_
            · rintro b a w' ⟨g21, g29, g7, m0_, m6_, m8_, m15_, m29_, ha, Q_HBi, Q_L21, Q_L29, Q_BP, Q_HG7, Q_BPF, Q_X0_, Q_X6_, Q_X8_, Q_X15_, Q_X29_⟩ hb_ hon hoff
              refine ⟨_, rfl, fun K hK => ?_⟩
              have e40 : a.tmps[40]? = some (.bool true) := by rw [ha]; exact putSel_on (e := (19, 40, .bool true)) 11 rfl rfl (hon 19 (by kernel_rfl)) rfl
              replace ha := Aside0.mk ha
              have HBi := Aside0.mk Q_HBi
              refine off_ (wanted_off rfl rfl rfl (e40.trans (by first | rfl | (simp [*]; done)))) ?_
              refine hK.out _ _ ⟨g21, g29, g7, m0_, m6_, m8_, m15_, m29_, (by rw [ha.out]; exact putSel_upk 17 hb_ rfl rfl rfl), Q_HBi, Q_L21, Q_L29, Q_BP, Q_HG7, fun h0_ => absurd ((hoff 30 (by kernel_rfl)).symm.trans h0_) (by decide), Q_X0_, Q_X6_, Q_X8_, Q_X15_, Q_X29_⟩
            refine steps_cons ?_ ?_
            · rintro b a w' ⟨g21, g29, g7, m0_, m6_, m8_, m15_, m29_, ha, Q_HBi, Q_L21, Q_L29, Q_BP, Q_HG7, Q_BPF, Q_X0_, Q_X6_, Q_X8_, Q_X15_, Q_X29_⟩ hb_ hon hoff
              refine ⟨_, rfl, fun K hK => ?_⟩
              have e40 : a.tmps[40]? = some (.bool true) := by rw [ha]; exact putSel_on (e := (19, 40, .bool true)) 11 rfl rfl (hon 19 (by kernel_rfl)) rfl
              replace ha := Aside0.mk ha
              have HBi := Aside0.mk Q_HBi
              refine off_ (wanted_off rfl rfl rfl (e40.trans (by first | rfl | (simp [*]; done)))) ?_
              refine hK.out _ _ ⟨g21, g29, g7, m0_, m6_, m8_, m15_, m29_, (by rw [ha.out]; exact putSel_upk 18 hb_ rfl rfl rfl), Q_HBi, Q_L21, Q_L29, Q_BP, Q_HG7, fun h0_ => absurd ((hoff 30 (by kernel_rfl)).symm.trans h0_) (by decide), Q_X0_, Q_X6_, Q_X8_, Q_X15_, Q_X29_⟩
            refine steps_cons ?_ ?_
            · rintro b a w' ⟨g21, g29, g7, m0_, m6_, m8_, m15_, m29_, ha, Q_HBi, Q_L21, Q_L29, Q_BP, Q_HG7, Q_BPF, Q_X0_, Q_X6_, Q_X8_, Q_X15_, Q_X29_⟩ hb_ hon hoff
              refine ⟨_, rfl, fun K hK => ?_⟩
              have e40 : a.tmps[40]? = some (.bool true) := by rw [ha]; exact putSel_on (e := (19, 40, .bool true)) 11 rfl rfl (hon 19 (by kernel_rfl)) rfl
              have e47 : a.tmps[47]? = some (undef) := by rw [ha]; exact putSel_on (e := (26, 47, undef)) 18 rfl rfl (hon 26 (by kernel_rfl)) rfl
              replace ha := Aside0.mk ha
              have HBi := Aside0.mk Q_HBi
              refine value_ (w1 := w') (v := .bool true) (by rfl) rfl ?_ ?_
              · go_simp
                (try simp only [i64_w])
                try rfl
              refine hK.out _ _ ⟨g21, g29, g7, m0_, m6_, m8_, m15_, m29_, (by rw [ha.out]; exact putSel_upk 19 hb_ rfl rfl rfl), Q_HBi, Q_L21, Q_L29, Q_BP, Q_HG7, fun h0_ => absurd ((hoff 30 (by kernel_rfl)).symm.trans h0_) (by decide), Q_X0_, Q_X6_, Q_X8_, Q_X15_, Q_X29_⟩
            refine steps_cons ?_ ?_
            · rintro b a w' ⟨g21, g29, g7, m0_, m6_, m8_, m15_, m29_, ha, Q_HBi, Q_L21, Q_L29, Q_BP, Q_HG7, Q_BPF, Q_X0_, Q_X6_, Q_X8_, Q_X15_, Q_X29_⟩ hb_ hon hoff
              refine ⟨_, rfl, fun K hK => ?_⟩
              have e28 : a.tmps[28]? = some (.string p0) := by rw [ha]; exact putSel_on (e := (7, 28, .string p0)) 4 rfl rfl (hon 7 (by kernel_rfl)) rfl
              have e37 : a.tmps[37]? = some (.string p1) := by rw [ha]; exact putSel_on (e := (16, 37, .string p1)) 10 rfl rfl (hon 16 (by kernel_rfl)) rfl
              have e48 : a.tmps[48]? = some (.bool true) := by rw [ha]; exact putSel_on (e := (27, 48, .bool true)) 19 rfl rfl (hon 27 (by kernel_rfl)) rfl
              replace ha := Aside0.mk ha
              have HBi := Aside0.mk Q_HBi
              have L21 := Aside0.mk (Q_L21 (hon 0 (by kernel_rfl)) (hoff 30 (by kernel_rfl)))
              have L29 := Aside0.mk (Q_L29 (hon 8 (by kernel_rfl)) (hoff 30 (by kernel_rfl)))
              refine value_ (w1 := w') (v := .agg #[.string p0, .string p1, .bool true]) (by rfl) rfl ?_ ?_
              · go_simp
                (try simp only [i64_w])
                try rfl
              refine hK.out _ _ ⟨g21, g29, g7, m0_, m6_, m8_, m15_, m29_, (by rw [ha.out]; exact putSel_upk 20 hb_ rfl rfl rfl), Q_HBi, Q_L21, Q_L29, Q_BP, Q_HG7, fun h0_ => absurd ((hoff 30 (by kernel_rfl)).symm.trans h0_) (by decide), Q_X0_, Q_X6_, Q_X8_, Q_X15_, Q_X29_⟩
            refine steps_cons ?_ ?_
            · rintro b a w' ⟨g21, g29, g7, m0_, m6_, m8_, m15_, m29_, ha, Q_HBi, Q_L21, Q_L29, Q_BP, Q_HG7, Q_BPF, Q_X0_, Q_X6_, Q_X8_, Q_X15_, Q_X29_⟩ hb_ hon hoff
              refine ⟨_, rfl, fun K hK => ?_⟩
              replace ha := Aside0.mk ha
              have HBi := Aside0.mk Q_HBi
              refine value_ (w1 := w'.alloc (.cells #[.string (⟨#[]⟩ : ByteArray), .string (⟨#[]⟩ : ByteArray), .bool false] 61)) (v := .pointer (some ⟨w'.heap.size, 0, none⟩)) (by rfl) rfl ?_ ?_
              · go_simp
                try rfl
              refine hK.out _ _ ⟨g21, g29, w'.heap.size, m0_, m6_, m8_, m15_, (.pointer (some ⟨w'.heap.size, 0, none⟩)), (by rw [ha.out]; exact putSel_upk 21 hb_ rfl rfl rfl), HBi.out.alloc HBi.out.size _, fun h0_ h1_ => blk_alloc (Q_L21 h0_ h1_) _, fun h0_ h1_ => blk_alloc (Q_L29 h0_ h1_) _, fun _ _ => blk_new w' _, fun _ => HBi.out.size, fun h0_ => absurd ((hoff 30 (by kernel_rfl)).symm.trans h0_) (by decide), Q_X0_, Q_X6_, Q_X8_, Q_X15_, fun _ => rfl⟩
            refine steps_cons ?_ ?_
            · rintro b a w' ⟨g21, g29, g7, m0_, m6_, m8_, m15_, m29_, ha, Q_HBi, Q_L21, Q_L29, Q_BP, Q_HG7, Q_BPF, Q_X0_, Q_X6_, Q_X8_, Q_X15_, Q_X29_⟩ hb_ hon hoff
              refine ⟨_, rfl, fun K hK => ?_⟩
              have e7 : a.tmps[7]? = some (m29_) := by rw [ha]; exact putSel_on (e := (29, 7, m29_)) 21 rfl rfl (hon 29 (by kernel_rfl)) rfl
              rw [Q_X29_ (hon 29 (by kernel_rfl))] at e7
              have e49 : a.tmps[49]? = some (.agg #[.string p0, .string p1, .bool true]) := by rw [ha]; exact putSel_on (e := (28, 49, .agg #[.string p0, .string p1, .bool true])) 20 rfl rfl (hon 28 (by kernel_rfl)) rfl
              replace ha := Aside0.mk ha
              have HBi := Aside0.mk Q_HBi
              have L21 := Aside0.mk (Q_L21 (hon 0 (by kernel_rfl)) hb_)
              have L29 := Aside0.mk (Q_L29 (hon 8 (by kernel_rfl)) hb_)
              have BP := Aside0.mk (Q_BP (hon 29 (by kernel_rfl)) hb_)
              have HG7 := Aside0.mk (Q_HG7 (hon 29 (by kernel_rfl)))
              have hc0_ := blk_cell BP.out 0
              have hc1_ := blk_cell BP.out 1
              have hc2_ := blk_cell BP.out 2
              simp only [List.getElem?_toArray, List.getElem?_cons_zero, List.getElem?_cons_succ] at hc0_ hc1_ hc2_
              have hf0_ := blk_frozen BP.out 0
              have hf1_ := blk_frozen BP.out 1
              have hf2_ := blk_frozen BP.out 2
              refine skip_ (w1 := ((w'.setCell ⟨g7, 0, none⟩ (.string p0)).setCell ⟨g7, 1, none⟩ (.string p1)).setCell ⟨g7, 2, none⟩ (.bool true)) (by rfl) rfl ?_ ?_
              · go_simp
                try rfl
              refine hK.out _ _ ⟨g21, g29, g7, m0_, m6_, m8_, m15_, m29_, (by rw [ha.out]; exact putSel_none (v := undef) rfl), ((HBi.out.setCell HG7.out _).setCell HG7.out _).setCell HG7.out _, fun _ h1_ => absurd ((up_self b 30).symm.trans h1_) (by decide), fun _ h1_ => absurd ((up_self b 30).symm.trans h1_) (by decide), fun _ h1_ => absurd ((up_self b 30).symm.trans h1_) (by decide), fun _ => HG7.out, fun _ => blk_put (blk_put (blk_put BP.out 0 _ rfl) 1 _ rfl) 2 _ rfl, Q_X0_, Q_X6_, Q_X8_, Q_X15_, Q_X29_⟩
            exact steps_nil
          · rintro b a w' hall ⟨g21, g29, g7, m0_, m6_, m8_, m15_, m29_, ha, Q_HBi, Q_L21, Q_L29, Q_BP, Q_HG7, Q_BPF, Q_X0_, Q_X6_, Q_X8_, Q_X15_, Q_X29_⟩
            clear HBi
            have hb0_ := hall 0 (by kernel_rfl)
            have hb4_ := hall 4 (by kernel_rfl)
            have hb5_ := hall 5 (by kernel_rfl)
            have hb6_ := hall 6 (by kernel_rfl)
            have hb7_ := hall 7 (by kernel_rfl)
            have hb8_ := hall 8 (by kernel_rfl)
            have hb12_ := hall 12 (by kernel_rfl)
            have hb13_ := hall 13 (by kernel_rfl)
            have hb14_ := hall 14 (by kernel_rfl)
            have hb15_ := hall 15 (by kernel_rfl)
            have hb16_ := hall 16 (by kernel_rfl)
            have hb19_ := hall 19 (by kernel_rfl)
            have hb20_ := hall 20 (by kernel_rfl)
            have hb21_ := hall 21 (by kernel_rfl)
            have hb22_ := hall 22 (by kernel_rfl)
            have hb23_ := hall 23 (by kernel_rfl)
            have hb24_ := hall 24 (by kernel_rfl)
            have hb25_ := hall 25 (by kernel_rfl)
            have hb26_ := hall 26 (by kernel_rfl)
            have hb27_ := hall 27 (by kernel_rfl)
            have hb28_ := hall 28 (by kernel_rfl)
            have hb29_ := hall 29 (by kernel_rfl)
            have hb30_ := hall 30 (by kernel_rfl)
            subst ha
            obtain rfl := Q_X0_ hb0_
            obtain rfl := Q_X6_ hb6_
            obtain rfl := Q_X8_ hb8_
            obtain rfl := Q_X15_ hb15_
            obtain rfl := Q_X29_ hb29_
            simp only [putSel, hb0_, hb4_, hb5_, hb6_, hb7_, hb8_, hb12_, hb13_, hb14_, hb15_, hb16_, hb19_, hb20_, hb21_, hb22_, hb23_, hb24_, hb25_, hb26_, hb27_, hb28_, hb29_, hb30_, if_true, Act.put, List.setIfInBounds_toArray, List.set_cons_zero, List.set_cons_succ]
            have HBi := Aside0.mk Q_HBi
            clear Q_HBi
            clear Q_L21
            clear Q_L29
            clear Q_BP
            have HG7 := Aside0.mk (Q_HG7 hb29_)
            clear Q_HG7
            have BPF := Aside0.mk (Q_BPF hb30_)
            clear Q_BPF
            clear hall hb0_ hb4_ hb5_ hb6_ hb7_ hb8_ hb12_ hb13_ hb14_ hb15_ hb16_ hb19_ hb20_ hb21_ hb22_ hb23_ hb24_ hb25_ hb26_ hb27_ hb28_ hb29_ hb30_
            go_upto_region 6 with (fail)
            refine bobbinetkeep_Picks.pack (fun W => W.heap[g7]? = some (.cells #[.string p0, .string p1, .bool true] 61 (0, 0)) ∧ Below w.heap.size w W) ⟨BPF.out, HB.out.trans (HBi.out.mono HWS.out)⟩ ?_
            clear BPF HBi HG7 HX HS HB
            rintro W8 ⟨b1, b2⟩
            have BP := Aside0.mk b1
            have HB := Aside0.mk b2
            have hc0 := blk_cell b1 0
            have hc1 := blk_cell b1 1
            have hc2 := blk_cell b1 2
            simp only [List.getElem?_toArray, List.getElem?_cons_zero, List.getElem?_cons_succ] at hc0 hc1 hc2
            clear b1 b2
            go_wp2_with (at_builtin; refine Kd.R_append k61 (w0 := w) w.heap.size rfl (.tmp 52) (.tmp 54) 56 61 (.agg #[(.string ⟨#[]⟩), (.string ⟨#[]⟩), (.bool false)]) 40 rfl Try.underlying56 info61 rfl (by decide) (by omega) (.slice none 0 0) [] (⟨p0, p1, true⟩ : S61) [.string p0, .string p1, .bool true] (fun _ => True) (fun _ => False) rfl (by first | (go_simp; done) | (go_simp; rfl)) (k61_mkM _ _ _ (⟨p0, p1, true⟩ : S61)) (fun _ hk => hk.elim) (fun _ _ => trivial) (Kd.R_nil _ _ _ _ _) HB.out HB.out.size (by simp) ?_; intro v9 w9 ho hb hg hat; have O1 := Aside0.mk ho; have B1 := Aside0.mk hb; clear ho hb hg hat)
            go_roundw
            case rel => exact ⟨1, by first | rfl | go_num | simp, ⟨by have := HII.out; omega⟩, ⟨by have := HIN.out; omega⟩, ⟨by have h1 := O1.out; have h2 := HONE.out; simp only [decide_true, Bool.true_or] at h2; rw [← h2, bobbinetkeep_Picks.pre_zero l0 xa HRD.out] at h1; exact h1⟩, B1⟩
            case measure => have := HII.out; simp [intOf]; omega
        · have n1 : ((i : Int) == 0) = false := beq_eq_false_iff_ne.mpr (by omega)
          have n2 : (i == 0) = false := beq_eq_false_iff_ne.mpr iz
          have n3 : (i = 0) = False := eq_false iz
          have n4 : decide ((i : Int) = 0) = false := decide_eq_false (by omega)
          have HX := Aside0.mk hx
          have HIZ := Aside0.mk iz
          clear iz
          go_upto_region 5 with (fail)
          refine bobbinetkeep_Picks.pack (fun W => W = W0) rfl ?_
          rintro W1 rfl
          clear hx
          refine start_ (n := 31) (S := fun w' => True) (ds := []) #[false, false, false, false, false, false, false, false, false, false, false, false, false, false, false, false, false, false, false, false, false, false, false, false, false, false, false, false, false, false, false] (by kernel_rfl) rfl rfl trivial (fun hHeld => ?_)
          refine with_tabW bobbinetkeep_Picks.rPicks5b.tab5 bobbinetkeep_Picks.rPicks5b.bits5 (fun HT_ HW_ => ?_)
          have HBi := Aside0.mk (below_drew (Below.refl W1.heap.size W1))
          generalize World.drew W1 = W2 at HBi ⊢
          refine pure_ (i := 1) (N := some 22) (v := ?_) (a' := ?_) #[false, true, false, false, false, false, false, false, false, false, false, false, false, false, false, false, false, false, false, false, false, false, false, false, false, false, false, false, false, false, false] rfl rfl (any_of HT_.out (by kernel_rfl)) (fun _ _ _ h => h) (Or.inl ⟨by rfl, ?_⟩) ?_ ?_
          rotate_left
          · intro w'
            go_simp
            with_reducible rfl
          rotate_left
          · simp only [Act.put, List.setIfInBounds_toArray, List.set_cons_zero, List.set_cons_succ, i64_w, i32_w]
            rfl
          refine pure_ (i := 2) (N := some 23) (v := ?_) (a' := ?_) #[false, true, true, false, false, false, false, false, false, false, false, false, false, false, false, false, false, false, false, false, false, false, false, false, false, false, false, false, false, false, false] rfl rfl (any_of HT_.out (by kernel_rfl)) (fun _ _ _ h => h) (Or.inl ⟨by rfl, ?_⟩) ?_ ?_
          rotate_left
          · intro w'
            go_simp
            with_reducible rfl
          rotate_left
          · simp only [Act.put, List.setIfInBounds_toArray, List.set_cons_zero, List.set_cons_succ, i64_w, i32_w]
            rfl
          refine pure_ (i := 3) (N := some 24) (v := ?_) (a' := ?_) #[false, true, true, true, false, false, false, false, false, false, false, false, false, false, false, false, false, false, false, false, false, false, false, false, false, false, false, false, false, false, false] rfl rfl (any_of HT_.out (by kernel_rfl)) (fun _ _ _ h => h) (Or.inl ⟨by rfl, ?_⟩) ?_ ?_
          rotate_left
          · intro w'
            go_simp
            with_reducible rfl
          rotate_left
          · simp only [Act.put, List.setIfInBounds_toArray, List.set_cons_zero, List.set_cons_succ, i64_w, i32_w]
            rfl
          refine pure_ (i := 9) (N := some 30) (v := ?_) (a' := ?_) #[false, true, true, true, false, false, false, false, false, true, false, false, false, false, false, false, false, false, false, false, false, false, false, false, false, false, false, false, false, false, false] rfl rfl (any_of HT_.out (by kernel_rfl)) (fun _ _ _ h => h) (Or.inl ⟨by rfl, ?_⟩) ?_ ?_
          rotate_left
          · intro w'
            go_simp
            with_reducible rfl
          rotate_left
          · simp only [Act.put, List.setIfInBounds_toArray, List.set_cons_zero, List.set_cons_succ, i64_w, i32_w]
            rfl
          refine pure_ (i := 10) (N := some 31) (v := ?_) (a' := ?_) #[false, true, true, true, false, false, false, false, false, true, true, false, false, false, false, false, false, false, false, false, false, false, false, false, false, false, false, false, false, false, false] rfl rfl (any_of HT_.out (by kernel_rfl)) (fun _ _ _ h => h) (Or.inl ⟨by rfl, ?_⟩) ?_ ?_
          rotate_left
          · intro w'
            go_simp
            with_reducible rfl
          rotate_left
          · simp only [Act.put, List.setIfInBounds_toArray, List.set_cons_zero, List.set_cons_succ, i64_w, i32_w]
            rfl
          refine pure_ (i := 11) (N := some 32) (v := ?_) (a' := ?_) #[false, true, true, true, false, false, false, false, false, true, true, true, false, false, false, false, false, false, false, false, false, false, false, false, false, false, false, false, false, false, false] rfl rfl (any_of HT_.out (by kernel_rfl)) (fun _ _ _ h => h) (Or.inl ⟨by rfl, ?_⟩) ?_ ?_
          rotate_left
          · intro w'
            go_simp
            with_reducible rfl
          rotate_left
          · simp only [Act.put, List.setIfInBounds_toArray, List.set_cons_zero, List.set_cons_succ, i64_w, i32_w]
            rfl
          refine pure_ (i := 17) (N := some 38) (v := ?_) (a' := ?_) #[false, true, true, true, false, false, false, false, false, true, true, true, false, false, false, false, false, true, false, false, false, false, false, false, false, false, false, false, false, false, false] rfl rfl (any_of HT_.out (by kernel_rfl)) (fun _ _ _ h => h) (Or.inl ⟨by rfl, ?_⟩) ?_ ?_
          rotate_left
          · intro w'
            go_simp
            with_reducible rfl
          rotate_left
          · simp only [Act.put, List.setIfInBounds_toArray, List.set_cons_zero, List.set_cons_succ, i64_w, i32_w]
            rfl
          refine pure_ (i := 18) (N := some 39) (v := ?_) (a' := ?_) #[false, true, true, true, false, false, false, false, false, true, true, true, false, false, false, false, false, true, true, false, false, false, false, false, false, false, false, false, false, false, false] rfl rfl (any_of HT_.out (by kernel_rfl)) (fun _ _ _ h => h) (Or.inl ⟨by rfl, ?_⟩) ?_ ?_
          rotate_left
          · intro w'
            go_simp
            with_reducible rfl
          rotate_left
          · simp only [Act.put, List.setIfInBounds_toArray, List.set_cons_zero, List.set_cons_succ, i64_w, i32_w]
            rfl
          refine inv_at [0, 4, 5, 6, 7, 8, 12, 13, 14, 15, 16, 19, 20, 21, 22, 23, 24, 25, 26, 27, 28, 29, 30] (fun a0_ b a w' => ∃ (g21 : Nat) (g29 : Nat) (g7 : Nat) (m0_ : Value) (m6_ : Value) (m8_ : Value) (m15_ : Value) (m29_ : Value), a = putSel a0_ b [(0, 21, m0_), (4, 25, .int .i64 xa), (5, 26, .int .i64 (t5 : Int)), (6, 27, m6_), (7, 28, .string p0), (8, 29, m8_), (12, 33, .int .i64 xa), (13, 34, .int .i64 (wrap64 (Int.tdiv xa 5))), (14, 35, .int .i64 (t3 : Int)), (15, 36, m15_), (16, 37, .string p1), (19, 40, .bool false), (20, 41, .slice (some ax) l0.length c0), (21, 42, .int .i64 (i : Int)), (22, 43, .pointer (some (ax.add i))), (23, 44, .int .i64 xa), (24, 45, .int .i64 (wrap64 (Int.tdiv xa 15))), (25, 46, .int .i64 x2), (26, 47, .bool (x2 == 0)), (27, 48, .bool (x2 == 0)), (28, 49, .agg #[.string p0, .string p1, .bool (x2 == 0)]), (29, 7, m29_)] ∧ (Below W1.heap.size W1 w') ∧ (b 0 = true → b 30 = false → w'.heap[g21]? = some (.cells #[.string (⟨#[]⟩ : ByteArray), .string (⟨#[100, 105, 118]⟩ : ByteArray), .string (⟨#[98]⟩ : ByteArray), .string (⟨#[112]⟩ : ByteArray), .string (⟨#[101, 109]⟩ : ByteArray)] 9 (0, 0))) ∧ (b 8 = true → b 30 = false → w'.heap[g29]? = some (.cells #[.string (⟨#[]⟩ : ByteArray), .string (⟨#[]⟩ : ByteArray), .string (⟨#[104, 114, 101, 102]⟩ : ByteArray)] 9 (0, 0))) ∧ (b 29 = true → b 30 = false → w'.heap[g7]? = some (.cells #[.string (⟨#[]⟩ : ByteArray), .string (⟨#[]⟩ : ByteArray), .bool false] 61 (0, 0))) ∧ (b 29 = true → W1.heap.size ≤ g7) ∧ (b 30 = true → w'.heap[g7]? = some (.cells #[.string p0, .string p1, .bool (x2 == 0)] 61 (0, 0))) ∧ (b 0 = true → (m0_ : Value) = .slice (some ⟨g21, 0, none⟩) 5 5) ∧ (b 6 = true → (m6_ : Value) = .pointer (some ⟨g21, t5, none⟩)) ∧ (b 8 = true → (m8_ : Value) = .slice (some ⟨g29, 0, none⟩) 3 3) ∧ (b 15 = true → (m15_ : Value) = .pointer (some ⟨g29, t3, none⟩)) ∧ (b 29 = true → (m29_ : Value) = .pointer (some ⟨g7, 0, none⟩))) HT_.out HW_.out (by kernel_rfl) (by kernel_rfl) ?_ ?_ ?_
          · exact ⟨0, 0, 0, .bool false, .bool false, .bool false, .bool false, .bool false, by simp only [putSel, Bool.false_eq_true, if_false], HBi.out, fun h_ => absurd h_ (by decide), fun h_ => absurd h_ (by decide), fun h_ => absurd h_ (by decide), fun h_ => absurd h_ (by decide), fun h_ => absurd h_ (by decide), fun h_ => absurd h_ (by decide), fun h_ => absurd h_ (by decide), fun h_ => absurd h_ (by decide), fun h_ => absurd h_ (by decide), fun h_ => absurd h_ (by decide)⟩
          · skip
            clear HBi
            refine steps_cons ?_ ?_
            · rintro b a w' ⟨g21, g29, g7, m0_, m6_, m8_, m15_, m29_, ha, Q_HBi, Q_L21, Q_L29, Q_BP, Q_HG7, Q_BPF, Q_X0_, Q_X6_, Q_X8_, Q_X15_, Q_X29_⟩ hb_ hon hoff
              refine ⟨_, rfl, fun K hK => ?_⟩
              replace ha := Aside0.mk ha
              have HBi := Aside0.mk Q_HBi
              refine value_ (w1 := w'.alloc (.cells #[.string (⟨#[]⟩ : ByteArray), .string (⟨#[100, 105, 118]⟩ : ByteArray), .string (⟨#[98]⟩ : ByteArray), .string (⟨#[112]⟩ : ByteArray), .string (⟨#[101, 109]⟩ : ByteArray)] 9)) (v := .slice (some ⟨w'.heap.size, 0, none⟩) 5 5) (by rfl) rfl ?_ ?_
              · go_simp
                try rfl
              refine hK.out _ _ ⟨w'.heap.size, g29, g7, (.slice (some ⟨w'.heap.size, 0, none⟩) 5 5), m6_, m8_, m15_, m29_, (by rw [ha.out]; exact putSel_upk 0 hb_ rfl rfl rfl), HBi.out.alloc HBi.out.size _, fun _ _ => blk_new w' _, fun h0_ h1_ => blk_alloc (Q_L29 h0_ h1_) _, fun h0_ h1_ => blk_alloc (Q_BP h0_ h1_) _, fun h0_ => (Q_HG7 h0_), fun h0_ => absurd ((hoff 30 (by kernel_rfl)).symm.trans h0_) (by decide), fun _ => rfl, fun h0_ => absurd ((hoff 6 (by kernel_rfl)).symm.trans h0_) (by decide), Q_X8_, Q_X15_, Q_X29_⟩
            refine steps_cons ?_ ?_
            · rintro b a w' ⟨g21, g29, g7, m0_, m6_, m8_, m15_, m29_, ha, Q_HBi, Q_L21, Q_L29, Q_BP, Q_HG7, Q_BPF, Q_X0_, Q_X6_, Q_X8_, Q_X15_, Q_X29_⟩ hb_ hon hoff
              refine ⟨_, rfl, fun K hK => ?_⟩
              have e24 : a.tmps[24]? = some (.pointer (some (ax.add i))) := by rw [ha]; exact (putSel_off rfl).trans rfl
              replace ha := Aside0.mk ha
              have HBi := Aside0.mk Q_HBi
              have hc_ := (HBi.out.cell (World.block_lt_of_cell? _ _ HX.out)).trans HX.out
              refine value_ (w1 := w') (v := .int .i64 xa) (by rfl) rfl ?_ ?_
              · go_simp
                (try simp only [i64_w])
                try rfl
              refine hK.out _ _ ⟨g21, g29, g7, m0_, m6_, m8_, m15_, m29_, (by rw [ha.out]; exact putSel_upk 1 hb_ rfl rfl rfl), Q_HBi, Q_L21, Q_L29, Q_BP, Q_HG7, fun h0_ => absurd ((hoff 30 (by kernel_rfl)).symm.trans h0_) (by decide), Q_X0_, fun h0_ => absurd ((hoff 6 (by kernel_rfl)).symm.trans h0_) (by decide), Q_X8_, fun h0_ => absurd ((hoff 15 (by kernel_rfl)).symm.trans h0_) (by decide), Q_X29_⟩
            refine steps_cons ?_ ?_
            · rintro b a w' ⟨g21, g29, g7, m0_, m6_, m8_, m15_, m29_, ha, Q_HBi, Q_L21, Q_L29, Q_BP, Q_HG7, Q_BPF, Q_X0_, Q_X6_, Q_X8_, Q_X15_, Q_X29_⟩ hb_ hon hoff
              refine ⟨_, rfl, fun K hK => ?_⟩
              have e25 : a.tmps[25]? = some (.int .i64 xa) := by rw [ha]; exact putSel_on (e := (4, 25, .int .i64 xa)) 1 rfl rfl (hon 4 (by kernel_rfl)) rfl
              replace ha := Aside0.mk ha
              have HBi := Aside0.mk Q_HBi
              refine goes_ Try.func22 (by kernel_rfl) rfl #[.int .i64 xa, .int .i64 5] (by rfl) rfl rfl (by first | (simp only [List.map_toArray, List.map_cons, List.map_nil, Act.eval, Array.getD_eq_getD_getElem?, Option.getD_some, e25]; done) | (simp only [List.map_toArray, List.map_cons, List.map_nil, Act.eval, Array.getD_eq_getD_getElem?, Option.getD_some, e25]; rfl)) ?_
              with_reducible refine (bobbinetkeep_Picked.calls _ _ _ _ P5.out).mono ?_
              rintro e w3 ⟨rfl, ⟨nd, rfl⟩⟩
              refine ⟨_, rfl, ?_⟩
              refine hK.out _ _ ⟨g21, g29, g7, m0_, m6_, m8_, m15_, m29_, (by rw [ha.out]; exact putSel_upk 2 hb_ rfl rfl rfl), pw_below_drewN HBi.out _, fun h0_ h1_ => blk_drewN (Q_L21 h0_ h1_) _, fun h0_ h1_ => blk_drewN (Q_L29 h0_ h1_) _, fun h0_ h1_ => blk_drewN (Q_BP h0_ h1_) _, fun h0_ => (Q_HG7 h0_), fun h0_ => absurd ((hoff 30 (by kernel_rfl)).symm.trans h0_) (by decide), Q_X0_, fun h0_ => absurd ((hoff 6 (by kernel_rfl)).symm.trans h0_) (by decide), Q_X8_, fun h0_ => absurd ((hoff 15 (by kernel_rfl)).symm.trans h0_) (by decide), Q_X29_⟩
            refine steps_cons ?_ ?_
            · rintro b a w' ⟨g21, g29, g7, m0_, m6_, m8_, m15_, m29_, ha, Q_HBi, Q_L21, Q_L29, Q_BP, Q_HG7, Q_BPF, Q_X0_, Q_X6_, Q_X8_, Q_X15_, Q_X29_⟩ hb_ hon hoff
              refine ⟨_, rfl, fun K hK => ?_⟩
              have e21 : a.tmps[21]? = some (m0_) := by rw [ha]; exact putSel_on (e := (0, 21, m0_)) 0 rfl rfl (hon 0 (by kernel_rfl)) rfl
              rw [Q_X0_ (hon 0 (by kernel_rfl))] at e21
              have e26 : a.tmps[26]? = some (.int .i64 (t5 : Int)) := by rw [ha]; exact putSel_on (e := (5, 26, .int .i64 (t5 : Int))) 2 rfl rfl (hon 5 (by kernel_rfl)) rfl
              replace ha := Aside0.mk ha
              have HBi := Aside0.mk Q_HBi
              have L21 := Aside0.mk (Q_L21 (hon 0 (by kernel_rfl)) (hoff 30 (by kernel_rfl)))
              refine value_ (w1 := w') (v := .pointer (some ⟨g21, t5, none⟩)) (by rfl) rfl ?_ ?_
              · go_simp
                (try simp only [i64_w])
                try rfl
              refine hK.out _ _ ⟨g21, g29, g7, m0_, (.pointer (some ⟨g21, t5, none⟩)), m8_, m15_, m29_, (by rw [ha.out]; exact putSel_upk 3 hb_ rfl rfl rfl), Q_HBi, Q_L21, Q_L29, Q_BP, Q_HG7, fun h0_ => absurd ((hoff 30 (by kernel_rfl)).symm.trans h0_) (by decide), Q_X0_, fun _ => rfl, Q_X8_, Q_X15_, Q_X29_⟩
            refine steps_cons ?_ ?_
            · rintro b a w' ⟨g21, g29, g7, m0_, m6_, m8_, m15_, m29_, ha, Q_HBi, Q_L21, Q_L29, Q_BP, Q_HG7, Q_BPF, Q_X0_, Q_X6_, Q_X8_, Q_X15_, Q_X29_⟩ hb_ hon hoff
              refine ⟨_, rfl, fun K hK => ?_⟩
              have e27 : a.tmps[27]? = some (m6_) := by rw [ha]; exact putSel_on (e := (6, 27, m6_)) 3 rfl rfl (hon 6 (by kernel_rfl)) rfl
              rw [Q_X6_ (hon 6 (by kernel_rfl))] at e27
              replace ha := Aside0.mk ha
              have HBi := Aside0.mk Q_HBi
              have L21 := Aside0.mk (Q_L21 (hon 0 (by kernel_rfl)) (hoff 30 (by kernel_rfl)))
              have hc_ := blk_cell L21.out t5
              simp only [List.getElem?_toArray] at hc_
              rw [hT5] at hc_
              refine value_ (w1 := w') (v := .string p0) (by rfl) rfl ?_ ?_
              · go_simp
                (try simp only [i64_w])
                try rfl
              refine hK.out _ _ ⟨g21, g29, g7, m0_, m6_, m8_, m15_, m29_, (by rw [ha.out]; exact putSel_upk 4 hb_ rfl rfl rfl), Q_HBi, Q_L21, Q_L29, Q_BP, Q_HG7, fun h0_ => absurd ((hoff 30 (by kernel_rfl)).symm.trans h0_) (by decide), Q_X0_, Q_X6_, Q_X8_, Q_X15_, Q_X29_⟩
            refine steps_cons ?_ ?_
            · rintro b a w' ⟨g21, g29, g7, m0_, m6_, m8_, m15_, m29_, ha, Q_HBi, Q_L21, Q_L29, Q_BP, Q_HG7, Q_BPF, Q_X0_, Q_X6_, Q_X8_, Q_X15_, Q_X29_⟩ hb_ hon hoff
              refine ⟨_, rfl, fun K hK => ?_⟩
              replace ha := Aside0.mk ha
              have HBi := Aside0.mk Q_HBi
              refine value_ (w1 := w'.alloc (.cells #[.string (⟨#[]⟩ : ByteArray), .string (⟨#[]⟩ : ByteArray), .string (⟨#[104, 114, 101, 102]⟩ : ByteArray)] 9)) (v := .slice (some ⟨w'.heap.size, 0, none⟩) 3 3) (by rfl) rfl ?_ ?_
              · go_simp
                try rfl
              refine hK.out _ _ ⟨g21, w'.heap.size, g7, m0_, m6_, (.slice (some ⟨w'.heap.size, 0, none⟩) 3 3), m15_, m29_, (by rw [ha.out]; exact putSel_upk 5 hb_ rfl rfl rfl), HBi.out.alloc HBi.out.size _, fun h0_ h1_ => blk_alloc (Q_L21 h0_ h1_) _, fun _ _ => blk_new w' _, fun h0_ h1_ => blk_alloc (Q_BP h0_ h1_) _, fun h0_ => (Q_HG7 h0_), fun h0_ => absurd ((hoff 30 (by kernel_rfl)).symm.trans h0_) (by decide), Q_X0_, Q_X6_, fun _ => rfl, fun h0_ => absurd ((hoff 15 (by kernel_rfl)).symm.trans h0_) (by decide), Q_X29_⟩
            refine steps_cons ?_ ?_
            · rintro b a w' ⟨g21, g29, g7, m0_, m6_, m8_, m15_, m29_, ha, Q_HBi, Q_L21, Q_L29, Q_BP, Q_HG7, Q_BPF, Q_X0_, Q_X6_, Q_X8_, Q_X15_, Q_X29_⟩ hb_ hon hoff
              refine ⟨_, rfl, fun K hK => ?_⟩
              have e32 : a.tmps[32]? = some (.pointer (some (ax.add i))) := by rw [ha]; exact (putSel_off rfl).trans rfl
              replace ha := Aside0.mk ha
              have HBi := Aside0.mk Q_HBi
              have hc_ := (HBi.out.cell (World.block_lt_of_cell? _ _ HX.out)).trans HX.out
              refine value_ (w1 := w') (v := .int .i64 xa) (by rfl) rfl ?_ ?_
              · go_simp
                (try simp only [i64_w])
                try rfl
              refine hK.out _ _ ⟨g21, g29, g7, m0_, m6_, m8_, m15_, m29_, (by rw [ha.out]; exact putSel_upk 6 hb_ rfl rfl rfl), Q_HBi, Q_L21, Q_L29, Q_BP, Q_HG7, fun h0_ => absurd ((hoff 30 (by kernel_rfl)).symm.trans h0_) (by decide), Q_X0_, Q_X6_, Q_X8_, fun h0_ => absurd ((hoff 15 (by kernel_rfl)).symm.trans h0_) (by decide), Q_X29_⟩
            refine steps_cons ?_ ?_
            · rintro b a w' ⟨g21, g29, g7, m0_, m6_, m8_, m15_, m29_, ha, Q_HBi, Q_L21, Q_L29, Q_BP, Q_HG7, Q_BPF, Q_X0_, Q_X6_, Q_X8_, Q_X15_, Q_X29_⟩ hb_ hon hoff
              refine ⟨_, rfl, fun K hK => ?_⟩
              have e33 : a.tmps[33]? = some (.int .i64 xa) := by rw [ha]; exact putSel_on (e := (12, 33, .int .i64 xa)) 6 rfl rfl (hon 12 (by kernel_rfl)) rfl
              replace ha := Aside0.mk ha
              have HBi := Aside0.mk Q_HBi
              refine value_ (w1 := w') (v := .int .i64 (wrap64 (Int.tdiv xa 5))) (by rfl) rfl ?_ ?_
              · go_simp
                (try simp only [i64_w])
                try rfl
              refine hK.out _ _ ⟨g21, g29, g7, m0_, m6_, m8_, m15_, m29_, (by rw [ha.out]; exact putSel_upk 7 hb_ rfl rfl rfl), Q_HBi, Q_L21, Q_L29, Q_BP, Q_HG7, fun h0_ => absurd ((hoff 30 (by kernel_rfl)).symm.trans h0_) (by decide), Q_X0_, Q_X6_, Q_X8_, fun h0_ => absurd ((hoff 15 (by kernel_rfl)).symm.trans h0_) (by decide), Q_X29_⟩
            refine steps_cons ?_ ?_
            · rintro b a w' ⟨g21, g29, g7, m0_, m6_, m8_, m15_, m29_, ha, Q_HBi, Q_L21, Q_L29, Q_BP, Q_HG7, Q_BPF, Q_X0_, Q_X6_, Q_X8_, Q_X15_, Q_X29_⟩ hb_ hon hoff
              refine ⟨_, rfl, fun K hK => ?_⟩
              have e34 : a.tmps[34]? = some (.int .i64 (wrap64 (Int.tdiv xa 5))) := by rw [ha]; exact putSel_on (e := (13, 34, .int .i64 (wrap64 (Int.tdiv xa 5)))) 7 rfl rfl (hon 13 (by kernel_rfl)) rfl
              replace ha := Aside0.mk ha
              have HBi := Aside0.mk Q_HBi
              refine goes_ Try.func22 (by kernel_rfl) rfl #[.int .i64 (wrap64 (Int.tdiv xa 5)), .int .i64 3] (by rfl) rfl rfl (by first | (simp only [List.map_toArray, List.map_cons, List.map_nil, Act.eval, Array.getD_eq_getD_getElem?, Option.getD_some, e34]; done) | (simp only [List.map_toArray, List.map_cons, List.map_nil, Act.eval, Array.getD_eq_getD_getElem?, Option.getD_some, e34]; rfl)) ?_
              with_reducible refine (bobbinetkeep_Picked.calls _ _ _ _ P3.out).mono ?_
              rintro e w3 ⟨rfl, ⟨nd, rfl⟩⟩
              refine ⟨_, rfl, ?_⟩
              refine hK.out _ _ ⟨g21, g29, g7, m0_, m6_, m8_, m15_, m29_, (by rw [ha.out]; exact putSel_upk 8 hb_ rfl rfl rfl), pw_below_drewN HBi.out _, fun h0_ h1_ => blk_drewN (Q_L21 h0_ h1_) _, fun h0_ h1_ => blk_drewN (Q_L29 h0_ h1_) _, fun h0_ h1_ => blk_drewN (Q_BP h0_ h1_) _, fun h0_ => (Q_HG7 h0_), fun h0_ => absurd ((hoff 30 (by kernel_rfl)).symm.trans h0_) (by decide), Q_X0_, Q_X6_, Q_X8_, fun h0_ => absurd ((hoff 15 (by kernel_rfl)).symm.trans h0_) (by decide), Q_X29_⟩
            refine steps_cons ?_ ?_
            · rintro b a w' ⟨g21, g29, g7, m0_, m6_, m8_, m15_, m29_, ha, Q_HBi, Q_L21, Q_L29, Q_BP, Q_HG7, Q_BPF, Q_X0_, Q_X6_, Q_X8_, Q_X15_, Q_X29_⟩ hb_ hon hoff
              refine ⟨_, rfl, fun K hK => ?_⟩
              have e29 : a.tmps[29]? = some (m8_) := by rw [ha]; exact putSel_on (e := (8, 29, m8_)) 5 rfl rfl (hon 8 (by kernel_rfl)) rfl
              rw [Q_X8_ (hon 8 (by kernel_rfl))] at e29
              have e35 : a.tmps[35]? = some (.int .i64 (t3 : Int)) := by rw [ha]; exact putSel_on (e := (14, 35, .int .i64 (t3 : Int))) 8 rfl rfl (hon 14 (by kernel_rfl)) rfl
              replace ha := Aside0.mk ha
              have HBi := Aside0.mk Q_HBi
              have L29 := Aside0.mk (Q_L29 (hon 8 (by kernel_rfl)) (hoff 30 (by kernel_rfl)))
              refine value_ (w1 := w') (v := .pointer (some ⟨g29, t3, none⟩)) (by rfl) rfl ?_ ?_
              · go_simp
                (try simp only [i64_w])
                try rfl
              refine hK.out _ _ ⟨g21, g29, g7, m0_, m6_, m8_, (.pointer (some ⟨g29, t3, none⟩)), m29_, (by rw [ha.out]; exact putSel_upk 9 hb_ rfl rfl rfl), Q_HBi, Q_L21, Q_L29, Q_BP, Q_HG7, fun h0_ => absurd ((hoff 30 (by kernel_rfl)).symm.trans h0_) (by decide), Q_X0_, Q_X6_, Q_X8_, fun _ => rfl, Q_X29_⟩
            refine steps_cons ?_ ?_
            · rintro b a w' ⟨g21, g29, g7, m0_, m6_, m8_, m15_, m29_, ha, Q_HBi, Q_L21, Q_L29, Q_BP, Q_HG7, Q_BPF, Q_X0_, Q_X6_, Q_X8_, Q_X15_, Q_X29_⟩ hb_ hon hoff
              refine ⟨_, rfl, fun K hK => ?_⟩
              have e36 : a.tmps[36]? = some (m15_) := by rw [ha]; exact putSel_on (e := (15, 36, m15_)) 9 rfl rfl (hon 15 (by kernel_rfl)) rfl
              rw [Q_X15_ (hon 15 (by kernel_rfl))] at e36
              replace ha := Aside0.mk ha
              have HBi := Aside0.mk Q_HBi
              have L29 := Aside0.mk (Q_L29 (hon 8 (by kernel_rfl)) (hoff 30 (by kernel_rfl)))
              have hc_ := blk_cell L29.out t3
              simp only [List.getElem?_toArray] at hc_
              rw [hT3] at hc_
              refine value_ (w1 := w') (v := .string p1) (by rfl) rfl ?_ ?_
              · go_simp
                (try simp only [i64_w])
                try rfl
              refine hK.out _ _ ⟨g21, g29, g7, m0_, m6_, m8_, m15_, m29_, (by rw [ha.out]; exact putSel_upk 10 hb_ rfl rfl rfl), Q_HBi, Q_L21, Q_L29, Q_BP, Q_HG7, fun h0_ => absurd ((hoff 30 (by kernel_rfl)).symm.trans h0_) (by decide), Q_X0_, Q_X6_, Q_X8_, Q_X15_, Q_X29_⟩
            refine steps_cons ?_ ?_
            · rintro b a w' ⟨g21, g29, g7, m0_, m6_, m8_, m15_, m29_, ha, Q_HBi, Q_L21, Q_L29, Q_BP, Q_HG7, Q_BPF, Q_X0_, Q_X6_, Q_X8_, Q_X15_, Q_X29_⟩ hb_ hon hoff
              refine ⟨_, rfl, fun K hK => ?_⟩
              have e39 : a.tmps[39]? = some (.bool false) := by rw [ha]; exact (putSel_off rfl).trans rfl
              replace ha := Aside0.mk ha
              have HBi := Aside0.mk Q_HBi
              refine value_ (w1 := w') (v := .bool false) (by rfl) rfl ?_ ?_
              · go_simp
                (try simp only [i64_w])
                try rfl
              refine hK.out _ _ ⟨g21, g29, g7, m0_, m6_, m8_, m15_, m29_, (by rw [ha.out]; exact putSel_upk 11 hb_ rfl rfl rfl), Q_HBi, Q_L21, Q_L29, Q_BP, Q_HG7, fun h0_ => absurd ((hoff 30 (by kernel_rfl)).symm.trans h0_) (by decide), Q_X0_, Q_X6_, Q_X8_, Q_X15_, Q_X29_⟩
            refine steps_cons ?_ ?_
            · rintro b a w' ⟨g21, g29, g7, m0_, m6_, m8_, m15_, m29_, ha, Q_HBi, Q_L21, Q_L29, Q_BP, Q_HG7, Q_BPF, Q_X0_, Q_X6_, Q_X8_, Q_X15_, Q_X29_⟩ hb_ hon hoff
              refine ⟨_, rfl, fun K hK => ?_⟩
              have e0 : a.tmps[0]? = some (.slice (some ax) l0.length c0) := by rw [ha]; exact (putSel_off rfl).trans rfl
              have e40 : a.tmps[40]? = some (.bool false) := by rw [ha]; exact putSel_on (e := (19, 40, .bool false)) 11 rfl rfl (hon 19 (by kernel_rfl)) rfl
              replace ha := Aside0.mk ha
              have HBi := Aside0.mk Q_HBi
              refine value_ (w1 := w') (v := .slice (some ax) l0.length c0) (wanted_on rfl rfl rfl (e40.trans (by first | rfl | (simp [*]; done)))) rfl ?_ ?_
              · go_simp
                (try simp only [i64_w])
                try rfl
              refine hK.out _ _ ⟨g21, g29, g7, m0_, m6_, m8_, m15_, m29_, (by rw [ha.out]; exact putSel_upk 12 hb_ rfl rfl rfl), Q_HBi, Q_L21, Q_L29, Q_BP, Q_HG7, fun h0_ => absurd ((hoff 30 (by kernel_rfl)).symm.trans h0_) (by decide), Q_X0_, Q_X6_, Q_X8_, Q_X15_, Q_X29_⟩
            refine steps_cons ?_ ?_
            · rintro b a w' ⟨g21, g29, g7, m0_, m6_, m8_, m15_, m29_, ha, Q_HBi, Q_L21, Q_L29, Q_BP, Q_HG7, Q_BPF, Q_X0_, Q_X6_, Q_X8_, Q_X15_, Q_X29_⟩ hb_ hon hoff
              refine ⟨_, rfl, fun K hK => ?_⟩
              have e6 : a.tmps[6]? = some (.int .i64 (i : Int)) := by rw [ha]; exact (putSel_off rfl).trans rfl
              have e40 : a.tmps[40]? = some (.bool false) := by rw [ha]; exact putSel_on (e := (19, 40, .bool false)) 11 rfl rfl (hon 19 (by kernel_rfl)) rfl
              replace ha := Aside0.mk ha
              have HBi := Aside0.mk Q_HBi
              refine value_ (w1 := w') (v := .int .i64 (i : Int)) (wanted_on rfl rfl rfl (e40.trans (by first | rfl | (simp [*]; done)))) rfl ?_ ?_
              · go_simp
                (try simp only [i64_w])
                try rfl
              refine hK.out _ _ ⟨g21, g29, g7, m0_, m6_, m8_, m15_, m29_, (by rw [ha.out]; exact putSel_upk 13 hb_ rfl rfl rfl), Q_HBi, Q_L21, Q_L29, Q_BP, Q_HG7, fun h0_ => absurd ((hoff 30 (by kernel_rfl)).symm.trans h0_) (by decide), Q_X0_, Q_X6_, Q_X8_, Q_X15_, Q_X29_⟩
            refine steps_cons ?_ ?_
            · rintro b a w' ⟨g21, g29, g7, m0_, m6_, m8_, m15_, m29_, ha, Q_HBi, Q_L21, Q_L29, Q_BP, Q_HG7, Q_BPF, Q_X0_, Q_X6_, Q_X8_, Q_X15_, Q_X29_⟩ hb_ hon hoff
              refine ⟨_, rfl, fun K hK => ?_⟩
              have e41 : a.tmps[41]? = some (.slice (some ax) l0.length c0) := by rw [ha]; exact putSel_on (e := (20, 41, .slice (some ax) l0.length c0)) 12 rfl rfl (hon 20 (by kernel_rfl)) rfl
              have e42 : a.tmps[42]? = some (.int .i64 (i : Int)) := by rw [ha]; exact putSel_on (e := (21, 42, .int .i64 (i : Int))) 13 rfl rfl (hon 21 (by kernel_rfl)) rfl
              have e40 : a.tmps[40]? = some (.bool false) := by rw [ha]; exact putSel_on (e := (19, 40, .bool false)) 11 rfl rfl (hon 19 (by kernel_rfl)) rfl
              replace ha := Aside0.mk ha
              have HBi := Aside0.mk Q_HBi
              refine value_ (w1 := w') (v := .pointer (some (ax.add i))) (wanted_on rfl rfl rfl (e40.trans (by first | rfl | (simp [*]; done)))) rfl ?_ ?_
              · go_simp
                (try simp only [i64_w])
                try rfl
              refine hK.out _ _ ⟨g21, g29, g7, m0_, m6_, m8_, m15_, m29_, (by rw [ha.out]; exact putSel_upk 14 hb_ rfl rfl rfl), Q_HBi, Q_L21, Q_L29, Q_BP, Q_HG7, fun h0_ => absurd ((hoff 30 (by kernel_rfl)).symm.trans h0_) (by decide), Q_X0_, Q_X6_, Q_X8_, Q_X15_, Q_X29_⟩
            refine steps_cons ?_ ?_
            · rintro b a w' ⟨g21, g29, g7, m0_, m6_, m8_, m15_, m29_, ha, Q_HBi, Q_L21, Q_L29, Q_BP, Q_HG7, Q_BPF, Q_X0_, Q_X6_, Q_X8_, Q_X15_, Q_X29_⟩ hb_ hon hoff
              refine ⟨_, rfl, fun K hK => ?_⟩
              have e43 : a.tmps[43]? = some (.pointer (some (ax.add i))) := by rw [ha]; exact putSel_on (e := (22, 43, .pointer (some (ax.add i)))) 14 rfl rfl (hon 22 (by kernel_rfl)) rfl
              have e40 : a.tmps[40]? = some (.bool false) := by rw [ha]; exact putSel_on (e := (19, 40, .bool false)) 11 rfl rfl (hon 19 (by kernel_rfl)) rfl
              replace ha := Aside0.mk ha
              have HBi := Aside0.mk Q_HBi
              have hc_ := (HBi.out.cell (World.block_lt_of_cell? _ _ HX.out)).trans HX.out
              refine value_ (w1 := w') (v := .int .i64 xa) (wanted_on rfl rfl rfl (e40.trans (by first | rfl | (simp [*]; done)))) rfl ?_ ?_
              · go_simp
                (try simp only [i64_w])
                try rfl
              refine hK.out _ _ ⟨g21, g29, g7, m0_, m6_, m8_, m15_, m29_, (by rw [ha.out]; exact putSel_upk 15 hb_ rfl rfl rfl), Q_HBi, Q_L21, Q_L29, Q_BP, Q_HG7, fun h0_ => absurd ((hoff 30 (by kernel_rfl)).symm.trans h0_) (by decide), Q_X0_, Q_X6_, Q_X8_, Q_X15_, Q_X29_⟩
            refine steps_cons ?_ ?_
            · rintro b a w' ⟨g21, g29, g7, m0_, m6_, m8_, m15_, m29_, ha, Q_HBi, Q_L21, Q_L29, Q_BP, Q_HG7, Q_BPF, Q_X0_, Q_X6_, Q_X8_, Q_X15_, Q_X29_⟩ hb_ hon hoff
              refine ⟨_, rfl, fun K hK => ?_⟩
              have e44 : a.tmps[44]? = some (.int .i64 xa) := by rw [ha]; exact putSel_on (e := (23, 44, .int .i64 xa)) 15 rfl rfl (hon 23 (by kernel_rfl)) rfl
              have e40 : a.tmps[40]? = some (.bool false) := by rw [ha]; exact putSel_on (e := (19, 40, .bool false)) 11 rfl rfl (hon 19 (by kernel_rfl)) rfl
              replace ha := Aside0.mk ha
              have HBi := Aside0.mk Q_HBi
              refine value_ (w1 := w') (v := .int .i64 (wrap64 (Int.tdiv xa 15))) (wanted_on rfl rfl rfl (e40.trans (by first | rfl | (simp [*]; done)))) rfl ?_ ?_
              · go_simp
                (try simp only [i64_w])
                try rfl
              refine hK.out _ _ ⟨g21, g29, g7, m0_, m6_, m8_, m15_, m29_, (by rw [ha.out]; exact putSel_upk 16 hb_ rfl rfl rfl), Q_HBi, Q_L21, Q_L29, Q_BP, Q_HG7, fun h0_ => absurd ((hoff 30 (by kernel_rfl)).symm.trans h0_) (by decide), Q_X0_, Q_X6_, Q_X8_, Q_X15_, Q_X29_⟩
            refine steps_cons ?_ ?_
            · rintro b a w' ⟨g21, g29, g7, m0_, m6_, m8_, m15_, m29_, ha, Q_HBi, Q_L21, Q_L29, Q_BP, Q_HG7, Q_BPF, Q_X0_, Q_X6_, Q_X8_, Q_X15_, Q_X29_⟩ hb_ hon hoff
              refine ⟨_, rfl, fun K hK => ?_⟩
              have e45 : a.tmps[45]? = some (.int .i64 (wrap64 (Int.tdiv xa 15))) := by rw [ha]; exact putSel_on (e := (24, 45, .int .i64 (wrap64 (Int.tdiv xa 15)))) 16 rfl rfl (hon 24 (by kernel_rfl)) rfl
              have e40 : a.tmps[40]? = some (.bool false) := by rw [ha]; exact putSel_on (e := (19, 40, .bool false)) 11 rfl rfl (hon 19 (by kernel_rfl)) rfl
              replace ha := Aside0.mk ha
              have HBi := Aside0.mk Q_HBi
              refine goes_ Try.func22 (by kernel_rfl) rfl #[.int .i64 (wrap64 (Int.tdiv xa 15)), .int .i64 2] (wanted_on rfl rfl rfl e40) rfl rfl (by first | (simp only [List.map_toArray, List.map_cons, List.map_nil, Act.eval, Array.getD_eq_getD_getElem?, Option.getD_some, e45, e40]; done) | (simp only [List.map_toArray, List.map_cons, List.map_nil, Act.eval, Array.getD_eq_getD_getElem?, Option.getD_some, e45, e40]; rfl)) ?_
              with_reducible refine (bobbinetkeep_Picked.calls _ _ _ _ P2.out).mono ?_
              rintro e w3 ⟨rfl, ⟨nd, rfl⟩⟩
              refine ⟨_, rfl, ?_⟩
              refine hK.out _ _ ⟨g21, g29, g7, m0_, m6_, m8_, m15_, m29_, (by rw [ha.out]; exact putSel_upk 17 hb_ rfl rfl rfl), pw_below_drewN HBi.out _, fun h0_ h1_ => blk_drewN (Q_L21 h0_ h1_) _, fun h0_ h1_ => blk_drewN (Q_L29 h0_ h1_) _, fun h0_ h1_ => blk_drewN (Q_BP h0_ h1_) _, fun h0_ => (Q_HG7 h0_), fun h0_ => absurd ((hoff 30 (by kernel_rfl)).symm.trans h0_) (by decide), Q_X0_, Q_X6_, Q_X8_, Q_X15_, Q_X29_⟩
            refine steps_cons ?_ ?_
            · rintro b a w' ⟨g21, g29, g7, m0_, m6_, m8_, m15_, m29_, ha, Q_HBi, Q_L21, Q_L29, Q_BP, Q_HG7, Q_BPF, Q_X0_, Q_X6_, Q_X8_, Q_X15_, Q_X29_⟩ hb_ hon hoff
              refine ⟨_, rfl, fun K hK => ?_⟩
              have e46 : a.tmps[46]? = some (.int .i64 x2) := by rw [ha]; exact putSel_on (e := (25, 46, .int .i64 x2)) 17 rfl rfl (hon 25 (by kernel_rfl)) rfl
              have e40 : a.tmps[40]? = some (.bool false) := by rw [ha]; exact putSel_on (e := (19, 40, .bool false)) 11 rfl rfl (hon 19 (by kernel_rfl)) rfl
              replace ha := Aside0.mk ha
              have HBi := Aside0.mk Q_HBi
              refine value_ (w1 := w') (v := .bool (x2 == 0)) (wanted_on rfl rfl rfl (e40.trans (by first | rfl | (simp [*]; done)))) rfl ?_ ?_
              · go_simp
                (try simp only [i64_w])
                try rfl
              refine hK.out _ _ ⟨g21, g29, g7, m0_, m6_, m8_, m15_, m29_, (by rw [ha.out]; exact putSel_upk 18 hb_ rfl rfl rfl), Q_HBi, Q_L21, Q_L29, Q_BP, Q_HG7, fun h0_ => absurd ((hoff 30 (by kernel_rfl)).symm.trans h0_) (by decide), Q_X0_, Q_X6_, Q_X8_, Q_X15_, Q_X29_⟩
            refine steps_cons ?_ ?_
            · rintro b a w' ⟨g21, g29, g7, m0_, m6_, m8_, m15_, m29_, ha, Q_HBi, Q_L21, Q_L29, Q_BP, Q_HG7, Q_BPF, Q_X0_, Q_X6_, Q_X8_, Q_X15_, Q_X29_⟩ hb_ hon hoff
              refine ⟨_, rfl, fun K hK => ?_⟩
              have e40 : a.tmps[40]? = some (.bool false) := by rw [ha]; exact putSel_on (e := (19, 40, .bool false)) 11 rfl rfl (hon 19 (by kernel_rfl)) rfl
              have e47 : a.tmps[47]? = some (.bool (x2 == 0)) := by rw [ha]; exact putSel_on (e := (26, 47, .bool (x2 == 0))) 18 rfl rfl (hon 26 (by kernel_rfl)) rfl
              replace ha := Aside0.mk ha
              have HBi := Aside0.mk Q_HBi
              refine value_ (w1 := w') (v := .bool (x2 == 0)) (by rfl) rfl ?_ ?_
              · go_simp
                (try simp only [i64_w])
                try rfl
              refine hK.out _ _ ⟨g21, g29, g7, m0_, m6_, m8_, m15_, m29_, (by rw [ha.out]; exact putSel_upk 19 hb_ rfl rfl rfl), Q_HBi, Q_L21, Q_L29, Q_BP, Q_HG7, fun h0_ => absurd ((hoff 30 (by kernel_rfl)).symm.trans h0_) (by decide), Q_X0_, Q_X6_, Q_X8_, Q_X15_, Q_X29_⟩
            refine steps_cons ?_ ?_
            · rintro b a w' ⟨g21, g29, g7, m0_, m6_, m8_, m15_, m29_, ha, Q_HBi, Q_L21, Q_L29, Q_BP, Q_HG7, Q_BPF, Q_X0_, Q_X6_, Q_X8_, Q_X15_, Q_X29_⟩ hb_ hon hoff
              refine ⟨_, rfl, fun K hK => ?_⟩
              have e28 : a.tmps[28]? = some (.string p0) := by rw [ha]; exact putSel_on (e := (7, 28, .string p0)) 4 rfl rfl (hon 7 (by kernel_rfl)) rfl
              have e37 : a.tmps[37]? = some (.string p1) := by rw [ha]; exact putSel_on (e := (16, 37, .string p1)) 10 rfl rfl (hon 16 (by kernel_rfl)) rfl
              have e48 : a.tmps[48]? = some (.bool (x2 == 0)) := by rw [ha]; exact putSel_on (e := (27, 48, .bool (x2 == 0))) 19 rfl rfl (hon 27 (by kernel_rfl)) rfl
              replace ha := Aside0.mk ha
              have HBi := Aside0.mk Q_HBi
              have L21 := Aside0.mk (Q_L21 (hon 0 (by kernel_rfl)) (hoff 30 (by kernel_rfl)))
              have L29 := Aside0.mk (Q_L29 (hon 8 (by kernel_rfl)) (hoff 30 (by kernel_rfl)))
              refine value_ (w1 := w') (v := .agg #[.string p0, .string p1, .bool (x2 == 0)]) (by rfl) rfl ?_ ?_
              · go_simp
                (try simp only [i64_w])
                try rfl
              refine hK.out _ _ ⟨g21, g29, g7, m0_, m6_, m8_, m15_, m29_, (by rw [ha.out]; exact putSel_upk 20 hb_ rfl rfl rfl), Q_HBi, Q_L21, Q_L29, Q_BP, Q_HG7, fun h0_ => absurd ((hoff 30 (by kernel_rfl)).symm.trans h0_) (by decide), Q_X0_, Q_X6_, Q_X8_, Q_X15_, Q_X29_⟩
            refine steps_cons ?_ ?_
            · rintro b a w' ⟨g21, g29, g7, m0_, m6_, m8_, m15_, m29_, ha, Q_HBi, Q_L21, Q_L29, Q_BP, Q_HG7, Q_BPF, Q_X0_, Q_X6_, Q_X8_, Q_X15_, Q_X29_⟩ hb_ hon hoff
              refine ⟨_, rfl, fun K hK => ?_⟩
              replace ha := Aside0.mk ha
              have HBi := Aside0.mk Q_HBi
              refine value_ (w1 := w'.alloc (.cells #[.string (⟨#[]⟩ : ByteArray), .string (⟨#[]⟩ : ByteArray), .bool false] 61)) (v := .pointer (some ⟨w'.heap.size, 0, none⟩)) (by rfl) rfl ?_ ?_
              · go_simp
                try rfl
              refine hK.out _ _ ⟨g21, g29, w'.heap.size, m0_, m6_, m8_, m15_, (.pointer (some ⟨w'.heap.size, 0, none⟩)), (by rw [ha.out]; exact putSel_upk 21 hb_ rfl rfl rfl), HBi.out.alloc HBi.out.size _, fun h0_ h1_ => blk_alloc (Q_L21 h0_ h1_) _, fun h0_ h1_ => blk_alloc (Q_L29 h0_ h1_) _, fun _ _ => blk_new w' _, fun _ => HBi.out.size, fun h0_ => absurd ((hoff 30 (by kernel_rfl)).symm.trans h0_) (by decide), Q_X0_, Q_X6_, Q_X8_, Q_X15_, fun _ => rfl⟩
            refine steps_cons ?_ ?_
            · rintro b a w' ⟨g21, g29, g7, m0_, m6_, m8_, m15_, m29_, ha, Q_HBi, Q_L21, Q_L29, Q_BP, Q_HG7, Q_BPF, Q_X0_, Q_X6_, Q_X8_, Q_X15_, Q_X29_⟩ hb_ hon hoff
              refine ⟨_, rfl, fun K hK => ?_⟩
              have e7 : a.tmps[7]? = some (m29_) := by rw [ha]; exact putSel_on (e := (29, 7, m29_)) 21 rfl rfl (hon 29 (by kernel_rfl)) rfl
              rw [Q_X29_ (hon 29 (by kernel_rfl))] at e7
              have e49 : a.tmps[49]? = some (.agg #[.string p0, .string p1, .bool (x2 == 0)]) := by rw [ha]; exact putSel_on (e := (28, 49, .agg #[.string p0, .string p1, .bool (x2 == 0)])) 20 rfl rfl (hon 28 (by kernel_rfl)) rfl
              replace ha := Aside0.mk ha
              have HBi := Aside0.mk Q_HBi
              have L21 := Aside0.mk (Q_L21 (hon 0 (by kernel_rfl)) hb_)
              have L29 := Aside0.mk (Q_L29 (hon 8 (by kernel_rfl)) hb_)
              have BP := Aside0.mk (Q_BP (hon 29 (by kernel_rfl)) hb_)
              have HG7 := Aside0.mk (Q_HG7 (hon 29 (by kernel_rfl)))
              have hc0_ := blk_cell BP.out 0
              have hc1_ := blk_cell BP.out 1
              have hc2_ := blk_cell BP.out 2
              simp only [List.getElem?_toArray, List.getElem?_cons_zero, List.getElem?_cons_succ] at hc0_ hc1_ hc2_
              have hf0_ := blk_frozen BP.out 0
              have hf1_ := blk_frozen BP.out 1
              have hf2_ := blk_frozen BP.out 2
              refine skip_ (w1 := ((w'.setCell ⟨g7, 0, none⟩ (.string p0)).setCell ⟨g7, 1, none⟩ (.string p1)).setCell ⟨g7, 2, none⟩ (.bool (x2 == 0))) (by rfl) rfl ?_ ?_
              · go_simp
                try rfl
              refine hK.out _ _ ⟨g21, g29, g7, m0_, m6_, m8_, m15_, m29_, (by rw [ha.out]; exact putSel_none (v := undef) rfl), ((HBi.out.setCell HG7.out _).setCell HG7.out _).setCell HG7.out _, fun _ h1_ => absurd ((up_self b 30).symm.trans h1_) (by decide), fun _ h1_ => absurd ((up_self b 30).symm.trans h1_) (by decide), fun _ h1_ => absurd ((up_self b 30).symm.trans h1_) (by decide), fun _ => HG7.out, fun _ => blk_put (blk_put (blk_put BP.out 0 _ rfl) 1 _ rfl) 2 _ rfl, Q_X0_, Q_X6_, Q_X8_, Q_X15_, Q_X29_⟩
            exact steps_nil
          · rintro b a w' hall ⟨g21, g29, g7, m0_, m6_, m8_, m15_, m29_, ha, Q_HBi, Q_L21, Q_L29, Q_BP, Q_HG7, Q_BPF, Q_X0_, Q_X6_, Q_X8_, Q_X15_, Q_X29_⟩
            clear HBi
            have hb0_ := hall 0 (by kernel_rfl)
            have hb4_ := hall 4 (by kernel_rfl)
            have hb5_ := hall 5 (by kernel_rfl)
            have hb6_ := hall 6 (by kernel_rfl)
            have hb7_ := hall 7 (by kernel_rfl)
            have hb8_ := hall 8 (by kernel_rfl)
            have hb12_ := hall 12 (by kernel_rfl)
            have hb13_ := hall 13 (by kernel_rfl)
            have hb14_ := hall 14 (by kernel_rfl)
            have hb15_ := hall 15 (by kernel_rfl)
            have hb16_ := hall 16 (by kernel_rfl)
            have hb19_ := hall 19 (by kernel_rfl)
            have hb20_ := hall 20 (by kernel_rfl)
            have hb21_ := hall 21 (by kernel_rfl)
            have hb22_ := hall 22 (by kernel_rfl)
            have hb23_ := hall 23 (by kernel_rfl)
            have hb24_ := hall 24 (by kernel_rfl)
            have hb25_ := hall 25 (by kernel_rfl)
            have hb26_ := hall 26 (by kernel_rfl)
            have hb27_ := hall 27 (by kernel_rfl)
            have hb28_ := hall 28 (by kernel_rfl)
            have hb29_ := hall 29 (by kernel_rfl)
            have hb30_ := hall 30 (by kernel_rfl)
            subst ha
            obtain rfl := Q_X0_ hb0_
            obtain rfl := Q_X6_ hb6_
            obtain rfl := Q_X8_ hb8_
            obtain rfl := Q_X15_ hb15_
            obtain rfl := Q_X29_ hb29_
            simp only [putSel, hb0_, hb4_, hb5_, hb6_, hb7_, hb8_, hb12_, hb13_, hb14_, hb15_, hb16_, hb19_, hb20_, hb21_, hb22_, hb23_, hb24_, hb25_, hb26_, hb27_, hb28_, hb29_, hb30_, if_true, Act.put, List.setIfInBounds_toArray, List.set_cons_zero, List.set_cons_succ]
            have HBi := Aside0.mk Q_HBi
            clear Q_HBi
            clear Q_L21
            clear Q_L29
            clear Q_BP
            have HG7 := Aside0.mk (Q_HG7 hb29_)
            clear Q_HG7
            have BPF := Aside0.mk (Q_BPF hb30_)
            clear Q_BPF
            clear hall hb0_ hb4_ hb5_ hb6_ hb7_ hb8_ hb12_ hb13_ hb14_ hb15_ hb16_ hb19_ hb20_ hb21_ hb22_ hb23_ hb24_ hb25_ hb26_ hb27_ hb28_ hb29_ hb30_
            go_upto_region 6 with (fail)
            refine bobbinetkeep_Picks.pack (fun W => W.heap[g7]? = some (.cells #[.string p0, .string p1, .bool (x2 == 0)] 61 (0, 0)) ∧ Below w.heap.size w W ∧ k61.R 61 W w.heap.size (fun _ => True) (.slice Ac (bobbinetkeep_Picks.pre l0 i).length cc) (bobbinetkeep_Picks.pre l0 i)) ⟨BPF.out, HB.out.trans (HBi.out.mono HWS.out), Kd.R_below HS.out HBi.out⟩ ?_
            clear BPF HBi HG7 HX HS HB
            rintro W8 ⟨b1, b2, b3⟩
            have BP := Aside0.mk b1
            have HB := Aside0.mk b2
            have HS := Aside0.mk b3
            have hc0 := blk_cell b1 0
            have hc1 := blk_cell b1 1
            have hc2 := blk_cell b1 2
            simp only [List.getElem?_toArray, List.getElem?_cons_zero, List.getElem?_cons_succ] at hc0 hc1 hc2
            have HLEN : Aside0 (((bobbinetkeep_Picks.pre l0 i).length + 1) * 40 ≤ 140737488355328) := ⟨by rw [bobbinetkeep_Picks.pre_len l0 i HIZ.out]; have := HIN.out; have := HA.out; omega⟩
            clear b1 b2 b3
            go_wp2_with (at_builtin; refine Kd.R_append k61 (w0 := w) w.heap.size rfl (.tmp 52) (.tmp 54) 56 61 (.agg #[(.string ⟨#[]⟩), (.string ⟨#[]⟩), (.bool false)]) 40 rfl Try.underlying56 info61 rfl (by decide) (by omega) (.slice Ac (bobbinetkeep_Picks.pre l0 i).length cc) (bobbinetkeep_Picks.pre l0 i) (⟨p0, p1, (x2 == 0)⟩ : S61) [.string p0, .string p1, .bool (x2 == 0)] (fun _ => True) (fun _ => False) rfl (by first | (go_simp; done) | (go_simp; rfl)) (k61_mkM _ _ _ (⟨p0, p1, (x2 == 0)⟩ : S61)) (fun _ hk => hk.elim) (fun _ _ => trivial) HS.out HB.out HB.out.size HLEN.out ?_; intro v9 w9 ho hb hg hat; have O1 := Aside0.mk ho; have B1 := Aside0.mk hb; clear ho hb hg hat)
            go_roundw
            case rel => exact ⟨i + 1, by first | rfl | go_num | (rw [HWI.out]; rfl), ⟨by have := HII.out; omega⟩, HIN, ⟨by have h1 := O1.out; have h2 := HONE.out; rw [decide_eq_false HIZ.out, Bool.false_or] at h2; rw [← h2, bobbinetkeep_Picks.pre_succ l0 i xa HRD.out HIZ.out] at h1; exact h1⟩, B1⟩
            case measure => have := HII.out; first | (rw [HWI.out]; simp [intOf]; omega) | (simp [intOf]; omega)
      · have hnt : decide ((i : Int) < a1) = false := decide_eq_false hn
        have hnt2 : ((i : Int) < a1) = False := eq_false hn
        have hE : bobbinetkeep_Picks.pre l0 i = r := by rw [← H.out]; congr 1; have := HIA.out; omega
        have HE := Aside0.mk hE
        clear hi hn hE
        go_wp2
        go_ret
        exact ⟨_, rfl, by rw [← HE.out]; exact HS.out, HB.out⟩
    · have hlt : decide ((i : Int) < (l0.length : Int)) = false := decide_eq_false (by omega)
      have hlt2 : (i < l0.length) = False := eq_false hi
      have hE : bobbinetkeep_Picks.pre l0 i = r := by rw [← H.out]; congr 1; have := HIA.out; have := HI.out; omega
      have HE := Aside0.mk hE
      clear hi hE
      go_wp2
      go_ret
      exact ⟨_, rfl, by rw [← HE.out]; exact HS.out, HB.out⟩
end Go.Proofs.Ytaibikajpacemaa.X
end
section
namespace Go.Proofs.Ytaibikajpacemaa.X
open Go.RowKit Go.Proofs.YtaibikajpacemaaW.PrintWords Go.Proofs.YtaibikajpacemaaW.PrintLast Go.Proofs.YtaibikajpacemaaW.PrintMore
attribute [local go_sem] max2_int min2_int max_two min_two max_three min_three max_four min_four   -- for this text's walks alone
set_option linter.unusedVariables false
set_option linter.unusedSimpArgs false
mutual
def bobbinetkeep_copiedNodes.l0 : Nat → List (S28) → List (S28) → Int → Option ((List (S28)))
  | 0, _, _, _ => none
  | k + 1, x0, x3, x4 => if x4 < (x0.length : Int) then (if 0 ≤ x4 then (if ([] : List (S68)).length + ((rd_T28 x0 x4).f1).length < 4398046511104 then ((bobbinetkeep_copiedNodes.f k ((rd_T28 x0 x4).f3)).bind fun t181 => (if x3.length < 1759218604441 then (bobbinetkeep_copiedNodes.l0 k x0 (x3 ++ [(⟨(rd_T28 x0 x4).f0, (([] : List (S68)) ++ ((rd_T28 x0 x4).f1)), (rd_T28 x0 x4).f2, t181⟩ : S28)]) (wrap64 (x4 + 1))) else (none))) else (none)) else (none)) else (some x3)
def bobbinetkeep_copiedNodes.f : Nat → List (S28) → Option ((List (S28)))
  | 0, _ => none
  | k + 1, l0 => bobbinetkeep_copiedNodes.l0 k l0 ([] : List (S28)) 0
end
set_option maxHeartbeats 8000000 in
set_option maxRecDepth 100000 in
theorem bobbinetkeep_copiedNodes.calls (k : Nat) : ∀ (A0 : Option Addr) (c0 : Nat) (l0 : List (S28)) (r : List (S28)) (w : World) (hr0 : Kd.C k28 w A0 l0.length l0) (hc0 : l0.length ≤ c0) (h : bobbinetkeep_copiedNodes.f k l0 = some r),
    Calls Try.prog 14 #[.slice A0 l0.length c0] w fun e w' => ∃ v0_ : Value, e = .returned (v0_) ∧ Kd.R k28 28 w' w.heap.size (fun _ => True) v0_ r ∧ Below w.heap.size w w' := by
  induction k using Nat.strongRecOn with
  | _ k ih =>
  intro A0 c0 l0 r w hr0 hc0 h
  cases k with
  | zero => exact absurd h (by simp [bobbinetkeep_copiedNodes.f])
  | succ k =>
  simp only [bobbinetkeep_copiedNodes.f] at h
  have hu28 := Try.underlying28
  have HR0 := Aside0.mk hr0
  have HC0 := Aside0.mk hc0
  clear hr0 hc0
  have HB := Aside0.mk (Below.refl w.heap.size w)
  have H : (bobbinetkeep_copiedNodes.l0 k l0 ([] : List (S28)) 0) = some r := h
  clear h
  have H' := Aside0.mk H
  clear H
  go_enter Try.func14, Try.ntmps14
  go_wp2
  go_loopg [3, 4] k (fun kq v3 v4 w' => ∃ (x3_1 : List (S28)) (x4_1 : Int), v4 = .int .i64 x4_1 ∧ Aside0 (bobbinetkeep_copiedNodes.l0 kq l0 x3_1 x4_1 = some r) ∧ Aside0 (kq ≤ k) ∧ Aside0 (Kd.R k28 28 w' w.heap.size (fun _ => True) v3 x3_1) ∧ Aside0 (Below w.heap.size w w'))
  case atStart => exact ⟨(([] : List (S28))), (0), (by first | rfl | (simp; done) | (simp [*]; done) | (simp [bne]; done)), H', ⟨Nat.le_refl _⟩, ⟨by first | exact Kd.R_nil _ _ _ _ _ | exact Kd.N_nil _ _ _ _ _ | exact Kd.V_nil _ _ _ _ _ | exact Kd.Q_nil _ _ _ _ _ | exact Kd.S_nil _ _ _ _ _⟩, ⟨by repeat (first | (with_reducible first | exact HB.out | apply below_alloc | apply pw_below_drewN | apply below_drew1) | exact HB.out)⟩⟩
  case round =>
    clear H'
    try clear c1
    obtain ⟨x3_1, x4_1, rfl, HA, HK1, HO_3, HB⟩ := hrel
    cases gk with
    | zero => exact absurd HA.out (by simp [bobbinetkeep_copiedNodes.l0])
    | succ k1 =>
      have H := HA.out
      clear HA
      simp only [bobbinetkeep_copiedNodes.l0] at H
      by_cases c2 : x4_1 < (l0.length : Int)
      · rw [if_pos c2] at H
        have c2b0 : decide (x4_1 < (l0.length : Int)) = true := decide_eq_true c2
        clear c2
        by_cases c3 : 0 ≤ x4_1
        · rw [if_pos c3] at H
          have c3b0 : decide (0 ≤ x4_1) = true := decide_eq_true c3
          clear c3
          by_cases c4 : ([] : List (S68)).length + ((rd_T28 l0 x4_1).f1).length < 4398046511104
          · rw [if_pos c4] at H
            have LMc4 := Aside0.mk c4
            clear c4
            obtain ⟨y178, hy178⟩ : ∃ y_ : List (S68), y_ = (([] : List (S68)) ++ ((rd_T28 l0 x4_1).f1)) := ⟨_, rfl⟩
            replace H : ((bobbinetkeep_copiedNodes.f k1 ((rd_T28 l0 x4_1).f3)).bind fun t181 => (if x3_1.length < 1759218604441 then (bobbinetkeep_copiedNodes.l0 k1 l0 (x3_1 ++ [(⟨(rd_T28 l0 x4_1).f0, y178, (rd_T28 l0 x4_1).f2, t181⟩ : S28)]) (wrap64 (x4_1 + 1))) else (none))) = some r := by first | (rw [hy178]; with_reducible exact H) | (have H2_ := (Option.bind_some _ _).symm.trans H; rw [hy178]; with_reducible exact H2_) | (have H2_ := (Option.bind_some _ _).symm.trans H; with_reducible exact H2_) | with_reducible exact H | (rw [hy178]; exact H) | exact H
            have Ny178 := Aside0.mk hy178
            clear hy178
            replace H := Option.bind_eq_some_iff.mp H
            obtain ⟨t181, A50, H⟩ := H
            replace H : (if x3_1.length < 1759218604441 then (bobbinetkeep_copiedNodes.l0 k1 l0 (x3_1 ++ [(⟨(rd_T28 l0 x4_1).f0, y178, (rd_T28 l0 x4_1).f2, t181⟩ : S28)]) (wrap64 (x4_1 + 1))) else (none)) = some r := H
            have A5 := Aside0.mk A50
            clear A50
            by_cases c6 : x3_1.length < 1759218604441
            · rw [if_pos c6] at H
              have LMc6 := Aside0.mk c6
              clear c6
              obtain ⟨y184, hy184⟩ : ∃ y_ : List (S28), y_ = (x3_1 ++ [(⟨(rd_T28 l0 x4_1).f0, y178, (rd_T28 l0 x4_1).f2, t181⟩ : S28)]) := ⟨_, rfl⟩
              replace H : (bobbinetkeep_copiedNodes.l0 k1 l0 y184 (wrap64 (x4_1 + 1))) = some r := by first | (rw [hy184]; with_reducible exact H) | (have H2_ := (Option.bind_some _ _).symm.trans H; rw [hy184]; with_reducible exact H2_) | (have H2_ := (Option.bind_some _ _).symm.trans H; with_reducible exact H2_) | with_reducible exact H | (rw [hy184]; exact H) | exact H
              have Ny184 := Aside0.mk hy184
              clear hy184
              have H' := Aside0.mk H
              clear H
              have p176 : 0 ≤ (x4_1 : Int) := of_decide_eq_true (by first | (with_reducible assumption) | assumption)
              have q176 : x4_1 < (l0.length : Int) := of_decide_eq_true (by first | (with_reducible assumption) | assumption)
              obtain ⟨ad176, A176_1, c176_1, A176_3, c176_3, e176, hx176_0, hx176_1, hx176_2, hx176_3, hl176_1, hi176_1, hl176_3, hi176_3⟩ := at_T28 HR0.out x4_1 p176 q176
              cases e176
              replace hx176_0 := (HB.out.cell (World.block_lt_of_cell? w _ hx176_0)).trans hx176_0
              replace hx176_1 := (HB.out.cell (World.block_lt_of_cell? w _ hx176_1)).trans hx176_1
              replace hx176_2 := (HB.out.cell (World.block_lt_of_cell? w _ hx176_2)).trans hx176_2
              replace hx176_3 := (HB.out.cell (World.block_lt_of_cell? w _ hx176_3)).trans hx176_3
              have HR176_1 := Aside0.mk hi176_1
              have HC176_1 := Aside0.mk hl176_1
              clear hi176_1 hl176_1
              have HR176_3 := Aside0.mk hi176_3
              have HC176_3 := Aside0.mk hl176_3
              clear hi176_3 hl176_3
              replace p176 := eq_true p176
              replace q176 := eq_true q176
              go_wp2_with (first | ((with_reducible refine gate_dst (N := 5) rfl ?_); refine box_event ?hg (N := 5) ?hd (cs := #[.string (⟨#[]⟩ : ByteArray), .slice none 0 0, .string (⟨#[]⟩ : ByteArray), .slice none 0 0]) (t := 28) ?hr ?_; (case hd => rfl); (case hg => rfl); (case hr => first | (go_simp; done) | (go_simp; rfl)); intro gb177 hg w7 hbox hb; have n0_ := Aside0.mk (Kd.R_below (Kd.R_elderB (by (with_reducible repeat (first | apply Kd.R_alloc | apply Kd.R_drewN | apply Kd.R_drew)); exact HO_3.out) gb177 (Nat.le_of_eq hg.symm)) hb); have n1_ := Aside0.mk (below_step (by repeat (first | (with_reducible first | exact HB.out | apply below_alloc | apply pw_below_drewN | apply below_drew1) | exact HB.out)) hb); have n2_ := Aside0.mk (hbox); have n3_ := Aside0.mk ((by rw [hg]; exact (below_size (by repeat (first | (with_reducible first | exact HB.out | apply below_alloc | apply pw_below_drewN | apply below_drew1) | exact HB.out))) : w.heap.size ≤ gb177)); have n4_ := Aside0.mk ((by rw [hg]; exact (below_size (by repeat (first | (with_reducible first | exact HB.out | apply below_alloc | apply pw_below_drewN | apply below_drew1) | exact HB.out))) : w.heap.size ≤ gb177)); clear HO_3; clear HB; have HO_3 := n0_; have HB := n1_; have BK177 := n2_; have GW177 := n3_; have GE177 := n4_; clear n0_ n1_ n2_ n3_ n4_; clear hb hbox hg; have hcz8_0 : w7.cell? ⟨gb177, 0, none⟩ = some (.string (⟨#[]⟩ : ByteArray)) := (blk_cell BK177.out 0).trans rfl; have hcz8_1 : w7.cell? ⟨gb177, 1, none⟩ = some (.slice none 0 0) := (blk_cell BK177.out 1).trans rfl; have hcz8_2 : w7.cell? ⟨gb177, 2, none⟩ = some (.string (⟨#[]⟩ : ByteArray)) := (blk_cell BK177.out 2).trans rfl; have hcz8_3 : w7.cell? ⟨gb177, 3, none⟩ = some (.slice none 0 0) := (blk_cell BK177.out 3).trans rfl; have hfz8_0 := blk_frozen BK177.out 0; have hfz8_1 := blk_frozen BK177.out 1; have hfz8_2 := blk_frozen BK177.out 2; have hfz8_3 := blk_frozen BK177.out 3) | ((with_reducible refine gate_builtin (b := .append) (xs := #[.const (.slice none 0 0), .tmp 17]) rfl ?_); at_builtin; refine Kd.R_append_rows k68 (w0 := w) w.heap.size rfl (.const (.slice none 0 0)) (.tmp 17) 26 68 (.agg #[(.string ⟨#[]⟩), (.string ⟨#[]⟩)]) 32 rfl Try.underlying26 info68 rfl (by decide) (by omega) (.slice none 0 0) ([] : List (S68)) ((rd_T28 l0 x4_1).f1) _ _ _ (fun _ => True) (fun _ => False) rfl rfl ?aO ?aR (fun _ _ h => h) (fun _ h => h.elim) ?aF ?aB ?aS ?aL ?_; (case aR => exact Kd.C_below HR176_1.out (by repeat (first | (with_reducible first | exact HB.out | apply below_alloc | apply pw_below_drewN | apply below_drew1 | refine below_set ?_ GE177.out) | exact HB.out))); (case aB => exact (by repeat (first | (with_reducible first | exact HB.out | apply below_alloc | apply pw_below_drewN | apply below_drew1 | refine below_set ?_ GE177.out) | exact HB.out))); (case aF => exact (fun _ _ => trivial)); (case aO => exact ((Kd.R_nil _ _ _ _ (fun _ => True)))); (case aS => exact (below_size (by repeat (first | (with_reducible first | exact HB.out | apply below_alloc | apply pw_below_drewN | apply below_drew1 | refine below_set ?_ GE177.out) | exact HB.out)))); (case aL => have := LMc4.out; omega); intro v179 w9 ho hb hg hat; rw [← Ny178.out] at ho; have n0_ := Aside0.mk (Kd.R_after (Kd.R_apart_nil (by (with_reducible repeat (first | apply Kd.R_alloc | apply Kd.R_drewN | apply Kd.R_drew)); exact (Kd.R_mono (Kd.R_far (p := ⟨gb177, 3, none⟩) (Kd.R_far (p := ⟨gb177, 2, none⟩) (Kd.R_far (p := ⟨gb177, 1, none⟩) (Kd.R_far (p := ⟨gb177, 0, none⟩) (Kd.R_mono HO_3.out (fun k_ hk => (⟨hk, hk.2⟩ : _ ∧ k_ ≠ gb177))) (fun _ hk => hk.2) (.string ((rd_T28 l0 x4_1).f0))) (fun _ hk => hk.2) (.slice A176_1 ((rd_T28 l0 x4_1).f1).length c176_1)) (fun _ hk => hk.2) (.string ((rd_T28 l0 x4_1).f2))) (fun _ hk => hk.2) (.slice A176_3 ((rd_T28 l0 x4_1).f3).length c176_3)) (fun _ h_ => h_.1)))) hg hat); have n1_ := Aside0.mk (blk_grown (g := gb177) (o := .cells #[.string ((rd_T28 l0 x4_1).f0), .slice A176_1 ((rd_T28 l0 x4_1).f1).length c176_1, .string ((rd_T28 l0 x4_1).f2), .slice A176_3 ((rd_T28 l0 x4_1).f3).length c176_3] 28 (0, 0)) (by (with_reducible repeat (first | refine blk_drewN ?_ _ | refine blk_drew ?_ | refine blk_alloc ?_ _)); refine blk_put (cs := #[.string ((rd_T28 l0 x4_1).f0), .slice A176_1 ((rd_T28 l0 x4_1).f1).length c176_1, .string ((rd_T28 l0 x4_1).f2), .slice none 0 0]) ?_ 3 _ rfl; (with_reducible repeat (first | refine blk_drewN ?_ _ | refine blk_drew ?_ | refine blk_alloc ?_ _)); refine blk_put (cs := #[.string ((rd_T28 l0 x4_1).f0), .slice A176_1 ((rd_T28 l0 x4_1).f1).length c176_1, .string (⟨#[]⟩ : ByteArray), .slice none 0 0]) ?_ 2 _ rfl; (with_reducible repeat (first | refine blk_drewN ?_ _ | refine blk_drew ?_ | refine blk_alloc ?_ _)); refine blk_put (cs := #[.string ((rd_T28 l0 x4_1).f0), .slice none 0 0, .string (⟨#[]⟩ : ByteArray), .slice none 0 0]) ?_ 1 _ rfl; (with_reducible repeat (first | refine blk_drewN ?_ _ | refine blk_drew ?_ | refine blk_alloc ?_ _)); refine blk_put (cs := #[.string (⟨#[]⟩ : ByteArray), .slice none 0 0, .string (⟨#[]⟩ : ByteArray), .slice none 0 0]) ?_ 0 _ rfl; (with_reducible repeat (first | refine blk_drewN ?_ _ | refine blk_drew ?_ | refine blk_alloc ?_ _)); exact BK177.out) hg (by simp [Value.ownBlock])); have n2_ := Aside0.mk (hb); have n3_ := Aside0.mk (ho); clear HO_3; clear BK177; clear HB; have HO_3 := n0_; have BK177 := n1_; have HB := n2_; have HO180 := n3_; clear n0_ n1_ n2_ n3_; clear ho hb hg hat; obtain ⟨Ao10, co10, eo10⟩ := Kd.R_slice HO180.out; subst eo10; have hcz11_0 : w9.cell? ⟨gb177, 0, none⟩ = some (.string ((rd_T28 l0 x4_1).f0)) := (blk_cell BK177.out 0).trans rfl; have hcz11_1 : w9.cell? ⟨gb177, 1, none⟩ = some (.slice A176_1 ((rd_T28 l0 x4_1).f1).length c176_1) := (blk_cell BK177.out 1).trans rfl; have hcz11_2 : w9.cell? ⟨gb177, 2, none⟩ = some (.string ((rd_T28 l0 x4_1).f2)) := (blk_cell BK177.out 2).trans rfl; have hcz11_3 : w9.cell? ⟨gb177, 3, none⟩ = some (.slice A176_3 ((rd_T28 l0 x4_1).f3).length c176_3) := (blk_cell BK177.out 3).trans rfl; have hfz11_0 := blk_frozen BK177.out 0; have hfz11_1 := blk_frozen BK177.out 1; have hfz11_2 := blk_frozen BK177.out 2; have hfz11_3 := blk_frozen BK177.out 3) | ((with_reducible refine gate_callee (f := 14) rfl ?_); refine goesL_ (some 22) rfl rfl Try.func14 (by kernel_rfl) rfl #[.slice A176_3 ((rd_T28 l0 x4_1).f3).length c176_3] rfl (by (try simp only [List.map_toArray, List.map_cons, List.map_nil]); first | done | rfl | (simp only [List.length_drop, List.length_take]; rfl)) ?_; (with_reducible refine (ih k1 (by have := HK1.out; omega) _ _ ((rd_T28 l0 x4_1).f3) t181 _ ?side1 ?side2 A5.out).mono ?_); (case side1 => exact Kd.C_below HR176_3.out (by repeat (first | (with_reducible first | exact HB.out | apply below_alloc | apply pw_below_drewN | apply below_drew1 | refine below_set ?_ GE177.out) | exact HB.out))); (case side2 => exact HC176_3.out); rintro e w12 ⟨v182, rfl, ho0, hb⟩; refine ⟨_, rfl, ?_⟩; have n0_ := Aside0.mk (Kd.R_elder' (by (with_reducible repeat (first | apply Kd.R_alloc | apply Kd.R_drewN | apply Kd.R_drew)); exact (Kd.R_mono (Kd.R_far (p := ⟨gb177, 1, none⟩) (Kd.R_mono HO_3.out (fun k_ hk => (⟨hk, hk.1.2⟩ : _ ∧ k_ ≠ gb177))) (fun _ hk => hk.2) (.slice Ao10 y178.length co10)) (fun _ h_ => h_.1))) (Kd.R_base ho0) hb); have n1_ := Aside0.mk (Kd.R_below (by (with_reducible repeat (first | apply Kd.R_alloc | apply Kd.R_drewN | apply Kd.R_drew)); exact (Kd.R_mono (Kd.R_far (p := ⟨gb177, 1, none⟩) (Kd.R_types HO180.out BK177.out (by decide)) (fun _ hk => hk.2) (.slice Ao10 y178.length co10)) (fun _ h_ => h_.1))) hb); have n2_ := Aside0.mk (Kd.R_lower (Kd.R_newB (Kd.R_new' (Kd.R_new' ho0 (Kd.R_lt (by (with_reducible repeat (first | apply Kd.R_alloc | apply Kd.R_drewN | apply Kd.R_drew)); exact (Kd.R_mono (Kd.R_far (p := ⟨gb177, 1, none⟩) (Kd.R_mono HO_3.out (fun k_ hk => (⟨hk, hk.1.2⟩ : _ ∧ k_ ≠ gb177))) (fun _ hk => hk.2) (.slice Ao10 y178.length co10)) (fun _ h_ => h_.1))))) (Kd.R_lt (by (with_reducible repeat (first | apply Kd.R_alloc | apply Kd.R_drewN | apply Kd.R_drew)); exact (Kd.R_mono (Kd.R_far (p := ⟨gb177, 1, none⟩) (Kd.R_types HO180.out BK177.out (by decide)) (fun _ hk => hk.2) (.slice Ao10 y178.length co10)) (fun _ h_ => h_.1))))) (g := gb177) (o := .cells #[.string ((rd_T28 l0 x4_1).f0), .slice Ao10 y178.length co10, .string ((rd_T28 l0 x4_1).f2), .slice A176_3 ((rd_T28 l0 x4_1).f3).length c176_3] 28 (0, 0)) (by (with_reducible repeat (first | refine blk_drewN ?_ _ | refine blk_drew ?_ | refine blk_alloc ?_ _)); refine blk_put (cs := #[.string ((rd_T28 l0 x4_1).f0), .slice A176_1 ((rd_T28 l0 x4_1).f1).length c176_1, .string ((rd_T28 l0 x4_1).f2), .slice A176_3 ((rd_T28 l0 x4_1).f3).length c176_3]) ?_ 1 _ rfl; (with_reducible repeat (first | refine blk_drewN ?_ _ | refine blk_drew ?_ | refine blk_alloc ?_ _)); exact BK177.out)) (below_size (by repeat (first | (with_reducible first | exact HB.out | apply below_alloc | apply pw_below_drewN | apply below_drew1 | refine below_set ?_ GE177.out) | exact HB.out)))); have n3_ := Aside0.mk (blk_below (g := gb177) (o := .cells #[.string ((rd_T28 l0 x4_1).f0), .slice Ao10 y178.length co10, .string ((rd_T28 l0 x4_1).f2), .slice A176_3 ((rd_T28 l0 x4_1).f3).length c176_3] 28 (0, 0)) (by (with_reducible repeat (first | refine blk_drewN ?_ _ | refine blk_drew ?_ | refine blk_alloc ?_ _)); refine blk_put (cs := #[.string ((rd_T28 l0 x4_1).f0), .slice A176_1 ((rd_T28 l0 x4_1).f1).length c176_1, .string ((rd_T28 l0 x4_1).f2), .slice A176_3 ((rd_T28 l0 x4_1).f3).length c176_3]) ?_ 1 _ rfl; (with_reducible repeat (first | refine blk_drewN ?_ _ | refine blk_drew ?_ | refine blk_alloc ?_ _)); exact BK177.out) hb); have n4_ := Aside0.mk (below_step (by repeat (first | (with_reducible first | exact HB.out | apply below_alloc | apply pw_below_drewN | apply below_drew1 | refine below_set ?_ GE177.out) | exact HB.out)) hb); clear HO_3; clear HO180; clear BK177; clear HB; have HO_3 := n0_; have HO180 := n1_; have HO183 := n2_; have BK177 := n3_; have HB := n4_; clear n0_ n1_ n2_ n3_ n4_; (try clear hb); (try clear hb2); (try clear hk); (try clear hi); (try clear ho0); obtain ⟨Ao13, co13, eo13⟩ := Kd.R_slice HO183.out; subst eo13; have hcz14_0 : w12.cell? ⟨gb177, 0, none⟩ = some (.string ((rd_T28 l0 x4_1).f0)) := (blk_cell BK177.out 0).trans rfl; have hcz14_1 : w12.cell? ⟨gb177, 1, none⟩ = some (.slice Ao10 y178.length co10) := (blk_cell BK177.out 1).trans rfl; have hcz14_2 : w12.cell? ⟨gb177, 2, none⟩ = some (.string ((rd_T28 l0 x4_1).f2)) := (blk_cell BK177.out 2).trans rfl; have hcz14_3 : w12.cell? ⟨gb177, 3, none⟩ = some (.slice A176_3 ((rd_T28 l0 x4_1).f3).length c176_3) := (blk_cell BK177.out 3).trans rfl; have hfz14_0 := blk_frozen BK177.out 0; have hfz14_1 := blk_frozen BK177.out 1; have hfz14_2 := blk_frozen BK177.out 2; have hfz14_3 := blk_frozen BK177.out 3) | ((with_reducible refine gate_store (t := 23) (p := 23) rfl ?_); refine store_event (t := 23) (p := 23) (v := ?vo_w15) (w1 := (w12.setCell ⟨gb177, 3, none⟩ (.slice Ao13 t181.length co13))) ?hg ?ho ?hn ?hr ?_; (case ho => rfl); (case hg => rfl); (case hn => rfl); (case hr => first | (go_simp; done) | (go_simp; rfl)); intro w15 hw; have n0_ : Aside0 (Kd.R k28 28 w15 w.heap.size (fun k_ => some k_ ≠ (.slice Ao10 y178.length co10 : Value).ownBlock ∧ some k_ ≠ (.slice Ao13 t181.length co13 : Value).ownBlock ∧ k_ ≠ gb177) u3 x3_1) := ⟨(by rw [hw]; exact (by (with_reducible repeat (first | apply Kd.R_alloc | apply Kd.R_drewN | apply Kd.R_drew)); exact Kd.R_mono (Kd.R_far (p := ⟨gb177, 3, none⟩) (Kd.R_mono HO_3.out (fun k_ hk => (⟨hk, hk.1.1.2⟩ : _ ∧ k_ ≠ gb177))) (fun _ hk => hk.2) (.slice Ao13 t181.length co13)) (fun _ hk => ⟨hk.1.1.2, ⟨hk.1.2, hk.1.1.1.2⟩⟩)))⟩; have n1_ : Aside0 (Kd.R k68 68 w15 w.heap.size (fun _ => True) (.slice Ao10 y178.length co10) y178) := ⟨(by rw [hw]; exact (by (with_reducible repeat (first | apply Kd.R_alloc | apply Kd.R_drewN | apply Kd.R_drew)); exact Kd.R_mono (Kd.R_far (p := ⟨gb177, 3, none⟩) (Kd.R_types HO180.out BK177.out (by decide)) (fun _ hk => hk.2) (.slice Ao13 t181.length co13)) (fun _ hk => trivial)))⟩; have n2_ : Aside0 (Kd.R k28 28 w15 w.heap.size (fun k_ => some k_ ≠ (u3 : Value).ownBlock ∧ some k_ ≠ (.slice Ao10 y178.length co10 : Value).ownBlock ∧ k_ ≠ gb177) (.slice Ao13 t181.length co13) t181) := ⟨(by rw [hw]; exact (by (with_reducible repeat (first | apply Kd.R_alloc | apply Kd.R_drewN | apply Kd.R_drew)); exact Kd.R_mono (Kd.R_far (p := ⟨gb177, 3, none⟩) (Kd.R_mono HO183.out (fun k_ hk => (⟨hk, hk.2⟩ : _ ∧ k_ ≠ gb177))) (fun _ hk => hk.2) (.slice Ao13 t181.length co13)) (fun _ hk => ⟨hk.1.1.1.2, ⟨hk.1.1.2, hk.1.2⟩⟩)))⟩; have n3_ : Aside0 (w15.heap[gb177]? = some (.cells #[.string ((rd_T28 l0 x4_1).f0), .slice Ao10 y178.length co10, .string ((rd_T28 l0 x4_1).f2), .slice Ao13 t181.length co13] 28 (0, 0))) := ⟨(by rw [hw]; exact (by (with_reducible repeat (first | refine blk_drewN ?_ _ | refine blk_drew ?_ | refine blk_alloc ?_ _)); refine blk_put (cs := #[.string ((rd_T28 l0 x4_1).f0), .slice Ao10 y178.length co10, .string ((rd_T28 l0 x4_1).f2), .slice A176_3 ((rd_T28 l0 x4_1).f3).length c176_3]) ?_ 3 _ rfl; (with_reducible repeat (first | refine blk_drewN ?_ _ | refine blk_drew ?_ | refine blk_alloc ?_ _)); exact BK177.out))⟩; have n4_ : Aside0 (Below w.heap.size w w15) := ⟨(by rw [hw]; exact (by repeat (first | (with_reducible first | exact HB.out | apply below_alloc | apply pw_below_drewN | apply below_drew1 | refine below_set ?_ GE177.out) | exact HB.out)))⟩; clear hw; clear HO_3; clear HO180; clear HO183; clear BK177; clear HB; have HO_3 := n0_; have HO180 := n1_; have HO183 := n2_; have BK177 := n3_; have HB := n4_; clear n0_ n1_ n2_ n3_ n4_; have hcz16_0 : w15.cell? ⟨gb177, 0, none⟩ = some (.string ((rd_T28 l0 x4_1).f0)) := (blk_cell BK177.out 0).trans rfl; have hcz16_1 : w15.cell? ⟨gb177, 1, none⟩ = some (.slice Ao10 y178.length co10) := (blk_cell BK177.out 1).trans rfl; have hcz16_2 : w15.cell? ⟨gb177, 2, none⟩ = some (.string ((rd_T28 l0 x4_1).f2)) := (blk_cell BK177.out 2).trans rfl; have hcz16_3 : w15.cell? ⟨gb177, 3, none⟩ = some (.slice Ao13 t181.length co13) := (blk_cell BK177.out 3).trans rfl; have hfz16_0 := blk_frozen BK177.out 0; have hfz16_1 := blk_frozen BK177.out 1; have hfz16_2 := blk_frozen BK177.out 2; have hfz16_3 := blk_frozen BK177.out 3) | ((with_reducible refine gate_builtin (b := .append) (xs := #[.tmp 24, .tmp 26]) rfl ?_); at_builtin; refine Kd.R_append k28 (w0 := w) w.heap.size rfl (.tmp 24) (.tmp 26) 23 28 (.agg #[(.string ⟨#[]⟩), (.slice none 0 0), (.string ⟨#[]⟩), (.slice none 0 0)]) 80 rfl Try.underlying23 info28 rfl (by decide) (by omega) u3 x3_1 (⟨(rd_T28 l0 x4_1).f0, y178, (rd_T28 l0 x4_1).f2, t181⟩ : S28) [.string ((rd_T28 l0 x4_1).f0), .slice Ao10 y178.length co10, .string ((rd_T28 l0 x4_1).f2), .slice Ao13 t181.length co13] (fun k_ => k_ ≠ gb177) (fun k_ => ((fun k_ => k_ ≠ gb177)) k_ ∧ some k_ ≠ (u3 : Value).ownBlock) rfl rfl ?aP (fun _ hk => hk) ?aF ?aO ?aB ?aS ?aL ?_; (case aP => exact k28_mkM _ _ _ (⟨(rd_T28 l0 x4_1).f0, y178, (rd_T28 l0 x4_1).f2, t181⟩ : S28) (Kd.R_mono (Kd.R_types (Kd.R_apart' (HO180.out) (Kd.R_typed HO_3.out) (by decide)) BK177.out (by decide)) (fun k_ hk => ⟨hk.2, hk.1.2⟩)) (Kd.R_mono (HO183.out) (fun k_ hk => ⟨hk.2.2, hk.1⟩))); (case aB => exact (by repeat (first | (with_reducible first | exact HB.out | apply below_alloc | apply pw_below_drewN | apply below_drew1 | refine below_set ?_ GE177.out) | exact HB.out))); (case aF => exact (fun k_ hk => Kd.freshB (g := gb177) (o := .cells #[.string ((rd_T28 l0 x4_1).f0), .slice Ao10 y178.length co10, .string ((rd_T28 l0 x4_1).f2), .slice Ao13 t181.length co13] 28 (0, 0)) (by (with_reducible repeat (first | refine blk_drewN ?_ _ | refine blk_drew ?_ | refine blk_alloc ?_ _)); exact BK177.out) k_ hk)); (case aO => exact (by (with_reducible repeat (first | apply Kd.R_alloc | apply Kd.R_drewN | apply Kd.R_drew)); exact Kd.R_mono HO_3.out (fun _ hk => hk.2.2))); (case aS => exact (below_size (by repeat (first | (with_reducible first | exact HB.out | apply below_alloc | apply pw_below_drewN | apply below_drew1 | refine below_set ?_ GE177.out) | exact HB.out)))); (case aL => have := LMc6.out; omega); intro v185 w17 ho hb hg hat; rw [← Ny184.out] at ho; have n0_ := Aside0.mk (blk_grown (g := gb177) (o := .cells #[.string ((rd_T28 l0 x4_1).f0), .slice Ao10 y178.length co10, .string ((rd_T28 l0 x4_1).f2), .slice Ao13 t181.length co13] 28 (0, 0)) (by (with_reducible repeat (first | refine blk_drewN ?_ _ | refine blk_drew ?_ | refine blk_alloc ?_ _)); exact BK177.out) hg (Kd.R_away HO_3.out (fun _ hk => hk.2.2))); have n1_ := Aside0.mk (hb); have n2_ := Aside0.mk (ho); clear BK177; clear HB; clear HO_3; clear HO180; clear HO183; have BK177 := n0_; have HB := n1_; have HO186 := n2_; clear n0_ n1_ n2_; clear ho hb hg hat))
              go_roundg k1
              case measure => have := HK1.out; omega
              case rel => exact ⟨(y184), (wrap64 (x4_1 + 1)), (by first | rfl | (simp; done) | (simp [*]; done) | (simp [bne]; done)), H', ⟨by have := HK1.out; omega⟩, ⟨by (with_reducible repeat (first | apply Kd.R_alloc | apply Kd.R_drewN | apply Kd.R_drew)); exact Kd.R_mono HO186.out (fun _ hk => trivial)⟩, ⟨by repeat (first | (with_reducible first | exact HB.out | apply below_alloc | apply pw_below_drewN | apply below_drew1 | refine below_set ?_ GE177.out) | exact HB.out)⟩⟩
            · rw [if_neg c6] at H
              exact absurd H (by simp)
          · rw [if_neg c4] at H
            exact absurd H (by simp)
        · rw [if_neg c3] at H
          exact absurd H (by simp)
      · rw [if_neg c2] at H
        have c2b0 : decide (x4_1 < (l0.length : Int)) = false := decide_eq_false c2
        clear c2
        obtain rfl := Option.some.inj H
        go_wp2
        go_ret
        exact ⟨_, by first | rfl | (simp [errW_none, errW_some] <;> rfl) | (simp [*, errW_none, errW_some] <;> rfl), by (with_reducible repeat (first | apply Kd.R_alloc | apply Kd.R_drewN | apply Kd.R_drew)); exact HO_3.out, by repeat (first | (with_reducible first | exact HB.out | apply below_alloc | apply pw_below_drewN | apply below_drew1) | exact HB.out)⟩
end Go.Proofs.Ytaibikajpacemaa.X
end
section
namespace Go.Proofs.Ytaibikajpacemaa.X
open Go.RowKit Go.Proofs.YtaibikajpacemaaW.PrintWords Go.Proofs.YtaibikajpacemaaW.PrintLast Go.Proofs.YtaibikajpacemaaW.PrintMore
attribute [local go_sem] max2_int min2_int max_two min_two max_three min_three max_four min_four   -- for this text's walks alone
set_option linter.unusedVariables false
set_option linter.unusedSimpArgs false
def bobbinetkeep_sameInts.l0 : Nat → List Int → List Int → Int → Option (Bool)
  | 0, _, _, _ => none
  | k + 1, x0, x1, x5 => if x5 < (x0.length : Int) then (if 0 ≤ x5 then (if x5 < (x1.length : Int) then (if (rd x0 x5) = (rd x1 x5) then (bobbinetkeep_sameInts.l0 k x0 x1 (wrap64 (x5 + 1))) else (some false)) else (none)) else (none)) else (some true)
def bobbinetkeep_sameInts.f (k : Nat) (l0 : List Int) (l1 : List Int) : Option (Bool) := if (l0.length : Int) = (l1.length : Int) then (bobbinetkeep_sameInts.l0 k l0 l1 0) else (some false)
theorem bobbinetkeep_sameInts.mono_l : ∀ k, (∀ y0 y1 y2, LeO (bobbinetkeep_sameInts.l0 k y0 y1 y2) (bobbinetkeep_sameInts.l0 (k + 1) y0 y1 y2))
  | 0 => fun _ _ _ r h => by simp [bobbinetkeep_sameInts.l0] at h
  | k + 1 => by
    have ih0 := bobbinetkeep_sameInts.mono_l k
    · intro y0 y1 y2
      unfold bobbinetkeep_sameInts.l0
      repeat' first
      | (with_reducible exact ih0 _ _ _)
      | (with_reducible exact LeO.refl _)
      | (with_reducible exact LeO.none _)
      | (with_reducible refine LeO.ite ?_ ?_)
      | (with_reducible refine LeO.bind ?_ (fun _ => ?_))
      | exact ih0 _ _ _
      | exact LeO.none _
      | refine LeO.ite ?_ ?_
      | refine LeO.bind ?_ (fun _ => ?_)
theorem bobbinetkeep_sameInts.mono : ∀ a0 a1 k, LeO (bobbinetkeep_sameInts.f k a0 a1) (bobbinetkeep_sameInts.f (k + 1) a0 a1) := by
  intro a0 a1 k
  have ih0 := bobbinetkeep_sameInts.mono_l k
  unfold bobbinetkeep_sameInts.f
  repeat' first
      | (with_reducible exact ih0 _ _ _)
      | (with_reducible exact LeO.refl _)
      | (with_reducible exact LeO.none _)
      | (with_reducible refine LeO.ite ?_ ?_)
      | (with_reducible refine LeO.bind ?_ (fun _ => ?_))
      | exact ih0 _ _ _
      | exact LeO.none _
      | refine LeO.ite ?_ ?_
      | refine LeO.bind ?_ (fun _ => ?_)
set_option maxHeartbeats 8000000 in
set_option maxRecDepth 100000 in
theorem bobbinetkeep_sameInts.calls (k : Nat) (A0 : Option Addr) (c0 : Nat) (l0 : List Int) (A1 : Option Addr) (c1 : Nat) (l1 : List Int) (r : Bool) (w : World) (hr0 : Kd.C (Kd.int .i64) w A0 l0.length l0) (hc0 : l0.length ≤ c0) (hr1 : Kd.C (Kd.int .i64) w A1 l1.length l1) (hc1 : l1.length ≤ c1) (h : bobbinetkeep_sameInts.f k l0 l1 = some r) :
    Calls Try.prog 23 #[.slice A0 l0.length c0, .slice A1 l1.length c1] w fun e w' => e = .returned (.bool r) ∧ Drawn0 w w' := by
  have HR0 := Aside0.mk hr0
  have HC0 := Aside0.mk hc0
  clear hr0 hc0
  have HR1 := Aside0.mk hr1
  have HC1 := Aside0.mk hc1
  clear hr1 hc1
  have H : (if (l0.length : Int) = (l1.length : Int) then (bobbinetkeep_sameInts.l0 k l0 l1 0) else (some false)) = some r := h
  clear h
  by_cases c3 : (l0.length : Int) = (l1.length : Int)
  · rw [if_pos c3] at H
    have c3b0 : ((l0.length : Int) == (l1.length : Int)) = true := beq_iff_eq.mpr c3
    have c3b1 : ((l0.length : Int) != (l1.length : Int)) = false := bne_eq_false_iff_eq.mpr c3
    have c3b2 : (l0.length == l1.length) = true := by first | simpa using c3 | (simp at c3 ⊢; omega)
    clear c3
    have H' := Aside0.mk H
    clear H
    go_enter Try.func23, Try.ntmps23
    go_wp2
    repeat (go_quiet (fail); try go_wp2)
    go_loopg [5] k (fun kq v5 w' => ∃ (x5_1 : Int), v5 = .int .i64 x5_1 ∧ Aside0 (bobbinetkeep_sameInts.l0 kq l0 l1 x5_1 = some r) ∧ Aside0 (kq ≤ k) ∧ Drawn0 w w')
    case atStart => exact ⟨(0), (by first | rfl | (simp; done) | (simp [*]; done) | (simp [bne]; done)), H', ⟨Nat.le_refl _⟩, by repeat (first | exact Drawn0.refl _ | apply Drawn0.step)⟩
    case round =>
      clear H'
      try clear c1
      try clear c2
      try clear p2
      try clear c3
      try clear c3b0
      try clear c3b1
      try clear c3b2
      obtain ⟨x5_1, rfl, HA, HK1, ⟨m1, rfl⟩⟩ := hrel
      cases gk with
      | zero => exact absurd HA.out (by simp [bobbinetkeep_sameInts.l0])
      | succ k1 =>
        have H := HA.out
        clear HA
        simp only [bobbinetkeep_sameInts.l0] at H
        by_cases c4 : x5_1 < (l0.length : Int)
        · rw [if_pos c4] at H
          have c4b0 : decide (x5_1 < (l0.length : Int)) = true := decide_eq_true c4
          clear c4
          by_cases c5 : 0 ≤ x5_1
          · rw [if_pos c5] at H
            have c5b0 : decide (0 ≤ x5_1) = true := decide_eq_true c5
            clear c5
            by_cases c6 : x5_1 < (l1.length : Int)
            · rw [if_pos c6] at H
              have c6b0 : decide (x5_1 < (l1.length : Int)) = true := decide_eq_true c6
              clear c6
              by_cases c7 : (rd l0 x5_1) = (rd l1 x5_1)
              · rw [if_pos c7] at H
                have c7b0 : ((rd l0 x5_1) == (rd l1 x5_1)) = true := beq_iff_eq.mpr c7
                have c7b1 : ((rd l0 x5_1) != (rd l1 x5_1)) = false := bne_eq_false_iff_eq.mpr c7
                clear c7
                have H' := Aside0.mk H
                clear H
                have p187 : 0 ≤ (x5_1 : Int) := of_decide_eq_true (by first | (with_reducible assumption) | assumption)
                have q187 : x5_1 < (l0.length : Int) := of_decide_eq_true (by first | (with_reducible assumption) | assumption)
                obtain ⟨ad187, e187, hx187_0⟩ := Kd.at_int HR0.out x5_1 p187 q187
                cases e187
                replace p187 := eq_true p187
                replace q187 := eq_true q187
                have p188 : 0 ≤ (x5_1 : Int) := of_decide_eq_true (by first | (with_reducible assumption) | assumption)
                have q188 : x5_1 < (l1.length : Int) := of_decide_eq_true (by first | (with_reducible assumption) | assumption)
                obtain ⟨ad188, e188, hx188_0⟩ := Kd.at_int HR1.out x5_1 p188 q188
                cases e188
                replace p188 := eq_true p188
                replace q188 := eq_true q188
                go_wp2
                repeat (go_quiet (fail); try go_wp2)
                go_roundg k1
                case measure => have := HK1.out; omega
                case rel => exact ⟨(wrap64 (x5_1 + 1)), (by first | rfl | (simp; done) | (simp [*]; done) | (simp [bne]; done)), H', ⟨by have := HK1.out; omega⟩, by repeat (first | exact Drawn0.refl _ | apply Drawn0.step)⟩
              · rw [if_neg c7] at H
                have c7b0 : ((rd l0 x5_1) == (rd l1 x5_1)) = false := beq_eq_false_iff_ne.mpr c7
                have c7b1 : ((rd l0 x5_1) != (rd l1 x5_1)) = true := bne_iff_ne.mpr c7
                obtain rfl := Option.some.inj H
                have p187 : 0 ≤ (x5_1 : Int) := of_decide_eq_true (by first | (with_reducible assumption) | assumption)
                have q187 : x5_1 < (l0.length : Int) := of_decide_eq_true (by first | (with_reducible assumption) | assumption)
                obtain ⟨ad187, e187, hx187_0⟩ := Kd.at_int HR0.out x5_1 p187 q187
                cases e187
                replace p187 := eq_true p187
                replace q187 := eq_true q187
                have p188 : 0 ≤ (x5_1 : Int) := of_decide_eq_true (by first | (with_reducible assumption) | assumption)
                have q188 : x5_1 < (l1.length : Int) := of_decide_eq_true (by first | (with_reducible assumption) | assumption)
                obtain ⟨ad188, e188, hx188_0⟩ := Kd.at_int HR1.out x5_1 p188 q188
                cases e188
                replace p188 := eq_true p188
                replace q188 := eq_true q188
                go_wp2
                repeat (go_quiet (fail); try go_wp2)
                go_ret
                exact ⟨by first | rfl | (simp; done) | (simp [*]; done), by repeat (first | exact Drawn0.refl _ | apply Drawn0.step)⟩
            · rw [if_neg c6] at H
              exact absurd H (by simp)
          · rw [if_neg c5] at H
            exact absurd H (by simp)
        · rw [if_neg c4] at H
          have c4b0 : decide (x5_1 < (l0.length : Int)) = false := decide_eq_false c4
          clear c4
          obtain rfl := Option.some.inj H
          go_wp2
          repeat (go_quiet (fail); try go_wp2)
          go_ret
          exact ⟨by first | rfl | (simp; done) | (simp [*]; done), by repeat (first | exact Drawn0.refl _ | apply Drawn0.step)⟩
  · rw [if_neg c3] at H
    have c3b0 : ((l0.length : Int) == (l1.length : Int)) = false := beq_eq_false_iff_ne.mpr c3
    have c3b1 : ((l0.length : Int) != (l1.length : Int)) = true := bne_iff_ne.mpr c3
    have c3b2 : (l0.length == l1.length) = false := by first | simpa using c3 | (simp at c3 ⊢; omega)
    obtain rfl := Option.some.inj H
    go_enter Try.func23, Try.ntmps23
    go_wp2
    repeat (go_quiet (fail); try go_wp2)
    go_ret
    exact ⟨by first | rfl | (simp; done) | (simp [*]; done), by repeat (first | exact Drawn0.refl _ | apply Drawn0.step)⟩
end Go.Proofs.Ytaibikajpacemaa.X
end
