/- Parts of the proof of UrlHidden that are needed, put together by pack.py. -/
import Derived.Test.YteimhgbihpbhaaaDoorQUrlHiddenaf
import Derived.Laws.BytesArg
import Derived.Lib.ConvBytes
section
namespace Go.Proofs.YteimhgbihpbhaaaDoor.X
open Go.RowKit Go.Proofs.YteimhgbihpbhaaaDoorW.PrintWords Go.Proofs.YteimhgbihpbhaaaDoorW.PrintLast Go.Proofs.YteimhgbihpbhaaaDoorW.PrintMore
attribute [local go_sem] max2_int min2_int max_two min_two max_three min_three max_four min_four   -- for this text's walks alone
set_option linter.unusedVariables false
set_option linter.unusedSimpArgs false
def tok_Small.sm (c : UInt8) : UInt8 := if 65 ≤ c.toNat ∧ c.toNat ≤ 90 then UInt8.ofNat (c.toNat + 32) else c
def tok_Small.f (a0 : ByteArray) : Option ByteArray := if a0.size ≤ 4611686018427387904 then some ⟨(a0.data.toList.map tok_Small.sm).toArray⟩ else none
/-- what stands at a place, when so many have been made small -/
def tok_Small.cur (s : ByteArray) (i j : Nat) : Int := if j < i ∧ 65 ≤ bt s (j : Int) ∧ bt s (j : Int) ≤ 90 then bt s (j : Int) + 32 else bt s (j : Int)
theorem tok_Small.bt_get (s : ByteArray) (j : Nat) (hj : j < s.size) : bt s (j : Int) = ((s.data.toList.getD j 0).toNat : Int) := by
  rw [← bt_at s (j : Int) (by omega)]
  simp [List.getD, hj]
  rfl
theorem tok_Small.back (s : ByteArray) : strOfNums ((List.range s.size).map fun j => tok_Small.cur s s.size j) = (⟨(s.data.toList.map tok_Small.sm).toArray⟩ : ByteArray) := by
  apply ByteArray.ext
  apply Array.ext'
  rw [strOfNums_data]
  have hl : s.data.toList.length = s.size := by rw [Array.length_toList]; rfl
  apply List.ext_getElem
  · simp
  · intro j h1 h2
    have hj : j < s.size := by simpa using h1
    simp only [List.getElem_map, List.getElem_range, List.toList_toArray]
    have hb := tok_Small.bt_get s j hj
    have hg : s.data.toList.getD j 0 = s.data.toList[j] := by simp [List.getD, hj]
    rw [hg] at hb
    have hlt := (s.data.toList[j]'(by omega)).toNat_lt
    unfold tok_Small.cur tok_Small.sm
    rw [hb]
    by_cases h : 65 ≤ (s.data.toList[j]'(by omega)).toNat ∧ (s.data.toList[j]'(by omega)).toNat ≤ 90
    · rw [if_pos h, if_pos ⟨hj, by omega, by omega⟩]
      congr 1
    · rw [if_neg h, if_neg (by omega)]
      rw [Int.toNat_natCast, UInt8.ofNat_toNat]
set_option maxHeartbeats 4000000 in
set_option maxRecDepth 100000 in
theorem tok_Small.calls (a0 : ByteArray) (r : ByteArray) (w : World) (h : tok_Small.f a0 = some r) :
    Calls Tryd.prog 32 #[.string a0] w fun e w' => e = .returned (.string r) ∧ Below w.heap.size w w' := by
  unfold tok_Small.f at h
  by_cases hs : a0.size ≤ 4611686018427387904
  case neg => rw [if_neg hs] at h; cases h
  rw [if_pos hs] at h
  obtain rfl := Option.some.inj h
  have HS := Aside0.mk hs
  clear h hs
  go_enter Tryd.func32, Tryd.ntmps32
  go_wp2
  rw [Lib.run_convert_string_bytes w 9 60 5 a0 (u := .string) Tryd.underlying9 Tryd.underlying60 Tryd.underlying5]
  simp only [Result.andThen]
  rw [Oper.upon_value]
  obtain ⟨W1, hW1⟩ : ∃ W1, W1 = Lib.bytesWorld w 5 a0 := ⟨_, rfl⟩
  have hbk := Lib.bytesWorld_at_new w 5 a0
  have hbl : Below w.heap.size w (Lib.bytesWorld w 5 a0) := ⟨rfl, rfl, rfl, by rw [Lib.bytesWorld_size]; omega, fun j hj => Lib.bytesWorld_at_old w 5 a0 j hj⟩
  have hcl : ∀ j, j < a0.size → (Lib.bytesWorld w 5 a0).cell? ⟨w.heap.size, j, none⟩ = some (.int .u8 (tok_Small.cur a0 0 j)) := by
    intro j hj
    rw [Lib.bytesWorld_cell w 5 a0 j hj]
    unfold tok_Small.cur
    rw [if_neg (by omega), tok_Small.bt_get a0 j hj]
  have hfr : ∀ j, j < a0.size → (Lib.bytesWorld w 5 a0).frozen? ⟨w.heap.size, j, none⟩ = false := by
    intro j hj
    have h2 : a0.size ≤ (Lib.bytesCells w 5 a0).size := by unfold Lib.bytesCells; simp
    unfold World.frozen?
    rw [hbk]
    simp
    omega
  rw [← hW1] at hbl hcl hfr ⊢
  obtain ⟨cap, hcap⟩ : ∃ cap, grownCap w a0.size 0 5 = cap := ⟨_, rfl⟩
  rw [hcap]
  obtain ⟨g, hg⟩ : ∃ g, w.heap.size = g := ⟨_, rfl⟩
  have HB := Aside0.mk hbl
  rw [hg] at hcl hfr ⊢
  have HC := Aside0.mk hcl
  have HF := Aside0.mk hfr
  have HG := Aside0.mk hg
  clear hbk hbl hcl hfr hW1 hcap hg
  go_wp2
  go_loopw [4, 5, 10] (fun _ _ v10 wr => ∃ i : Nat, v10 = .int .i64 (i : Int) ∧ Aside0 (i ≤ a0.size) ∧ Aside0 (∀ j, j < a0.size → wr.cell? ⟨g, j, none⟩ = some (.int .u8 (tok_Small.cur a0 i j))) ∧ Aside0 (∀ j, j < a0.size → wr.frozen? ⟨g, j, none⟩ = false) ∧ Aside0 (Below w.heap.size w wr)) (fun _ _ v10 _ => a0.size - (intOf v10).toNat)
  case atStart => exact ⟨0, rfl, ⟨Nat.zero_le _⟩, HC, HF, HB⟩
  case round =>
    clear HC HF HB
    obtain ⟨i, rfl, HI, HC, HF, HB⟩ := hrel
    by_cases hi : i < a0.size
    · have hc := HC.out i hi
      have hfz := HF.out i hi
      have hcur : tok_Small.cur a0 i i = bt a0 (i : Int) := by unfold tok_Small.cur; rw [if_neg (by omega)]
      rw [hcur] at hc
      have hrg := bt_range a0 (i : Int)
      have hst : ∀ j, tok_Small.cur a0 (i + 1) j = if j = i then (if 65 ≤ bt a0 (i : Int) ∧ bt a0 (i : Int) ≤ 90 then bt a0 (i : Int) + 32 else bt a0 (i : Int)) else tok_Small.cur a0 i j := by
        intro j
        unfold tok_Small.cur
        by_cases h : j = i
        · subst h
          rw [if_pos rfl]
          by_cases h2 : 65 ≤ bt a0 (j : Int) ∧ bt a0 (j : Int) ≤ 90
          · rw [if_pos h2, if_pos ⟨by omega, h2.1, h2.2⟩]
          · rw [if_neg h2, if_neg (fun h3 => h2 h3.2)]
        · rw [if_neg h]
          by_cases h2 : j < i
          · by_cases h3 : 65 ≤ bt a0 (j : Int) ∧ bt a0 (j : Int) ≤ 90
            · rw [if_pos ⟨by omega, h3.1, h3.2⟩, if_pos ⟨h2, h3.1, h3.2⟩]
            · rw [if_neg (fun h4 => h3 h4.2), if_neg (fun h4 => h3 h4.2)]
          · rw [if_neg (by omega), if_neg (by omega)]
      obtain ⟨x, hx⟩ : ∃ x, bt a0 (i : Int) = x := ⟨_, rfl⟩
      rw [hx] at hc hrg hst
      have hlt : decide ((i : Int) < (a0.size : Int)) = true := decide_eq_true (by omega)
      have hi0 : (0 : Int) ≤ (i : Int) := by omega
      have hi1 : (i : Int) < (a0.size : Int) := by omega
      have hw : wrap64 ((i : Int) + 1) = ((i + 1 : Nat) : Int) := by have := HS.out; unfold wrap64; omega
      have HST := Aside0.mk hst
      have HII := Aside0.mk hi
      have HW := Aside0.mk hw
      clear hst hcur hx hw
      by_cases h1 : 65 ≤ x
      · have d1 : decide (x ≥ 65) = true := decide_eq_true h1
        by_cases h2 : x ≤ 90
        · have d2 : decide (x ≤ 90) = true := decide_eq_true h2
          have w1 : IntKind.u8.wrap (x + 97) = x + 97 := by rw [IntKind.wrap_u8]; omega
          have w2 : IntKind.u8.wrap (x + 97 - 65) = x + 32 := by rw [IntKind.wrap_u8]; omega
          have HX : Aside0 (65 ≤ x ∧ x ≤ 90) := ⟨h1, h2⟩
          go_wp2
          go_roundw
          case rel =>
            refine ⟨i + 1, congrArg (Value.int .i64) HW.out, ⟨by have := HII.out; omega⟩, ⟨fun j hj => ?_⟩, ⟨fun j hj => ?_⟩, ⟨HB.out.setCell (by have := HG.out; show w.heap.size ≤ g; omega) _⟩⟩
            · rw [HST.out j]
              by_cases hj2 : j = i
              · subst hj2
                rw [if_pos rfl, if_pos HX.out]
                exact World.cell?_setCell_same _ _ _ (HC.out j hj)
              · rw [if_neg hj2]
                refine (World.cell?_setCell_other _ _ _ _ (fun e => hj2 ?_)).trans (HC.out j hj)
                injection e with _ e2 _
                exact e2.symm
            · rw [World.frozen?_setCell]; exact HF.out j hj
          case measure => have := HII.out; rw [HW.out]; simp [intOf]; omega
        · have d2 : decide (x ≤ 90) = false := decide_eq_false h2
          have HX : Aside0 (¬ (65 ≤ x ∧ x ≤ 90)) := ⟨fun h => h2 h.2⟩
          go_wp2
          go_roundw
          case rel =>
            refine ⟨i + 1, congrArg (Value.int .i64) HW.out, ⟨by have := HII.out; omega⟩, ⟨fun j hj => ?_⟩, HF, HB⟩
            rw [HST.out j]
            by_cases hj2 : j = i
            · subst hj2
              rw [if_pos rfl, if_neg HX.out]
              exact hc
            · rw [if_neg hj2]
              exact HC.out j hj
          case measure => have := HII.out; rw [HW.out]; simp [intOf]; omega
      · have d1 : decide (x ≥ 65) = false := decide_eq_false h1
        have HX : Aside0 (¬ (65 ≤ x ∧ x ≤ 90)) := ⟨fun h => h1 h.1⟩
        go_wp2
        go_roundw
        case rel =>
          refine ⟨i + 1, congrArg (Value.int .i64) HW.out, ⟨by have := HII.out; omega⟩, ⟨fun j hj => ?_⟩, HF, HB⟩
          rw [HST.out j]
          by_cases hj2 : j = i
          · subst hj2
            rw [if_pos rfl, if_neg HX.out]
            exact hc
          · rw [if_neg hj2]
            exact HC.out j hj
        case measure => have := HII.out; rw [HW.out]; simp [intOf]; omega
    · obtain rfl : i = a0.size := by have := HI.out; omega
      have hlt : decide ((a0.size : Int) < (a0.size : Int)) = false := decide_eq_false (by omega)
      have hcv := run_convert_bytes_arg (P := Tryd.prog) wr 60 5 Tryd.underlying60 Tryd.underlying5 g 0 a0.size cap ((List.range a0.size).map fun j => tok_Small.cur a0 a0.size j) (by simp) (fun j hj => by
        have e : ((List.range a0.size).map fun j => tok_Small.cur a0 a0.size j).getD j 0 = tok_Small.cur a0 a0.size j := by simp [List.getD, hj]
        rw [e, Nat.zero_add]
        exact HC.out j hj) 9 Tryd.underlying9
      rw [tok_Small.back] at hcv
      go_wp2
      go_ret
      exact ⟨rfl, HB.out⟩
end Go.Proofs.YteimhgbihpbhaaaDoor.X
end
