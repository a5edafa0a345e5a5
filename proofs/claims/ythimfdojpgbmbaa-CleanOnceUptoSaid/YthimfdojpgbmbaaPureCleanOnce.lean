/- CleanOnce, for arguments of bulk at most 1,048,576: cleaning twice is cleaning once, what is clean holds neither 0 nor 13, and consists of code points. -/
import Derived.Test.YthimfdojpgbmbaaX10
import Derived.Test.YthimfdojpgbmbaaLibCleanX
import Derived.Test.YthimfdojpgbmbaaLibTextX
namespace Go.Proofs.Ythimfdojpgbmbaa.Pure
open Go.RowKit Go.Proofs.Ythimfdojpgbmbaa.X Go.Proofs.YthimfdojpgbmbaaW.PrintWords Go.Proofs.YthimfdojpgbmbaaW.PrintLast Go.Proofs.Ythimfdojpgbmbaa.Base Go.Proofs.Ythimfdojpgbmbaa.Utf Go.Proofs.Ythimfdojpgbmbaa.UtfX Go.Proofs.Ythimfdojpgbmbaa.Clean

theorem cleanO_a13 : Ev (fun k => utf_Clean.f k (⟨#[97, 13]⟩ : ByteArray)) (⟨#[97, 10]⟩ : ByteArray) := by
  have h := clean_f (⟨#[97, 13]⟩ : ByteArray) (by decide)
  have e : txt (cleanB (byts (⟨#[97, 13]⟩ : ByteArray))) = (⟨#[97, 10]⟩ : ByteArray) := by
    have e1 : byts (⟨#[97, 13]⟩ : ByteArray) = [97, 13] := by decide
    have e2 : byts (⟨#[97, 10]⟩ : ByteArray) = [97, 10] := by decide
    have e3 : cleanB [97, 13] = [97, 10] := by
      unfold cleanB
      rw [runes_ascii _ _ (by omega), runes_ascii _ _ (by omega), runes_nil]
      decide
    rw [← byts_inj, e1, e3, e2, byts_txt _ (by decide)]
  rwa [e] at h
theorem once_l0 (rs : List Nat) (hv : ∀ c ∈ rs, vld c) (hn : ∀ c ∈ rs, c ≠ 0 ∧ c ≠ 13) (s : ByteArray) (hs : byts s = encAll rs) (hz : s.size ≤ 10000000) :
    ∀ (n i : Nat), s.size - i = n → Ev (fun k => bobbinetkeep_CleanOnce.l0 k s (i : Int)) true
  | 0, i, h => by
    have e : s = strOfNums (ints (encAll rs)) := by rw [← byts_inj, hs]; exact (byts_nums _ (encAll_bytes rs hv)).symm
    refine Ev.one (fun k => rfl) ?_
    refine Ev.ite_neg (by omega) ?_
    by_cases hl : (s.size : Int) > 600
    · exact Ev.ite_pos hl (Ev.some _)
    · refine Ev.ite_neg hl (Ev.bnd0 (runes_f s (by omega)) ?_)
      rw [hs, runes_back _ hv]
      have hle : (encAll rs).length ≤ 600 := by rw [← hs, byts_length]; omega
      refine Ev.bnd (text_f rs hv hle) ?_
      dsimp only
      refine Ev.ite_pos rfl ?_
      rw [← e]
      simp only [beq_self_eq_true]
      exact Ev.some _
  | n + 1, i, h => by
    have hi : i < s.size := by omega
    refine Ev.one (fun k => rfl) ?_
    refine Ev.ite_pos (by omega) (Ev.ite_pos (by omega) ?_)
    have hb := bt_byts s i hi
    have hm : (byts s).getD i 0 ∈ encAll rs := by
      rw [← hs, List.getD_eq_getElem?_getD, List.getElem?_eq_getElem (by rw [byts_length]; exact hi)]
      exact List.getElem_mem _
    have h0 := encAll_no rs hn _ hm
    refine Ev.ite_neg (by rw [hb]; omega) (Ev.ite_neg (by rw [hb]; omega) ?_)
    rw [wrap_succ hi (by omega)]
    exact once_l0 rs hv hn s hs hz n (i + 1) (by omega)
theorem CleanOnce : bobbinetkeep_CleanOnce.Pure := by
  intro s hs
  have hv := cleanR_vld _ (runes_vld _ (byts s) (Nat.le_refl _) (byts_lt s))
  have hn := cleanR_no (runes (byts s))
  have hz := clean_size _ (byts s) (Nat.le_refl _) (byts_lt s)
  rw [byts_length] at hz
  have hl := cleanB_lt (byts s) (byts_lt s)
  have hb : byts (txt (cleanB (byts s))) = cleanB (byts s) := byts_txt _ hl
  have hsz : (txt (cleanB (byts s))).size = (cleanB (byts s)).length := size_txt _
  have hc : (cleanB (byts s)).length = (encAll (cleanR (runes (byts s)))).length := rfl
  refine Ev.rounds (r := true) ?_
  simp only [bobbinetkeep_CleanOnce.f]
  refine Ev.bnd (clean_f s (by omega)) (Ev.bnd (clean_f _ (by omega)) ?_)
  rw [hb, cleanB_twice _ (byts_lt s)]
  refine Ev.ite_pos rfl (Ev.bnd cleanO_a13 (Ev.ite_pos (by rw [toList_eq]) ?_))
  have hw : wrap64 (3 * (s.size : Int)) = 3 * (s.size : Int) := wrap_id (by omega) (by omega)
  rw [hw, decide_eq_false (by omega)]
  refine Ev.one (f := fun k => bobbinetkeep_CleanOnce.l0 k (txt (cleanB (byts s))) 0) (fun k => rfl) ?_
  exact once_l0 _ hv hn (txt (cleanB (byts s))) hb (by omega) _ 0 rfl
end Go.Proofs.Ythimfdojpgbmbaa.Pure
