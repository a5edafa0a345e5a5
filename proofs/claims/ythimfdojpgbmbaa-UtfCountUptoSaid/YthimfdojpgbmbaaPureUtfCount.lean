/- UtfCount, for arguments of bulk at most 1,048,576: code points are at most the bytes, these at most four times so many, and the count of a text in two parts is that of both parts, less three at the most. -/
import Derived.Test.YthimfdojpgbmbaaX2
import Derived.Test.YthimfdojpgbmbaaLibUtf
namespace Go.Proofs.Ythimfdojpgbmbaa.Pure
open Go.RowKit Go.Proofs.Ythimfdojpgbmbaa.X Go.Proofs.YthimfdojpgbmbaaW.PrintWords Go.Proofs.YthimfdojpgbmbaaW.PrintLast

theorem runes_go (s : ByteArray) : ∀ (f pos : Nat), utf_Runes.go s f pos = (Utf.runesF f ((Utf.byts s).drop pos)).map Int.ofNat
  | 0, _ => rfl
  | f + 1, pos => by
    have hl := Utf.byts_length s
    by_cases h : pos < s.size
    · simp only [utf_Runes.go, if_pos h]
      rw [runes_go s f, Utf.decode_byts]
      cases e : (Utf.byts s).drop pos with
      | nil => have := congrArg List.length e; simp at this; omega
      | cons b l =>
        simp only [Utf.runesF, List.map_cons]
        have e2 : (Utf.byts s).drop (pos + (Utf.decN (b :: l)).2) = (b :: l).drop (Utf.decN (b :: l)).2 := by rw [← e, List.drop_drop]
        rw [e2]
        rfl
    · simp only [utf_Runes.go, if_neg h]
      have : (Utf.byts s).drop pos = [] := List.drop_eq_nil_of_le (by omega)
      rw [this]
      rfl
theorem runes_f (s : ByteArray) (h : s.size ≤ 17592186044416) : utf_Runes.f s = some ((Utf.runes (Utf.byts s)).map Int.ofNat) := by
  have e : utf_Runes.go s s.size 0 = (Utf.runes (Utf.byts s)).map Int.ofNat := by
    rw [runes_go, List.drop_zero, Utf.runes, Utf.byts_length]
  have hl := (Utf.runes_length _ (Utf.byts s) (Nat.le_refl _)).1
  unfold utf_Runes.f
  rw [e, if_pos (by simp only [List.length_map]; rw [Utf.byts_length] at hl; omega)]

theorem UtfCount : bobbinetkeep_UtfCount.Pure := by
  intro s t hs ht
  have hst : (s ++ t).size = s.size + t.size := ByteArray.size_append
  have h1 := Utf.runes_length _ (Utf.byts s) (Nat.le_refl _)
  have h2 := Utf.runes_length _ (Utf.byts t) (Nat.le_refl _)
  have h3 := Utf.runes_app_len _ (Utf.byts s) (Utf.byts t) (Nat.le_refl _)
  rw [← Utf.byts_append] at h3
  rw [Utf.byts_length] at h1 h2
  have ha : utf_Runes.f (⟨#[97]⟩ : ByteArray) = some [97] := by
    rw [runes_f _ (by decide)]
    rfl
  unfold bobbinetkeep_UtfCount.f
  rw [runes_f s (by omega), runes_f t (by omega), runes_f (s ++ t) (by omega)]
  simp only [Option.bind_some, List.length_map]
  have w1 : wrap64 (4 * ((Utf.runes (Utf.byts s)).length : Int)) = 4 * ((Utf.runes (Utf.byts s)).length : Int) := by unfold wrap64; omega
  have w2 : wrap64 (((Utf.runes (Utf.byts s)).length : Int) + ((Utf.runes (Utf.byts t)).length : Int)) = ((Utf.runes (Utf.byts s)).length : Int) + ((Utf.runes (Utf.byts t)).length : Int) := by unfold wrap64; omega
  have w3 : wrap64 (((Utf.runes (Utf.byts s)).length : Int) + ((Utf.runes (Utf.byts t)).length : Int) - 3) = ((Utf.runes (Utf.byts s)).length : Int) + ((Utf.runes (Utf.byts t)).length : Int) - 3 := by unfold wrap64; omega
  rw [w1, w2, w3, if_pos (by omega), if_pos (by omega), if_pos (by omega), if_pos (by omega), if_pos (by omega), ha]
  rfl
end Go.Proofs.Ythimfdojpgbmbaa.Pure
