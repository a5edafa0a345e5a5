/- CleanParts, for arguments of bulk at most 1,048,576: a text divided behind an ASCII byte that is neither 0 nor 13 is cleaned part by part. -/
import Derived.Test.YthimfdojpgbmbaaX6
import Derived.Test.YthimfdojpgbmbaaLibCleanX
namespace Go.Proofs.Ythimfdojpgbmbaa.Pure
open Go.RowKit Go.Proofs.Ythimfdojpgbmbaa.X Go.Proofs.YthimfdojpgbmbaaW.PrintWords Go.Proofs.YthimfdojpgbmbaaW.PrintLast Go.Proofs.Ythimfdojpgbmbaa.Base Go.Proofs.Ythimfdojpgbmbaa.Utf Go.Proofs.Ythimfdojpgbmbaa.UtfX Go.Proofs.Ythimfdojpgbmbaa.Clean

theorem clean_a13 : Ev (fun k => utf_Clean.f k (⟨#[97, 13]⟩ : ByteArray)) (⟨#[97, 10]⟩ : ByteArray) := by
  have h := clean_f (⟨#[97, 13]⟩ : ByteArray) (by decide)
  have e : txt (cleanB (byts (⟨#[97, 13]⟩ : ByteArray))) = (⟨#[97, 10]⟩ : ByteArray) := by
    have e1 : byts (⟨#[97, 13]⟩ : ByteArray) = [97, 13] := by decide
    have e2 : byts (⟨#[97, 10]⟩ : ByteArray) = [97, 10] := by decide
    have e3 : cleanB [97, 13] = [97, 10] := by
      unfold cleanB
      rw [runes_ascii _ _ (by omega), runes_ascii _ _ (by omega), runes_nil]
      decide
    rw [← byts_inj, e1, e3, e2, byts_txt _ (by decide)]
  rwa [e] at h
theorem CleanParts : bobbinetkeep_CleanParts.Pure := by
  intro s t hs ht
  have e1 : byts (⟨#[120]⟩ : ByteArray) = [120] := by decide
  have hsx : (s ++ (⟨#[120]⟩ : ByteArray)).size = s.size + 1 := ByteArray.size_append
  have hst : (s ++ (⟨#[120]⟩ : ByteArray) ++ t).size = s.size + 1 + t.size := by rw [ByteArray.size_append, hsx]
  have hb1 : byts (s ++ (⟨#[120]⟩ : ByteArray)) = byts s ++ [120] := by rw [byts_append, e1]
  have hb2 : byts (s ++ (⟨#[120]⟩ : ByteArray) ++ t) = byts s ++ 120 :: byts t := by rw [byts_append, hb1]; simp
  have z1 := clean_size _ (byts (s ++ (⟨#[120]⟩ : ByteArray))) (Nat.le_refl _) (byts_lt _)
  have z2 := clean_size _ (byts t) (Nat.le_refl _) (byts_lt _)
  rw [byts_length] at z1 z2
  have l1 : ∀ b ∈ cleanB (byts s ++ [120]), b < 256 := by rw [← hb1]; exact cleanB_lt _ (byts_lt _)
  have l2 : ∀ b ∈ cleanB (byts t), b < 256 := cleanB_lt _ (byts_lt _)
  refine Ev.rounds (r := true) ?_
  simp only [bobbinetkeep_CleanParts.f]
  refine Ev.ite_pos (by omega) (Ev.ite_pos (by omega) ?_)
  refine Ev.bnd (clean_f _ (by omega)) (Ev.bnd (clean_f _ (by omega)) (Ev.bnd (clean_f _ (by omega)) ?_))
  refine Ev.ite_pos ?_ (Ev.ite_pos ?_ ?_)
  · rw [size_txt, size_txt]
    unfold cleanB
    omega
  · rw [toList_inj, hb2, hb1, ← byts_inj, byts_append, byts_txt _ l1, byts_txt _ l2, cleanB_parts _ _ 120 (by omega) (by omega), byts_txt]
    intro b hb
    rcases List.mem_append.1 hb with h | h
    · exact l1 b h
    · exact l2 b h
  · refine Ev.bnd clean_a13 ?_
    have : ((⟨#[97, 10]⟩ : ByteArray).toList == ([97, 10] : List UInt8)) = true := by rw [toList_eq]; rfl
    rw [this]
    exact Ev.some _
end Go.Proofs.Ythimfdojpgbmbaa.Pure
