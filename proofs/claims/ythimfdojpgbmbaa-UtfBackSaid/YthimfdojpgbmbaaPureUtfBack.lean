/- UtfBack: code points come back from their encoding, also of two texts joined, and texts are equal exactly if their code points are. For every two lists of numbers. -/
import Derived.Test.YthimfdojpgbmbaaX9
import Derived.Test.YthimfdojpgbmbaaLibUtfX
namespace Go.Proofs.Ythimfdojpgbmbaa.Pure
open Go.RowKit Go.Proofs.Ythimfdojpgbmbaa.X Go.Proofs.YthimfdojpgbmbaaW.PrintWords Go.Proofs.YthimfdojpgbmbaaW.PrintLast Go.Proofs.Ythimfdojpgbmbaa.Base Go.Proofs.Ythimfdojpgbmbaa.Utf Go.Proofs.Ythimfdojpgbmbaa.UtfX

theorem UtfBack : bobbinetkeep_UtfBack.Pure := by
  intro l m hl hl8 _ hm hm8 _
  obtain ⟨a, ha, han, ea⟩ := letters_f 60 (by omega) l (by omega)
  obtain ⟨b, hb, hbn, eb⟩ := letters_f 60 (by omega) m (by omega)
  have la := encAll_length a
  have lb := encAll_length b
  have ta := byts_nums (encAll a) (encAll_bytes a ha)
  have tb := byts_nums (encAll b) (encAll_bytes b hb)
  have sa := size_nums (encAll a)
  have sb := size_nums (encAll b)
  refine Ev.rounds (r := true) ?_
  simp only [bobbinetkeep_UtfBack.f]
  refine Ev.bnd ea (Ev.bnd eb (Ev.bnd (text_f a ha (by omega)) (Ev.bnd (text_f b hb (by omega)) ?_)))
  dsimp only
  refine Ev.ite_pos rfl (Ev.ite_pos rfl ?_)
  refine Ev.bnd0 (runes_f _ (by omega)) ?_
  have ra : runes (byts (strOfNums (ints (encAll a)))) = a := by
    rw [ta]
    have := runes_encAll a [] ha
    rwa [List.append_nil, runes_nil, List.append_nil] at this
  have rab : runes (byts (strOfNums (ints (encAll a)) ++ strOfNums (ints (encAll b)))) = a ++ b := by
    rw [byts_append, ta, tb, runes_encAll a _ ha]
    have := runes_encAll b [] hb
    rw [List.append_nil, runes_nil, List.append_nil] at this
    rw [this]
  have hst : (strOfNums (ints (encAll a)) ++ strOfNums (ints (encAll b))).size = (strOfNums (ints (encAll a))).size + (strOfNums (ints (encAll b))).size := ByteArray.size_append
  rw [ra]
  refine Ev.bnd (same_f _ _ (by rw [ints_length]; omega)) ?_
  refine Ev.ite_pos (by simp) (Ev.ite_pos (by omega) ?_)
  refine Ev.bnd0 (runes_f _ (by omega)) ?_
  rw [rab]
  refine Ev.ite_pos (by rw [ints_length]; simp; omega) (Ev.bnd0 rfl (Ev.ite_pos (by simp [ints_length]; omega) ?_))
  rw [List.nil_append, ← ints_append]
  refine Ev.bnd (same_f _ _ (by rw [ints_length]; simp; omega)) ?_
  refine Ev.ite_pos (by simp) ?_
  refine Ev.bnd (same_f _ _ (by rw [ints_length]; omega)) ?_
  refine Ev.ite_pos ?_ ?_
  · rw [beq_iff_eq, toList_beq, decide_eq_decide, ints_inj]
    constructor
    · intro h
      refine encAll_inj ha hb ?_
      rw [← ta, ← tb, h]
    · rintro rfl; rfl
  · refine Ev.bnd0 runes_a ?_
    exact Ev.some _
end Go.Proofs.Ythimfdojpgbmbaa.Pure
