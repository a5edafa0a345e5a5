/- UtfOrder: of two lists of code points the one that is ahead has the bytes that are ahead. For every two lists of numbers. -/
import Derived.Test.YthimfdojpgbmbaaX10
import Derived.Test.YthimfdojpgbmbaaLibUtfX
namespace Go.Proofs.Ythimfdojpgbmbaa.Pure
open Go.RowKit Go.Proofs.Ythimfdojpgbmbaa.X Go.Proofs.YthimfdojpgbmbaaW.PrintWords Go.Proofs.YthimfdojpgbmbaaW.PrintLast Go.Proofs.Ythimfdojpgbmbaa.Base Go.Proofs.Ythimfdojpgbmbaa.Utf Go.Proofs.Ythimfdojpgbmbaa.UtfX

theorem less_bytes : ∀ l m : List UInt8, Op.bytesLess l m = less (l.map UInt8.toNat) (m.map UInt8.toNat)
  | _, [] => by simp [Op.bytesLess, less]
  | [], _ :: _ => by simp [Op.bytesLess, less]
  | a :: x, b :: y => by
    simp only [Op.bytesLess, less, List.map_cons, less_bytes x y]
    have h1 : decide (a < b) = decide (a.toNat < b.toNat) := by rw [Bool.eq_iff_iff]; simp [UInt8.lt_iff_toNat_lt]
    have h2 : (a == b) = (a.toNat == b.toNat) := by rw [Bool.eq_iff_iff]; simp [UInt8.toNat_inj]
    rw [h1, h2]
theorem less_text (s t : ByteArray) : Op.bytesLess s.toList t.toList = less (byts s) (byts t) := by
  rw [toList_eq, toList_eq, less_bytes]
  rfl
theorem order_ev (s t : ByteArray) : ∀ (a b pre : List Nat), (∀ c ∈ pre ++ a, vld c) → (∀ c ∈ pre ++ b, vld c) → byts s = encAll (pre ++ a) → byts t = encAll (pre ++ b) → (pre ++ a).length ≤ 100 → (pre ++ b).length ≤ 100 →
    Ev (fun k => bobbinetkeep_UtfOrder.l0 k (ints (pre ++ a)) (ints (pre ++ b)) s t (pre.length : Int)) true
  | a, b, pre, ha, hb, es, et, la, lb => by
    have hless : Op.bytesLess s.toList t.toList = less a b := by
      rw [less_text, es, et, less_encAll _ _ ha hb, less_same]
    match a, b with
    | [], b =>
      have e : (decide (((ints (pre ++ [])).length : Int) < ((ints (pre ++ b)).length : Int)) == Op.bytesLess s.toList t.toList) = true := by
        rw [hless, beq_iff_eq, ints_length, ints_length]
        cases b <;> simp [less] <;> omega
      refine Ev.one (fun k => ?_) (Ev.one (g := fun k => bobbinetkeep_UtfOrder.j2 k (ints (pre ++ [])) (ints (pre ++ b)) s t (pre.length : Int) false) (fun k => ?_) (Ev.some true))
      · simp only [bobbinetkeep_UtfOrder.l0]
        rw [if_neg (by rw [ints_length]; simp)]
      · simp only [bobbinetkeep_UtfOrder.j2]
        rw [if_neg (by simp), e]
    | x :: a, [] =>
      have e : (decide (((ints (pre ++ x :: a)).length : Int) < ((ints (pre ++ [])).length : Int)) == Op.bytesLess s.toList t.toList) = true := by
        rw [hless, beq_iff_eq, ints_length, ints_length]
        simp [less]
        omega
      refine Ev.one (fun k => ?_) (Ev.one (g := fun k => bobbinetkeep_UtfOrder.j2 k (ints (pre ++ x :: a)) (ints (pre ++ [])) s t (pre.length : Int) false) (fun k => ?_) (Ev.some true))
      · simp only [bobbinetkeep_UtfOrder.l0]
        rw [if_pos (by rw [ints_length]; simp; omega), decide_eq_false (by rw [ints_length]; simp)]
      · simp only [bobbinetkeep_UtfOrder.j2]
        rw [if_neg (by simp), e]
    | x :: a, y :: b =>
      have hlx : (pre ++ x :: a).length = pre.length + a.length + 1 := by simp; omega
      have hly : (pre ++ y :: b).length = pre.length + b.length + 1 := by simp; omega
      have rx : rd (ints (pre ++ x :: a)) (pre.length : Int) = (x : Int) := by rw [ints_append, ← ints_length pre]; exact rdI_mid _ _ _
      have ry : rd (ints (pre ++ y :: b)) (pre.length : Int) = (y : Int) := by rw [ints_append, ← ints_length pre]; exact rdI_mid _ _ _
      by_cases hxy : x = y
      · subst hxy
        have ih := order_ev s t a b (pre ++ [x]) (by simpa using ha) (by simpa using hb) (by simpa using es) (by simpa using et) (by simpa using la) (by simpa using lb)
        simp only [List.append_assoc, List.singleton_append, List.length_append, List.length_singleton] at ih
        refine Ev.one (fun k => ?_) (Ev.one (g := fun k => bobbinetkeep_UtfOrder.j2 k (ints (pre ++ x :: a)) (ints (pre ++ x :: b)) s t (pre.length : Int) true) (fun k => ?_) ih)
        · simp only [bobbinetkeep_UtfOrder.l0]
          rw [if_pos (by rw [ints_length]; omega), decide_eq_true (by rw [ints_length]; omega)]
        · simp only [bobbinetkeep_UtfOrder.j2]
          rw [if_pos (by trivial), if_pos (by omega), if_pos (by rw [ints_length]; omega), if_pos (by rw [ints_length]; omega), rx, ry, if_pos rfl, wrap_succ (n := 100) (by omega) (by omega)]
      · have e : (decide ((x : Int) < (y : Int)) == Op.bytesLess s.toList t.toList) = true := by
          rw [hless, beq_iff_eq]
          simp [less, hxy]
        refine Ev.one (fun k => ?_) (Ev.one (g := fun k => bobbinetkeep_UtfOrder.j2 k (ints (pre ++ x :: a)) (ints (pre ++ y :: b)) s t (pre.length : Int) true) (fun k => ?_) (Ev.some true))
        · simp only [bobbinetkeep_UtfOrder.l0]
          rw [if_pos (by rw [ints_length]; omega), decide_eq_true (by rw [ints_length]; omega)]
        · simp only [bobbinetkeep_UtfOrder.j2]
          rw [if_pos (by trivial), if_pos (by omega), if_pos (by rw [ints_length]; omega), if_pos (by rw [ints_length]; omega), rx, ry, if_neg (by omega), e]
termination_by a => a.length

theorem UtfOrder : bobbinetkeep_UtfOrder.Pure := by
  intro l m hl hl8 _ hm hm8 _
  obtain ⟨a, ha, han, ea⟩ := letters_f 20 (by omega) l (by omega)
  obtain ⟨b, hb, hbn, eb⟩ := letters_f 20 (by omega) m (by omega)
  have la := encAll_length a
  have lb := encAll_length b
  have ta := byts_nums (encAll a) (encAll_bytes a ha)
  have tb := byts_nums (encAll b) (encAll_bytes b hb)
  have sa := size_nums (encAll a)
  refine Ev.rounds (r := true) ?_
  simp only [bobbinetkeep_UtfOrder.f]
  refine Ev.bnd ea (Ev.bnd eb (Ev.bnd (text_f a ha (by omega)) (Ev.bnd (text_f b hb (by omega)) ?_)))
  dsimp only
  refine Ev.ite_pos rfl (Ev.ite_pos rfl (Ev.bnd0 runes_a (Ev.ite_pos rfl ?_)))
  rw [decide_eq_false (by rw [ints_length]; omega)]
  refine Ev.one (fun k => ?_) (order_ev _ _ a b [] ha hb ta tb (by simp; omega) (by simp; omega))
  simp only [bobbinetkeep_UtfOrder.j0]
  simp
end Go.Proofs.Ythimfdojpgbmbaa.Pure
