/- SpaceOnce, for arguments of bulk at most 1,048,576: white space made single once is single, letters stay, and a text can be made so in two parts. -/
import Derived.Test.YthimfdojpgbmbaaX9
import Derived.Test.YthimfdojpgbmbaaLibBase
namespace Go.Proofs.Ythimfdojpgbmbaa.Pure
open Go.RowKit Go.Proofs.Ythimfdojpgbmbaa.X Go.Proofs.YthimfdojpgbmbaaW.PrintWords Go.Proofs.YthimfdojpgbmbaaW.PrintLast Go.Proofs.Ythimfdojpgbmbaa.Base

abbrev spc := space_Text.sp
abbrev sgo := space_Text.go
def ba (l : List UInt8) : ByteArray := ⟨l.toArray⟩
theorem ba_list (l : List UInt8) : (ba l).data.toList = l := by simp [ba]
theorem ba_size (l : List UInt8) : (ba l).size = l.length := by simp [ba, ByteArray.size]
theorem ba_eq (s : ByteArray) : ba s.data.toList = s := by simp [ba]
theorem ba_app (l m : List UInt8) : ba l ++ ba m = ba (l ++ m) := by
  apply ByteArray.ext
  rw [ByteArray.data_append]
  simp [ba]
def st : List UInt8 → Bool → Bool
  | [], a => a
  | c :: l, _ => st l (spc c)
theorem sgo_app : ∀ (s t : List UInt8) (a : Bool), sgo (s ++ t) a = sgo s a ++ sgo t (st s a)
  | [], t, a => rfl
  | c :: s, t, a => by
    rw [List.cons_append]
    simp only [sgo, space_Text.go, st]
    by_cases h : space_Text.sp c = true
    · rw [if_pos h, if_pos h]
      have e : spc c = true := h
      have := sgo_app s t true
      cases a
      · simp only [Bool.false_eq_true, if_false, List.cons_append, e]
        exact congrArg _ this
      · simp only [if_true, e]
        exact this
    · rw [if_neg h, if_neg h]
      have e : spc c = false := by simpa using h
      rw [e]
      exact congrArg _ (sgo_app s t false)
theorem sp32 : spc 32 = true := by decide
theorem sgo_twice : ∀ (s : List UInt8) (a : Bool), sgo (sgo s a) a = sgo s a
  | [], a => rfl
  | c :: s, a => by
    simp only [sgo, space_Text.go]
    by_cases h : space_Text.sp c = true
    · rw [if_pos h]
      have := sgo_twice s true
      cases a
      · simp only [Bool.false_eq_true, if_false, space_Text.go]
        rw [if_pos sp32]
        exact congrArg _ this
      · simp only [if_true]
        exact this
    · rw [if_neg h]
      simp only [space_Text.go]
      rw [if_neg h]
      exact congrArg _ (sgo_twice s false)
theorem sgo_len : ∀ (s : List UInt8) (a : Bool), (sgo s a).length ≤ s.length
  | [], a => by simp [sgo, space_Text.go]
  | c :: s, a => by
    simp only [sgo, space_Text.go]
    have h1 : (space_Text.go s true).length ≤ s.length := sgo_len s true
    have h2 : (space_Text.go s false).length ≤ s.length := sgo_len s false
    split
    · split
      · simp; omega
      · simp; omega
    · simp; omega
theorem sgo_letters : ∀ (s : List UInt8) (a : Bool), (sgo s a).filter (fun c => !spc c) = s.filter (fun c => !spc c)
  | [], a => rfl
  | c :: s, a => by
    simp only [sgo, space_Text.go]
    have h1 := sgo_letters s true
    have h2 := sgo_letters s false
    by_cases h : space_Text.sp c = true
    · rw [if_pos h, List.filter_cons_of_neg (by simp [h])]
      split
      · exact h1
      · rw [List.filter_cons_of_neg (by simp [sp32])]
        exact h1
    · rw [if_neg h, List.filter_cons_of_pos (by simpa using h), List.filter_cons_of_pos (by simpa using h)]
      exact congrArg _ h2
theorem text_s (s : ByteArray) (a : Bool) (h : s.size ≤ 70368744177664) : space_Text.f s a = some (ba (sgo s.data.toList a)) := by
  unfold space_Text.f
  rw [if_pos h]
  rfl
theorem sure : bobbinetkeep_spaceSure.f = some true := by
  unfold bobbinetkeep_spaceSure.f
  rw [text_s _ _ (by decide)]
  rw [Option.bind_some, toList_eq]
  decide
theorem bt_mid (s : ByteArray) (i : Nat) (c : UInt8) (l : List UInt8) (h : s.data.toList.drop i = c :: l) : bt s (i : Int) = (c.toNat : Int) := by
  have hi : i < s.data.toList.length := by
    have := congrArg List.length h
    simp at this ⊢; omega
  have h3 : s.data.toList[i]? = some c := by
    have := congrArg (fun z => z[0]?) h
    simpa [List.getElem?_drop] using this
  have h4 := List.getElem?_eq_getElem hi
  rw [h3] at h4
  have h5 := Option.some.inj h4
  have h6 : i < s.size := by simpa using hi
  unfold bt
  rw [dif_pos (by simpa using h6), h5]
  simp
  rfl
theorem sp_of (c : UInt8) : spc c = decide ((c.toNat : Int) = 32 ∨ (c.toNat : Int) = 9 ∨ (c.toNat : Int) = 10 ∨ (c.toNat : Int) = 12) := by
  have h : ∀ n : Nat, n < 256 → (((c.toNat : Int) = n) ↔ c = UInt8.ofNat n) := by
    intro n hn
    constructor
    · intro h
      apply UInt8.toNat_inj.1
      rw [UInt8.toNat_ofNat']
      omega
    · rintro rfl
      rw [UInt8.toNat_ofNat']
      omega
  have h1 : (c.toNat : Int) = 32 ↔ c = 32 := h 32 (by decide)
  have h2 : (c.toNat : Int) = 9 ↔ c = 9 := h 9 (by decide)
  have h3 : (c.toNat : Int) = 10 ↔ c = 10 := h 10 (by decide)
  have h4 : (c.toNat : Int) = 12 ↔ c = 12 := h 12 (by decide)
  rw [Bool.eq_iff_iff, decide_eq_true_iff, h1, h2, h3, h4]
  simp [spc, space_Text.sp, or_assoc]
theorem letters_ev (s : ByteArray) (hs : s.size ≤ 100000000) : ∀ (n i : Nat) (acc : List UInt8), s.size - i = n → i ≤ s.size → acc.length ≤ i →
    Ev (fun k => bobbinetkeep_SpaceOnce_1.l0 k s (ba acc) (i : Int)) (ba (acc ++ (s.data.toList.drop i).filter (fun c => !spc c)))
  | 0, i, acc, hn, hi, ha => by
    have hl : s.data.toList.length = s.size := Array.length_toList
    rw [List.drop_eq_nil_of_le (by omega), List.filter_nil, List.append_nil]
    refine Ev.one (fun k => rfl) ?_
    exact Ev.ite_neg (by omega) (Ev.some _)
  | n + 1, i, acc, hn, hi, ha => by
    have hl : s.data.toList.length = s.size := Array.length_toList
    cases e : s.data.toList.drop i with
    | nil => have := congrArg List.length e; simp at this; omega
    | cons c l =>
      have hb := bt_mid s i c l e
      have hd : s.data.toList.drop (i + 1) = l := by
        have : s.data.toList.drop (i + 1) = (s.data.toList.drop i).drop 1 := by rw [List.drop_drop]
        rw [this, e]; rfl
      have hw := wrap_succ (i := i) (n := s.size) (by omega) (by omega)
      refine Ev.one (fun k => rfl) ?_
      refine Ev.ite_pos (by omega) (Ev.ite_pos (by omega) ?_)
      rw [hb, hw]
      have same := letters_ev s hs n (i + 1) acc (by omega) (by omega) (by omega)
      rw [hd] at same
      have hsp := sp_of c
      by_cases c1 : (c.toNat : Int) = 32
      · rw [List.filter_cons_of_neg (by rw [hsp]; simp [c1])]
        exact Ev.ite_pos c1 same
      · by_cases c2 : (c.toNat : Int) = 9
        · rw [List.filter_cons_of_neg (by rw [hsp]; simp [c2])]
          exact Ev.ite_neg c1 (Ev.ite_pos c2 same)
        · by_cases c3 : (c.toNat : Int) = 10
          · rw [List.filter_cons_of_neg (by rw [hsp]; simp [c3])]
            exact Ev.ite_neg c1 (Ev.ite_neg c2 (Ev.ite_pos c3 same))
          · by_cases c4 : (c.toNat : Int) = 12
            · rw [List.filter_cons_of_neg (by rw [hsp]; simp [c4])]
              exact Ev.ite_neg c1 (Ev.ite_neg c2 (Ev.ite_neg c3 (Ev.ite_pos c4 same)))
            · have hns : spc c = false := by rw [hsp, decide_eq_false_iff_not]; omega
              rw [List.filter_cons_of_pos (by rw [hns]; rfl)]
              refine Ev.ite_neg c1 (Ev.ite_neg c2 (Ev.ite_neg c3 (Ev.ite_neg c4 ?_)))
              have hx : s.extract i (i + 1) = ba [c] := by
                apply ByteArray.ext
                rw [ByteArray.data_extract]
                apply Array.toList_inj.1
                rw [Array.toList_extract]
                simp only [List.extract_eq_take_drop, ba, Nat.add_sub_cancel_left]
                rw [e]
                rfl
              have hext : s.extract ((i : Int)).toNat (((i + 1 : Nat) : Int)).toNat = ba [c] := by
                rw [Int.toNat_natCast, Int.toNat_natCast, hx]
              rw [hext, ba_app]
              refine Ev.ite_pos (by omega) (Ev.ite_pos (by omega) (Ev.ite_pos (by rw [ba_size, ba_size]; simp; omega) ?_))
              have next := letters_ev s hs n (i + 1) (acc ++ [c]) (by omega) (by omega) (by simp; omega)
              rw [hd, List.append_assoc] at next
              exact next
theorem letters_f (s : ByteArray) (hs : s.size ≤ 100000000) : Ev (fun k => bobbinetkeep_SpaceOnce_1.f k s) (ba (s.data.toList.filter (fun c => !spc c))) := by
  have := letters_ev s hs _ 0 [] rfl (by omega) (by simp)
  rw [List.drop_zero, List.nil_append] at this
  exact this
theorem once_j0 (s t : ByteArray) (a : Bool) (hs : s.size ≤ 1048576) (ht : t.size ≤ 1048576) :
    Ev (fun k => bobbinetkeep_SpaceOnce.j0 k s t a (ba (sgo s.data.toList a)) (st s.data.toList a)) true := by
  have hl : s.data.toList.length = s.size := Array.length_toList
  have hlt : t.data.toList.length = t.size := Array.length_toList
  have hst : (s ++ t).size = s.size + t.size := ByteArray.size_append
  have z1 := sgo_len s.data.toList a
  have z2 := sgo_len t.data.toList (st s.data.toList a)
  have y1 := ba_size (sgo s.data.toList a)
  have y2 := ba_size (sgo t.data.toList (st s.data.toList a))
  have hap : (s ++ t).data.toList = s.data.toList ++ t.data.toList := by rw [ByteArray.data_append]; simp
  refine Ev.one (fun k => by simp only [bobbinetkeep_SpaceOnce.j0]; exact rfl) ?_
  refine Ev.bnd0 sure ?_
  refine (Ev.ite_pos rfl (Ev.bnd0 (text_s (ba (sgo s.data.toList a)) a (by omega)) ?_))
  rw [ba_list, sgo_twice]
  refine Ev.ite_pos rfl (Ev.ite_pos (by omega) (Ev.bnd0 (text_s (s ++ t) a (by omega)) (Ev.bnd0 (text_s t (st s.data.toList a) (by omega)) (Ev.ite_pos (by omega) ?_))))
  rw [hap, sgo_app, ba_app]
  refine Ev.ite_pos rfl ?_
  by_cases c : wrap64 ((s.size : Int) + (t.size : Int)) > 200
  · exact Ev.ite_pos c (Ev.some _)
  · refine Ev.ite_neg c (Ev.bnd (letters_f _ (by omega)) (Ev.bnd (letters_f s (by omega)) ?_))
    rw [ba_list, sgo_letters]
    simp only [beq_self_eq_true]
    exact Ev.some _
theorem st_last : ∀ (l : List UInt8) (c : UInt8) (a : Bool), st (l ++ [c]) a = spc c
  | [], c, a => rfl
  | x :: l, c, a => st_last l c (spc x)
theorem SpaceOnce : bobbinetkeep_SpaceOnce.Pure := by
  intro s t a hs ht
  have hl : s.data.toList.length = s.size := Array.length_toList
  have J := once_j0 s t a hs ht
  refine Ev.rounds (r := true) ?_
  simp only [bobbinetkeep_SpaceOnce.f]
  refine Ev.bnd0 (text_s _ _ (by omega)) ?_
  by_cases h0 : (s.size : Int) > 0
  · have hw : wrap64 ((s.size : Int) - 1) = ((s.size - 1 : Nat) : Int) := by unfold wrap64; omega
    rw [hw]
    refine Ev.ite_pos h0 (Ev.ite_pos (by omega) (Ev.ite_pos (by omega) ?_))
    have hne : s.data.toList ≠ [] := by intro e; rw [e] at hl; simp at hl; omega
    obtain ⟨l, c, e⟩ : ∃ l c, s.data.toList = l ++ [c] := ⟨_, _, (List.dropLast_concat_getLast hne).symm⟩
    have hln : l.length = s.size - 1 := by have := congrArg List.length e; simp at this; omega
    have hb := bt_mid s (s.size - 1) c [] (by rw [e, ← hln]; simp)
    rw [hb]
    have hst : st s.data.toList a = spc c := by rw [e, st_last]
    rw [hst] at J
    have hsp := sp_of c
    by_cases c1 : (c.toNat : Int) = 32
    · rw [hsp, decide_eq_true (by omega)] at J
      exact Ev.ite_pos c1 J
    · by_cases c2 : (c.toNat : Int) = 9
      · rw [hsp, decide_eq_true (by omega)] at J
        exact Ev.ite_neg c1 (Ev.ite_pos c2 J)
      · by_cases c3 : (c.toNat : Int) = 10
        · rw [hsp, decide_eq_true (by omega)] at J
          exact Ev.ite_neg c1 (Ev.ite_neg c2 (Ev.ite_pos c3 J))
        · refine Ev.ite_neg c1 (Ev.ite_neg c2 (Ev.ite_neg c3 ?_))
          have : spc c = ((c.toNat : Int) == 12) := by
            rw [hsp, Bool.eq_iff_iff, decide_eq_true_iff, beq_iff_eq]
            omega
          rw [this] at J
          exact J
  · refine Ev.ite_neg h0 ?_
    have hnil : s.data.toList = [] := List.length_eq_zero_iff.1 (by omega)
    have : st s.data.toList a = a := by rw [hnil]; rfl
    rw [this] at J
    exact J
end Go.Proofs.Ythimfdojpgbmbaa.Pure
