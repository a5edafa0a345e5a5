/- CleanLines: of at most forty letters with line ends of any kind, Clean makes the same lines. For every two lists of numbers. -/
import Derived.Test.YthimfdojpgbmbaaX5
import Derived.Test.YthimfdojpgbmbaaLibCleanX
namespace Go.Proofs.Ythimfdojpgbmbaa.Pure
open Go.RowKit Go.Proofs.Ythimfdojpgbmbaa.X Go.Proofs.YthimfdojpgbmbaaW.PrintWords Go.Proofs.YthimfdojpgbmbaaW.PrintLast Go.Proofs.Ythimfdojpgbmbaa.Base Go.Proofs.Ythimfdojpgbmbaa.Utf Go.Proofs.Ythimfdojpgbmbaa.UtfX Go.Proofs.Ythimfdojpgbmbaa.Clean

theorem runes_asc : ∀ l : List Nat, (∀ b ∈ l, b < 128) → runes l = l
  | [], _ => runes_nil
  | b :: l, h => by rw [runes_ascii b l (h b (by simp)), runes_asc l (fun x hx => h x (by simp [hx]))]
theorem encAll_asc : ∀ l : List Nat, (∀ b ∈ l, b < 128) → encAll l = l
  | [], _ => rfl
  | b :: l, h => by
    have hb := h b (by simp)
    rw [encAll_cons, encAll_asc l (fun x hx => h x (by simp [hx]))]
    unfold encN
    rw [if_pos hb]
    rfl
structure Same (S T : List Nat) : Prop where
  s : ∀ b ∈ S, b < 128
  t : ∀ b ∈ T, b < 128
  c : ∀ u, u.head? ≠ some 10 → cleanR (S ++ u) = T ++ cleanR u
theorem Same.step {S T : List Nat} (h : Same S T) (b : Nat) (hb : b = 97 ∨ b = 98 ∨ b = 32 ∨ b = 60) : Same (S ++ [b]) (T ++ [b]) := by
  refine ⟨fun x hx => ?_, fun x hx => ?_, fun u hu => ?_⟩
  · rcases List.mem_append.1 hx with k | k
    · exact h.s x k
    · simp at k; omega
  · rcases List.mem_append.1 hx with k | k
    · exact h.t x k
    · simp at k; omega
  · rw [List.append_assoc, h.c _ (by simp; omega)]
    have : cleanR ([b] ++ u) = b :: cleanR u := by
      rw [List.cons_append, cleanR, if_neg (by omega), if_neg (by omega), if_neg (by omega)]
      rfl
    rw [this, List.append_assoc]
    rfl
theorem Same.line {S T : List Nat} (h : Same S T) (b : Nat) (hb : b = 97 ∨ b = 98 ∨ b = 32 ∨ b = 60) (e : List Nat) (he : e = [10] ∨ e = [13, 10] ∨ e = [13]) : Same (S ++ ([b] ++ e)) (T ++ [b] ++ [10]) := by
  have h1 := h.step b hb
  refine ⟨fun x hx => ?_, fun x hx => ?_, fun u hu => ?_⟩
  · rw [← List.append_assoc] at hx
    rcases List.mem_append.1 hx with k | k
    · exact h1.s x k
    · rcases he with rfl | rfl | rfl <;> simp at k <;> omega
  · rcases List.mem_append.1 hx with k | k
    · exact h1.t x k
    · simp at k; omega
  · have hb' : cleanR ([b] ++ e ++ u) = b :: cleanR (e ++ u) := by
      rw [List.append_assoc, List.cons_append, cleanR, if_neg (by omega), if_neg (by omega), if_neg (by omega)]
      rfl
    rw [List.append_assoc, h.c _ (by simp; omega), hb']
    have : cleanR (e ++ u) = 10 :: cleanR u := by
      rcases he with rfl | rfl | rfl
      · simp [cleanR]
      · simp [cleanR]
      · simp [cleanR, hu]
    rw [this]
    simp
theorem letter4 (a : Int) : ∃ b : Nat, (b = 97 ∨ b = 98 ∨ b = 32 ∨ b = 60) ∧ byts (rdOf ByteArray.empty ([(⟨#[97]⟩ : ByteArray), (⟨#[98]⟩ : ByteArray), (⟨#[32]⟩ : ByteArray), (⟨#[60]⟩ : ByteArray)] : List ByteArray) (a % 4)) = [b] := by
  have h : a % 4 = 0 ∨ a % 4 = 1 ∨ a % 4 = 2 ∨ a % 4 = 3 := by omega
  rcases h with h | h | h | h
  · exact ⟨97, by simp, by rw [h]; decide⟩
  · exact ⟨98, by simp, by rw [h]; decide⟩
  · exact ⟨32, by simp, by rw [h]; decide⟩
  · exact ⟨60, by simp, by rw [h]; decide⟩
theorem ends4 (a : Int) : (a % 4 = 0 ∧ byts (rdOf ByteArray.empty ([(⟨#[]⟩ : ByteArray), (⟨#[10]⟩ : ByteArray), (⟨#[13, 10]⟩ : ByteArray), (⟨#[13]⟩ : ByteArray)] : List ByteArray) (a % 4)) = []) ∨
    (0 < a % 4 ∧ (byts (rdOf ByteArray.empty ([(⟨#[]⟩ : ByteArray), (⟨#[10]⟩ : ByteArray), (⟨#[13, 10]⟩ : ByteArray), (⟨#[13]⟩ : ByteArray)] : List ByteArray) (a % 4)) = [10] ∨
      byts (rdOf ByteArray.empty ([(⟨#[]⟩ : ByteArray), (⟨#[10]⟩ : ByteArray), (⟨#[13, 10]⟩ : ByteArray), (⟨#[13]⟩ : ByteArray)] : List ByteArray) (a % 4)) = [13, 10] ∨
      byts (rdOf ByteArray.empty ([(⟨#[]⟩ : ByteArray), (⟨#[10]⟩ : ByteArray), (⟨#[13, 10]⟩ : ByteArray), (⟨#[13]⟩ : ByteArray)] : List ByteArray) (a % 4)) = [13])) := by
  have h : a % 4 = 0 ∨ a % 4 = 1 ∨ a % 4 = 2 ∨ a % 4 = 3 := by omega
  rcases h with h | h | h | h
  · left; rw [h]; exact ⟨rfl, by decide⟩
  · right; rw [h]; exact ⟨by decide, .inl (by decide)⟩
  · right; rw [h]; exact ⟨by decide, .inr (.inl (by decide))⟩
  · right; rw [h]; exact ⟨by decide, .inr (.inr (by decide))⟩
theorem clean_97 : Ev (fun k => utf_Clean.f k (⟨#[97]⟩ : ByteArray)) (⟨#[97]⟩ : ByteArray) := by
  have h := clean_f (⟨#[97]⟩ : ByteArray) (by decide)
  have e : txt (cleanB (byts (⟨#[97]⟩ : ByteArray))) = (⟨#[97]⟩ : ByteArray) := by
    have e1 : byts (⟨#[97]⟩ : ByteArray) = [97] := by decide
    have e3 : cleanB [97] = [97] := by
      unfold cleanB
      rw [runes_ascii _ _ (by omega), runes_nil]
      decide
    rw [← byts_inj, e1, e3, byts_txt _ (by decide)]
  rwa [e] at h
theorem lines_end {S T : ByteArray} (h : Same (byts S) (byts T)) (hs : S.size ≤ 1000) :
    Ev (fun k => (utf_Clean.f k S).bind fun t137 => (if t137.toList = T.toList then ((utf_Clean.f k (⟨#[97]⟩ : ByteArray)).bind fun t138 => (some (t138.toList == ([97] : List UInt8)))) else (some false))) true := by
  refine Ev.bnd (clean_f S (by omega)) (Ev.ite_pos ?_ (Ev.bnd clean_97 ?_))
  · have := h.c [] (by simp)
    rw [List.append_nil] at this
    rw [toList_inj, ← byts_inj, byts_txt _ (cleanB_lt _ (byts_lt S))]
    unfold cleanB
    rw [runes_asc _ h.s, this, cleanR, List.append_nil, encAll_asc _ h.t]
  · have : ((⟨#[97]⟩ : ByteArray).toList == ([97] : List UInt8)) = true := by rw [toList_eq]; rfl
    rw [this]
    exact Ev.some _
theorem lines_ev (l m : List Int) (hl : l.length ≤ 17592186044416) : ∀ (n i : Nat) (S T : ByteArray), 40 - i = n → i ≤ 40 → Same (byts S) (byts T) → S.size ≤ 3 * i → T.size ≤ 2 * i →
    Ev (fun k => bobbinetkeep_CleanLines.l0 k l m S T (i : Int)) true
  | n, i, S, T, hn, hi, hP, hS, hT => by
    have stop : Ev (fun k => bobbinetkeep_CleanLines.j1 k l m S T (i : Int) false) true := by
      refine Ev.one (f := fun k => (utf_Clean.f k S).bind fun t137 => (if t137.toList = T.toList then ((utf_Clean.f k (⟨#[97]⟩ : ByteArray)).bind fun t138 => (some (t138.toList == ([97] : List UInt8)))) else (some false))) (fun k => rfl) ?_
      exact lines_end hP (by omega)
    by_cases h1 : (i : Int) < (l.length : Int)
    · refine Ev.one (f := fun k => bobbinetkeep_CleanLines.j1 k l m S T (i : Int) (decide ((i : Int) < 40))) (fun k => by simp only [bobbinetkeep_CleanLines.l0, if_pos h1]) ?_
      by_cases h2 : (i : Int) < 40
      · rw [decide_eq_true h2]
        match n, hn with
        | 0, hn => omega
        | n + 1, hn =>
        obtain ⟨b, hb, eb⟩ := letter4 (rd l (i : Int))
        have zb : (rdOf ByteArray.empty ([(⟨#[97]⟩ : ByteArray), (⟨#[98]⟩ : ByteArray), (⟨#[32]⟩ : ByteArray), (⟨#[60]⟩ : ByteArray)] : List ByteArray) (rd l (i : Int) % 4)).size = 1 := by rw [← byts_length, eb]; rfl
        have hw := wrap_succ (i := i) (n := l.length) (by omega) (by omega)
        have m1 := Int.emod_nonneg (rd l (i : Int)) (show (4 : Int) ≠ 0 by decide)
        have m2 := Int.emod_lt_of_pos (rd l (i : Int)) (show (0 : Int) < 4 by decide)
        have zT : (T ++ rdOf ByteArray.empty ([(⟨#[97]⟩ : ByteArray), (⟨#[98]⟩ : ByteArray), (⟨#[32]⟩ : ByteArray), (⟨#[60]⟩ : ByteArray)] : List ByteArray) (rd l (i : Int) % 4)).size = T.size + 1 := by rw [ByteArray.size_append, zb]
        have plain : ∀ e : ByteArray, byts e = [] → Ev (fun k => bobbinetkeep_CleanLines.l0 k l m (S ++ (rdOf ByteArray.empty ([(⟨#[97]⟩ : ByteArray), (⟨#[98]⟩ : ByteArray), (⟨#[32]⟩ : ByteArray), (⟨#[60]⟩ : ByteArray)] : List ByteArray) (rd l (i : Int) % 4) ++ e)) (T ++ rdOf ByteArray.empty ([(⟨#[97]⟩ : ByteArray), (⟨#[98]⟩ : ByteArray), (⟨#[32]⟩ : ByteArray), (⟨#[60]⟩ : ByteArray)] : List ByteArray) (rd l (i : Int) % 4)) (wrap64 ((i : Int) + 1))) true := by
          intro e he
          have ze : e.size = 0 := by rw [← byts_length, he]; rfl
          rw [hw]
          refine lines_ev l m hl n (i + 1) _ _ (by omega) (by omega) ?_ ?_ ?_
          · have := hP.step b hb
            rw [byts_append, byts_append, byts_append, eb, he, List.append_nil]
            exact this
          · rw [ByteArray.size_append, ByteArray.size_append, zb, ze]; omega
          · rw [zT]; omega
        have y1 : ∀ {α : Type} (a b c d : α), (([a, b, c, d] : List α).length : Int) = 4 := fun _ _ _ _ => rfl
        refine Ev.one (fun k => by simp only [bobbinetkeep_CleanLines.j1]; exact rfl) ?_
        refine Ev.ite_pos (by trivial) (Ev.bnd0 rfl (Ev.ite_pos (by omega) (Ev.ite_pos h1 (Ev.bnd0 (picked_f _ _ (by decide) (by decide)) (Ev.ite_pos m1 (Ev.ite_pos (by rw [y1]; exact m2) ?_))))))
        by_cases h3 : (i : Int) < (m.length : Int)
        · have k1 := Int.emod_nonneg (rd m (i : Int)) (show (4 : Int) ≠ 0 by decide)
          have k2 := Int.emod_lt_of_pos (rd m (i : Int)) (show (0 : Int) < 4 by decide)
          refine Ev.ite_pos h3 (Ev.bnd0 (picked_f _ _ (by decide) (by decide)) (Ev.bnd0 rfl (Ev.ite_pos k1 (Ev.ite_pos (by rw [y1]; exact k2) ?_))))
          rcases ends4 (rd m (i : Int)) with ⟨h4, h5⟩ | ⟨h4, h5⟩
          · have ze := congrArg List.length h5
            rw [byts_length] at ze
            refine Ev.ite_pos ?_ (Ev.ite_pos ?_ (Ev.ite_pos ?_ (Ev.ite_neg (by omega) (plain _ h5))))
            · rw [zb, ze]; simp
            · rw [ByteArray.size_append, zb, ze]; simp; omega
            · rw [zb]; omega
          · have ze : (rdOf ByteArray.empty ([(⟨#[]⟩ : ByteArray), (⟨#[10]⟩ : ByteArray), (⟨#[13, 10]⟩ : ByteArray), (⟨#[13]⟩ : ByteArray)] : List ByteArray) (rd m (i : Int) % 4)).size ≤ 2 := by
              rw [← byts_length]
              rcases h5 with h | h | h <;> rw [h] <;> simp
            refine Ev.ite_pos ?_ (Ev.ite_pos ?_ (Ev.ite_pos ?_ (Ev.ite_pos (by omega) (Ev.ite_pos ?_ ?_))))
            · rw [zb]; omega
            · rw [ByteArray.size_append, zb]; omega
            · rw [zb]; omega
            · rw [zT]; omega
            · rw [hw]
              refine lines_ev l m hl n (i + 1) _ _ (by omega) (by omega) ?_ ?_ ?_
              · have := hP.line b hb _ h5
                rw [byts_append, byts_append, byts_append, byts_append, eb, show byts (⟨#[10]⟩ : ByteArray) = [10] from by decide]
                exact this
              · rw [ByteArray.size_append, ByteArray.size_append, zb]; omega
              · rw [ByteArray.size_append, zT, show (⟨#[10]⟩ : ByteArray).size = 1 from rfl]; omega
        · refine Ev.ite_neg h3 (Ev.bnd0 rfl (Ev.ite_pos (by rw [y1]; decide) ?_))
          have h5 : byts (rdOf ByteArray.empty ([(⟨#[]⟩ : ByteArray), (⟨#[10]⟩ : ByteArray), (⟨#[13, 10]⟩ : ByteArray), (⟨#[13]⟩ : ByteArray)] : List ByteArray) 0) = [] := by decide
          have ze := congrArg List.length h5
          rw [byts_length] at ze
          refine Ev.ite_pos ?_ (Ev.ite_pos ?_ (Ev.ite_pos ?_ (Ev.ite_neg (by decide) (plain _ h5))))
          · rw [zb, ze]; simp
          · rw [ByteArray.size_append, zb, ze]; simp; omega
          · rw [zb]; omega
      · rw [decide_eq_false h2]
        exact stop
    · refine Ev.one (f := fun k => bobbinetkeep_CleanLines.j1 k l m S T (i : Int) false) (fun k => by simp only [bobbinetkeep_CleanLines.l0, if_neg h1]) ?_
      exact stop
theorem CleanLines : bobbinetkeep_CleanLines.Pure := by
  intro l m hl hl8 _ hm hm8 _
  refine Ev.rounds (r := true) ?_
  simp only [bobbinetkeep_CleanLines.f]
  have e0 : byts (⟨#[]⟩ : ByteArray) = [] := by decide
  exact lines_ev l m (by omega) 40 0 _ _ rfl (by omega) (by rw [e0]; exact ⟨by simp, by simp, fun u _ => rfl⟩) (by decide) (by decide)
end Go.Proofs.Ythimfdojpgbmbaa.Pure
