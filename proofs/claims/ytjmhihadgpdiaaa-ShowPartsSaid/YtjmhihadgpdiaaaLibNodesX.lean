/- Nodes of raw numbers: what they are like. -/
import Derived.Test.YtjmhihadgpdiaaaX2
import Derived.Test.YtjmhihadgpdiaaaLibTreeX
namespace Go.Proofs.Ytjmhihadgpdiaaa.Tree
open Go.RowKit Go.Proofs.Ytjmhihadgpdiaaa.X Go.Proofs.YtjmhihadgpdiaaaW.PrintWords Go.Proofs.YtjmhihadgpdiaaaW.PrintLast Go.Proofs.Ytjmhihadgpdiaaa.Base
theorem picked_f (a n : Int) (h : 0 < n) (hn : n ≤ 4294967296) : bobbinetkeep_Picked.f a n = some (a % n) := by
  have := picked_eq a n h hn
  unfold bobbinetkeep_Picked.f
  rw [if_neg (by omega), ← this]
  split <;> rfl
def texts : List ByteArray := [(⟨#[120]⟩ : ByteArray), (⟨#[97, 60, 98]⟩ : ByteArray), (⟨#[38, 97, 109, 112, 59]⟩ : ByteArray), (⟨#[121, 32, 122]⟩ : ByteArray), (⟨#[32]⟩ : ByteArray), (⟨#[60, 112, 62]⟩ : ByteArray)]
def voids : List ByteArray := [(⟨#[98, 114]⟩ : ByteArray), (⟨#[105, 109, 103]⟩ : ByteArray)]
def elems : List ByteArray := [(⟨#[100, 105, 118]⟩ : ByteArray), (⟨#[98]⟩ : ByteArray), (⟨#[101, 109]⟩ : ByteArray), (⟨#[112]⟩ : ByteArray), (⟨#[97]⟩ : ByteArray), (⟨#[117, 108]⟩ : ByteArray)]
def vals : List ByteArray := [(⟨#[]⟩ : ByteArray), (⟨#[120]⟩ : ByteArray), (⟨#[97, 34, 98, 38]⟩ : ByteArray), (⟨#[60]⟩ : ByteArray), (⟨#[104, 116, 116, 112, 58, 47, 47, 121]⟩ : ByteArray)]
abbrev nil : ByteArray := (⟨#[]⟩ : ByteArray)
/-- nodes, not deeper than d, at most m -/
inductive Good : Nat → Nat → List S → Prop
  | none (d m : Nat) : Good d m []
  | text {d m : Nat} {l : List S} {t : ByteArray} : Good d m l → l.length < m → (∀ p : S, l.getLast? = some p → p.f0 ≠ nil) → t ∈ texts → Good d m (l ++ [(⟨nil, [], t, []⟩ : S)])
  | void {d m : Nat} {l : List S} {t : ByteArray} : Good d m l → l.length < m → t ∈ voids → Good d m (l ++ [(⟨t, [], nil, []⟩ : S)])
  | elem {d m : Nat} {l q : List S} {t : ByteArray} {a : List S63} : Good d m l → l.length < m → 1 < d → t ∈ elems → (a = [] ∨ ∃ v ∈ vals, a = [(⟨(⟨#[104, 114, 101, 102]⟩ : ByteArray), v⟩ : S63)]) → Good (d - 1) 4 q → Good d m (l ++ [(⟨t, a, nil, q⟩ : S)])
set_option maxHeartbeats 1000000 in
theorem nodes_ev : ∀ (N : Nat) (l : List Int), l.length ≤ N → l.length ≤ 17592186044416 → ∀ (d m : Nat) (acc : List S), d ≤ 10 → m ≤ 10 → Good d m acc → acc.length ≤ m → ∃ out rest, Ev (fun k => bobbinetkeep_Nodes.l0 k l (d : Int) (m : Int) acc) (out, rest) ∧ Good d m out ∧ out.length ≤ m ∧ rest.length ≤ l.length := by
  intro N
  induction N with
  | zero =>
    intro l hl hl2 d m acc hd hm hg ha
    obtain rfl : l = [] := List.length_eq_zero_iff.1 (by omega)
    refine ⟨acc, [], ?_, hg, ha, Nat.le_refl _⟩
    refine Ev.succ ?_
    simp only [bobbinetkeep_Nodes.l0]
    refine Ev.ite_neg (by simp) (Ev.succ ?_)
    simp only [bobbinetkeep_Nodes.j1, rdI_zero]
    exact Ev.ite_neg (by simp) (Ev.now _)
  | succ N ih =>
    intro l hl hl2 d m acc hd hm hg ha
    cases l with
    | nil =>
      refine ⟨acc, [], ?_, hg, ha, Nat.le_refl _⟩
      refine Ev.succ ?_
      simp only [bobbinetkeep_Nodes.l0]
      refine Ev.ite_neg (by simp) (Ev.succ ?_)
      simp only [bobbinetkeep_Nodes.j1, rdI_zero]
      exact Ev.ite_neg (by simp) (Ev.now _)
    | cons x l =>
      simp only [List.length_cons] at hl hl2
      by_cases hc : acc.length < m
      · have key : ∀ r : List S × List Int, Ev (fun k => bobbinetkeep_Nodes.j1 k (x :: l) (d : Int) (m : Int) acc true) r → Ev (fun k => bobbinetkeep_Nodes.l0 k (x :: l) (d : Int) (m : Int) acc) r := by
          intro r hr
          refine Ev.succ ?_
          simp only [bobbinetkeep_Nodes.l0]
          rw [decide_eq_true (show (acc.length : Int) < (m : Int) by omega)]
          exact Ev.ite_pos (by simp) hr
        have go : ∀ (acc' : List S) (l' : List Int), l'.length ≤ l.length → Good d m acc' → acc'.length ≤ m → ∃ out rest, Ev (fun k => bobbinetkeep_Nodes.l0 k l' (d : Int) (m : Int) acc') (out, rest) ∧ Good d m out ∧ out.length ≤ m ∧ rest.length ≤ (x :: l).length := by
          intro acc' l' h1 h2 h3
          obtain ⟨out, rest, h4, h5, h6, h7⟩ := ih l' (by omega) (by omega) d m acc' hd hm h2 h3
          exact ⟨out, rest, h4, h5, h6, by simp; omega⟩
        have q0 := Int.emod_nonneg x (show (6 : Int) ≠ 0 by omega)
        have q1 := Int.emod_lt_of_pos x (show (0 : Int) < 6 by omega)
        have len : ((x :: l).length : Int) = (l.length : Int) + 1 := by simp
        by_cases c0 : x % 6 = 0
        · refine ⟨acc, l, key _ ?_, hg, ha, by simp⟩
          refine Ev.succ ?_
          simp only [bobbinetkeep_Nodes.j1, rdI_zero]
          refine Ev.ite_pos trivial (Ev.ite_pos (by omega) (Ev.ite_pos (by omega) (Ev.bnd0 rfl (Ev.bnd0 (picked_f _ _ (by omega) (by omega)) ?_))))
          exact Ev.ite_pos c0 (Ev.now _)
        by_cases c1 : x % 6 = 1
        · have fin : ∀ i : Int, 0 ≤ i → i < 6 → (∀ p : S, acc.getLast? = some p → p.f0 ≠ nil) → ∃ out rest, Ev (fun k => bobbinetkeep_Nodes.l0 k l (d : Int) (m : Int) (acc ++ [(⟨(⟨#[]⟩ : ByteArray), ([] : List S63), rdOf ByteArray.empty texts i, ([] : List S)⟩ : S)])) (out, rest) ∧ Good d m out ∧ out.length ≤ m ∧ rest.length ≤ (x :: l).length := by
            intro i h0 h1 h2
            exact go _ l (Nat.le_refl _) (Good.text hg hc h2 (rdOf_mem _ _ _ h0 (by simpa [texts] using h1))) (by simp; omega)
          have p2 := Int.emod_nonneg (wrap64 (Int.tdiv x 6)) (show (6 : Int) ≠ 0 by omega)
          have p3 := Int.emod_lt_of_pos (wrap64 (Int.tdiv x 6)) (show (0 : Int) < 6 by omega)
          by_cases ca : 0 < acc.length
          · obtain ⟨init, p, hp⟩ : ∃ init p, acc = init ++ [p] := by
              rcases List.eq_nil_or_concat acc with h | ⟨i, p, h⟩
              · subst h; simp at ca
              · exact ⟨i, p, by simpa using h⟩
            have hw : wrap64 ((acc.length : Int) - 1) = (acc.length : Int) - 1 := wrap_id (by omega) (by omega)
            have hrd : rd_T53 acc ((acc.length : Int) - 1) = p := by
              subst hp
              have : (((init ++ [p]).length : Int) - 1) = (init.length : Int) := by simp
              rw [this]
              exact rd_mid _ _ _
            by_cases ct : p.f0 = nil
            · obtain ⟨out, rest, h1, h2, h3, h4⟩ := go acc l (Nat.le_refl _) hg ha
              refine ⟨out, rest, key _ ?_, h2, h3, h4⟩
              refine Ev.succ ?_
              simp only [bobbinetkeep_Nodes.j1, rdI_zero]
              refine Ev.ite_pos trivial (Ev.ite_pos (by omega) (Ev.ite_pos (by omega) (Ev.bnd0 rfl (Ev.bnd0 (picked_f _ _ (by omega) (by omega)) ?_))))
              refine Ev.ite_neg c0 (Ev.ite_pos c1 (Ev.ite_pos (by omega) ?_))
              rw [hw, hrd]
              exact Ev.ite_pos (by omega) (Ev.ite_pos (by omega) (Ev.ite_pos (toList_nil.2 ct) h1))
            · obtain ⟨out, rest, h1, h2, h3, h4⟩ := fin (wrap64 (Int.tdiv x 6) % 6) p2 p3 (by
                intro p' hp'
                subst hp
                simp at hp'
                rw [← hp']; exact ct)
              refine ⟨out, rest, key _ ?_, h2, h3, h4⟩
              refine Ev.succ ?_
              simp only [bobbinetkeep_Nodes.j1, rdI_zero]
              refine Ev.ite_pos trivial (Ev.ite_pos (by omega) (Ev.ite_pos (by omega) (Ev.bnd0 rfl (Ev.bnd0 (picked_f _ _ (by omega) (by omega)) ?_))))
              refine Ev.ite_neg c0 (Ev.ite_pos c1 (Ev.ite_pos (by omega) ?_))
              rw [hw, hrd]
              exact Ev.ite_pos (by omega) (Ev.ite_pos (by omega) (Ev.ite_neg (fun h => ct (toList_nil.1 h)) (Ev.bnd0 rfl (Ev.bnd0 (picked_f _ _ (by omega) (by omega)) (Ev.ite_pos p2 (Ev.ite_pos (by simpa using p3) (Ev.ite_pos (by omega) h1)))))))
          · obtain ⟨out, rest, h1, h2, h3, h4⟩ := fin (wrap64 (Int.tdiv x 6) % 6) p2 p3 (by
              intro p' hp'
              have : acc = [] := List.length_eq_zero_iff.1 (by omega)
              subst this
              simp at hp')
            refine ⟨out, rest, key _ ?_, h2, h3, h4⟩
            refine Ev.succ ?_
            simp only [bobbinetkeep_Nodes.j1, rdI_zero]
            refine Ev.ite_pos trivial (Ev.ite_pos (by omega) (Ev.ite_pos (by omega) (Ev.bnd0 rfl (Ev.bnd0 (picked_f _ _ (by omega) (by omega)) ?_))))
            exact Ev.ite_neg c0 (Ev.ite_pos c1 (Ev.ite_neg (by omega) (Ev.bnd0 rfl (Ev.bnd0 (picked_f _ _ (by omega) (by omega)) (Ev.ite_pos p2 (Ev.ite_pos (by simpa using p3) (Ev.ite_pos (by omega) h1)))))))
        by_cases c2 : x % 6 = 2
        · have p2 := Int.emod_nonneg (wrap64 (Int.tdiv x 6)) (show (2 : Int) ≠ 0 by omega)
          have p3 := Int.emod_lt_of_pos (wrap64 (Int.tdiv x 6)) (show (0 : Int) < 2 by omega)
          obtain ⟨out, rest, h1, h2, h3, h4⟩ := go (acc ++ [(⟨rdOf ByteArray.empty voids (wrap64 (Int.tdiv x 6) % 2), ([] : List S63), (⟨#[]⟩ : ByteArray), ([] : List S)⟩ : S)]) l (Nat.le_refl _) (Good.void hg hc (rdOf_mem _ _ _ p2 (by simpa [voids] using p3))) (by simp; omega)
          refine ⟨out, rest, key _ ?_, h2, h3, h4⟩
          refine Ev.succ ?_
          simp only [bobbinetkeep_Nodes.j1, rdI_zero]
          refine Ev.ite_pos trivial (Ev.ite_pos (by omega) (Ev.ite_pos (by omega) (Ev.bnd0 rfl (Ev.bnd0 (picked_f _ _ (by omega) (by omega)) ?_))))
          exact Ev.ite_neg c0 (Ev.ite_neg c1 (Ev.ite_pos c2 (Ev.bnd0 rfl (Ev.bnd0 (picked_f _ _ (by omega) (by omega)) (Ev.ite_pos p2 (Ev.ite_pos (by simpa using p3) (Ev.ite_pos (by omega) h1)))))))
        by_cases cd : 1 < d
        · have p2 := Int.emod_nonneg (wrap64 (Int.tdiv x 6)) (show (6 : Int) ≠ 0 by omega)
          have p3 := Int.emod_lt_of_pos (wrap64 (Int.tdiv x 6)) (show (0 : Int) < 6 by omega)
          obtain ⟨parts, l', g1, g2, g3, g4⟩ := ih l (by omega) (by omega) (d - 1) 4 [] (by omega) (by omega) (Good.none _ _) (by simp)
          have g1' : Ev (fun k => bobbinetkeep_Nodes.f k l (wrap64 ((d : Int) - 1)) 4) (parts, l') := by
            have : wrap64 ((d : Int) - 1) = ((d - 1 : Nat) : Int) := by rw [wrap_id (by omega) (by omega)]; omega
            rw [this]
            refine Ev.succ ?_
            simp only [bobbinetkeep_Nodes.f]
            exact g1
          by_cases c3 : wrap64 (Int.tdiv x 36) % 3 = 0
          · have p4 := Int.emod_nonneg (wrap64 (Int.tdiv x 100)) (show (5 : Int) ≠ 0 by omega)
            have p5 := Int.emod_lt_of_pos (wrap64 (Int.tdiv x 100)) (show (0 : Int) < 5 by omega)
            obtain ⟨out, rest, h1, h2, h3, h4⟩ := go (acc ++ [(⟨rdOf ByteArray.empty elems (wrap64 (Int.tdiv x 6) % 6), [(⟨(⟨#[104, 114, 101, 102]⟩ : ByteArray), rdOf ByteArray.empty vals (wrap64 (Int.tdiv x 100) % 5)⟩ : S63)], (⟨#[]⟩ : ByteArray), parts⟩ : S)]) l' g4 (Good.elem hg hc cd (rdOf_mem _ _ _ p2 (by simpa [elems] using p3)) (.inr ⟨_, rdOf_mem _ _ _ p4 (by simpa [vals] using p5), rfl⟩) g2) (by simp; omega)
            refine ⟨out, rest, key _ ?_, h2, h3, h4⟩
            refine Ev.succ ?_
            simp only [bobbinetkeep_Nodes.j1, rdI_zero]
            refine Ev.ite_pos trivial (Ev.ite_pos (by omega) (Ev.ite_pos (by omega) (Ev.bnd0 rfl (Ev.bnd0 (picked_f _ _ (by omega) (by omega)) ?_))))
            exact Ev.ite_neg c0 (Ev.ite_neg c1 (Ev.ite_neg c2 (Ev.ite_pos (by omega) (Ev.bnd0 rfl (Ev.bnd0 (picked_f _ _ (by omega) (by omega)) (Ev.ite_pos p2 (Ev.ite_pos (by simpa using p3) (Ev.bnd0 (picked_f _ _ (by omega) (by omega)) (Ev.ite_pos c3 (Ev.bnd0 rfl (Ev.bnd0 (picked_f _ _ (by omega) (by omega)) (Ev.ite_pos p4 (Ev.ite_pos (by simpa using p5) (Ev.bnd g1' (Ev.ite_pos (by omega) h1)))))))))))))))
          · obtain ⟨out, rest, h1, h2, h3, h4⟩ := go (acc ++ [(⟨rdOf ByteArray.empty elems (wrap64 (Int.tdiv x 6) % 6), ([] : List S63), (⟨#[]⟩ : ByteArray), parts⟩ : S)]) l' g4 (Good.elem hg hc cd (rdOf_mem _ _ _ p2 (by simpa [elems] using p3)) (.inl rfl) g2) (by simp; omega)
            refine ⟨out, rest, key _ ?_, h2, h3, h4⟩
            refine Ev.succ ?_
            simp only [bobbinetkeep_Nodes.j1, rdI_zero]
            refine Ev.ite_pos trivial (Ev.ite_pos (by omega) (Ev.ite_pos (by omega) (Ev.bnd0 rfl (Ev.bnd0 (picked_f _ _ (by omega) (by omega)) ?_))))
            exact Ev.ite_neg c0 (Ev.ite_neg c1 (Ev.ite_neg c2 (Ev.ite_pos (by omega) (Ev.bnd0 rfl (Ev.bnd0 (picked_f _ _ (by omega) (by omega)) (Ev.ite_pos p2 (Ev.ite_pos (by simpa using p3) (Ev.bnd0 (picked_f _ _ (by omega) (by omega)) (Ev.ite_neg c3 (Ev.bnd g1' (Ev.ite_pos (by omega) h1)))))))))))
        · obtain ⟨out, rest, h1, h2, h3, h4⟩ := go acc l (Nat.le_refl _) hg ha
          refine ⟨out, rest, key _ ?_, h2, h3, h4⟩
          refine Ev.succ ?_
          simp only [bobbinetkeep_Nodes.j1, rdI_zero]
          refine Ev.ite_pos trivial (Ev.ite_pos (by omega) (Ev.ite_pos (by omega) (Ev.bnd0 rfl (Ev.bnd0 (picked_f _ _ (by omega) (by omega)) ?_))))
          exact Ev.ite_neg c0 (Ev.ite_neg c1 (Ev.ite_neg c2 (Ev.ite_neg (by omega) h1)))
      · refine ⟨acc, x :: l, ?_, hg, ha, Nat.le_refl _⟩
        refine Ev.succ ?_
        simp only [bobbinetkeep_Nodes.l0]
        rw [decide_eq_false (show ¬ (acc.length : Int) < (m : Int) by omega)]
        refine Ev.ite_pos (by simp) (Ev.succ ?_)
        simp only [bobbinetkeep_Nodes.j1, rdI_zero]
        exact Ev.ite_neg (by simp) (Ev.now _)
theorem nodes_f (l : List Int) (hl : l.length ≤ 17592186044416) (d m : Nat) (hd : d ≤ 10) (hm : m ≤ 10) : ∃ out rest, Ev (fun k => bobbinetkeep_Nodes.f k l (d : Int) (m : Int)) (out, rest) ∧ Good d m out := by
  obtain ⟨out, rest, h1, h2, h3, h4⟩ := nodes_ev l.length l (Nat.le_refl _) hl d m [] hd hm (Good.none _ _) (by simp)
  refine ⟨out, rest, Ev.succ ?_, h2⟩
  simp only [bobbinetkeep_Nodes.f]
  exact h1
/-- what each of them is like -/
def NodeOk (d : Nat) (n : S) : Prop := (n.f0 = nil ∧ n.f1 = [] ∧ n.f2 ∈ texts ∧ n.f3 = []) ∨ (n.f0 ∈ voids ∧ n.f1 = [] ∧ n.f2 = nil ∧ n.f3 = []) ∨ (1 < d ∧ n.f0 ∈ elems ∧ (n.f1 = [] ∨ ∃ v ∈ vals, n.f1 = [(⟨(⟨#[104, 114, 101, 102]⟩ : ByteArray), v⟩ : S63)]) ∧ n.f2 = nil ∧ Good (d - 1) 4 n.f3)
theorem Good.mem {d m : Nat} {l : List S} (h : Good d m l) : ∀ n ∈ l, NodeOk d n := by
  induction h with
  | none => simp
  | text _ _ _ ht ih =>
    intro n hn
    rcases List.mem_append.1 hn with hn | hn
    · exact ih n hn
    · rw [List.mem_singleton.1 hn]; exact .inl ⟨rfl, rfl, ht, rfl⟩
  | void _ _ ht ih =>
    intro n hn
    rcases List.mem_append.1 hn with hn | hn
    · exact ih n hn
    · rw [List.mem_singleton.1 hn]; exact .inr (.inl ⟨ht, rfl, rfl, rfl⟩)
  | elem _ _ hd ht ha hq ih _ =>
    intro n hn
    rcases List.mem_append.1 hn with hn | hn
    · exact ih n hn
    · rw [List.mem_singleton.1 hn]; exact .inr (.inr ⟨hd, ht, ha, rfl, hq⟩)
theorem Good.at_ {d m : Nat} {l : List S} (h : Good d m l) : ∀ (pre suf : List S) (n : S), l = pre ++ n :: suf → NodeOk d n ∧ (n.f0 = nil → ∀ p : S, pre.getLast? = some p → p.f0 ≠ nil) := by
  have snoc : ∀ {a b : List S} {x y : S}, a ++ [x] = b ++ [y] → a = b ∧ x = y := by
    intro a b x y h
    have := List.append_inj' h rfl
    exact ⟨this.1, by simpa using this.2⟩
  induction h with
  | none => intro pre suf n h; simp at h
  | @text d m l t hg h1 h2 ht ih =>
    intro pre suf n h
    rcases List.eq_nil_or_concat suf with h4 | ⟨i, p, h4⟩
    · subst h4
      obtain ⟨rfl, rfl⟩ := snoc h
      exact ⟨.inl ⟨rfl, rfl, ht, rfl⟩, fun _ => h2⟩
    · have h4 : suf = i ++ [p] := by simpa using h4
      subst h4
      exact ih pre i n (snoc (show _ = (pre ++ n :: i) ++ [p] by simpa using h)).1
  | @void d m l t hg h1 ht ih =>
    intro pre suf n h
    rcases List.eq_nil_or_concat suf with h4 | ⟨i, p, h4⟩
    · subst h4
      obtain ⟨rfl, rfl⟩ := snoc h
      refine ⟨.inr (.inl ⟨ht, rfl, rfl, rfl⟩), fun h0 => ?_⟩
      exfalso
      replace h0 : t = nil := h0
      simp only [voids, List.mem_cons, List.not_mem_nil, or_false] at ht
      rcases ht with rfl | rfl <;> exact absurd h0 (by decide)
    · have h4 : suf = i ++ [p] := by simpa using h4
      subst h4
      exact ih pre i n (snoc (show _ = (pre ++ n :: i) ++ [p] by simpa using h)).1
  | @elem d m l q t a hg h1 hd ht ha hq ih _ =>
    intro pre suf n h
    rcases List.eq_nil_or_concat suf with h4 | ⟨i, p, h4⟩
    · subst h4
      obtain ⟨rfl, rfl⟩ := snoc h
      refine ⟨.inr (.inr ⟨hd, ht, ha, rfl, hq⟩), fun h0 => ?_⟩
      exfalso
      replace h0 : t = nil := h0
      simp only [elems, List.mem_cons, List.not_mem_nil, or_false] at ht
      rcases ht with rfl | rfl | rfl | rfl | rfl | rfl <;> exact absurd h0 (by decide)
    · have h4 : suf = i ++ [p] := by simpa using h4
      subst h4
      exact ih pre i n (snoc (show _ = (pre ++ n :: i) ++ [p] by simpa using h)).1
theorem Good.len {d m : Nat} {l : List S} (h : Good d m l) : l.length ≤ m := by
  cases h with
  | none => simp
  | _ => simp; omega
def cap : Nat → Nat
  | 0 => 7
  | d + 1 => 7 + 4 * cap d
theorem cap_mono (d : Nat) : 7 ≤ cap d := by cases d <;> simp [cap]
theorem Good.tot {d m : Nat} {l : List S} (h : Good d m l) : Tree.tot l ≤ l.length * cap d := by
  induction h with
  | none => simp [tot_nil]
  | @text d m l t _ _ _ ht ih =>
    have h1 : t.size ≤ 5 := by
      simp [texts] at ht
      rcases ht with rfl | rfl | rfl | rfl | rfl | rfl <;> decide
    have h2 := cap_mono d
    rw [tot_app, tot_cons, tot_nil]
    simp only [List.length_append, List.length_cons, List.length_nil, Nat.add_mul]
    omega
  | @void d m l t _ _ ht ih =>
    have h2 := cap_mono d
    have h3 : nil.size = 0 := rfl
    rw [tot_app, tot_cons, tot_nil]
    simp only [List.length_append, List.length_cons, List.length_nil, Nat.add_mul, h3]
    omega
  | @elem d m l q t a _ _ hd ht ha hq ih ihq =>
    have h3 : nil.size = 0 := rfl
    obtain ⟨e, rfl⟩ : ∃ e, d = e + 1 := ⟨d - 1, by omega⟩
    have h4 : a.length ≤ 1 := by
      rcases ha with rfl | ⟨v, _, rfl⟩ <;> simp
    have h5 := hq.len
    have h6 : q.length * cap (e + 1 - 1) ≤ 4 * cap e := Nat.mul_le_mul h5 (Nat.le_refl _)
    rw [tot_app, tot_cons, tot_nil]
    simp only [List.length_append, List.length_cons, List.length_nil, Nat.add_mul, h3]
    have h7 : cap (e + 1) = 7 + 4 * cap e := rfl
    rw [Nat.add_sub_cancel] at h6 ihq
    omega
end Go.Proofs.Ytjmhihadgpdiaaa.Tree
