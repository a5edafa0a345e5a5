/- Parts of the proof of PickDeep that are needed, put together by pack.py. -/
import Derived.Test.YtaibikajpacemaaQPickDeepah
import Derived.Test.YtaibikajpacemaaQPickDeepal
import Derived.Test.YtaibikajpacemaaQPickDeepag
section
namespace Go.Proofs.Ytaibikajpacemaa.Tree
open Go.RowKit Go.Proofs.Ytaibikajpacemaa.X Go.Proofs.YtaibikajpacemaaW.PrintWords Go.Proofs.YtaibikajpacemaaW.PrintLast Go.Proofs.Ytaibikajpacemaa.Base
set_option linter.unusedVariables false
set_option linter.unusedSimpArgs false
theorem copied_l0 : ∀ (suf pre acc : List S), tot (pre ++ suf) ≤ 1099511627776 → acc.length = pre.length → (∀ n ∈ suf, Ev (fun k => bobbinetkeep_copiedNodes.f k n.f3) n.f3) → Ev (fun k => bobbinetkeep_copiedNodes.l0 k (pre ++ suf) acc (pre.length : Int)) (acc ++ suf)
  | [], pre, acc, ht, ha, h => by
    refine Ev.succ ?_
    simp only [bobbinetkeep_copiedNodes.l0, List.append_nil]
    exact Ev.ite_neg (by omega) (Ev.now _)
  | n :: suf, pre, acc, ht, ha, h => by
    have h1 := tot_len (pre ++ n :: suf)
    have h2 := tot_mem (show n ∈ pre ++ n :: suf by simp)
    have h3 : (pre ++ n :: suf).length = pre.length + suf.length + 1 := by simp; omega
    have ih := copied_l0 suf (pre ++ [n]) (acc ++ [n]) (by simpa using ht) (by simp [ha]) (fun m hm => h m (List.mem_cons_of_mem _ hm))
    refine Ev.succ ?_
    simp only [bobbinetkeep_copiedNodes.l0]
    rw [rd_mid, wrap_pre pre n suf (by omega)]
    refine Ev.ite_pos (by omega) (Ev.ite_pos (by omega) (Ev.ite_pos (by simp; omega) (Ev.bnd (h n List.mem_cons_self) (Ev.ite_pos (by omega) ?_))))
    obtain ⟨n0, n1, n2, n3⟩ := n
    simpa using ih
theorem copied_f (l : List S) : tot l ≤ 1099511627776 → Ev (fun k => bobbinetkeep_copiedNodes.f k l) l := by
  induction l using ind2 with
  | h l ih =>
    intro ht
    refine Ev.succ ?_
    simp only [bobbinetkeep_copiedNodes.f]
    exact copied_l0 l [] [] ht rfl (fun n hn => ih n hn (by have := tot_mem hn; omega))
end Go.Proofs.Ytaibikajpacemaa.Tree
end
section
namespace Go.Proofs.Ytaibikajpacemaa.Tree
open Go.RowKit Go.Proofs.Ytaibikajpacemaa.X Go.Proofs.YtaibikajpacemaaW.PrintWords Go.Proofs.YtaibikajpacemaaW.PrintLast Go.Proofs.Ytaibikajpacemaa.Base
set_option linter.unusedVariables false
set_option linter.unusedSimpArgs false
theorem picked_f (a n : Int) (h : 0 < n) (hn : n ≤ 4294967296) : bobbinetkeep_Picked.f a n = some (a % n) := by
  have := picked_eq a n h hn
  unfold bobbinetkeep_Picked.f
  rw [if_neg (by omega), ← this]
  split <;> rfl
def texts : List ByteArray := [(⟨#[120]⟩ : ByteArray), (⟨#[97, 60, 98]⟩ : ByteArray), (⟨#[38, 97, 109, 112, 59]⟩ : ByteArray), (⟨#[121, 32, 122]⟩ : ByteArray), (⟨#[32]⟩ : ByteArray), (⟨#[60, 112, 62]⟩ : ByteArray)]
def voids : List ByteArray := [(⟨#[98, 114]⟩ : ByteArray), (⟨#[105, 109, 103]⟩ : ByteArray)]
def elems : List ByteArray := [(⟨#[100, 105, 118]⟩ : ByteArray), (⟨#[98]⟩ : ByteArray), (⟨#[101, 109]⟩ : ByteArray), (⟨#[112]⟩ : ByteArray), (⟨#[97]⟩ : ByteArray), (⟨#[117, 108]⟩ : ByteArray)]
def vals : List ByteArray := [(⟨#[]⟩ : ByteArray), (⟨#[120]⟩ : ByteArray), (⟨#[97, 34, 98, 38]⟩ : ByteArray), (⟨#[60]⟩ : ByteArray), (⟨#[104, 116, 116, 112, 58, 47, 47, 121]⟩ : ByteArray)]
abbrev nil : ByteArray := (⟨#[]⟩ : ByteArray)
/-- nodes, not deeper than d, at most m -/
inductive Good : Nat → Nat → List S → Prop
  | none (d m : Nat) : Good d m []
  | text {d m : Nat} {l : List S} {t : ByteArray} : Good d m l → l.length < m → (∀ p : S, l.getLast? = some p → p.f0 ≠ nil) → t ∈ texts → Good d m (l ++ [(⟨nil, [], t, []⟩ : S)])
  | void {d m : Nat} {l : List S} {t : ByteArray} : Good d m l → l.length < m → t ∈ voids → Good d m (l ++ [(⟨t, [], nil, []⟩ : S)])
  | elem {d m : Nat} {l q : List S} {t : ByteArray} {a : List S68} : Good d m l → l.length < m → 1 < d → t ∈ elems → (a = [] ∨ ∃ v ∈ vals, a = [(⟨(⟨#[104, 114, 101, 102]⟩ : ByteArray), v⟩ : S68)]) → Good (d - 1) 4 q → Good d m (l ++ [(⟨t, a, nil, q⟩ : S)])
set_option maxHeartbeats 1000000 in
theorem nodes_ev : ∀ (N : Nat) (l : List Int), l.length ≤ N → l.length ≤ 17592186044416 → ∀ (d m : Nat) (acc : List S), d ≤ 10 → m ≤ 10 → Good d m acc → acc.length ≤ m → ∃ out rest, Ev (fun k => bobbinetkeep_Nodes.l0 k l (d : Int) (m : Int) acc) (out, rest) ∧ Good d m out ∧ out.length ≤ m ∧ rest.length ≤ l.length := by
  intro N
  induction N with
  | zero =>
    intro l hl hl2 d m acc hd hm hg ha
    obtain rfl : l = [] := List.length_eq_zero_iff.1 (by omega)
    refine ⟨acc, [], ?_, hg, ha, Nat.le_refl _⟩
    refine Ev.succ ?_
    simp only [bobbinetkeep_Nodes.l0]
    refine Ev.ite_neg (by simp) (Ev.succ ?_)
    simp only [bobbinetkeep_Nodes.j1, rdI_zero]
    exact Ev.ite_neg (by simp) (Ev.now _)
  | succ N ih =>
    intro l hl hl2 d m acc hd hm hg ha
    cases l with
    | nil =>
      refine ⟨acc, [], ?_, hg, ha, Nat.le_refl _⟩
      refine Ev.succ ?_
      simp only [bobbinetkeep_Nodes.l0]
      refine Ev.ite_neg (by simp) (Ev.succ ?_)
      simp only [bobbinetkeep_Nodes.j1, rdI_zero]
      exact Ev.ite_neg (by simp) (Ev.now _)
    | cons x l =>
      simp only [List.length_cons] at hl hl2
      by_cases hc : acc.length < m
      · have key : ∀ r : List S × List Int, Ev (fun k => bobbinetkeep_Nodes.j1 k (x :: l) (d : Int) (m : Int) acc true) r → Ev (fun k => bobbinetkeep_Nodes.l0 k (x :: l) (d : Int) (m : Int) acc) r := by
          intro r hr
          refine Ev.succ ?_
          simp only [bobbinetkeep_Nodes.l0]
          rw [decide_eq_true (show (acc.length : Int) < (m : Int) by omega)]
          exact Ev.ite_pos (by simp) hr
        have go : ∀ (acc' : List S) (l' : List Int), l'.length ≤ l.length → Good d m acc' → acc'.length ≤ m → ∃ out rest, Ev (fun k => bobbinetkeep_Nodes.l0 k l' (d : Int) (m : Int) acc') (out, rest) ∧ Good d m out ∧ out.length ≤ m ∧ rest.length ≤ (x :: l).length := by
          intro acc' l' h1 h2 h3
          obtain ⟨out, rest, h4, h5, h6, h7⟩ := ih l' (by omega) (by omega) d m acc' hd hm h2 h3
          exact ⟨out, rest, h4, h5, h6, by simp; omega⟩
        have q0 := Int.emod_nonneg x (show (6 : Int) ≠ 0 by omega)
        have q1 := Int.emod_lt_of_pos x (show (0 : Int) < 6 by omega)
        have len : ((x :: l).length : Int) = (l.length : Int) + 1 := by simp
        by_cases c0 : x % 6 = 0
        · refine ⟨acc, l, key _ ?_, hg, ha, by simp⟩
          refine Ev.succ ?_
          simp only [bobbinetkeep_Nodes.j1, rdI_zero]
          refine Ev.ite_pos trivial (Ev.ite_pos (by omega) (Ev.ite_pos (by omega) (Ev.bnd0 rfl (Ev.bnd0 (picked_f _ _ (by omega) (by omega)) ?_))))
          exact Ev.ite_pos c0 (Ev.now _)
        by_cases c1 : x % 6 = 1
        · have fin : ∀ i : Int, 0 ≤ i → i < 6 → (∀ p : S, acc.getLast? = some p → p.f0 ≠ nil) → ∃ out rest, Ev (fun k => bobbinetkeep_Nodes.l0 k l (d : Int) (m : Int) (acc ++ [(⟨(⟨#[]⟩ : ByteArray), ([] : List S68), rdOf ByteArray.empty texts i, ([] : List S)⟩ : S)])) (out, rest) ∧ Good d m out ∧ out.length ≤ m ∧ rest.length ≤ (x :: l).length := by
            intro i h0 h1 h2
            exact go _ l (Nat.le_refl _) (Good.text hg hc h2 (rdOf_mem _ _ _ h0 (by simpa [texts] using h1))) (by simp; omega)
          have p2 := Int.emod_nonneg (wrap64 (Int.tdiv x 6)) (show (6 : Int) ≠ 0 by omega)
          have p3 := Int.emod_lt_of_pos (wrap64 (Int.tdiv x 6)) (show (0 : Int) < 6 by omega)
          by_cases ca : 0 < acc.length
          · obtain ⟨init, p, hp⟩ : ∃ init p, acc = init ++ [p] := by
              rcases List.eq_nil_or_concat acc with h | ⟨i, p, h⟩
              · subst h; simp at ca
              · exact ⟨i, p, by simpa using h⟩
            have hw : wrap64 ((acc.length : Int) - 1) = (acc.length : Int) - 1 := wrap_id (by omega) (by omega)
            have hrd : rd_T28 acc ((acc.length : Int) - 1) = p := by
              subst hp
              have : (((init ++ [p]).length : Int) - 1) = (init.length : Int) := by simp
              rw [this]
              exact rd_mid _ _ _
            by_cases ct : p.f0 = nil
            · obtain ⟨out, rest, h1, h2, h3, h4⟩ := go acc l (Nat.le_refl _) hg ha
              refine ⟨out, rest, key _ ?_, h2, h3, h4⟩
              refine Ev.succ ?_
              simp only [bobbinetkeep_Nodes.j1, rdI_zero]
              refine Ev.ite_pos trivial (Ev.ite_pos (by omega) (Ev.ite_pos (by omega) (Ev.bnd0 rfl (Ev.bnd0 (picked_f _ _ (by omega) (by omega)) ?_))))
              refine Ev.ite_neg c0 (Ev.ite_pos c1 (Ev.ite_pos (by omega) ?_))
              rw [hw, hrd]
              exact Ev.ite_pos (by omega) (Ev.ite_pos (by omega) (Ev.ite_pos (toList_nil.2 ct) h1))
            · obtain ⟨out, rest, h1, h2, h3, h4⟩ := fin (wrap64 (Int.tdiv x 6) % 6) p2 p3 (by
                intro p' hp'
                subst hp
                simp at hp'
                rw [← hp']; exact ct)
              refine ⟨out, rest, key _ ?_, h2, h3, h4⟩
              refine Ev.succ ?_
              simp only [bobbinetkeep_Nodes.j1, rdI_zero]
              refine Ev.ite_pos trivial (Ev.ite_pos (by omega) (Ev.ite_pos (by omega) (Ev.bnd0 rfl (Ev.bnd0 (picked_f _ _ (by omega) (by omega)) ?_))))
              refine Ev.ite_neg c0 (Ev.ite_pos c1 (Ev.ite_pos (by omega) ?_))
              rw [hw, hrd]
              exact Ev.ite_pos (by omega) (Ev.ite_pos (by omega) (Ev.ite_neg (fun h => ct (toList_nil.1 h)) (Ev.bnd0 rfl (Ev.bnd0 (picked_f _ _ (by omega) (by omega)) (Ev.ite_pos p2 (Ev.ite_pos (by simpa using p3) (Ev.ite_pos (by omega) h1)))))))
          · obtain ⟨out, rest, h1, h2, h3, h4⟩ := fin (wrap64 (Int.tdiv x 6) % 6) p2 p3 (by
              intro p' hp'
              have : acc = [] := List.length_eq_zero_iff.1 (by omega)
              subst this
              simp at hp')
            refine ⟨out, rest, key _ ?_, h2, h3, h4⟩
            refine Ev.succ ?_
            simp only [bobbinetkeep_Nodes.j1, rdI_zero]
            refine Ev.ite_pos trivial (Ev.ite_pos (by omega) (Ev.ite_pos (by omega) (Ev.bnd0 rfl (Ev.bnd0 (picked_f _ _ (by omega) (by omega)) ?_))))
            exact Ev.ite_neg c0 (Ev.ite_pos c1 (Ev.ite_neg (by omega) (Ev.bnd0 rfl (Ev.bnd0 (picked_f _ _ (by omega) (by omega)) (Ev.ite_pos p2 (Ev.ite_pos (by simpa using p3) (Ev.ite_pos (by omega) h1)))))))
        by_cases c2 : x % 6 = 2
        · have p2 := Int.emod_nonneg (wrap64 (Int.tdiv x 6)) (show (2 : Int) ≠ 0 by omega)
          have p3 := Int.emod_lt_of_pos (wrap64 (Int.tdiv x 6)) (show (0 : Int) < 2 by omega)
          obtain ⟨out, rest, h1, h2, h3, h4⟩ := go (acc ++ [(⟨rdOf ByteArray.empty voids (wrap64 (Int.tdiv x 6) % 2), ([] : List S68), (⟨#[]⟩ : ByteArray), ([] : List S)⟩ : S)]) l (Nat.le_refl _) (Good.void hg hc (rdOf_mem _ _ _ p2 (by simpa [voids] using p3))) (by simp; omega)
          refine ⟨out, rest, key _ ?_, h2, h3, h4⟩
          refine Ev.succ ?_
          simp only [bobbinetkeep_Nodes.j1, rdI_zero]
          refine Ev.ite_pos trivial (Ev.ite_pos (by omega) (Ev.ite_pos (by omega) (Ev.bnd0 rfl (Ev.bnd0 (picked_f _ _ (by omega) (by omega)) ?_))))
          exact Ev.ite_neg c0 (Ev.ite_neg c1 (Ev.ite_pos c2 (Ev.bnd0 rfl (Ev.bnd0 (picked_f _ _ (by omega) (by omega)) (Ev.ite_pos p2 (Ev.ite_pos (by simpa using p3) (Ev.ite_pos (by omega) h1)))))))
        by_cases cd : 1 < d
        · have p2 := Int.emod_nonneg (wrap64 (Int.tdiv x 6)) (show (6 : Int) ≠ 0 by omega)
          have p3 := Int.emod_lt_of_pos (wrap64 (Int.tdiv x 6)) (show (0 : Int) < 6 by omega)
          obtain ⟨parts, l', g1, g2, g3, g4⟩ := ih l (by omega) (by omega) (d - 1) 4 [] (by omega) (by omega) (Good.none _ _) (by simp)
          have g1' : Ev (fun k => bobbinetkeep_Nodes.f k l (wrap64 ((d : Int) - 1)) 4) (parts, l') := by
            have : wrap64 ((d : Int) - 1) = ((d - 1 : Nat) : Int) := by rw [wrap_id (by omega) (by omega)]; omega
            rw [this]
            refine Ev.succ ?_
            simp only [bobbinetkeep_Nodes.f]
            exact g1
          by_cases c3 : wrap64 (Int.tdiv x 36) % 3 = 0
          · have p4 := Int.emod_nonneg (wrap64 (Int.tdiv x 100)) (show (5 : Int) ≠ 0 by omega)
            have p5 := Int.emod_lt_of_pos (wrap64 (Int.tdiv x 100)) (show (0 : Int) < 5 by omega)
            obtain ⟨out, rest, h1, h2, h3, h4⟩ := go (acc ++ [(⟨rdOf ByteArray.empty elems (wrap64 (Int.tdiv x 6) % 6), [(⟨(⟨#[104, 114, 101, 102]⟩ : ByteArray), rdOf ByteArray.empty vals (wrap64 (Int.tdiv x 100) % 5)⟩ : S68)], (⟨#[]⟩ : ByteArray), parts⟩ : S)]) l' g4 (Good.elem hg hc cd (rdOf_mem _ _ _ p2 (by simpa [elems] using p3)) (.inr ⟨_, rdOf_mem _ _ _ p4 (by simpa [vals] using p5), rfl⟩) g2) (by simp; omega)
            refine ⟨out, rest, key _ ?_, h2, h3, h4⟩
            refine Ev.succ ?_
            simp only [bobbinetkeep_Nodes.j1, rdI_zero]
            refine Ev.ite_pos trivial (Ev.ite_pos (by omega) (Ev.ite_pos (by omega) (Ev.bnd0 rfl (Ev.bnd0 (picked_f _ _ (by omega) (by omega)) ?_))))
            exact Ev.ite_neg c0 (Ev.ite_neg c1 (Ev.ite_neg c2 (Ev.ite_pos (by omega) (Ev.bnd0 rfl (Ev.bnd0 (picked_f _ _ (by omega) (by omega)) (Ev.ite_pos p2 (Ev.ite_pos (by simpa using p3) (Ev.bnd0 (picked_f _ _ (by omega) (by omega)) (Ev.ite_pos c3 (Ev.bnd0 rfl (Ev.bnd0 (picked_f _ _ (by omega) (by omega)) (Ev.ite_pos p4 (Ev.ite_pos (by simpa using p5) (Ev.bnd g1' (Ev.ite_pos (by omega) h1)))))))))))))))
          · obtain ⟨out, rest, h1, h2, h3, h4⟩ := go (acc ++ [(⟨rdOf ByteArray.empty elems (wrap64 (Int.tdiv x 6) % 6), ([] : List S68), (⟨#[]⟩ : ByteArray), parts⟩ : S)]) l' g4 (Good.elem hg hc cd (rdOf_mem _ _ _ p2 (by simpa [elems] using p3)) (.inl rfl) g2) (by simp; omega)
            refine ⟨out, rest, key _ ?_, h2, h3, h4⟩
            refine Ev.succ ?_
            simp only [bobbinetkeep_Nodes.j1, rdI_zero]
            refine Ev.ite_pos trivial (Ev.ite_pos (by omega) (Ev.ite_pos (by omega) (Ev.bnd0 rfl (Ev.bnd0 (picked_f _ _ (by omega) (by omega)) ?_))))
            exact Ev.ite_neg c0 (Ev.ite_neg c1 (Ev.ite_neg c2 (Ev.ite_pos (by omega) (Ev.bnd0 rfl (Ev.bnd0 (picked_f _ _ (by omega) (by omega)) (Ev.ite_pos p2 (Ev.ite_pos (by simpa using p3) (Ev.bnd0 (picked_f _ _ (by omega) (by omega)) (Ev.ite_neg c3 (Ev.bnd g1' (Ev.ite_pos (by omega) h1)))))))))))
        · obtain ⟨out, rest, h1, h2, h3, h4⟩ := go acc l (Nat.le_refl _) hg ha
          refine ⟨out, rest, key _ ?_, h2, h3, h4⟩
          refine Ev.succ ?_
          simp only [bobbinetkeep_Nodes.j1, rdI_zero]
          refine Ev.ite_pos trivial (Ev.ite_pos (by omega) (Ev.ite_pos (by omega) (Ev.bnd0 rfl (Ev.bnd0 (picked_f _ _ (by omega) (by omega)) ?_))))
          exact Ev.ite_neg c0 (Ev.ite_neg c1 (Ev.ite_neg c2 (Ev.ite_neg (by omega) h1)))
      · refine ⟨acc, x :: l, ?_, hg, ha, Nat.le_refl _⟩
        refine Ev.succ ?_
        simp only [bobbinetkeep_Nodes.l0]
        rw [decide_eq_false (show ¬ (acc.length : Int) < (m : Int) by omega)]
        refine Ev.ite_pos (by simp) (Ev.succ ?_)
        simp only [bobbinetkeep_Nodes.j1, rdI_zero]
        exact Ev.ite_neg (by simp) (Ev.now _)
theorem nodes_f (l : List Int) (hl : l.length ≤ 17592186044416) (d m : Nat) (hd : d ≤ 10) (hm : m ≤ 10) : ∃ out rest, Ev (fun k => bobbinetkeep_Nodes.f k l (d : Int) (m : Int)) (out, rest) ∧ Good d m out := by
  obtain ⟨out, rest, h1, h2, h3, h4⟩ := nodes_ev l.length l (Nat.le_refl _) hl d m [] hd hm (Good.none _ _) (by simp)
  refine ⟨out, rest, Ev.succ ?_, h2⟩
  simp only [bobbinetkeep_Nodes.f]
  exact h1
/-- what each of them is like -/
def NodeOk (d : Nat) (n : S) : Prop := (n.f0 = nil ∧ n.f1 = [] ∧ n.f2 ∈ texts ∧ n.f3 = []) ∨ (n.f0 ∈ voids ∧ n.f1 = [] ∧ n.f2 = nil ∧ n.f3 = []) ∨ (1 < d ∧ n.f0 ∈ elems ∧ (n.f1 = [] ∨ ∃ v ∈ vals, n.f1 = [(⟨(⟨#[104, 114, 101, 102]⟩ : ByteArray), v⟩ : S68)]) ∧ n.f2 = nil ∧ Good (d - 1) 4 n.f3)
theorem Good.at_ {d m : Nat} {l : List S} (h : Good d m l) : ∀ (pre suf : List S) (n : S), l = pre ++ n :: suf → NodeOk d n ∧ (n.f0 = nil → ∀ p : S, pre.getLast? = some p → p.f0 ≠ nil) := by
  have snoc : ∀ {a b : List S} {x y : S}, a ++ [x] = b ++ [y] → a = b ∧ x = y := by
    intro a b x y h
    have := List.append_inj' h rfl
    exact ⟨this.1, by simpa using this.2⟩
  induction h with
  | none => intro pre suf n h; simp at h
  | @text d m l t hg h1 h2 ht ih =>
    intro pre suf n h
    rcases List.eq_nil_or_concat suf with h4 | ⟨i, p, h4⟩
    · subst h4
      obtain ⟨rfl, rfl⟩ := snoc h
      exact ⟨.inl ⟨rfl, rfl, ht, rfl⟩, fun _ => h2⟩
    · have h4 : suf = i ++ [p] := by simpa using h4
      subst h4
      exact ih pre i n (snoc (show _ = (pre ++ n :: i) ++ [p] by simpa using h)).1
  | @void d m l t hg h1 ht ih =>
    intro pre suf n h
    rcases List.eq_nil_or_concat suf with h4 | ⟨i, p, h4⟩
    · subst h4
      obtain ⟨rfl, rfl⟩ := snoc h
      refine ⟨.inr (.inl ⟨ht, rfl, rfl, rfl⟩), fun h0 => ?_⟩
      exfalso
      replace h0 : t = nil := h0
      simp only [voids, List.mem_cons, List.not_mem_nil, or_false] at ht
      rcases ht with rfl | rfl <;> exact absurd h0 (by decide)
    · have h4 : suf = i ++ [p] := by simpa using h4
      subst h4
      exact ih pre i n (snoc (show _ = (pre ++ n :: i) ++ [p] by simpa using h)).1
  | @elem d m l q t a hg h1 hd ht ha hq ih _ =>
    intro pre suf n h
    rcases List.eq_nil_or_concat suf with h4 | ⟨i, p, h4⟩
    · subst h4
      obtain ⟨rfl, rfl⟩ := snoc h
      refine ⟨.inr (.inr ⟨hd, ht, ha, rfl, hq⟩), fun h0 => ?_⟩
      exfalso
      replace h0 : t = nil := h0
      simp only [elems, List.mem_cons, List.not_mem_nil, or_false] at ht
      rcases ht with rfl | rfl | rfl | rfl | rfl | rfl <;> exact absurd h0 (by decide)
    · have h4 : suf = i ++ [p] := by simpa using h4
      subst h4
      exact ih pre i n (snoc (show _ = (pre ++ n :: i) ++ [p] by simpa using h)).1
theorem Good.len {d m : Nat} {l : List S} (h : Good d m l) : l.length ≤ m := by
  cases h with
  | none => simp
  | _ => simp; omega
def cap : Nat → Nat
  | 0 => 7
  | d + 1 => 7 + 4 * cap d
theorem cap_mono (d : Nat) : 7 ≤ cap d := by cases d <;> simp [cap]
theorem Good.tot {d m : Nat} {l : List S} (h : Good d m l) : Tree.tot l ≤ l.length * cap d := by
  induction h with
  | none => simp [tot_nil]
  | @text d m l t _ _ _ ht ih =>
    have h1 : t.size ≤ 5 := by
      simp [texts] at ht
      rcases ht with rfl | rfl | rfl | rfl | rfl | rfl <;> decide
    have h2 := cap_mono d
    rw [tot_app, tot_cons, tot_nil]
    simp only [List.length_append, List.length_cons, List.length_nil, Nat.add_mul]
    omega
  | @void d m l t _ _ ht ih =>
    have h2 := cap_mono d
    have h3 : nil.size = 0 := rfl
    rw [tot_app, tot_cons, tot_nil]
    simp only [List.length_append, List.length_cons, List.length_nil, Nat.add_mul, h3]
    omega
  | @elem d m l q t a _ _ hd ht ha hq ih ihq =>
    have h3 : nil.size = 0 := rfl
    obtain ⟨e, rfl⟩ : ∃ e, d = e + 1 := ⟨d - 1, by omega⟩
    have h4 : a.length ≤ 1 := by
      rcases ha with rfl | ⟨v, _, rfl⟩ <;> simp
    have h5 := hq.len
    have h6 : q.length * cap (e + 1 - 1) ≤ 4 * cap e := Nat.mul_le_mul h5 (Nat.le_refl _)
    rw [tot_app, tot_cons, tot_nil]
    simp only [List.length_append, List.length_cons, List.length_nil, Nat.add_mul, h3]
    have h7 : cap (e + 1) = 7 + 4 * cap e := rfl
    rw [Nat.add_sub_cancel] at h6 ihq
    omega
end Go.Proofs.Ytaibikajpacemaa.Tree
end
section
namespace Go.Proofs.Ytaibikajpacemaa.Tree
open Go.RowKit Go.Proofs.Ytaibikajpacemaa.X Go.Proofs.YtaibikajpacemaaW.PrintWords Go.Proofs.YtaibikajpacemaaW.PrintLast Go.Proofs.Ytaibikajpacemaa.Base
set_option linter.unusedVariables false
set_option linter.unusedSimpArgs false
abbrev Pk := S61
abbrev fitB (p : Pk) (n : S) : Bool := pick_fits.f p.f0 p.f1 p.f2 n.f0 n.f1 n.f2 n.f3 == some true
abbrev rep (ps : List Pk) : List Bool := List.replicate ps.length false
/-- what is found in nodes, the first of which is node i at a path -/
def found (ps : List Pk) : List S → Nat → List Int → List Bool → List Bool → List (List Int)
  | [], _, _, _, _ => []
  | n :: l, i, path, r, w =>
    if n.f0.toList = ([] : List UInt8) then found ps l (i + 1) path r w
    else (if (pick_Find.ends ps n r w).getD (ps.length - 1) false = true then [path ++ [(i : Int)]] else []) ++ found ps n.f3 0 (path ++ [(i : Int)]) (pick_Find.ends ps n r w) (pick_Find.far w (pick_Find.ends ps n r w)) ++ found ps l (i + 1) path r w
termination_by l => SizeOf.sizeOf l
decreasing_by all_goals (cases n; simp; omega)
theorem found_nil (ps : List Pk) (i : Nat) (path : List Int) (r w : List Bool) : found ps [] i path r w = [] := by rw [found]
theorem found_text (ps : List Pk) (n : S) (l : List S) (i : Nat) (path : List Int) (r w : List Bool) (h : n.f0.toList = ([] : List UInt8)) : found ps (n :: l) i path r w = found ps l (i + 1) path r w := by rw [found, if_pos h]
theorem found_elem (ps : List Pk) (n : S) (l : List S) (i : Nat) (path : List Int) (r w : List Bool) (h : ¬ n.f0.toList = ([] : List UInt8)) : found ps (n :: l) i path r w = (if (pick_Find.ends ps n r w).getD (ps.length - 1) false = true then [path ++ [(i : Int)]] else []) ++ found ps n.f3 0 (path ++ [(i : Int)]) (pick_Find.ends ps n r w) (pick_Find.far w (pick_Find.ends ps n r w)) ++ found ps l (i + 1) path r w := by rw [found, if_neg h]
theorem go_eq (ps : List Pk) : ∀ (l : List S) (i : Nat) (path : List Int) (r w : List Bool) (k : Nat), tot l < k → pick_Find.go ps k l i path r w = some (found ps l i path r w) := by
  intro l
  induction l using ind with
  | h0 =>
    intro i path r w k hk
    obtain ⟨m, rfl⟩ : ∃ m, k = m + 1 := ⟨k - 1, by omega⟩
    rw [pick_Find.go, found_nil]
  | h1 n l ih1 ih2 =>
    intro i path r w k hk
    obtain ⟨m, rfl⟩ : ∃ m, k = m + 1 := ⟨k - 1, by omega⟩
    rw [tot_cons] at hk
    rw [pick_Find.go]
    by_cases h : n.f0.toList = ([] : List UInt8)
    · rw [if_pos h, found_text _ _ _ _ _ _ _ h]
      exact ih2 _ _ _ _ m (by omega)
    · rw [if_neg h, found_elem _ _ _ _ _ _ _ h, ih1 _ _ _ _ m (by omega), ih2 _ _ _ _ m (by omega)]
      rfl
theorem found_len (ps : List Pk) : ∀ (l : List S) (i : Nat) (path : List Int) (r w : List Bool), (found ps l i path r w).length ≤ tot l := by
  intro l
  induction l using ind with
  | h0 => intro i path r w; rw [found_nil]; simp
  | h1 n l ih1 ih2 =>
    intro i path r w
    rw [tot_cons]
    by_cases h : n.f0.toList = ([] : List UInt8)
    · rw [found_text _ _ _ _ _ _ _ h]
      have := ih2 (i + 1) path r w
      omega
    · rw [found_elem _ _ _ _ _ _ _ h, List.length_append, List.length_append]
      have h1 := ih1 0 (path ++ [(i : Int)]) (pick_Find.ends ps n r w) (pick_Find.far w (pick_Find.ends ps n r w))
      have h2 := ih2 (i + 1) path r w
      have h3 : (if (pick_Find.ends ps n r w).getD (ps.length - 1) false = true then [path ++ [(i : Int)]] else []).length ≤ 1 := by split <;> simp
      omega
/-- paths that are found are as deep as the tree at most -/
theorem found_long (ps : List Pk) : ∀ (l : List S) (i : Nat) (path : List Int) (r w : List Bool), ∀ p ∈ found ps l i path r w, p.length ≤ path.length + tot l := by
  intro l
  induction l using ind with
  | h0 => intro i path r w p hp; rw [found_nil] at hp; cases hp
  | h1 n l ih1 ih2 =>
    intro i path r w p hp
    rw [tot_cons]
    by_cases h : n.f0.toList = ([] : List UInt8)
    · rw [found_text _ _ _ _ _ _ _ h] at hp
      have := ih2 (i + 1) path r w p hp
      omega
    · rw [found_elem _ _ _ _ _ _ _ h, List.mem_append, List.mem_append] at hp
      rcases hp with (hp | hp) | hp
      · split at hp
        · rw [List.mem_singleton.1 hp, List.length_append, List.length_singleton]; omega
        · cases hp
      · have := ih1 _ _ _ _ p hp
        rw [List.length_append, List.length_singleton] at this
        omega
      · have := ih2 (i + 1) path r w p hp
        omega
theorem find_ev (ps : List Pk) (hok : pick_check.ok ps = true) (t : List S) (ht : tot t ≤ 999990) : Ev (fun k => pick_Find.f k ps t) (found ps t 0 [] (rep ps) (rep ps), 0) := by
  refine ⟨tot t + 1, fun k hk => ?_⟩
  show pick_Find.f k ps t = _
  unfold pick_Find.f
  rw [if_pos hok, go_eq ps t 0 [] _ _ (min k 1000000) (by omega), Option.bind_some]
  have := found_len ps t 0 [] (List.replicate ps.length false) (List.replicate ps.length false)
  rw [if_pos (by omega)]
theorem same0 : Ev (fun k => bobbinetkeep_sameInts.f k ([0] : List Int) [0]) true := Ev.of (bobbinetkeep_sameInts.mono _ _) (k := 3) (by decide +kernel)
theorem one_ev : Ev (fun k => pick_Find.f k [(⟨(⟨#[]⟩ : ByteArray), (⟨#[]⟩ : ByteArray), false⟩ : Pk)] [(⟨(⟨#[98]⟩ : ByteArray), ([] : List S68), (⟨#[]⟩ : ByteArray), ([] : List S)⟩ : S)]) ([[0]], 0) := Ev.of (pick_Find.mono _ _) (k := 5) (by decide +kernel)
theorem paths_ev (ps : List Pk) (hok : pick_check.ok ps = true) (t : List S) (ht : tot t ≤ 999990) : Ev (fun k => bobbinetkeep_paths.f k ps t) (found ps t 0 [] (rep ps) (rep ps), true) := by
  have hl : ps.length ≤ 10 := by
    unfold pick_check.ok at hok
    simp only [Bool.and_eq_true, decide_eq_true_eq] at hok
    exact hok.1.2
  simp only [bobbinetkeep_paths.f, List.nil_append]
  refine Ev.ite_pos (by simp; omega) (Ev.bnd (copied_f t (by omega)) (Ev.bnd (find_ev ps hok t ht) (Ev.bnd one_ev (Ev.ite_pos rfl (Ev.ite_pos rfl (Ev.ite_pos (by simp) (Ev.ite_pos (by simp) ?_)))))))
  exact Ev.bnd (a := true) same0 (Ev.now _)
/-- whether a pick fits -/
theorem fit_eq (p : Pk) (n : S) : fitB p n = ((decide (n.f0 ≠ nil) && (decide (p.f0 = nil) || decide (p.f0 = n.f0))) && (decide (p.f1 = nil) || n.f1.any fun x => decide (x.f0 = p.f1))) := by
  unfold fitB pick_fits.f cf_pickFits.f
  simp only [Option.bind_some, toList_beq, toList_inj, show (∀ s : ByteArray, (s.toList = ([] : List UInt8)) = (s = nil)) from fun s => propext toList_nil]
  by_cases h0 : n.f0 = nil <;> by_cases h1 : p.f0 = nil <;> by_cases h2 : p.f1 = nil <;> by_cases h3 : p.f0 = n.f0 <;> simp [h0, h1, h2, h3]
end Go.Proofs.Ytaibikajpacemaa.Tree
end
section
namespace Go.Proofs.Ytaibikajpacemaa.Tree
open Go.RowKit Go.Proofs.Ytaibikajpacemaa.X Go.Proofs.YtaibikajpacemaaW.PrintWords Go.Proofs.YtaibikajpacemaaW.PrintLast Go.Proofs.Ytaibikajpacemaa.Base
set_option linter.unusedVariables false
set_option linter.unusedSimpArgs false
def PkOk (p : Pk) : Prop := pick_check.nm p.f0 = true ∧ pick_check.nm p.f1 = true
theorem ok_of (ps : List Pk) (h0 : 0 < ps.length) (h1 : ps.length ≤ 10) (h : ∀ p ∈ ps, PkOk p) : pick_check.ok ps = true := by
  unfold pick_check.ok
  simp only [Bool.and_eq_true, decide_eq_true_eq, List.all_eq_true]
  exact ⟨⟨h0, h1⟩, h⟩
theorem getD_mem2 {α : Type} (d : α) (l : List α) (i : Nat) (h : i < l.length) : l.getD i d ∈ l := by simp [List.getD, h]
theorem mod_lt2 (x : Int) (n : Nat) (h : 0 < n) : (x % (n : Int)).toNat < n := by
  have h1 := Int.emod_nonneg x (show (n : Int) ≠ 0 by omega)
  have h2 := Int.emod_lt_of_pos x (show (0 : Int) < n by omega)
  omega
theorem names_nm : ∀ s ∈ bobbinetkeep_Picks.names, pick_check.nm s = true := by decide +kernel
theorem keys_nm : ∀ s ∈ bobbinetkeep_Picks.keys, pick_check.nm s = true := by decide +kernel
theorem one_ok (i : Nat) (a : Int) : PkOk (bobbinetkeep_Picks.one i a) := ⟨names_nm _ (getD_mem2 _ _ _ (mod_lt2 a 5 (by omega))), keys_nm _ (getD_mem2 _ _ _ (mod_lt2 _ 3 (by omega)))⟩
theorem nm_nil : pick_check.nm (⟨#[]⟩ : ByteArray) = true := by decide +kernel
theorem pre_ok (l : List Int) (i : Nat) (hi : i ≤ 10) : 0 < (bobbinetkeep_Picks.pre l i).length ∧ (bobbinetkeep_Picks.pre l i).length ≤ 10 ∧ ∀ p ∈ bobbinetkeep_Picks.pre l i, PkOk p := by
  unfold bobbinetkeep_Picks.pre
  by_cases h : i = 0
  · rw [if_pos h]
    refine ⟨by simp, by simp, fun p hp => ?_⟩
    rw [List.mem_singleton.1 hp]
    exact ⟨(by decide +kernel : pick_check.nm (⟨#[98]⟩ : ByteArray) = true), nm_nil⟩
  · rw [if_neg h]
    refine ⟨by simp; omega, by simp; omega, fun p hp => ?_⟩
    obtain ⟨j, _, rfl⟩ := List.mem_map.1 hp
    exact one_ok _ _
theorem rdP_mid (pre : List Pk) (d : Pk) (suf : List Pk) : rd_T61 (pre ++ d :: suf) (pre.length : Int) = d := by
  simp [rd_T61, List.getD]
theorem set_mid (pre : List Pk) (d v : Pk) (suf : List Pk) : (pre ++ d :: suf).set ((pre.length : Int)).toNat v = pre ++ v :: suf := by
  simp [List.set_append]
theorem getD_out (xs : List Bool) (j : Nat) (h : xs.length ≤ j) : xs.getD j false = false := by
  simp [List.getD, List.getElem?_eq_none h]
theorem fit_any (p : Pk) (n : S) (h : fitB p n = true) (f2 : Bool) : fitB ⟨(⟨#[]⟩ : ByteArray), p.f1, f2⟩ n = true := by
  rw [fit_eq] at h ⊢
  simp only [Bool.and_eq_true, decide_eq_true_eq] at h ⊢
  exact ⟨⟨h.1.1, by simp⟩, h.2⟩
theorem fit_deep (p : Pk) (n : S) (f2 : Bool) : fitB ⟨p.f0, p.f1, f2⟩ n = fitB p n := by rw [fit_eq, fit_eq]
theorem found_mono (ps ps' : List Pk) (hl : ps'.length = ps.length) (hf : ∀ (j : Nat) (n : S), j < ps.length → fitB (rd_T61 ps (j : Int)) n = true → fitB (rd_T61 ps' (j : Int)) n = true) (hd : ∀ (j : Nat), j < ps.length → (rd_T61 ps' (j : Int)).f2 = true) :
    ∀ (l : List S) (i : Nat) (path : List Int) (r w r' w' : List Bool), w.length = ps.length → w'.length = ps.length → (∀ j, w.getD j false = true → w'.getD j false = true) → (∀ j, r.getD j false = true → w'.getD j false = true) → ∀ x ∈ found ps l i path r w, x ∈ found ps' l i path r' w' := by
  intro l
  induction l using ind with
  | h0 => intro i path r w r' w' _ _ _ _ x hx; rw [found_nil] at hx; cases hx
  | h1 n l ih1 ih2 =>
    intro i path r w r' w' lw lw' hw hr x hx
    by_cases h : n.f0.toList = ([] : List UInt8)
    · rw [found_text _ _ _ _ _ _ _ h] at hx ⊢
      exact ih2 _ _ _ _ _ _ lw lw' hw hr x hx
    · rw [found_elem _ _ _ _ _ _ _ h, List.mem_append, List.mem_append] at hx ⊢
      have le : (pick_Find.ends ps n r w).length = ps.length := pick_Find.ends_len _ _ _ _
      have le' : (pick_Find.ends ps' n r' w').length = ps.length := (pick_Find.ends_len _ _ _ _).trans hl
      have he : ∀ j, (pick_Find.ends ps n r w).getD j false = true → (pick_Find.ends ps' n r' w').getD j false = true := by
        intro j hj
        by_cases hjl : j < ps.length
        · rw [pick_Find.ends_get ps n r w j hjl _ rfl] at hj
          rw [pick_Find.ends_get ps' n r' w' j (by omega) _ rfl, hd j hjl]
          rw [Bool.and_eq_true] at hj ⊢
          refine ⟨?_, hf j n hjl hj.2⟩
          have h1 := hj.1
          simp only [Bool.or_eq_true, Bool.and_eq_true, decide_eq_true_eq, Bool.not_true, Bool.false_and, Bool.or_false, Bool.true_and] at h1 ⊢
          rcases h1 with (h1 | h1) | h1
          · exact .inl h1
          · exact .inr (hw _ h1.2)
          · exact .inr (hr _ h1.2)
        · rw [getD_out _ _ (by omega)] at hj
          cases hj
      have hfa : ∀ j, (pick_Find.far w (pick_Find.ends ps n r w)).getD j false = true → (pick_Find.far w' (pick_Find.ends ps' n r' w')).getD j false = true := by
        intro j hj
        by_cases hjl : j < ps.length
        · rw [pick_Find.far_get _ _ (by omega) j (by omega)] at hj ⊢
          rw [Bool.or_eq_true] at hj ⊢
          rcases hj with hj | hj
          · exact .inl (hw _ hj)
          · exact .inr (he _ hj)
        · rw [getD_out _ _ (by rw [pick_Find.far_len _ _ (by omega)]; omega)] at hj
          cases hj
      have hre : ∀ j, (pick_Find.ends ps n r w).getD j false = true → (pick_Find.far w' (pick_Find.ends ps' n r' w')).getD j false = true := by
        intro j hj
        by_cases hjl : j < ps.length
        · rw [pick_Find.far_get _ _ (by omega) j (by omega), Bool.or_eq_true]
          exact .inr (he _ hj)
        · rw [getD_out _ _ (by omega)] at hj
          cases hj
      rcases hx with (hx | hx) | hx
      · refine .inl (.inl ?_)
        split at hx
        · rename_i h5
          rw [hl, if_pos (he _ h5)]
          exact hx
        · cases hx
      · exact .inl (.inr (ih1 _ _ _ _ _ _ (by rw [pick_Find.far_len _ _ (by omega)]; exact lw) (by rw [pick_Find.far_len _ _ (by omega)]; exact lw') hfa hre x hx))
      · exact .inr (ih2 _ _ _ _ _ _ lw lw' hw hr x hx)
end Go.Proofs.Ytaibikajpacemaa.Tree
end
section
namespace Go.Proofs.Ytaibikajpacemaa.Tree
open Go.RowKit Go.Proofs.Ytaibikajpacemaa.X Go.Proofs.YtaibikajpacemaaW.PrintWords Go.Proofs.YtaibikajpacemaaW.PrintLast Go.Proofs.Ytaibikajpacemaa.Base
set_option linter.unusedVariables false
set_option linter.unusedSimpArgs false
abbrev deepOf (p : Pk) : Pk := ⟨p.f0, p.f1, true⟩
abbrev anyOf (p : Pk) : Pk := ⟨(⟨#[]⟩ : ByteArray), p.f1, p.f2⟩
theorem rep_no (ps : List Pk) (j : Nat) : (rep ps).getD j false = false := by
  show (List.replicate ps.length false).getD j false = false
  rw [List.getD_eq_getElem?_getD, List.getElem?_replicate]
  split <;> rfl
theorem rd_map (f : Pk → Pk) (ps : List Pk) (j : Nat) (h : j < ps.length) : rd_T61 (ps.map f) (j : Int) = f (rd_T61 ps (j : Int)) := by
  simp [rd_T61, List.getD, h]
theorem deep_l0 (a : List Pk) (t : List S) (r : Bool) : ∀ (suf pre : List Pk), (pre ++ suf).length ≤ 10 → Ev (fun k => bobbinetkeep_PickDeep.l1 k a t (pre ++ suf.map deepOf) (pre ++ suf.map deepOf) 0) r → Ev (fun k => bobbinetkeep_PickDeep.l0 k a t (pre ++ suf) (pre.length : Int)) r
  | [], pre, hl, h => by
    refine Ev.succ ?_
    simp only [bobbinetkeep_PickDeep.l0, List.append_nil, List.map_nil, List.nil_append, List.length_nil] at hl h ⊢
    exact Ev.ite_neg (by omega) (Ev.ite_pos (by omega) h)
  | p :: suf, pre, hl, h => by
    have h1 : (pre ++ p :: suf).length = pre.length + suf.length + 1 := by simp; omega
    have ih := deep_l0 a t r suf (pre ++ [deepOf p]) (by simp at hl ⊢; omega) (by simpa using h)
    refine Ev.succ ?_
    simp only [bobbinetkeep_PickDeep.l0]
    rw [rdP_mid, set_mid]
    rw [show wrap64 ((pre.length : Int) + 1) = ((pre ++ [deepOf p]).length : Int) from (wrap_succ (n := (pre ++ p :: suf).length) (by omega) (by omega)).trans (congrArg _ (by simp))]
    refine Ev.ite_pos (by omega) (Ev.ite_pos (by omega) ?_)
    rw [show pre ++ deepOf p :: suf = (pre ++ [deepOf p]) ++ suf by simp]
    exact ih
theorem deep_l1 (a b : List Pk) (t : List S) (r : Bool) (x y z : List (List Int)) (ha : Ev (fun k => bobbinetkeep_paths.f k a t) (x, true)) (hb : Ev (fun k => bobbinetkeep_paths.f k b t) (y, true)) (c : List Pk) (hc : Ev (fun k => bobbinetkeep_paths.f k c t) (z, true)) (hr : Ev (fun k => bobbinetkeep_PickDeep.l2 k x y z 0) r) :
    ∀ (suf pre : List Pk), (pre ++ suf).length ≤ 10 → pre ++ suf.map anyOf = c → Ev (fun k => bobbinetkeep_PickDeep.l1 k a t b (pre ++ suf) (pre.length : Int)) r
  | [], pre, hl, h => by
    refine Ev.succ ?_
    simp only [List.append_nil, List.map_nil] at hl h
    simp only [bobbinetkeep_PickDeep.l1, List.append_nil, h]
    refine Ev.ite_neg (by omega) (Ev.bnd ha (Ev.bnd hb (Ev.bnd hc (Ev.ite_pos rfl (Ev.ite_pos rfl (Ev.succ ?_))))))
    simp only [bobbinetkeep_PickDeep.j2]
    exact Ev.ite_neg (by simp) hr
  | p :: suf, pre, hl, h => by
    have h1 : (pre ++ p :: suf).length = pre.length + suf.length + 1 := by simp; omega
    have ih := deep_l1 a b t r x y z ha hb c hc hr suf (pre ++ [anyOf p]) (by simp at hl ⊢; omega) (by simpa using h)
    refine Ev.succ ?_
    simp only [bobbinetkeep_PickDeep.l1]
    rw [rdP_mid, set_mid]
    rw [show wrap64 ((pre.length : Int) + 1) = ((pre ++ [anyOf p]).length : Int) from (wrap_succ (n := (pre ++ p :: suf).length) (by omega) (by omega)).trans (congrArg _ (by simp))]
    refine Ev.ite_pos (by omega) (Ev.ite_pos (by omega) ?_)
    rw [show pre ++ anyOf p :: suf = (pre ++ [anyOf p]) ++ suf by simp]
    exact ih
theorem deep_l3 (y z : List (List Int)) (hy : y.length ≤ 1000000) (hz : z.length ≤ 1000000) (hq : ∀ q ∈ z, q.length ≤ 1099511627776) (hs : ∀ q ∈ y, q ∈ z) : ∀ (suf pre : List (List Int)), y = pre ++ suf → Ev (fun k => bobbinetkeep_PickDeep.l3 k y z (pre.length : Int)) true
  | [], pre, e => by
    have h1 : y.length = pre.length := by rw [e]; simp
    refine Ev.succ ?_
    simp only [bobbinetkeep_PickDeep.l3]
    exact Ev.ite_neg (by omega) (Ev.now _)
  | q :: suf, pre, e => by
    have h1 : y.length = pre.length + suf.length + 1 := by rw [e]; simp; omega
    have hr : rd_L7 y (pre.length : Int) = q := by rw [e]; exact rdl_at _ _ _
    have ih := deep_l3 y z hy hz hq hs suf (pre ++ [q]) (by rw [e]; simp)
    have hh := has_ev z q (by omega) hq
    rw [decide_eq_true (hs q (by rw [e]; simp))] at hh
    refine Ev.succ ?_
    simp only [bobbinetkeep_PickDeep.l3, hr]
    refine Ev.ite_pos (by omega) (Ev.ite_pos (by omega) (Ev.bnd hh (Ev.ite_pos rfl ?_)))
    rw [show wrap64 ((pre.length : Int) + 1) = ((pre ++ [q]).length : Int) from (wrap_succ (n := y.length) (by omega) (by omega)).trans (congrArg _ (by simp))]
    exact ih
theorem deep_l2 (x y z : List (List Int)) (hx : x.length ≤ 1000000) (hy : y.length ≤ 1000000) (hq : ∀ q ∈ y, q.length ≤ 1099511627776) (hs : ∀ q ∈ x, q ∈ y) (h : Ev (fun k => bobbinetkeep_PickDeep.l3 k y z 0) true) : ∀ (suf pre : List (List Int)), x = pre ++ suf → Ev (fun k => bobbinetkeep_PickDeep.l2 k x y z (pre.length : Int)) true
  | [], pre, e => by
    have h1 : x.length = pre.length := by rw [e]; simp
    refine Ev.succ ?_
    simp only [bobbinetkeep_PickDeep.l2]
    exact Ev.ite_neg (by omega) h
  | q :: suf, pre, e => by
    have h1 : x.length = pre.length + suf.length + 1 := by rw [e]; simp; omega
    have hr : rd_L7 x (pre.length : Int) = q := by rw [e]; exact rdl_at _ _ _
    have ih := deep_l2 x y z hx hy hq hs h suf (pre ++ [q]) (by rw [e]; simp)
    have hh := has_ev y q (by omega) hq
    rw [decide_eq_true (hs q (by rw [e]; simp))] at hh
    refine Ev.succ ?_
    simp only [bobbinetkeep_PickDeep.l2, hr]
    refine Ev.ite_pos (by omega) (Ev.ite_pos (by omega) (Ev.bnd hh (Ev.ite_pos rfl ?_)))
    rw [show wrap64 ((pre.length : Int) + 1) = ((pre ++ [q]).length : Int) from (wrap_succ (n := x.length) (by omega) (by omega)).trans (congrArg _ (by simp))]
    exact ih
end Go.Proofs.Ytaibikajpacemaa.Tree
namespace Go.Proofs.Ytaibikajpacemaa.Pure
open Go.RowKit Go.Proofs.Ytaibikajpacemaa.X Go.Proofs.YtaibikajpacemaaW.PrintWords Go.Proofs.YtaibikajpacemaaW.PrintLast Go.Proofs.Ytaibikajpacemaa.Base Go.Proofs.Ytaibikajpacemaa.Tree
theorem PickDeep : bobbinetkeep_PickDeep.Pure := by
  intro l0 l1 _ h0 _ _ h1 _
  obtain ⟨t, rest0, e1, hg⟩ := nodes_f l1 (by omega) 5 6 (by omega) (by omega)
  have hlen := hg.len
  have htot : tot t ≤ 700000 := by
    have h2 := hg.tot
    have h4 : t.length * cap 5 ≤ 6 * 100000 := Nat.mul_le_mul hlen (by decide)
    omega
  obtain ⟨ps, hps⟩ : ∃ ps, bobbinetkeep_Picks.pre l0 (min l0.length (4 : Int).toNat) = ps := ⟨_, rfl⟩
  have e0 : bobbinetkeep_Picks.f l0 4 = some ps := by rw [← hps]; exact if_pos (by omega)
  obtain ⟨n0, n1, hall⟩ := pre_ok l0 (min l0.length (4 : Int).toNat) (by omega)
  rw [hps] at n0 n1 hall
  obtain ⟨bs, hbs⟩ : ∃ bs, ps.map deepOf = bs := ⟨_, rfl⟩
  obtain ⟨cs, hcs⟩ : ∃ cs, bs.map anyOf = cs := ⟨_, rfl⟩
  have lb : bs.length = ps.length := by rw [← hbs]; simp
  have lc : cs.length = ps.length := by rw [← hcs, List.length_map, lb]
  have hallb : ∀ p ∈ bs, PkOk p := by
    intro p hp
    rw [← hbs] at hp
    obtain ⟨q, hq, rfl⟩ := List.mem_map.1 hp
    exact hall q hq
  have hallc : ∀ p ∈ cs, PkOk p := by
    intro p hp
    rw [← hcs] at hp
    obtain ⟨q, hq, rfl⟩ := List.mem_map.1 hp
    exact ⟨nm_nil, (hallb q hq).2⟩
  have p1 := paths_ev ps (ok_of ps n0 n1 hall) t (by omega)
  have p2 := paths_ev bs (ok_of bs (by omega) (by omega) hallb) t (by omega)
  have p3 := paths_ev cs (ok_of cs (by omega) (by omega) hallc) t (by omega)
  have m1 := found_mono ps bs lb (fun j n hj h => by rw [← hbs, rd_map deepOf ps j hj, fit_deep]; exact h) (fun j hj => by rw [← hbs, rd_map deepOf ps j hj]) t 0 [] (rep ps) (rep ps) (rep bs) (rep bs) (by simp) (by simp [lb]) (fun j h => by rw [rep_no] at h; cases h) (fun j h => by rw [rep_no] at h; cases h)
  have m2 := found_mono bs cs (by omega) (fun j n hj h => by rw [← hcs, rd_map anyOf bs j hj]; exact fit_any _ _ h _) (fun j hj => by
    rw [← hcs, rd_map anyOf bs j hj]
    show (rd_T61 bs (j : Int)).f2 = true
    rw [← hbs, rd_map deepOf ps j (by omega)]) t 0 [] (rep bs) (rep bs) (rep cs) (rep cs) (by simp) (by simp [lb, lc]) (fun j h => by rw [rep_no] at h; cases h) (fun j h => by rw [rep_no] at h; cases h)
  have f1 := found_len ps t 0 [] (rep ps) (rep ps)
  have f2 := found_len bs t 0 [] (rep bs) (rep bs)
  have f3 := found_len cs t 0 [] (rep cs) (rep cs)
  have g2 := found_long bs t 0 [] (rep bs) (rep bs)
  have g3 := found_long cs t 0 [] (rep cs) (rep cs)
  have k3 := deep_l3 _ _ (by omega) (by omega) (fun q hq => by have := g3 q hq; simp at this; omega) m2 _ [] rfl
  have k2 := deep_l2 _ _ _ (by omega) (by omega) (fun q hq => by have := g2 q hq; simp at this; omega) m1 k3 _ [] rfl
  have k1 := deep_l1 ps bs t true _ _ _ p1 p2 cs p3 k2 bs [] (by simp; omega) (by simpa using hcs)
  have k0 := deep_l0 ps t true ps [] (by simpa using n1) (by rw [List.nil_append, hbs]; exact k1)
  have key : Ev (fun k => bobbinetkeep_PickDeep.f k l0 l1) true := by
    simp only [bobbinetkeep_PickDeep.f, List.nil_append]
    exact Ev.bnd0 e0 (Ev.bnd e1 (Ev.ite_pos (by simp; omega) k0))
  exact key.rounds
end Go.Proofs.Ytaibikajpacemaa.Pure
end
