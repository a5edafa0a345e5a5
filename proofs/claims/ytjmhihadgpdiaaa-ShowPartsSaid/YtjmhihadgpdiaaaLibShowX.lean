/- show.Check of good nodes: no fault. -/
import Derived.Test.YtjmhihadgpdiaaaX20
import Derived.Test.YtjmhihadgpdiaaaLibNodesX
namespace Go.Proofs.Ytjmhihadgpdiaaa.Tree
open Go.RowKit Go.Proofs.Ytjmhihadgpdiaaa.X Go.Proofs.YtjmhihadgpdiaaaW.PrintWords Go.Proofs.YtjmhihadgpdiaaaW.PrintLast Go.Proofs.Ytjmhihadgpdiaaa.Base
theorem Ev.of_mono {α : Type} {g : Nat → Option α} (h : ∀ k, LeO (g k) (g (k + 1))) (k : Nat) {r : α} (hk : g k = some r) : Ev g r := by
  refine ⟨k, fun n hn => ?_⟩
  induction n with
  | zero => obtain rfl : k = 0 := by omega
            exact hk
  | succ n ih =>
    by_cases c : k ≤ n
    · exact h n r (ih c)
    · obtain rfl : k = n + 1 := by omega
      exact hk
theorem name_ok (t : ByteArray) (h : t ∈ elems ∨ t ∈ voids) : emit_Name.f t = some true := by
  simp only [elems, voids, List.mem_cons, List.not_mem_nil, or_false] at h
  rcases h with (rfl | rfl | rfl | rfl | rfl | rfl) | (rfl | rfl) <;> decide +kernel
theorem void_no (t : ByteArray) (h : t ∈ elems) : Ev (fun k => show_Void.f k t) false := by
  simp only [elems, List.mem_cons, List.not_mem_nil, or_false] at h
  refine Ev.of_mono (show_Void.mono t) 12 ?_
  rcases h with rfl | rfl | rfl | rfl | rfl | rfl <;> decide +kernel
theorem void_yes (t : ByteArray) (h : t ∈ voids) : Ev (fun k => show_Void.f k t) true := by
  simp only [voids, List.mem_cons, List.not_mem_nil, or_false] at h
  refine Ev.of_mono (show_Void.mono t) 12 ?_
  rcases h with rfl | rfl <;> decide +kernel
theorem shut_no (t : ByteArray) (h : t ∈ elems ∨ t ∈ voids) : Ev (fun k => show_shut.f k t) false := by
  simp only [elems, voids, List.mem_cons, List.not_mem_nil, or_false] at h
  refine Ev.of_mono (show_shut.mono t) 12 ?_
  rcases h with (rfl | rfl | rfl | rfl | rfl | rfl) | (rfl | rfl) <;> decide +kernel
theorem attrs_ok (a : List S63) (h : a = [] ∨ ∃ v ∈ vals, a = [(⟨(⟨#[104, 114, 101, 102]⟩ : ByteArray), v⟩ : S63)]) : Ev (fun k => emit_Attrs.f k a) 0 := by
  refine Ev.of_mono (emit_Attrs.mono a) 8 ?_
  rcases h with rfl | ⟨v, hv, rfl⟩
  · decide +kernel
  · simp only [vals, List.mem_cons, List.not_mem_nil, or_false] at hv
    rcases hv with rfl | rfl | rfl | rfl | rfl <;> decide +kernel
/-- nodes as good lists have them, a part of such a list too -/
def Ok (d : Nat) (l : List S) : Prop := l.length ≤ 10 ∧ ∀ (pre suf : List S) (n : S), l = pre ++ n :: suf → NodeOk d n ∧ (n.f0 = nil → ∀ p : S, pre.getLast? = some p → p.f0 ≠ nil)
theorem Good.ok {d m : Nat} {l : List S} (h : Good d m l) (hm : m ≤ 10) : Ok d l := ⟨by have := h.len; omega, h.at_⟩
theorem Ok.take {d : Nat} {a b : List S} (h : Ok d (a ++ b)) : Ok d a := by
  refine ⟨by have := h.1; simp at this; omega, fun pre suf n e => ?_⟩
  subst e
  exact h.2 pre (suf ++ b) n (by simp)
theorem Ok.drop {d : Nat} {a b : List S} (h : Ok d (a ++ b)) : Ok d b := by
  refine ⟨by have := h.1; simp at this; omega, fun pre suf n e => ?_⟩
  subst e
  have := h.2 (a ++ pre) suf n (by simp)
  refine ⟨this.1, fun h0 p hp => this.2 h0 p ?_⟩
  rw [List.getLast?_append, hp]
  rfl
theorem text_ne (t : ByteArray) (h : t ∈ texts) : t ≠ nil := by
  simp only [texts, List.mem_cons, List.not_mem_nil, or_false] at h
  rcases h with rfl | rfl | rfl | rfl | rfl | rfl <;> decide
theorem elem_ne (t : ByteArray) (h : t ∈ elems ∨ t ∈ voids) : t ≠ nil := by
  simp only [elems, voids, List.mem_cons, List.not_mem_nil, or_false] at h
  rcases h with (rfl | rfl | rfl | rfl | rfl | rfl) | (rfl | rfl) <;> decide
theorem tl_ne {s : ByteArray} (h : s ≠ nil) : ¬ s.toList = ([] : List UInt8) := fun e => h (toList_nil.1 e)
theorem tl_eq {s : ByteArray} (h : s = nil) : s.toList = ([] : List UInt8) := toList_nil.2 h
theorem fault_ev : ∀ (d : Nat) (l : List S) (x1 : Nat), Ok d l → x1 + d ≤ 10 → x1 < 10 → Ev (fun k => show_fault.f k l (x1 : Int)) 0 := by
  intro d
  induction d using Nat.strongRecOn with
  | ind d ih =>
    intro l x1 hok hx hx2
    have main : ∀ (suf pre : List S), l = pre ++ suf → Ev (fun k => show_fault.l0 k l (x1 : Int) l (l.length : Int) (pre.length : Int)) 0 := by
      intro suf
      induction suf with
      | nil =>
        intro pre hl
        have hlen : l.length = pre.length := by rw [hl]; simp
        refine Ev.succ ?_
        simp only [show_fault.l0]
        exact Ev.ite_neg (by omega) (Ev.now _)
      | cons n suf ihs =>
        intro pre hl
        have hlen : l.length = pre.length + suf.length + 1 := by rw [hl]; simp; omega
        have hmx := hok.1
        have hrd : rd_T53 l (pre.length : Int) = n := by rw [hl]; exact rd_mid pre n suf
        have hw : wrap64 ((pre.length : Int) + 1) = ((pre ++ [n]).length : Int) := by rw [wrap_id (by omega) (by omega)]; simp
        have hnext : Ev (fun k => show_fault.l0 k l (x1 : Int) l (l.length : Int) (wrap64 ((pre.length : Int) + 1))) 0 := by
          rw [hw]; exact ihs (pre ++ [n]) (by rw [hl]; simp)
        obtain ⟨hn, hprev⟩ := hok.2 pre suf n hl
        refine Ev.succ ?_
        simp only [show_fault.l0, hrd]
        refine Ev.ite_pos (by omega) (Ev.ite_pos (by omega) (Ev.ite_pos (by omega) (Ev.ite_neg (by omega) ?_)))
        rcases hn with ⟨h0, h1, h2, h3⟩ | ⟨h0, h1, h2, h3⟩ | ⟨hd, h0, h1, h2, h3⟩
        · refine Ev.ite_pos (tl_eq h0) (Ev.ite_neg (by simp [h1]) (Ev.ite_neg (by simp [h3]) (Ev.ite_neg (tl_ne (text_ne _ h2)) ?_)))
          by_cases hp : pre = []
          · have hp0 : pre.length = 0 := by rw [hp]; rfl
            exact Ev.ite_neg (by omega) hnext
          · obtain ⟨init, p, rfl⟩ : ∃ init p, pre = init ++ [p] := by
              rcases List.eq_nil_or_concat pre with h | ⟨i, p, h⟩
              · exact absurd h hp
              · exact ⟨i, p, by simpa using h⟩
            have hpl : ((init ++ [p]).length : Int) = (init.length : Int) + 1 := by simp
            have hw2 : wrap64 (((init ++ [p]).length : Int) - 1) = (init.length : Int) := by rw [wrap_id (by omega) (by omega)]; omega
            have hrd2 : rd_T53 l (init.length : Int) = p := by rw [hl]; simpa using rd_mid init p (n :: suf)
            rw [hw2, hrd2]
            exact Ev.ite_pos (by omega) (Ev.ite_pos (by omega) (Ev.ite_pos (by omega) (Ev.ite_neg (tl_ne (hprev h0 p (by simp))) hnext)))
        · refine Ev.ite_neg (tl_ne (elem_ne _ (.inr h0))) (Ev.bnd0 (name_ok _ (.inr h0)) (Ev.ite_pos rfl ?_))
          refine Ev.bnd (attrs_ok _ (.inl h1)) (Ev.ite_pos rfl (Ev.ite_pos (tl_eq h2) (Ev.bnd (void_yes _ h0) (Ev.ite_pos rfl (Ev.ite_neg (by simp [h3]) (Ev.bnd (shut_no _ (.inr h0)) (Ev.succ ?_)))))))
          simp only [show_fault.j1, h3]
          refine Ev.ite_neg (by simp) (Ev.bnd (a := 0) ?_ (Ev.ite_pos rfl hnext))
          refine Ev.succ ?_
          simp only [show_fault.f]
          refine Ev.succ ?_
          simp only [show_fault.l0]
          exact Ev.ite_neg (by simp) (Ev.now _)
        · refine Ev.ite_neg (tl_ne (elem_ne _ (.inl h0))) (Ev.bnd0 (name_ok _ (.inl h0)) (Ev.ite_pos rfl ?_))
          refine Ev.bnd (attrs_ok _ h1) (Ev.ite_pos rfl (Ev.ite_pos (tl_eq h2) (Ev.bnd (void_no _ h0) (Ev.ite_neg (by simp) (Ev.bnd (shut_no _ (.inl h0)) (Ev.succ ?_))))))
          simp only [show_fault.j1]
          refine Ev.ite_neg (by simp) (Ev.bnd (a := 0) ?_ (Ev.ite_pos rfl hnext))
          have hw3 : wrap64 ((x1 : Int) + 1) = ((x1 + 1 : Nat) : Int) := by rw [wrap_id (by omega) (by omega)]; omega
          rw [hw3]
          exact ih (d - 1) (by omega) n.f3 (x1 + 1) (h3.ok (by omega)) (by omega) (by omega)
    refine Ev.succ ?_
    simp only [show_fault.f]
    exact main l [] rfl
/-! ### how many -/
def cnt : List S → Nat
  | [] => 0
  | n :: l => 1 + cnt n.f3 + cnt l
termination_by l => SizeOf.sizeOf l
decreasing_by all_goals (cases n; simp; omega)
theorem cnt_nil : cnt [] = 0 := by rw [cnt]
theorem cnt_cons (n : S) (l : List S) : cnt (n :: l) = 1 + cnt n.f3 + cnt l := by rw [cnt]
theorem cnt_app (a b : List S) : cnt (a ++ b) = cnt a + cnt b := by
  induction a with
  | nil => simp [cnt_nil]
  | cons n a ih => rw [List.cons_append, cnt_cons, cnt_cons, ih]; omega
theorem cnt_len : ∀ l : List S, l.length ≤ cnt l
  | [] => by simp
  | n :: l => by have := cnt_len l; rw [cnt_cons]; simp; omega
theorem wrap_add {a b : Nat} (h : a + b ≤ 9223372036854775807) : wrap64 ((a : Int) + (b : Int)) = ((a + b : Nat) : Int) := by rw [wrap_id (by omega) (by omega)]; omega
theorem mx_nat (a b m : Nat) (ha : a ≤ m) (hb : b ≤ m) : ∃ d : Nat, d ≤ m ∧ mx (a : Int) (b : Int) = (d : Int) := by
  by_cases c : (a : Int) < (b : Int)
  · exact ⟨b, hb, if_pos c⟩
  · exact ⟨a, ha, if_neg c⟩
theorem count_ev (l : List S) : cnt l ≤ 4611686018427387904 → ∃ dp : Nat, dp ≤ cnt l ∧ Ev (fun k => tree_Count.f k l) ((cnt l : Int), (dp : Int)) := by
  induction l using ind2 with
  | h l ih =>
    intro hl
    have main : ∀ (suf pre : List S) (dp : Nat), l = pre ++ suf → dp ≤ cnt l → ∃ dp' : Nat, dp' ≤ cnt l ∧ Ev (fun k => tree_Count.l0 k (cnt pre : Int) (dp : Int) l (l.length : Int) (pre.length : Int)) ((cnt l : Int), (dp' : Int)) := by
      intro suf
      induction suf with
      | nil =>
        intro pre dp e hd
        have e2 : l = pre := by simpa using e
        refine ⟨dp, hd, Ev.succ ?_⟩
        simp only [tree_Count.l0]
        refine Ev.ite_neg (by rw [e2]; omega) ?_
        rw [← e2]
        exact Ev.now _
      | cons n suf ihs =>
        intro pre dp e hd
        have hlen : l.length = pre.length + suf.length + 1 := by rw [e]; simp; omega
        have hc : cnt l = cnt pre + (1 + cnt n.f3 + cnt suf) := by rw [e, cnt_app, cnt_cons]
        have hll := cnt_len l
        have hrd : rd_T53 l (pre.length : Int) = n := by rw [e]; exact rd_mid pre n suf
        obtain ⟨d1, hd1, h1⟩ := ih n (by rw [e]; simp) (by omega)
        have o1 : (pre.length : Int) < (l.length : Int) := by omega
        have o2 : 0 ≤ (pre.length : Int) := by omega
        have b0 : d1 + 1 ≤ cnt l := by omega
        have b1 : cnt n.f3 < 9223372036854775807 := by omega
        have b2 : cnt pre + (cnt n.f3 + 1) ≤ 9223372036854775807 := by omega
        have b3 : d1 < 9223372036854775807 := by omega
        have b4 : pre.length < 9223372036854775807 := by omega
        have w1 := wrap_succ b1 (Nat.le_refl _)
        have w2 : wrap64 ((cnt pre : Int) + ((cnt n.f3 + 1 : Nat) : Int)) = (cnt (pre ++ [n]) : Int) := (wrap_add b2).trans (congrArg _ (by rw [cnt_app, cnt_cons, cnt_nil, Nat.add_zero, Nat.add_comm 1]))
        have w3 := wrap_succ b3 (Nat.le_refl _)
        have w4 : wrap64 ((pre.length : Int) + 1) = ((pre ++ [n]).length : Int) := (wrap_succ b4 (Nat.le_refl _)).trans (congrArg _ (by simp))
        obtain ⟨d2, hd2, e2⟩ := mx_nat dp (d1 + 1) (cnt l) hd b0
        obtain ⟨dp', h2, h3⟩ := ihs (pre ++ [n]) d2 (by rw [e]; simp) hd2
        refine ⟨dp', h2, Ev.succ ?_⟩
        simp only [tree_Count.l0, hrd]
        refine Ev.ite_pos o1 (Ev.ite_pos o2 (Ev.ite_pos o1 (Ev.bnd h1 ?_)))
        simp only [w1, w2, w3, w4, e2]
        exact h3
    obtain ⟨dp, h1, h2⟩ := main l [] 0 rfl (by omega)
    refine ⟨dp, h1, Ev.succ ?_⟩
    simp only [tree_Count.f]
    rw [cnt_nil] at h2
    exact h2
theorem check_ev (l : List S) (d : Nat) (h : Ok d l) (hd : d ≤ 10) (hc : cnt l ≤ 150) : Ev (fun k => show_Check.f k l) 0 := by
  obtain ⟨dp, _, h2⟩ := count_ev l (by omega)
  simp only [show_Check.f]
  refine Ev.bnd (fault_ev d l 0 h (by omega) (by omega)) (Ev.ite_pos rfl (Ev.bnd h2 (Ev.ite_neg ?_ (Ev.now _))))
  simp only
  omega
def many : Nat → Nat
  | 0 => 1
  | 1 => 1
  | d + 2 => 1 + 4 * many (d + 1)
theorem Good.cnt {d m : Nat} {l : List S} (h : Good d m l) : Tree.cnt l ≤ l.length * many d := by
  have hm : ∀ d, 1 ≤ many d := fun d => match d with | 0 => Nat.le_refl _ | 1 => Nat.le_refl _ | d + 2 => by simp only [many]; omega
  induction h with
  | none => simp [cnt_nil]
  | @text d m l t _ _ _ ht ih =>
    have h2 := hm d
    rw [cnt_app, cnt_cons, cnt_nil]
    simp only [List.length_append, List.length_cons, List.length_nil, Nat.add_mul]
    omega
  | @void d m l t _ _ ht ih =>
    have h2 := hm d
    rw [cnt_app, cnt_cons, cnt_nil]
    simp only [List.length_append, List.length_cons, List.length_nil, Nat.add_mul]
    omega
  | @elem d m l q t a _ _ hd ht ha hq ih ihq =>
    obtain ⟨e, rfl⟩ : ∃ e, d = e + 2 := ⟨d - 2, by omega⟩
    have h5 := hq.len
    have h6 : q.length * many (e + 2 - 1) ≤ 4 * many (e + 1) := Nat.mul_le_mul h5 (Nat.le_refl _)
    rw [cnt_app, cnt_cons, cnt_nil]
    simp only [List.length_append, List.length_cons, List.length_nil, Nat.add_mul, many] at ih ⊢
    omega
end Go.Proofs.Ytjmhihadgpdiaaa.Tree
