/- show.Of of good nodes: piece by piece. -/
import Derived.Test.YtjmhihadgpdiaaaX29
import Derived.Test.YtjmhihadgpdiaaaLibShowX
namespace Go.Proofs.Ytjmhihadgpdiaaa.Tree
open Go.RowKit Go.Proofs.Ytjmhihadgpdiaaa.X Go.Proofs.YtjmhihadgpdiaaaW.PrintWords Go.Proofs.YtjmhihadgpdiaaaW.PrintLast Go.Proofs.Ytjmhihadgpdiaaa.Base
def cat : List ByteArray → ByteArray
  | [] => nil
  | b :: bs => b ++ cat bs
theorem cat_app (a b : List ByteArray) : cat (a ++ b) = cat a ++ cat b := by
  induction a with
  | nil => exact (B_nil_app _).symm
  | cons x a ih => simp only [List.cons_append, cat, ih, ByteArray.append_assoc]
theorem esc_len (l : List UInt8) (q : Bool) : (ref_Escape.go l q).length ≤ 6 * l.length := by
  induction l with
  | nil => simp [ref_Escape.go]
  | cons c l ih =>
    have h1 := ref_Escape.esc_len q c
    have e : ref_Escape.go (c :: l) q = ref_Escape.esc q c ++ ref_Escape.go l q := by simp [ref_Escape.go]
    rw [e, List.length_append, List.length_cons]
    omega
theorem esc_f (s : ByteArray) (q : Bool) (hs : s.size ≤ 1000) : ∃ b, ref_Escape.f s q = some b ∧ b.size ≤ 6 * s.size := by
  refine ⟨_, if_pos (by omega), ?_⟩
  have h := esc_len s.data.toList q
  rw [Array.length_toList] at h
  exact h
abbrev SpB : ByteArray := (⟨#[32]⟩ : ByteArray)
theorem tag_f (t : ByteArray) (ht : t.size ≤ 3) (a : List S63) (ha : a = [] ∨ ∃ v : ByteArray, v.size ≤ 9 ∧ a = [(⟨(⟨#[104, 114, 101, 102]⟩ : ByteArray), v⟩ : S63)]) : ∃ b, Ev (fun k => emit_Tag.f k t a false) b ∧ b.size ≤ 100 := by
  have s1 : (⟨#[60]⟩ : ByteArray).size = 1 := rfl
  have s2 : (⟨#[62]⟩ : ByteArray).size = 1 := rfl
  have s3 : (⟨#[32]⟩ : ByteArray).size = 1 := rfl
  have s4 : (⟨#[61, 34]⟩ : ByteArray).size = 2 := rfl
  have s5 : (⟨#[34]⟩ : ByteArray).size = 1 := rfl
  have s6 : (⟨#[104, 114, 101, 102]⟩ : ByteArray).size = 4 := rfl
  rcases ha with rfl | ⟨v, hv, rfl⟩
  · refine ⟨((⟨#[60]⟩ : ByteArray) ++ t) ++ (⟨#[62]⟩ : ByteArray), ?_, by simp only [ByteArray.size_append, s1, s2]; omega⟩
    simp only [emit_Tag.f]
    refine Ev.ite_pos (by omega) (Ev.succ ?_)
    simp only [emit_Tag.l0]
    refine Ev.ite_neg (by simp) (Ev.ite_neg (by simp) (Ev.ite_pos ?_ (Ev.now _)))
    simp only [ByteArray.size_append, s1]
    omega
  · obtain ⟨e, he, hes⟩ := esc_f v true (by omega)
    refine ⟨(((⟨#[60]⟩ : ByteArray) ++ t) ++ (((((⟨#[32]⟩ : ByteArray) ++ (⟨#[104, 114, 101, 102]⟩ : ByteArray)) ++ (⟨#[61, 34]⟩ : ByteArray)) ++ e) ++ (⟨#[34]⟩ : ByteArray))) ++ (⟨#[62]⟩ : ByteArray), ?_, by simp only [ByteArray.size_append, s1, s2, s3, s4, s5, s6]; omega⟩
    simp only [emit_Tag.f]
    refine Ev.ite_pos (by omega) (Ev.succ ?_)
    have hr : rd_T63 [(⟨(⟨#[104, 114, 101, 102]⟩ : ByteArray), v⟩ : S63)] 0 = ⟨(⟨#[104, 114, 101, 102]⟩ : ByteArray), v⟩ := rfl
    simp only [emit_Tag.l0, hr]
    refine Ev.ite_pos (by simp) (Ev.ite_pos (by simp) (Ev.ite_pos (by simp) (Ev.ite_pos ?_ (Ev.ite_pos ?_ (Ev.bnd0 he (Ev.ite_pos ?_ (Ev.ite_pos ?_ (Ev.ite_pos ?_ (Ev.succ ?_)))))))))
    all_goals try (simp only [ByteArray.size_append, s1, s2, s3, s4, s5, s6]; omega)
    have hw : wrap64 ((0 : Int) + 1) = 1 := wrap_id (i := 0 + 1) (by omega) (by omega)
    simp only [emit_Tag.l0, hw]
    refine Ev.ite_neg (by simp) (Ev.ite_neg (by simp) (Ev.ite_pos ?_ (Ev.now _)))
    simp only [ByteArray.size_append, s1, s2, s3, s4, s5, s6]
    omega
/-- what a node shows as -/
inductive Piece (n : S) (b : ByteArray) : Prop
  | text : n.f0 = nil → ref_Escape.f n.f2 false = some b → Piece n b
  | void : n.f0 ≠ nil → Ev (fun k => show_Void.f k n.f0) true → Ev (fun k => emit_Tag.f k n.f0 n.f1 false) b → Piece n b
  | elem (t o : ByteArray) : n.f0 ≠ nil → Ev (fun k => show_Void.f k n.f0) false → Ev (fun k => emit_Tag.f k n.f0 n.f1 false) t → Ev (fun k => show_Of.f k n.f3) o → b = (((t ++ o) ++ (⟨#[60, 47]⟩ : ByteArray)) ++ n.f0) ++ (⟨#[62]⟩ : ByteArray) → Piece n b
inductive Pieces : List S → List ByteArray → Prop
  | nil : Pieces [] []
  | cons {n : S} {b : ByteArray} {l : List S} {bs : List ByteArray} : Piece n b → Pieces l bs → Pieces (n :: l) (b :: bs)
theorem Pieces.split {l : List S} {bs : List ByteArray} (h : Pieces l bs) : ∀ a b : List S, l = a ++ b → ∃ x y, bs = x ++ y ∧ Pieces a x ∧ Pieces b y := by
  induction h with
  | nil => intro a b e; obtain ⟨rfl, rfl⟩ := List.nil_eq_append_iff.1 e; exact ⟨[], [], rfl, .nil, .nil⟩
  | @cons n c l bs hp hs ih =>
    intro a b e
    cases a with
    | nil => subst e; exact ⟨[], c :: bs, rfl, .nil, .cons hp hs⟩
    | cons m a =>
      simp only [List.cons_append, List.cons.injEq] at e
      obtain ⟨rfl, e⟩ := e
      obtain ⟨x, y, rfl, h1, h2⟩ := ih a b e
      exact ⟨c :: x, y, rfl, .cons hp h1, h2⟩
theorem of_loop (l : List S) (hl : l.length ≤ 1000000) : ∀ (suf pre : List S) (acc : ByteArray) (bs : List ByteArray), l = pre ++ suf → Pieces suf bs → acc.size + (cat bs).size ≤ 4611686018427387904 → Ev (fun k => show_Of.l0 k acc l (l.length : Int) (pre.length : Int)) (acc ++ cat bs) := by
  intro suf
  induction suf with
  | nil =>
    intro pre acc bs e hp _
    cases hp
    have hlen : l.length = pre.length := by rw [e]; simp
    refine Ev.succ ?_
    simp only [show_Of.l0, cat]
    rw [B_app_nil]
    exact Ev.ite_neg (by omega) (Ev.now _)
  | cons n suf ih =>
    intro pre acc bs e hp hz
    cases hp with
    | @cons _ b _ bs hp hs =>
      have hlen : l.length = pre.length + suf.length + 1 := by rw [e]; simp; omega
      have hrd : rd_T53 l (pre.length : Int) = n := by rw [e]; exact rd_mid pre n suf
      have hz2 : acc.size + (b.size + (cat bs).size) ≤ 4611686018427387904 := by
        have : (cat (b :: bs)).size = b.size + (cat bs).size := by simp only [cat, ByteArray.size_append]
        omega
      have hw : wrap64 ((pre.length : Int) + 1) = ((pre ++ [n]).length : Int) := by rw [wrap_id (by omega) (by omega)]; simp
      have hnext : Ev (fun k => show_Of.l0 k (acc ++ b) l (l.length : Int) (wrap64 ((pre.length : Int) + 1))) (acc ++ cat (b :: bs)) := by
        rw [hw]
        have := ih (pre ++ [n]) (acc ++ b) bs (by rw [e]; simp) hs (by simp only [ByteArray.size_append]; omega)
        simpa only [cat, ByteArray.append_assoc] using this
      clear hw
      refine Ev.succ ?_
      simp only [show_Of.l0, hrd]
      refine Ev.ite_pos (by omega) (Ev.ite_pos (by omega) (Ev.ite_pos (by omega) ?_))
      cases hp with
      | text h0 h1 => exact Ev.ite_pos (tl_eq h0) (Ev.bnd0 h1 (Ev.ite_pos (by omega) hnext))
      | void h0 h1 h2 => exact Ev.ite_neg (tl_ne h0) (Ev.bnd h1 (Ev.ite_pos rfl (Ev.bnd h2 (Ev.ite_pos (by omega) hnext))))
      | elem t o h0 h1 h2 h3 h4 =>
        have hb : b.size = t.size + o.size + 2 + n.f0.size + 1 := by rw [h4]; simp only [ByteArray.size_append]; rfl
        have s2 : (⟨#[60, 47]⟩ : ByteArray).size = 2 := rfl
        refine Ev.ite_neg (tl_ne h0) (Ev.bnd h1 (Ev.ite_neg (by simp) (Ev.bnd h2 (Ev.bnd h3 (Ev.ite_pos ?_ (Ev.ite_pos ?_ (Ev.ite_pos ?_ (Ev.ite_pos ?_ (Ev.ite_pos ?_ ?_)))))))))
        · omega
        · simp only [ByteArray.size_append]; omega
        · simp only [ByteArray.size_append, s2]; omega
        · simp only [ByteArray.size_append, s2]; omega
        · rw [← h4]; omega
        · rw [← h4]; exact hnext
theorem of_f (l : List S) (bs : List ByteArray) (hl : l.length ≤ 1000000) (h : Pieces l bs) (hz : (cat bs).size ≤ 4611686018427387904) : Ev (fun k => show_Of.f k l) (cat bs) := by
  refine Ev.succ ?_
  simp only [show_Of.f]
  have := of_loop l hl l [] nil bs rfl h (by have : nil.size = 0 := rfl; omega)
  rw [B_nil_app] at this
  exact this
def pw : Nat → Nat
  | 0 => 200
  | d + 1 => 200 + 10 * pw d
theorem void_size (t : ByteArray) (h : t ∈ elems ∨ t ∈ voids) : t.size ≤ 3 := by
  simp only [elems, voids, List.mem_cons, List.not_mem_nil, or_false] at h
  rcases h with (rfl | rfl | rfl | rfl | rfl | rfl) | (rfl | rfl) <;> decide
theorem text_size (t : ByteArray) (h : t ∈ texts) : t.size ≤ 5 := by
  simp only [texts, List.mem_cons, List.not_mem_nil, or_false] at h
  rcases h with rfl | rfl | rfl | rfl | rfl | rfl <;> decide
theorem val_size (t : ByteArray) (h : t ∈ vals) : t.size ≤ 9 := by
  simp only [vals, List.mem_cons, List.not_mem_nil, or_false] at h
  rcases h with rfl | rfl | rfl | rfl | rfl <;> decide
theorem pw_pos (d : Nat) : 200 ≤ pw d := by cases d <;> simp [pw]
theorem pieces_ex : ∀ (d : Nat) (l : List S), Ok d l → d ≤ 6 → ∃ bs, Pieces l bs ∧ (cat bs).size ≤ l.length * pw d := by
  intro d
  induction d using Nat.strongRecOn with
  | ind d ih =>
    intro l
    induction l with
    | nil => intro _ _; exact ⟨[], .nil, (show (⟨#[]⟩ : ByteArray).size ≤ _ from Nat.zero_le _)⟩
    | cons n l ihl =>
      intro hok hd
      obtain ⟨bs, h1, h2⟩ := ihl (Ok.drop (a := [n]) (b := l) hok) hd
      have hp := pw_pos d
      have key : ∃ b, Piece n b ∧ b.size ≤ pw d := by
        obtain ⟨hn, _⟩ := hok.2 [] l n rfl
        rcases hn with ⟨g0, g1, g2, g3⟩ | ⟨g0, g1, g2, g3⟩ | ⟨gd, g0, g1, g2, g3⟩
        · have := text_size _ g2
          obtain ⟨b, hb, hs⟩ := esc_f n.f2 false (by omega)
          exact ⟨b, .text g0 hb, by omega⟩
        · obtain ⟨b, hb, hs⟩ := tag_f n.f0 (void_size _ (.inr g0)) n.f1 (.inl g1)
          exact ⟨b, .void (elem_ne _ (.inr g0)) (void_yes _ g0) hb, by omega⟩
        · obtain ⟨t, ht, hs⟩ := tag_f n.f0 (void_size _ (.inl g0)) n.f1 (by
            rcases g1 with h | ⟨v, hv, h⟩
            · exact .inl h
            · exact .inr ⟨v, val_size _ hv, h⟩)
          obtain ⟨cs, c1, c2⟩ := ih (d - 1) (by omega) n.f3 (g3.ok (by omega)) (by omega)
          obtain ⟨e, rfl⟩ : ∃ e, d = e + 1 := ⟨d - 1, by omega⟩
          have c3 : n.f3.length * pw (e + 1 - 1) ≤ 4 * pw e := Nat.mul_le_mul g3.len (Nat.le_refl _)
          have hs2 := void_size _ (.inl g0)
          have s2 : (⟨#[60, 47]⟩ : ByteArray).size = 2 := rfl
          have s1 : (⟨#[62]⟩ : ByteArray).size = 1 := rfl
          have c4 : pw e ≤ 300000000 := by
            have : e ≤ 5 := by omega
            have : e = 0 ∨ e = 1 ∨ e = 2 ∨ e = 3 ∨ e = 4 ∨ e = 5 := by omega
            rcases this with rfl | rfl | rfl | rfl | rfl | rfl <;> decide
          have c5 := g3.len
          refine ⟨_, .elem t (cat cs) (elem_ne _ (.inl g0)) (void_no _ g0) ht (of_f n.f3 cs (by omega) c1 (by omega)) rfl, ?_⟩
          simp only [ByteArray.size_append, s1, s2, pw]
          omega
      obtain ⟨b, k1, k2⟩ := key
      refine ⟨b :: bs, .cons k1 h1, ?_⟩
      simp only [cat, ByteArray.size_append, List.length_cons, Nat.add_mul]
      omega
end Go.Proofs.Ytjmhihadgpdiaaa.Tree
