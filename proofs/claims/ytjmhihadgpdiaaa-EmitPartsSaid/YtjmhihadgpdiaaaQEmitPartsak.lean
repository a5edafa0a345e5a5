/- Parts of the proof of EmitParts that are needed, put together by pack.py. -/
import Derived.Test.YtjmhihadgpdiaaaQEmitPartsaj
section
namespace Go.Proofs.Ytjmhihadgpdiaaa.Toks
open Go.RowKit Go.Proofs.Ytjmhihadgpdiaaa.X Go.Proofs.YtjmhihadgpdiaaaW.PrintWords Go.Proofs.YtjmhihadgpdiaaaW.PrintLast Go.Proofs.Ytjmhihadgpdiaaa.Base
set_option linter.unusedVariables false
set_option linter.unusedSimpArgs false
theorem tl_ne {s : ByteArray} (h : s ≠ nil) : ¬ s.toList = ([] : List UInt8) := fun e => h (toList_nil.1 e)
theorem tl_eq {s : ByteArray} (h : s = nil) : s.toList = ([] : List UInt8) := toList_nil.2 h
theorem name_ok : ∀ t ∈ names, emit_Name.f t = some true := by decide +kernel
theorem name_size : ∀ t ∈ names, t.size ≤ 3 := by decide +kernel
theorem text_size : ∀ t ∈ texts, t.size ≤ 5 ∧ t ≠ nil := by decide +kernel
theorem val_size : ∀ t ∈ vals, t.size ≤ 4 := by decide +kernel
theorem raw_no (t : ByteArray) (h : t ∈ names) : Ev (fun k => emit_raw.f k t) false :=
  Ev.of_mono (emit_raw.mono t) 12 ((by decide +kernel : ∀ t ∈ names, emit_raw.f 12 t = some false) t h)
theorem attrs_ok (a : List S63) (h : AttrsOk a) : Ev (fun k => emit_Attrs.f k a) 0 := by
  refine Ev.of_mono (emit_Attrs.mono a) 8 ?_
  rcases h with rfl | ⟨v, hv, rfl⟩ | ⟨v, hv, u, hu, rfl⟩
  · decide +kernel
  · exact (by decide +kernel : ∀ v ∈ vals, emit_Attrs.f 8 [(⟨cls, v⟩ : S63)] = some 0) v hv
  · exact (by decide +kernel : ∀ v ∈ vals, ∀ u ∈ vals, emit_Attrs.f 8 [(⟨cls, v⟩ : S63), (⟨hrf, u⟩ : S63)] = some 0) v hv u hu
theorem odd_no (n : T) (h : TokOk n) (prev : Int) (hp : n.f0 = 3 → prev ≠ 3) (r : List T) : Ev (fun k => emit_odd.f k n.f0 n.f1 n.f2 n.f3 n.f4 prev r) false := by
  simp only [emit_odd.f]
  rcases h with ⟨h0, h1, h2, h3, h4⟩ | ⟨h0, h1, h2, h3, h4⟩ | ⟨h0, h1, h2, h4⟩
  · exact Ev.ite_neg (by omega) (Ev.ite_pos h0 (Ev.ite_pos (by rw [h2]; rfl) (Ev.ite_pos h3 (Ev.ite_pos (tl_eq h4) (Ev.now _)))))
  · exact Ev.ite_neg (by omega) (Ev.ite_neg (by omega) (Ev.ite_pos h0 (Ev.ite_neg (tl_ne (text_size _ h4).2) (Ev.ite_pos (tl_eq h1) (Ev.ite_pos (by rw [h2]; rfl) (Ev.ite_pos h3 (Ev.ite_neg (hp h0) (Ev.now _))))))))
  · exact Ev.ite_pos h0 (Ev.ite_pos (tl_eq h4) (Ev.bnd (raw_no _ h1) (Ev.ite_neg (by simp) (Ev.now _))))
theorem check_ev (l : List T) (h : Ok l) (hl : l.length ≤ 300) : Ev (fun k => emit_Check.f k l) 0 := by
  have main : ∀ (suf pre : List T) (prev : Int), l = pre ++ suf → (prev = 3 → ∃ p : T, pre.getLast? = some p ∧ p.f0 = 3) → Ev (fun k => emit_Check.l0 k l prev l (l.length : Int) (pre.length : Int)) 0 := by
    intro suf
    induction suf with
    | nil =>
      intro pre prev e _
      have e2 : l.length = pre.length := by rw [e]; simp
      refine Ev.succ ?_
      simp only [emit_Check.l0]
      exact Ev.ite_neg (by omega) (Ev.now _)
    | cons n suf ih =>
      intro pre prev e hpv
      have hlen : l.length = pre.length + suf.length + 1 := by rw [e]; simp; omega
      have hrd : rd_T47 l (pre.length : Int) = n := by rw [e]; exact rd_mid pre n suf
      have hw : wrap64 ((pre.length : Int) + 1) = ((pre ++ [n]).length : Int) := by rw [wrap_succ (n := pre.length + 1) (by omega) (by omega)]; simp
      have hw2 : (((pre ++ [n]).length : Nat) : Int) = (pre.length : Int) + 1 := by simp
      obtain ⟨hk, ha⟩ := h pre suf n e
      have hnext : Ev (fun k => emit_Check.l0 k l n.f0 l (l.length : Int) ((pre ++ [n]).length : Int)) 0 := ih (pre ++ [n]) n.f0 (by rw [e]; simp) (fun h3 => ⟨n, by simp, h3⟩)
      have hodd : ∀ r : List T, Ev (fun k => emit_odd.f k n.f0 n.f1 n.f2 n.f3 n.f4 prev r) false := fun r => odd_no n hk prev (fun h3 hp => by
        obtain ⟨p, h5, h6⟩ := hpv hp
        exact ha h3 p h5 h6) r
      have hf : 1 ≤ n.f0 ∧ n.f0 ≤ 3 := by rcases hk with ⟨h0, _⟩ | ⟨h0, _⟩ | ⟨h0, _⟩ <;> omega
      have e4 : decide (n.f0 > 4) = false := decide_eq_false (by omega)
      refine Ev.succ ?_
      simp only [emit_Check.l0, hrd, e4]
      refine Ev.ite_pos (by omega) (Ev.ite_pos (by omega) (Ev.ite_pos (by omega) (Ev.ite_neg (by omega) (Ev.succ ?_))))
      simp only [emit_Check.j1, hw]
      refine Ev.ite_neg (by simp) ?_
      by_cases h2 : n.f0 ≤ 2
      · refine Ev.ite_pos h2 ?_
        have hn : n.f1 ∈ names ∧ Ev (fun k => emit_Attrs.f k n.f2) 0 := by
          rcases hk with ⟨h0, h1, h3, _⟩ | ⟨h0, _⟩ | ⟨h0, h1, h3, _⟩
          · exact ⟨h1, attrs_ok _ (.inl h3)⟩
          · omega
          · exact ⟨h1, attrs_ok _ h3⟩
        exact Ev.bnd0 (name_ok _ hn.1) (Ev.ite_pos rfl (Ev.bnd hn.2 (Ev.ite_pos rfl (Ev.ite_pos (by omega) (Ev.ite_pos (by omega) (Ev.bnd (hodd _) (Ev.ite_neg (by simp) hnext)))))))
      · exact Ev.ite_neg h2 (Ev.ite_pos (by omega) (Ev.ite_pos (by omega) (Ev.bnd (hodd _) (Ev.ite_neg (by simp) hnext))))
  simp only [emit_Check.f]
  exact Ev.ite_neg (by omega) (main l [] 0 rfl (fun h => by omega))
theorem esc_len (l : List UInt8) (q : Bool) : (ref_Escape.go l q).length ≤ 6 * l.length := by
  induction l with
  | nil => simp [ref_Escape.go]
  | cons c l ih =>
    have h1 := ref_Escape.esc_len q c
    have e : ref_Escape.go (c :: l) q = ref_Escape.esc q c ++ ref_Escape.go l q := by simp [ref_Escape.go]
    rw [e, List.length_append, List.length_cons]
    omega
theorem esc_f (s : ByteArray) (q : Bool) (hs : s.size ≤ 1000) : ∃ b, ref_Escape.f s q = some b ∧ b.size ≤ 6 * s.size := by
  refine ⟨_, if_pos (by omega), ?_⟩
  have h := esc_len s.data.toList q
  rw [Array.length_toList] at h
  exact h
theorem tag_end (c : Bool) (x : ByteArray) (hx : x.size ≤ 90) (a : List S63) (n i : Int) (hi : ¬ i < n) : ∃ b, Ev (fun k => emit_Tag.l0 k c x a n i) b ∧ b.size ≤ x.size + 2 := by
  have s1 : (⟨#[47]⟩ : ByteArray).size = 1 := rfl
  have s2 : (⟨#[62]⟩ : ByteArray).size = 1 := rfl
  cases c with
  | true =>
    refine ⟨(x ++ (⟨#[47]⟩ : ByteArray)) ++ (⟨#[62]⟩ : ByteArray), Ev.succ ?_, by simp only [ByteArray.size_append, s1, s2]; omega⟩
    simp only [emit_Tag.l0]
    exact Ev.ite_neg hi (Ev.ite_pos (by first | rfl | trivial) (Ev.ite_pos (by omega) (Ev.ite_pos (by simp only [ByteArray.size_append, s1]; omega) (Ev.now _))))
  | false =>
    refine ⟨x ++ (⟨#[62]⟩ : ByteArray), Ev.succ ?_, by simp only [ByteArray.size_append, s2]; omega⟩
    simp only [emit_Tag.l0]
    exact Ev.ite_neg hi (Ev.ite_neg (by simp) (Ev.ite_pos (by omega) (Ev.now _)))
theorem tag_more (c : Bool) (x : ByteArray) (a : List S63) (i : Nat) (p : S63) (hi : i < a.length) (hl : a.length ≤ 2) (hp : rd_T63 a (i : Int) = p) (h0 : p.f0.size ≤ 5) (h1 : p.f1.size ≤ 4) (hx : x.size ≤ 60)
    (M : Nat) (h : ∀ y : ByteArray, y.size ≤ x.size + 33 → ∃ b, Ev (fun k => emit_Tag.l0 k c y a (a.length : Int) ((i + 1 : Nat) : Int)) b ∧ b.size ≤ M) : ∃ b, Ev (fun k => emit_Tag.l0 k c x a (a.length : Int) (i : Int)) b ∧ b.size ≤ M := by
  obtain ⟨e, he, hes⟩ := esc_f p.f1 true (by omega)
  have s3 : (⟨#[32]⟩ : ByteArray).size = 1 := rfl
  have s4 : (⟨#[61, 34]⟩ : ByteArray).size = 2 := rfl
  have s5 : (⟨#[34]⟩ : ByteArray).size = 1 := rfl
  obtain ⟨b, hb, hbs⟩ := h (x ++ (((((⟨#[32]⟩ : ByteArray) ++ p.f0) ++ (⟨#[61, 34]⟩ : ByteArray)) ++ e) ++ (⟨#[34]⟩ : ByteArray))) (by simp only [ByteArray.size_append, s3, s4, s5]; omega)
  refine ⟨b, Ev.succ ?_, hbs⟩
  simp only [emit_Tag.l0, hp]
  rw [show wrap64 ((i : Int) + 1) = ((i + 1 : Nat) : Int) from wrap_succ (n := 10) (by omega) (by omega)]
  refine Ev.ite_pos (by omega) (Ev.ite_pos (by omega) (Ev.ite_pos (by omega) (Ev.ite_pos ?_ (Ev.ite_pos ?_ (Ev.bnd0 he (Ev.ite_pos ?_ (Ev.ite_pos ?_ (Ev.ite_pos ?_ hb))))))))
  all_goals first | omega | (simp only [ByteArray.size_append, s3, s4, s5]; omega)
theorem tag_f (t : ByteArray) (ht : t ∈ names) (a : List S63) (ha : AttrsOk a) (c : Bool) : ∃ b, Ev (fun k => emit_Tag.f k t a c) b ∧ b.size ≤ 100 := by
  have hts := name_size t ht
  have s1 : (⟨#[60]⟩ : ByteArray).size = 1 := rfl
  have z : ((⟨#[60]⟩ : ByteArray) ++ t).size ≤ 4 := by simp only [ByteArray.size_append, s1]; omega
  have c1 : cls.size = 5 := rfl
  have c2 : hrf.size = 4 := rfl
  have main : ∃ b, Ev (fun k => emit_Tag.l0 k c ((⟨#[60]⟩ : ByteArray) ++ t) a (a.length : Int) ((0 : Nat) : Int)) b ∧ b.size ≤ 100 := by
    rcases ha with rfl | ⟨v, hv, rfl⟩ | ⟨v, hv, u, hu, rfl⟩
    · obtain ⟨b, h1, h2⟩ := tag_end c ((⟨#[60]⟩ : ByteArray) ++ t) (by omega) [] (([] : List S63).length : Int) ((0 : Nat) : Int) (by simp)
      exact ⟨b, h1, by omega⟩
    · have hvs := val_size v hv
      refine tag_more c _ _ 0 (⟨cls, v⟩ : S63) (by simp) (by simp) rfl (by show cls.size ≤ 5; omega) hvs (by omega) 100 (fun y hy => ?_)
      obtain ⟨b, h1, h2⟩ := tag_end c y (by omega) [(⟨cls, v⟩ : S63)] (([(⟨cls, v⟩ : S63)] : List S63).length : Int) ((0 + 1 : Nat) : Int) (by simp)
      exact ⟨b, h1, by omega⟩
    · have hvs := val_size v hv
      have hus := val_size u hu
      refine tag_more c _ _ 0 (⟨cls, v⟩ : S63) (by simp) (by simp) rfl (by show cls.size ≤ 5; omega) hvs (by omega) 100 (fun y hy => ?_)
      refine tag_more c y _ 1 (⟨hrf, u⟩ : S63) (by simp) (by simp) rfl (by show hrf.size ≤ 5; omega) hus (by omega) 100 (fun y2 hy2 => ?_)
      obtain ⟨b, h1, h2⟩ := tag_end c y2 (by omega) [(⟨cls, v⟩ : S63), (⟨hrf, u⟩ : S63)] (([(⟨cls, v⟩ : S63), (⟨hrf, u⟩ : S63)] : List S63).length : Int) ((1 + 1 : Nat) : Int) (by simp)
      exact ⟨b, h1, by omega⟩
  obtain ⟨b, h1, h2⟩ := main
  refine ⟨b, ?_, h2⟩
  simp only [emit_Tag.f]
  exact Ev.ite_pos (by omega) h1
theorem piece_ex (n : T) (h : TokOk n) : ∃ b, Ev (fun k => emit_Text.piece k n) b ∧ b.size ≤ 100 := by
  simp only [emit_Text.piece]
  rcases h with ⟨h0, h1, h2, h3, h4⟩ | ⟨h0, h1, h2, h3, h4⟩ | ⟨h0, h1, h2, h4⟩
  · have hs := name_size _ h1
    have s1 : (⟨#[60, 47]⟩ : ByteArray).size = 2 := rfl
    have s2 : (⟨#[62]⟩ : ByteArray).size = 1 := rfl
    exact ⟨_, Ev.ite_neg (by omega) (Ev.ite_pos h0 (Ev.ite_pos (by omega) (Ev.now _))), by simp only [ByteArray.size_append, s1, s2]; omega⟩
  · have hs := (text_size _ h4).1
    obtain ⟨e, he, hes⟩ := esc_f n.f4 false (by omega)
    exact ⟨e, Ev.ite_neg (by omega) (Ev.ite_neg (by omega) (by rw [he]; exact Ev.now _)), by omega⟩
  · obtain ⟨b, hb, hbs⟩ := tag_f n.f1 h1 n.f2 h2 n.f3
    exact ⟨b, Ev.ite_pos h0 hb, hbs⟩
/-- what tokens are written as -/
inductive Pieces : List T → List UInt8 → Prop
  | nil : Pieces [] []
  | cons {n : T} {b : ByteArray} {l : List T} {bs : List UInt8} : Ev (fun k => emit_Text.piece k n) b → b.size ≤ 100 → Pieces l bs → Pieces (n :: l) (b.data.toList ++ bs)
theorem Pieces.ex : ∀ l : List T, (∀ n ∈ l, TokOk n) → ∃ bs, Pieces l bs
  | [], _ => ⟨[], .nil⟩
  | n :: l, h => by
    obtain ⟨bs, h1⟩ := Pieces.ex l (fun m hm => h m (List.mem_cons_of_mem _ hm))
    obtain ⟨b, h2, h3⟩ := piece_ex n (h n List.mem_cons_self)
    exact ⟨_, .cons h2 h3 h1⟩
theorem Pieces.size {l : List T} {bs : List UInt8} (h : Pieces l bs) : bs.length ≤ 100 * l.length := by
  induction h with
  | nil => simp
  | @cons n b l bs h1 h2 h3 ih =>
    have : b.data.toList.length = b.size := Array.length_toList
    simp only [List.length_append, List.length_cons]
    omega
theorem Pieces.split {l : List T} {bs : List UInt8} (h : Pieces l bs) : ∀ a b : List T, l = a ++ b → ∃ x y, bs = x ++ y ∧ Pieces a x ∧ Pieces b y := by
  induction h with
  | nil => intro a b e; obtain ⟨rfl, rfl⟩ := List.nil_eq_append_iff.1 e; exact ⟨[], [], rfl, .nil, .nil⟩
  | @cons n c l bs hp hz hs ih =>
    intro a b e
    cases a with
    | nil => subst e; exact ⟨[], _, rfl, .nil, .cons hp hz hs⟩
    | cons m a =>
      simp only [List.cons_append, List.cons.injEq] at e
      obtain ⟨rfl, e⟩ := e
      obtain ⟨x, y, rfl, h1, h2⟩ := ih a b e
      exact ⟨c.data.toList ++ x, y, by simp, .cons hp hz h1, h2⟩
theorem go_ev {l : List T} {bs : List UInt8} (h : Pieces l bs) : ∀ acc : List UInt8, acc.length + 100 * l.length ≤ 1000000 → Ev (fun k => emit_Text.go k l acc) (acc ++ bs) := by
  induction h with
  | nil => intro acc _; simp only [emit_Text.go, List.append_nil]; exact Ev.now _
  | @cons n b l bs h1 h2 h3 ih =>
    intro acc ha
    simp only [List.length_cons] at ha
    have hb : b.data.toList.length = b.size := Array.length_toList
    simp only [emit_Text.go]
    refine Ev.bnd h1 (Ev.ite_pos (by omega) ?_)
    have := ih (acc ++ b.data.toList) (by rw [List.length_append]; omega)
    rwa [List.append_assoc] at this
theorem text_ev (l : List T) (h : Ok l) (hl : l.length ≤ 100) (bs : List UInt8) (hp : Pieces l bs) : Ev (fun k => emit_Text.f k l) (if (bs.length : Int) > 600 then ((⟨#[]⟩ : ByteArray), (1 : Int)) else ((⟨bs.toArray⟩ : ByteArray), 0)) := by
  simp only [emit_Text.f]
  refine Ev.bnd (check_ev l h (by omega)) (Ev.ite_pos rfl ?_)
  have hg := go_ev hp [] (by simp; omega)
  rw [List.nil_append] at hg
  refine Ev.bnd hg ?_
  by_cases hb : (bs.length : Int) > 600
  · simp only [if_pos hb]; exact Ev.now _
  · simp only [if_neg hb]; exact Ev.now _
end Go.Proofs.Ytjmhihadgpdiaaa.Toks
namespace Go.Proofs.Ytjmhihadgpdiaaa.Pure
open Go.RowKit Go.Proofs.Ytjmhihadgpdiaaa.X Go.Proofs.YtjmhihadgpdiaaaW.PrintWords Go.Proofs.YtjmhihadgpdiaaaW.PrintLast Go.Proofs.Ytjmhihadgpdiaaa.Base Go.Proofs.Ytjmhihadgpdiaaa.Toks
theorem EmitParts : bobbinetkeep_EmitParts.Pure := by
  intro l0 a1 _ h1 _ _
  obtain ⟨ts, e1, hok, hlen⟩ := tokens_f 0 l0 10 (by omega)
  obtain ⟨bs, hbs⟩ := Pieces.ex ts (fun n hn => by
    obtain ⟨a, b, rfl⟩ := List.append_of_mem hn
    exact (hok a b n rfl).1)
  have hz := hbs.size
  have hw : wrap64 ((ts.length : Int) + 1) = (ts.length : Int) + 1 := wrap_id (by omega) (by omega)
  have q0 := Int.emod_nonneg a1 (show ((ts.length : Int) + 1) ≠ 0 by omega)
  have q1 := Int.emod_lt_of_pos a1 (show (0 : Int) < (ts.length : Int) + 1 by omega)
  have e2 := bobbinetkeep_Tokens.pick a1 ((ts.length : Int) + 1) (by omega) (by omega)
  obtain ⟨c, hc⟩ : ∃ c : Nat, a1 % ((ts.length : Int) + 1) = (c : Int) := ⟨_, (Int.toNat_of_nonneg q0).symm⟩
  rw [hc] at e2 q1
  have hts : ts = ts.take c ++ ts.drop c := (List.take_append_drop c ts).symm
  obtain ⟨x, y, hxy, hx, hy⟩ := hbs.split (ts.take c) (ts.drop c) hts
  have hox : Ok (ts.take c) := by rw [hts] at hok; exact hok.take
  have hoy : Ok (ts.drop c) := by rw [hts] at hok; exact hok.drop
  have hlx : (ts.take c).length ≤ 10 := by rw [List.length_take]; omega
  have hly : (ts.drop c).length ≤ 10 := by rw [List.length_drop]; omega
  have t1 := text_ev ts hok (by omega) bs hbs
  have t2 := text_ev (ts.take c) hox (by omega) x hx
  have t3 := text_ev (ts.drop c) hoy (by omega) y hy
  have hop : Ok [(⟨2, (⟨#[112]⟩ : ByteArray), ([] : List S63), false, (⟨#[]⟩ : ByteArray)⟩ : T)] := Ok.snoc (l := []) Ok.nil (.inl ⟨rfl, (List.mem_cons_self : (⟨#[112]⟩ : ByteArray) ∈ names), rfl, rfl, rfl⟩) (fun h => by simp at h)
  have t4 := text_ev [(⟨2, (⟨#[112]⟩ : ByteArray), ([] : List S63), false, (⟨#[]⟩ : ByteArray)⟩ : T)] hop (by simp) _ (.cons (b := ((⟨#[60, 47]⟩ : ByteArray) ++ (⟨#[112]⟩ : ByteArray)) ++ (⟨#[62]⟩ : ByteArray)) (by
    simp only [emit_Text.piece]
    exact Ev.ite_neg (by omega) (Ev.ite_pos (by first | rfl | trivial) (Ev.ite_pos (by decide) (Ev.now _)))) (by decide) .nil)
  have hbl : bs.length = x.length + y.length := by rw [hxy]; simp
  have key : Ev (fun k => bobbinetkeep_EmitParts.f k l0 a1) true := by
    simp only [bobbinetkeep_EmitParts.f]
    refine Ev.bnd0 e1 ?_
    rw [hw]
    refine Ev.bnd0 e2 (Ev.bnd t1 (Ev.ite_pos (by omega) (Ev.ite_pos (by omega) (Ev.bnd0 rfl ?_))))
    simp only [Int.toNat_natCast, List.nil_append, List.length_nil]
    refine Ev.ite_pos (by omega) (Ev.bnd t2 (Ev.bnd0 rfl (Ev.ite_pos (by omega) (Ev.bnd t3 (Ev.bnd t4 ?_)))))
    by_cases hb : (bs.length : Int) > 600
    · rw [if_pos hb]
      refine Ev.ite_pos rfl ?_
      rw [decide_eq_true (by omega)]
      exact Ev.now _
    · rw [if_neg hb, if_neg (show ¬ (x.length : Int) > 600 by omega), if_neg (show ¬ (y.length : Int) > 600 by omega)]
      refine Ev.ite_neg (by simp) (Ev.ite_pos rfl (Ev.ite_pos rfl (Ev.ite_pos rfl (Ev.ite_pos ?_ (Ev.ite_pos ?_ (Ev.ite_pos ?_ ?_))))))
      · decide +kernel
      · decide +kernel
      · show x.toArray.size + y.toArray.size ≤ _
        simp; omega
      · have e : (⟨x.toArray⟩ : ByteArray) ++ (⟨y.toArray⟩ : ByteArray) = (⟨bs.toArray⟩ : ByteArray) := by
          apply ByteArray.ext
          simp [hxy]
        rw [e, beq_self_eq_true]
        exact Ev.now _
  exact key.rounds
end Go.Proofs.Ytjmhihadgpdiaaa.Pure
end
