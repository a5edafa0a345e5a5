/- Parts of the proof of StyleBack that are needed, put together by pack.py. -/
import Derived.Test.YteimhgbihpbhaaaDoorQStyleBackak
import Derived.Test.YteimhgbihpbhaaaDoorQStyleBackam
import Derived.Test.YteimhgbihpbhaaaDoorQStyleBackaq
import Derived.Test.YteimhgbihpbhaaaDoorQStyleBackap
import Derived.Test.YteimhgbihpbhaaaDoorQStyleBackan
section
namespace Go.Proofs.YteimhgbihpbhaaaDoor.St
open Go.RowKit Go.Proofs.YteimhgbihpbhaaaDoor.X Go.Proofs.YteimhgbihpbhaaaDoorW.PrintWords Go.Proofs.YteimhgbihpbhaaaDoor.Base
set_option linter.unusedVariables false
set_option linter.unusedSimpArgs false
abbrev sps : L := [32, 9, 10, 12, 13]
abbrev smallB : UInt8 → UInt8 := tok_Small.sm
def nameOk (n : L) : Bool := emit_Name.f ⟨n.toArray⟩ == some true
/-- the declaration of a piece -/
def decl (p : L) : Option (L × L) :=
  if (Lib.cut p [58]).2.2 = true ∧ nameOk ((Lib.trimS (Lib.cut p [58]).1 sps).map smallB) = true ∧ Lib.trimS (Lib.cut p [58]).2.1 sps ≠ [] then some ((Lib.trimS (Lib.cut p [58]).1 sps).map smallB, Lib.trimS (Lib.cut p [58]).2.1 sps) else none
def decls (s : L) : List (L × L) := (pcs 0 0 [] s).filterMap decl
theorem decl_nil : decl [] = none := by decide +kernel
theorem decls_nil : decls [] = [] := by decide +kernel
theorem decls_piece {x t : L} (h : scan 0 0 x = some (0, 0)) : decls (x ++ 59 :: t) = (decl x).toList ++ decls t := by
  unfold decls
  rw [pcs_piece h, List.filterMap_cons]
  cases decl x <;> rfl
theorem decls_last {x : L} (h : scan 0 0 x = some (0, 0)) : decls x = (decl x).toList := by
  unfold decls
  rw [pcs_last h, List.filterMap_cons]
  cases decl x <;> rfl
abbrev names : List L := [[99, 111, 108, 111, 114], [119, 105, 100, 116, 104], [97, 45, 98], [120, 49]]
abbrev vals : List L := [[114, 101, 100], [49, 112, 120, 32, 50, 112, 120], [117, 114, 108, 40, 97, 59, 98, 41], [34, 59, 58, 34], [97, 58, 98], [102, 40, 103, 40, 59, 41, 41], [39, 120, 39]]
/-- what stands ahead of a name, and what is left of it without remarks -/
abbrev pres : List (L × L) := [([], []), ([32], [32]), ([47, 42, 59, 120, 58, 121, 42, 47], []), ([10, 59, 59], [10, 59, 59])]
abbrev mids : List (L × L) := [([], []), ([32], [32]), ([47, 42, 39, 42, 47], [])]
def Nv (d : L × L) : Prop := d.1 ∈ names ∧ d.2 ∈ vals
def line (d : L × L) : L := d.1 ++ ([58, 32] ++ d.2)
theorem line_all : names.all (fun n => vals.all fun v => (scan 0 0 (line (n, v)) == some (0, 0)) && (decl (line (n, v)) == some (n, v)) && (scan 0 0 (32 :: line (n, v)) == some (0, 0)) && (decl (32 :: line (n, v)) == some (n, v)) && !(n.contains 47) && !(v.contains 47) && decide ((line (n, v)).length ≤ 20) && nameOk n) = true := by decide +kernel
structure Lin (d : L × L) : Prop where
  sc : scan 0 0 (line d) = some (0, 0)
  de : decl (line d) = some d
  sc2 : scan 0 0 (32 :: line d) = some (0, 0)
  de2 : decl (32 :: line d) = some d
  n47 : (47 : UInt8) ∉ d.1
  v47 : (47 : UInt8) ∉ d.2
  len : (line d).length ≤ 20
  nok : nameOk d.1 = true
theorem Nv.lin {d : L × L} (h : Nv d) : Lin d := by
  have h1 := List.all_eq_true.1 (List.all_eq_true.1 line_all d.1 h.1) d.2 h.2
  simp only [Bool.and_eq_true, beq_iff_eq, Bool.not_eq_true', List.contains_eq_mem, decide_eq_false_iff_not, decide_eq_true_eq] at h1
  obtain ⟨⟨⟨⟨⟨⟨⟨a, b⟩, c⟩, d'⟩, e⟩, f⟩, g⟩, i⟩ := h1
  exact ⟨a, b, c, d', e, f, g, i⟩
theorem line_47 {d : L × L} (h : Nv d) : (47 : UInt8) ∉ line d := by
  have := h.lin
  intro hm
  rcases List.mem_append.1 hm with hm | hm
  · exact this.n47 hm
  · rcases List.mem_append.1 hm with hm | hm
    · simp at hm
    · exact this.v47 hm
/-- the text of declarations -/
def text : List (L × L) → L
  | [] => []
  | [d] => line d
  | d :: e :: l => line d ++ ([59, 32] ++ text (e :: l))
theorem text_47 : ∀ {l : List (L × L)}, (∀ d ∈ l, Nv d) → (47 : UInt8) ∉ text l
  | [], _ => by simp [text]
  | [d], h => by rw [text]; exact line_47 (h d (by simp))
  | d :: e :: l, h => by
    rw [text]
    intro hm
    rcases List.mem_append.1 hm with hm | hm
    · exact line_47 (h d (by simp)) hm
    · rcases List.mem_append.1 hm with hm | hm
      · simp at hm
      · exact text_47 (fun x hx => h x (List.mem_cons_of_mem _ hx)) hm
theorem text_len : ∀ {l : List (L × L)}, (∀ d ∈ l, Nv d) → (text l).length ≤ 22 * l.length
  | [], _ => by simp [text]
  | [d], h => by have := (h d (by simp)).lin.len; rw [text]; simp; omega
  | d :: e :: l, h => by
    have h1 := (h d (by simp)).lin.len
    have h2 := text_len (l := e :: l) (fun x hx => h x (List.mem_cons_of_mem _ hx))
    rw [text, List.length_append, List.length_append]
    simp at h2 ⊢
    omega
/-- the declarations of a text, and of one behind a space -/
theorem text_decls : ∀ {l : List (L × L)} (pp : L) (hp : pp = [] ∨ pp = [32]), (∀ d ∈ l, Nv d) → l ≠ [] → decls (pp ++ text l) = l
  | [], pp, hp, h, hn => absurd rfl hn
  | [d], pp, hp, h, _ => by
    have := (h d (by simp)).lin
    rw [text]
    rcases hp with rfl | rfl
    · rw [List.nil_append, decls_last this.sc, this.de]; rfl
    · rw [List.singleton_append, decls_last this.sc2, this.de2]; rfl
  | d :: e :: l, pp, hp, h, _ => by
    have := (h d (by simp)).lin
    have ih := text_decls (l := e :: l) [32] (.inr rfl) (fun x hx => h x (List.mem_cons_of_mem _ hx)) (by simp)
    rw [text, show [59, 32] ++ text (e :: l) = 59 :: ([32] ++ text (e :: l)) by simp]
    rcases hp with rfl | rfl
    · rw [List.nil_append, decls_piece this.sc, this.de, ih]; rfl
    · rw [← List.append_assoc, List.singleton_append, decls_piece this.sc2, this.de2, ih]; rfl
/-- one declaration, written wide -/
def wide (p m : L) (d : L × L) (t : L) : L := p ++ (d.1 ++ (m ++ ([58] ++ (d.2 ++ (59 :: t)))))
theorem wide_bare {p m : L × L} {d : L × L} {t u : L} (hp : p ∈ pres) (hm : m ∈ mids) (hd : Nv d) (h : Bare t u) : Bare (wide p.1 m.1 d t) (wide p.2 m.2 d u) := by
  have hl := hd.lin
  have h1 : Bare ([58] ++ (d.2 ++ (59 :: t))) ([58] ++ (d.2 ++ (59 :: u))) := Bare.pre (by decide) (Bare.pre hl.v47 (Bare.pre (x := [59]) (by decide) h))
  have h2 : Bare (m.1 ++ ([58] ++ (d.2 ++ (59 :: t)))) (m.2 ++ ([58] ++ (d.2 ++ (59 :: u)))) := by
    simp only [mids, List.mem_cons, List.not_mem_nil, or_false] at hm
    rcases hm with rfl | rfl | rfl
    · exact h1
    · exact Bare.pre (x := [32]) (by decide) h1
    · exact Bare.remark (y := [39]) (by decide) h1
  have h3 := Bare.pre hl.n47 h2
  simp only [pres, List.mem_cons, List.not_mem_nil, or_false] at hp
  unfold wide
  rcases hp with rfl | rfl | rfl | rfl
  · exact h3
  · exact Bare.pre (x := [32]) (by decide) h3
  · exact Bare.remark (y := [59, 120, 58, 121]) (by decide) h3
  · exact Bare.pre (x := [10, 59, 59]) (by decide) h3
theorem wide_all : [([] : L), [32]].all (fun p => [([] : L), [32]].all fun m => names.all fun n => vals.all fun v => (scan 0 0 (p ++ (n ++ (m ++ ([58] ++ v)))) == some (0, 0)) && (decl (p ++ (n ++ (m ++ ([58] ++ v)))) == some (n, v))) = true := by decide +kernel
theorem wide_decls {p m : L × L} {d : L × L} {u : L} (hp : p ∈ pres) (hm : m ∈ mids) (hd : Nv d) : decls (wide p.2 m.2 d u) = d :: decls u := by
  have key : ∀ p' ∈ [([] : L), [32]], ∀ m' ∈ [([] : L), [32]], decls (wide p' m' d u) = d :: decls u := by
    intro p' hp' m' hm'
    have h1 := List.all_eq_true.1 (List.all_eq_true.1 (List.all_eq_true.1 (List.all_eq_true.1 wide_all p' hp') m' hm') d.1 hd.1) d.2 hd.2
    simp only [Bool.and_eq_true, beq_iff_eq] at h1
    have e : wide p' m' d u = (p' ++ (d.1 ++ (m' ++ ([58] ++ d.2)))) ++ 59 :: u := by unfold wide; simp only [List.append_assoc]
    rw [e, decls_piece h1.1, h1.2]
    rfl
  have hm2 : m.2 ∈ [([] : L), [32]] := by
    simp only [mids, List.mem_cons, List.not_mem_nil, or_false] at hm
    rcases hm with rfl | rfl | rfl <;> simp
  simp only [pres, List.mem_cons, List.not_mem_nil, or_false] at hp
  rcases hp with rfl | rfl | rfl | rfl
  · exact key [] (by simp) _ hm2
  · exact key [32] (by simp) _ hm2
  · exact key [] (by simp) _ hm2
  · have h1 := key [] (by simp) _ hm2
    have h2 : decls (59 :: wide [] m.2 d u) = decls (wide [] m.2 d u) := by
      have := decls_piece (x := []) (t := wide [] m.2 d u) rfl
      rw [decl_nil] at this
      exact this
    have h3 : decls (10 :: 59 :: 59 :: wide [] m.2 d u) = decls (59 :: wide [] m.2 d u) := by
      have h5 : decl [10] = none := by decide +kernel
      have := decls_piece (x := [10]) (t := 59 :: wide [] m.2 d u) (by decide)
      rw [h5] at this
      exact this
    have e : wide [10, 59, 59] m.2 d u = 10 :: 59 :: 59 :: wide [] m.2 d u := rfl
    show decls (wide [10, 59, 59] m.2 d u) = _
    rw [e, h3, h2, h1]
end Go.Proofs.YteimhgbihpbhaaaDoor.St
end
section
namespace Go.Proofs.YteimhgbihpbhaaaDoor.St
open Go.RowKit Go.Proofs.YteimhgbihpbhaaaDoor.X Go.Proofs.YteimhgbihpbhaaaDoorW.PrintWords Go.Proofs.YteimhgbihpbhaaaDoorW.PrintLast Go.Proofs.YteimhgbihpbhaaaDoorW.PrintMore Go.Proofs.YteimhgbihpbhaaaDoor.Base
set_option linter.unusedVariables false
set_option linter.unusedSimpArgs false
abbrev D := S33
abbrev mk (l : L) : ByteArray := ⟨l.toArray⟩
abbrev mkD (p : L × L) : D := ⟨mk p.1, mk p.2⟩
theorem mk_toList (l : L) : (mk l).toList = l := by rw [toList_eq]
theorem mk_size (l : L) : (mk l).size = l.length := by show l.toArray.size = _; simp
theorem mk_app (a b : L) : mk a ++ mk b = mk (a ++ b) := by
  apply ByteArray.ext
  rw [ByteArray.data_append]
  exact List.append_toArray a b
theorem size_list (s : ByteArray) : s.data.toList.length = s.size := Array.length_toList
theorem ext_mk (x : ByteArray) (a b : Nat) : x.extract a b = mk ((x.data.toList.take b).drop a) := by
  apply ByteArray.ext
  rw [ByteArray.data_extract]
  apply Array.ext'
  rw [Array.toList_extract, List.extract_eq_take_drop, List.drop_take]
theorem bare_go : ∀ {s u : L}, Bare s u → ∀ k, s.length < k → style_bare.go k s = some u := by
  intro s u h
  induction h with
  | plain h1 =>
    intro k hk
    obtain ⟨k, rfl⟩ : ∃ m, k = m + 1 := ⟨k - 1, by omega⟩
    rw [style_bare.go, if_neg (by rw [h1]; decide)]
  | cutoff h1 h2 =>
    intro k hk
    obtain ⟨k, rfl⟩ : ∃ m, k = m + 1 := ⟨k - 1, by omega⟩
    rw [style_bare.go, if_pos h1, if_neg (by rw [h2]; decide)]
  | more h1 h2 _ ih =>
    intro k hk
    obtain ⟨k, rfl⟩ : ∃ m, k = m + 1 := ⟨k - 1, by omega⟩
    have h3 := cut_less h1 (by simp)
    have h4 := cut_less h2 (by simp)
    rw [style_bare.go, if_pos h1, if_pos h2, ih k (by omega)]
    rfl
theorem bare_ev {a : ByteArray} {u : L} (h : Bare a.data.toList u) (hs : a.size ≤ 1000000000) : style_bare.f a = some (mk u) := by
  unfold style_bare.f
  rw [if_pos hs, bare_go h (a.size + 1) (by rw [size_list]; omega)]
  rfl
theorem u8_ne {c q : UInt8} : ((c.toNat : Int) = (q.toNat : Int)) ↔ c = q := by
  constructor
  · intro h
    exact UInt8.toNat_inj.1 (by omega)
  · rintro rfl; rfl
theorem pieces_l0 (x : ByteArray) (hx : x.size ≤ 1000000000) : ∀ (d i fr deep : Nat) (q : UInt8) (acc : List ByteArray), x.size - i = d → i ≤ x.size → fr ≤ i → deep ≤ i → acc.length ≤ i →
    Ev (fun k => style_pieces.l0 k x acc (fr : Int) (deep : Int) (q.toNat : Int) (x.size : Int) (i : Int)) (acc ++ (pcs q deep ((x.data.toList.take i).drop fr) (x.data.toList.drop i)).map mk) := by
  intro d
  induction d with
  | zero =>
    intro i fr deep q acc hd hi hf hdp ha
    obtain rfl : i = x.size := by omega
    have e : x.data.toList.drop x.size = [] := List.drop_eq_nil_of_le (by rw [size_list]; exact Nat.le_refl _)
    rw [e, pcs]
    refine Ev.one (f := fun k => _) (fun k => by rw [style_pieces.l0]) ?_
    refine Ev.ite_neg (by omega) (Ev.ite_pos (by omega) (Ev.ite_pos (by omega) (Ev.ite_pos (by omega) ?_)))
    rw [Int.toNat_natCast, ext_mk]
    exact Ev.some _
  | succ d ih =>
    intro i fr deep q acc hd hi hf hdp ha
    have hlt : i < x.size := by omega
    have hll : i < x.data.toList.length := by rw [size_list]; exact hlt
    obtain ⟨c, hc⟩ : ∃ c, x.data.toList[i] = c := ⟨_, rfl⟩
    have hb : bt x (i : Int) = (c.toNat : Int) := by
      rw [← bt_at x (i : Int) (by omega), ← hc]
      simp
      rfl
    have hdr : x.data.toList.drop i = c :: x.data.toList.drop (i + 1) := by rw [List.drop_eq_getElem_cons hll, hc]
    have hcur : (x.data.toList.take i).drop fr ++ [c] = (x.data.toList.take (i + 1)).drop fr := by
      rw [List.take_succ_eq_append_getElem hll, hc, List.drop_append_of_le_length (by rw [List.length_take]; omega)]
    have hemp : (x.data.toList.take (i + 1)).drop (i + 1) = [] := List.drop_eq_nil_of_le (by rw [List.length_take]; omega)
    have hw : Aside0 (wrap64 ((i : Int) + 1) = ((i + 1 : Nat) : Int)) := ⟨wrap_succ hlt (by omega)⟩
    have hw2 : Aside0 (wrap64 ((deep : Int) + 1) = ((deep + 1 : Nat) : Int)) := ⟨wrap_succ (n := x.size) (by omega) (by omega)⟩
    have hw3 : Aside0 (mx 0 (wrap64 ((deep : Int) - 1)) = ((deep - 1 : Nat) : Int)) := ⟨by
      rw [wrap_id (by omega) (by omega)]
      unfold mx
      split <;> omega⟩
    rw [hdr, pcs]
    refine Ev.one (f := fun k => _) (fun k => by rw [style_pieces.l0, hb, hw.out]) ?_
    refine Ev.ite_pos (by omega) (Ev.ite_pos (by omega) (Ev.ite_pos (by omega) ?_))
    by_cases hq : q = 0
    · subst hq
      rw [if_neg (by simp)]
      refine Ev.ite_pos rfl ?_
      have quoted : c = 34 ∨ c = 39 → Ev (fun k => style_pieces.j1 k x acc (fr : Int) (deep : Int) ((0 : UInt8).toNat : Int) (i : Int) (c.toNat : Int) (x.size : Int) (i : Int) true) (acc ++ (pcs c deep ((x.data.toList.take i).drop fr ++ [c]) (x.data.toList.drop (i + 1))).map mk) := by
        intro _
        refine Ev.one (f := fun k => _) (fun k => by rw [style_pieces.j1, hw.out]) (Ev.ite_pos rfl ?_)
        rw [hcur]
        exact ih (i + 1) fr deep c acc (by omega) (by omega) (by omega) (by omega) (by omega)
      have plain : ¬ (c = 34 ∨ c = 39) → Ev (fun k => style_pieces.j1 k x acc (fr : Int) (deep : Int) ((0 : UInt8).toNat : Int) (i : Int) (c.toNat : Int) (x.size : Int) (i : Int) false) (acc ++ (if c = 40 then pcs 0 (deep + 1) ((x.data.toList.take i).drop fr ++ [c]) (x.data.toList.drop (i + 1))
    else if c = 41 then pcs 0 (deep - 1) ((x.data.toList.take i).drop fr ++ [c]) (x.data.toList.drop (i + 1))
    else if c = 59 ∧ deep = 0 then (x.data.toList.take i).drop fr :: pcs 0 0 [] (x.data.toList.drop (i + 1))
    else pcs 0 deep ((x.data.toList.take i).drop fr ++ [c]) (x.data.toList.drop (i + 1))).map mk) := by
        intro _
        refine Ev.one (f := fun k => _) (fun k => by rw [style_pieces.j1, hw.out, hw2.out, hw3.out]) (Ev.ite_neg (by decide) ?_)
        have k40 : ((c.toNat : Int) = 40) ↔ c = 40 := u8_ne (q := 40)
        have k41 : ((c.toNat : Int) = 41) ↔ c = 41 := u8_ne (q := 41)
        have k59 : ((c.toNat : Int) = 59) ↔ c = 59 := u8_ne (q := 59)
        by_cases h40 : c = 40
        · rw [if_pos h40]
          refine Ev.ite_pos (k40.2 h40) ?_
          rw [hcur]
          exact ih (i + 1) fr (deep + 1) 0 acc (by omega) (by omega) (by omega) (by omega) (by omega)
        rw [if_neg h40]
        refine Ev.ite_neg (fun h => h40 (k40.1 h)) ?_
        by_cases h41 : c = 41
        · rw [if_pos h41]
          refine Ev.ite_pos (k41.2 h41) ?_
          rw [hcur]
          exact ih (i + 1) fr (deep - 1) 0 acc (by omega) (by omega) (by omega) (by omega) (by omega)
        rw [if_neg h41]
        refine Ev.ite_neg (fun h => h41 (k41.1 h)) ?_
        by_cases h59 : c = 59
        · refine Ev.ite_pos (k59.2 h59) ?_
          by_cases hd0 : deep = 0
          · subst hd0
            rw [if_pos ⟨h59, rfl⟩]
            refine Ev.ite_pos rfl (Ev.ite_pos (by omega) (Ev.ite_pos (by omega) (Ev.ite_pos (by omega) (Ev.ite_pos (by omega) ?_))))
            have := ih (i + 1) (i + 1) 0 0 (acc ++ [x.extract fr i]) (by omega) (by omega) (by omega) (by omega) (by simp; omega)
            rw [hemp, ext_mk, List.append_assoc] at this
            rw [Int.toNat_natCast, Int.toNat_natCast, ext_mk]
            exact this
          · rw [if_neg (fun h => hd0 h.2)]
            refine Ev.ite_neg (by omega) ?_
            rw [hcur]
            exact ih (i + 1) fr deep 0 acc (by omega) (by omega) (by omega) (by omega) (by omega)
        · rw [if_neg (fun h => h59 h.1)]
          refine Ev.ite_neg (fun h => h59 (k59.1 h)) ?_
          rw [hcur]
          exact ih (i + 1) fr deep 0 acc (by omega) (by omega) (by omega) (by omega) (by omega)
      have k34 : ((c.toNat : Int) = 34) ↔ c = 34 := u8_ne (q := 34)
      have k39 : ((c.toNat : Int) = 39) ↔ c = 39 := u8_ne (q := 39)
      by_cases h34 : c = 34
      · rw [if_pos (.inl h34)]
        exact Ev.ite_pos (k34.2 h34) (quoted (.inl h34))
      refine Ev.ite_neg (fun h => h34 (k34.1 h)) ?_
      by_cases h39 : c = 39
      · rw [if_pos (.inr h39), beq_iff_eq.2 (k39.2 h39)]
        exact quoted (.inr h39)
      · have hn : ¬ (c = 34 ∨ c = 39) := fun h => h.elim h34 h39
        rw [if_neg hn, beq_eq_false_iff_ne.2 (fun h => h39 (k39.1 h))]
        exact plain hn
    · have hq0 : ¬ (q.toNat : Int) = 0 := fun h => hq (u8_ne (q := 0).1 h)
      rw [if_pos hq]
      refine Ev.ite_neg hq0 ?_
      rw [hcur]
      by_cases he : c = q
      · rw [if_pos he]
        refine Ev.ite_pos (u8_ne.2 he) ?_
        exact ih (i + 1) fr deep 0 acc (by omega) (by omega) (by omega) (by omega) (by omega)
      · rw [if_neg he]
        refine Ev.ite_neg (fun h => he (u8_ne.1 h)) ?_
        exact ih (i + 1) fr deep q acc (by omega) (by omega) (by omega) (by omega) (by omega)
theorem pieces_ev (x : ByteArray) (hx : x.size ≤ 1000000000) : Ev (fun k => style_pieces.f k x) ((pcs 0 0 [] x.data.toList).map mk) := by
  have := pieces_l0 x hx x.size 0 0 0 0 [] (by omega) (by omega) (by omega) (by omega) (by simp)
  unfold style_pieces.f
  exact this
theorem pcs_sizes : ∀ (l : L) (q : UInt8) (d : Nat) (cur : L), (pcs q d cur l).length ≤ l.length + 1 ∧ ∀ p ∈ pcs q d cur l, p.length ≤ cur.length + l.length
  | [], q, d, cur => by simp [pcs]
  | c :: l, q, d, cur => by
    have st : ∀ q d, (pcs q d (cur ++ [c]) l).length ≤ (c :: l).length + 1 ∧ ∀ p ∈ pcs q d (cur ++ [c]) l, p.length ≤ cur.length + (c :: l).length := by
      intro q d
      have := pcs_sizes l q d (cur ++ [c])
      refine ⟨by simp; omega, fun p hp => ?_⟩
      have := this.2 p hp
      simp at this ⊢
      omega
    rw [pcs]
    split
    · exact st _ _
    split
    · exact st _ _
    split
    · exact st _ _
    split
    · exact st _ _
    split
    · have := pcs_sizes l 0 0 []
      refine ⟨by simp; omega, fun p hp => ?_⟩
      rcases List.mem_cons.1 hp with rfl | hp
      · omega
      · have := this.2 p hp
        simp at this ⊢
        omega
    · exact st _ _
theorem trim_ev (l : L) (h : l.length ≤ 1000000000) : strings_Trim.f (mk l) ⟨#[32, 9, 10, 12, 13]⟩ = some (mk (Lib.trimS l sps)) := by
  unfold strings_Trim.f
  rw [if_pos ⟨by rw [mk_size]; omega, by decide, by decide⟩]
theorem cut_ev (l : L) (h : l.length ≤ 1000000000) : strings_Cut.f (mk l) ⟨#[58]⟩ = some (mk (Lib.cut l [58]).1, mk (Lib.cut l [58]).2.1, (Lib.cut l [58]).2.2) := by
  unfold strings_Cut.f
  rw [if_pos (by rw [mk_size]; omega)]
theorem trim_len (l cs : L) : (Lib.trimS l cs).length ≤ l.length := by
  unfold Lib.trimS Lib.trimLeftS Lib.trimRightS
  have h1 := (List.dropWhile_sublist (cs.contains ·) (l := (l.reverse.dropWhile (cs.contains ·)).reverse)).length_le
  have h2 := (List.dropWhile_sublist (cs.contains ·) (l := l.reverse)).length_le
  rw [List.length_reverse] at h1 h2
  omega
theorem small_ev (l : L) (h : l.length ≤ 1000000000) : tok_Small.f (mk l) = some (mk (l.map smallB)) := by
  unfold tok_Small.f
  rw [if_pos (by rw [mk_size]; omega)]
theorem name_some (a : ByteArray) : ∃ b, emit_Name.f a = some b := by
  unfold emit_Name.f
  repeat' split
  all_goals exact ⟨_, rfl⟩
theorem name_ev (l : L) : emit_Name.f (mk l) = some (nameOk l) := by
  obtain ⟨b, hb⟩ := name_some (mk l)
  unfold nameOk
  rw [hb]
  cases b <;> rfl
theorem rd_map (ps : List L) (i : Nat) (h : i < ps.length) : rdOf ByteArray.empty (ps.map mk) (i : Int) = mk ps[i] := by
  simp [rdOf, List.getD, h]
theorem fm_cons (p : L) (l : List L) : (p :: l).filterMap decl = (decl p).toList ++ l.filterMap decl := by
  rw [List.filterMap_cons]
  cases decl p <;> rfl
theorem parse_l0 (ps : List L) (hp : ps.length ≤ 1000000) (hl : ∀ p ∈ ps, p.length ≤ 1000000) : ∀ (d i : Nat) (acc : List D), ps.length - i = d → i ≤ ps.length → acc.length ≤ i →
    Ev (fun k => style_parse.l0 k acc (ps.map mk) (ps.length : Int) (i : Int)) (acc ++ ((ps.drop i).filterMap decl).map mkD) := by
  intro d
  induction d with
  | zero =>
    intro i acc hd hi ha
    rw [List.drop_eq_nil_of_le (by omega), List.filterMap_nil, List.map_nil, List.append_nil]
    refine Ev.one (f := fun k => _) (fun k => by rw [style_parse.l0]) ?_
    exact Ev.ite_neg (by omega) (Ev.some _)
  | succ d ih =>
    intro i acc hd hi ha
    have hlt : i < ps.length := by omega
    have hw : Aside0 (wrap64 ((i : Int) + 1) = ((i + 1 : Nat) : Int)) := ⟨wrap_succ hlt (by omega)⟩
    obtain ⟨p, hpp⟩ : ∃ p, ps[i] = p := ⟨_, rfl⟩
    have hpl := hl ps[i] (List.getElem_mem hlt)
    rw [hpp] at hpl
    have hc := cut_len p [58]
    have ht1 := trim_len (Lib.cut p [58]).1 sps
    have ht2 := trim_len (Lib.cut p [58]).2.1 sps
    rw [List.drop_eq_getElem_cons hlt, hpp, fm_cons]
    refine Ev.one (f := fun k => _) (fun k => by rw [style_parse.l0, rd_map ps i hlt, hpp, hw.out]) ?_
    refine Ev.ite_pos (by omega) (Ev.ite_pos (by omega) (Ev.ite_pos (by rw [List.length_map]; omega) ?_))
    refine Ev.bnd0 (cut_ev p (by omega)) (Ev.bnd0 (trim_ev _ (by omega)) (Ev.bnd0 (small_ev _ (by omega)) (Ev.bnd0 (trim_ev _ (by omega)) ?_)))
    have skip : decl p = none → Ev (fun k => style_parse.l0 k acc (ps.map mk) (ps.length : Int) ((i + 1 : Nat) : Int)) (acc ++ ((decl p).toList ++ (ps.drop (i + 1)).filterMap decl).map mkD) := by
      intro h
      rw [h]
      exact ih (i + 1) acc (by omega) (by omega) (by omega)
    by_cases h1 : (Lib.cut p [58]).2.2 = true
    · refine Ev.ite_pos h1 (Ev.bnd0 (name_ev _) ?_)
      by_cases h2 : nameOk ((Lib.trimS (Lib.cut p [58]).1 sps).map smallB) = true
      · refine Ev.ite_pos h2 ?_
        by_cases h3 : Lib.trimS (Lib.cut p [58]).2.1 sps = []
        · refine Ev.ite_pos (by rw [mk_toList]; exact h3) (skip ?_)
          unfold decl
          rw [if_neg (fun h => h.2.2 h3)]
        · refine Ev.ite_neg (by rw [mk_toList]; exact h3) (Ev.ite_pos (by omega) ?_)
          have hd : decl p = some ((Lib.trimS (Lib.cut p [58]).1 sps).map smallB, Lib.trimS (Lib.cut p [58]).2.1 sps) := by
            unfold decl
            rw [if_pos ⟨h1, h2, h3⟩]
          rw [hd]
          have := ih (i + 1) (acc ++ [mkD ((Lib.trimS (Lib.cut p [58]).1 sps).map smallB, Lib.trimS (Lib.cut p [58]).2.1 sps)]) (by omega) (by omega) (by simp; omega)
          rw [List.append_assoc] at this
          exact this
      · refine Ev.ite_neg h2 (skip ?_)
        unfold decl
        rw [if_neg (fun h => h2 h.2.1)]
    · refine Ev.ite_neg h1 (skip ?_)
      unfold decl
      rw [if_neg (fun h => h1 h.1)]
theorem parse_ev {a : ByteArray} {u : L} (h : Bare a.data.toList u) (hl : u.length ≤ a.size) (hs : a.size ≤ 100000) : Ev (fun k => style_parse.f k a) ((decls u).map mkD) := by
  unfold style_parse.f
  have h1 := pieces_ev (mk u) (by rw [mk_size]; omega)
  have h2 := pcs_sizes u 0 0 []
  have h3 := parse_l0 (pcs 0 0 [] u) (by omega) (fun p hp => by have := h2.2 p hp; simp at this; omega) _ 0 [] rfl (Nat.zero_le _) (by simp)
  refine Ev.bnd0 (bare_ev h (by omega)) (Ev.bnd h1 ?_)
  rw [List.length_map]
  exact h3
end Go.Proofs.YteimhgbihpbhaaaDoor.St
end
