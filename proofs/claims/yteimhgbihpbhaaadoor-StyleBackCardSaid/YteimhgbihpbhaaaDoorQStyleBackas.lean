/- Parts of the proof of StyleBack that are needed, put together by pack.py. -/
import Derived.Test.YteimhgbihpbhaaaDoorQStyleBackap
import Derived.Test.YteimhgbihpbhaaaDoorQStyleBackag
import Derived.Test.YteimhgbihpbhaaaDoorQStyleBackar
import Derived.Lib.Join
section
namespace Go.Proofs.YteimhgbihpbhaaaDoor.St
open Go.RowKit Go.Proofs.YteimhgbihpbhaaaDoor.X Go.Proofs.YteimhgbihpbhaaaDoorW.PrintWords Go.Proofs.YteimhgbihpbhaaaDoorW.PrintLast Go.Proofs.YteimhgbihpbhaaaDoorW.PrintMore Go.Proofs.YteimhgbihpbhaaaDoor.Base
set_option linter.unusedVariables false
set_option linter.unusedSimpArgs false
theorem pick_ev (xa : Int) (n : Int) (h0 : 0 < n) (hn : n ≤ 4294967296) : bobbinetkeep_Picked.f xa n = some (xa % n) := by
  unfold bobbinetkeep_Picked.f
  rw [if_neg (by omega), ← picked_eq xa n h0 hn]
  split <;> rfl
theorem rdD (l : List D) (i : Nat) (h : i < l.length) : rd_T33 l (i : Int) = l[i] := by
  simp [rd_T33, List.getD, h]
theorem D_ext {a b : D} (h0 : a.f0.toList = b.f0.toList) (h1 : a.f1.toList = b.f1.toList) : a = b := by
  cases a; cases b
  dsimp only at h0 h1
  rw [toList_inj.1 h0, toList_inj.1 h1]
/-- lists of declarations are compared -/
theorem cmp_ev (a b : List D) (hl : a.length < 1000000) : ∃ t, Ev (fun k => api_Decl.f k a b) t ∧ (t = true ↔ a = b) := by
  unfold api_Decl.f
  by_cases h : a.length = b.length
  · have loop : ∀ (d i : Nat), a.length - i = d → i ≤ a.length → ∃ t, Ev (fun k => api_Decl.l0 k a b (a.length : Int) (i : Int)) t ∧ (t = true ↔ a.drop i = b.drop i) := by
      intro d
      induction d with
      | zero =>
        intro i hd hi
        refine ⟨true, Ev.one (f := fun k => _) (fun k => by rw [api_Decl.l0]) (Ev.ite_neg (by omega) (Ev.some _)), ?_⟩
        rw [List.drop_eq_nil_of_le (by omega), List.drop_eq_nil_of_le (by omega)]
        simp
      | succ d ih =>
        intro i hd hi
        have hlt : i < a.length := by omega
        have hlt2 : i < b.length := by omega
        have hw : Aside0 (wrap64 ((i : Int) + 1) = ((i + 1 : Nat) : Int)) := ⟨wrap_succ hlt (by omega)⟩
        rw [List.drop_eq_getElem_cons hlt, List.drop_eq_getElem_cons hlt2]
        by_cases he : a[i] = b[i]
        · obtain ⟨t, h1, h2⟩ := ih (i + 1) (by omega) (by omega)
          refine ⟨t, Ev.one (f := fun k => _) (fun k => by rw [api_Decl.l0, hw.out, rdD a i hlt, rdD b i hlt2]) (Ev.ite_pos (by omega) (Ev.ite_pos (by omega) (Ev.ite_pos (by omega) (Ev.ite_pos (by omega) (Ev.ite_neg ?_ h1))))), ?_⟩
          · rw [he]; simp
          · rw [h2, he, List.cons.injEq]; simp
        · refine ⟨false, Ev.one (f := fun k => _) (fun k => by rw [api_Decl.l0, hw.out, rdD a i hlt, rdD b i hlt2]) (Ev.ite_pos (by omega) (Ev.ite_pos (by omega) (Ev.ite_pos (by omega) (Ev.ite_pos (by omega) (Ev.ite_pos ?_ (Ev.some _)))))), ?_⟩
          · rw [Bool.or_eq_true, Bool.not_eq_true', Bool.not_eq_true', beq_eq_false_iff_ne, beq_eq_false_iff_ne]
            by_cases h0 : a[i].f0.toList = b[i].f0.toList
            · exact .inr (fun h1 => he (D_ext h0 h1))
            · exact .inl h0
          · constructor
            · intro e; cases e
            · intro e; exact absurd (List.cons.inj e).1 he
    obtain ⟨t, h1, h2⟩ := loop a.length 0 (by omega) (by omega)
    exact ⟨t, Ev.ite_pos (by omega) h1, by rw [h2]; simp⟩
  · exact ⟨false, Ev.ite_neg (by omega) (Ev.some _), ⟨fun e => (by cases e), fun e => absurd (congrArg List.length e) h⟩⟩
theorem cmp_refl (a : List D) (hl : a.length < 1000000) : Ev (fun k => api_Decl.f k a a) true := by
  obtain ⟨t, h1, h2⟩ := cmp_ev a a hl
  rwa [h2.2 rfl] at h1
theorem same_refl (a : List D) (hl : a.length < 1000000) : Ev (fun k => bobbinetkeep_sameDecls.f k a a) true := by
  unfold bobbinetkeep_sameDecls.f
  have loop : ∀ (d i : Nat), a.length - i = d → i ≤ a.length → Ev (fun k => bobbinetkeep_sameDecls.l0 k a a (i : Int)) true := by
    intro d
    induction d with
    | zero =>
      intro i hd hi
      exact Ev.one (f := fun k => _) (fun k => by rw [bobbinetkeep_sameDecls.l0]) (Ev.ite_neg (by omega) (Ev.some _))
    | succ d ih =>
      intro i hd hi
      have hlt : i < a.length := by omega
      have hw : Aside0 (wrap64 ((i : Int) + 1) = ((i + 1 : Nat) : Int)) := ⟨wrap_succ hlt (by omega)⟩
      exact Ev.one (f := fun k => _) (fun k => by rw [bobbinetkeep_sameDecls.l0, hw.out, rdD a i hlt]) (Ev.ite_pos (by omega) (Ev.ite_pos (by omega) (Ev.ite_pos (by omega) (Ev.ite_neg (by simp) (ih (i + 1) (by omega) (by omega))))))
  exact Ev.ite_pos rfl (loop a.length 0 (by omega) (by omega))
theorem Parse_ev {a : ByteArray} {u : L} (h : Bare a.data.toList u) (hs : a.size ≤ 600) : Ev (fun k => style_Parse.f k a) ((decls u).map mkD, 0) := by
  unfold style_Parse.f
  exact Ev.ite_neg (by omega) (Ev.bnd (parse_ev h (by have := h.len; rw [size_list] at this; exact this) (by omega)) (Ev.some _))
theorem ab_decls : decls [97, 58, 98] = [([97], [98])] := by decide +kernel
theorem styled_ev {a : ByteArray} {u : L} (h : Bare a.data.toList u) (hs : a.size ≤ 600) : Ev (fun k => bobbinetkeep_styled.f k a) ((decls u).map mkD, true) := by
  unfold bobbinetkeep_styled.f
  have h2 := Parse_ev (a := ⟨#[97, 58, 98]⟩) (u := [97, 58, 98]) (Bare.free (by decide)) (by decide)
  rw [ab_decls] at h2
  refine Ev.bnd (Parse_ev h hs) (Ev.bnd h2 (Ev.ite_pos rfl (Ev.ite_pos rfl (Ev.ite_pos rfl (Ev.ite_pos (by decide) ?_)))))
  have e : ((rd_T33 (([(([97], [98]) : L × L)]).map mkD) 0).f1.toList == ([98] : List UInt8)) = true := by
    have e2 : (rd_T33 (([(([97], [98]) : L × L)]).map mkD) 0).f1 = mk [98] := rfl
    rw [e2, mk_toList]
    rfl
  rw [e]
  exact Ev.some _
theorem join_text : ∀ (l : List (L × L)), Lib.join (l.map line) [59, 32] = text l
  | [] => rfl
  | [d] => by rw [List.map_cons, List.map_nil, Lib.join_one, text]
  | d :: e :: l => by
    have ih := join_text (e :: l)
    rw [text, ← ih]
    simp [Lib.join, List.intercalate]
theorem line_mk (d : L × L) : ((mk d.1 ++ (⟨#[58, 32]⟩ : ByteArray)) ++ mk d.2) = mk (line d) := by
  have e : (⟨#[58, 32]⟩ : ByteArray) = mk [58, 32] := rfl
  rw [e, mk_app, mk_app, List.append_assoc]
  rfl
theorem join_ev (l : List L) (h1 : l.length ≤ 100000) (h2 : (Lib.join l [59, 32]).length ≤ 100000) : strings_Join.f (l.map mk) ⟨#[59, 32]⟩ = some (mk (Lib.join l [59, 32])) := by
  have e : (l.map mk).map (fun x => x.data.toList) = l := by
    rw [List.map_map]
    exact List.map_id' l
  unfold strings_Join.f
  have e2 : (⟨#[59, 32]⟩ : ByteArray).data.toList = [59, 32] := rfl
  rw [e, e2, if_pos ⟨by rw [List.length_map]; omega, by omega⟩]
theorem map_get (ds : List (L × L)) (i : Nat) (h : i < ds.length) : rd_T33 (ds.map mkD) (i : Int) = mkD ds[i] := by
  rw [rdD _ i (by rw [List.length_map]; exact h), List.getElem_map]
/-- the text of declarations that are read back one by one -/
theorem Text_ev (ds : List (L × L)) (h : ∀ d ∈ ds, Nv d) (hl : ds.length ≤ 20) : Ev (fun k => style_Text.f k (ds.map mkD)) (mk (text ds), 0) := by
  have loop : ∀ (d i : Nat), ds.length - i = d → i ≤ ds.length → Ev (fun k => style_Text.l0 k (((ds.take i).map line).map mk) (ds.map mkD) (ds.length : Int) (i : Int)) (mk (text ds), 0) := by
    intro d
    induction d with
    | zero =>
      intro i hd hi
      obtain rfl : i = ds.length := by omega
      have hlen := text_len h
      rw [List.take_length]
      refine Ev.one (f := fun k => _) (fun k => by rw [style_Text.l0]) (Ev.ite_neg (by omega) ?_)
      refine Ev.bnd0 (join_ev (ds.map line) (by rw [List.length_map]; omega) (by rw [join_text]; omega)) ?_
      rw [join_text]
      exact Ev.ite_neg (by rw [mk_size]; omega) (Ev.some _)
    | succ d ih =>
      intro i hd hi
      have hlt : i < ds.length := by omega
      have hw : Aside0 (wrap64 ((i : Int) + 1) = ((i + 1 : Nat) : Int)) := ⟨wrap_succ hlt (by omega)⟩
      have hn := ih (i + 1) (by omega) (by omega)
      obtain ⟨p, hp⟩ : ∃ p, ds[i] = p := ⟨_, rfl⟩
      have hv := h ds[i] (List.getElem_mem hlt)
      rw [List.take_succ_eq_append_getElem hlt, List.map_append, List.map_append, hp] at hn
      rw [hp] at hv
      have hL := hv.lin
      have hln := hL.len
      have hll : (line p).length = p.1.length + 2 + p.2.length := by unfold line; rw [List.length_append, List.length_append, List.length_cons, List.length_cons, List.length_nil]; omega
      have e2 : (⟨#[58, 32]⟩ : ByteArray).size = 2 := rfl
      have hpe := parse_ev (a := mk (line p)) (u := line p) (Bare.free (line_47 hv)) (by rw [mk_size]; omega) (by rw [mk_size]; omega)
      have hde : decls (line p) = [p] := by rw [decls_last hL.sc, hL.de]; rfl
      rw [hde] at hpe
      refine Ev.one (f := fun k => _) (fun k => by rw [style_Text.l0, hw.out, map_get ds i hlt, hp, line_mk]) ?_
      refine Ev.ite_pos (by omega) (Ev.ite_pos (by omega) (Ev.ite_pos (by rw [List.length_map]; omega) (Ev.bnd0 (name_ev p.1) (Ev.ite_pos hL.nok ?_))))
      refine Ev.ite_pos (by rw [mk_size]; omega) (Ev.ite_pos (by rw [ByteArray.size_append]; have a1 := mk_size p.1; have a2 := mk_size p.2; show (mk p.1).size + 2 + (mk p.2).size ≤ _; omega) (Ev.bnd hpe (Ev.bnd (cmp_refl [mkD p] (by simp)) (Ev.ite_pos rfl (Ev.ite_pos (by simp; omega) hn)))))
  have := loop ds.length 0 (by omega) (by omega)
  unfold style_Text.f
  rw [List.length_map]
  exact this
theorem names_at (t : Int) (h0 : 0 ≤ t) (h1 : t < 4) : ∃ n ∈ names, rdOf ByteArray.empty ([(⟨#[99, 111, 108, 111, 114]⟩ : ByteArray), (⟨#[119, 105, 100, 116, 104]⟩ : ByteArray), (⟨#[97, 45, 98]⟩ : ByteArray), (⟨#[120, 49]⟩ : ByteArray)] : List ByteArray) t = mk n := by
  obtain rfl | rfl | rfl | rfl : t = 0 ∨ t = 1 ∨ t = 2 ∨ t = 3 := by omega
  · exact ⟨_, List.mem_cons_self, rfl⟩
  · exact ⟨_, List.mem_cons_of_mem _ List.mem_cons_self, rfl⟩
  · exact ⟨_, List.mem_cons_of_mem _ (List.mem_cons_of_mem _ List.mem_cons_self), rfl⟩
  · exact ⟨_, List.mem_cons_of_mem _ (List.mem_cons_of_mem _ (List.mem_cons_of_mem _ List.mem_cons_self)), rfl⟩
theorem vals_at (t : Int) (h0 : 0 ≤ t) (h1 : t < 7) : ∃ v ∈ vals, rdOf ByteArray.empty ([(⟨#[114, 101, 100]⟩ : ByteArray), (⟨#[49, 112, 120, 32, 50, 112, 120]⟩ : ByteArray), (⟨#[117, 114, 108, 40, 97, 59, 98, 41]⟩ : ByteArray), (⟨#[34, 59, 58, 34]⟩ : ByteArray), (⟨#[97, 58, 98]⟩ : ByteArray), (⟨#[102, 40, 103, 40, 59, 41, 41]⟩ : ByteArray), (⟨#[39, 120, 39]⟩ : ByteArray)] : List ByteArray) t = mk v := by
  obtain rfl | rfl | rfl | rfl | rfl | rfl | rfl : t = 0 ∨ t = 1 ∨ t = 2 ∨ t = 3 ∨ t = 4 ∨ t = 5 ∨ t = 6 := by omega
  · exact ⟨_, List.mem_cons_self, rfl⟩
  · exact ⟨_, List.mem_cons_of_mem _ List.mem_cons_self, rfl⟩
  · exact ⟨_, List.mem_cons_of_mem _ (List.mem_cons_of_mem _ List.mem_cons_self), rfl⟩
  · exact ⟨_, List.mem_cons_of_mem _ (List.mem_cons_of_mem _ (List.mem_cons_of_mem _ List.mem_cons_self)), rfl⟩
  · exact ⟨_, List.mem_cons_of_mem _ (List.mem_cons_of_mem _ (List.mem_cons_of_mem _ (List.mem_cons_of_mem _ List.mem_cons_self))), rfl⟩
  · exact ⟨_, List.mem_cons_of_mem _ (List.mem_cons_of_mem _ (List.mem_cons_of_mem _ (List.mem_cons_of_mem _ (List.mem_cons_of_mem _ List.mem_cons_self)))), rfl⟩
  · exact ⟨_, List.mem_cons_of_mem _ (List.mem_cons_of_mem _ (List.mem_cons_of_mem _ (List.mem_cons_of_mem _ (List.mem_cons_of_mem _ (List.mem_cons_of_mem _ List.mem_cons_self))))), rfl⟩
theorem Decls_ev (l : List Int) (n : Nat) (hn : n ≤ 20) : ∃ ds : List (L × L), Ev (fun k => bobbinetkeep_Decls.f k l (n : Int)) (ds.map mkD) ∧ ds.length ≤ n ∧ ∀ d ∈ ds, Nv d := by
  have outer : ∀ (d i : Nat) (acc : List (L × L)), n - i = d → i ≤ n → acc.length = i → (∀ d ∈ acc, Nv d) → ∃ ds : List (L × L), Ev (fun k => bobbinetkeep_Decls.l0 k l (n : Int) (acc.map mkD) (i : Int)) (ds.map mkD) ∧ ds.length ≤ n ∧ ∀ d ∈ ds, Nv d := by
    intro d
    have stop : ∀ (i : Nat) (acc : List (L × L)), Ev (fun k => bobbinetkeep_Decls.j1 k l (n : Int) (acc.map mkD) (i : Int) false) (acc.map mkD) := fun i acc =>
      Ev.one (f := fun k => _) (fun k => by rw [bobbinetkeep_Decls.j1]) (Ev.ite_neg (by decide) (Ev.some _))
    induction d with
    | zero =>
      intro i acc hd hi ha hr
      refine ⟨acc, ?_, by omega, hr⟩
      refine Ev.one (f := fun k => _) (fun k => by rw [bobbinetkeep_Decls.l0]) ?_
      have hf : decide ((i : Int) < (n : Int)) = false := decide_eq_false (by omega)
      by_cases h : (i : Int) < (l.length : Int)
      · refine Ev.ite_pos h ?_
        rw [hf]
        exact stop i acc
      · exact Ev.ite_neg h (stop i acc)
    | succ d ih =>
      intro i acc hd hi ha hr
      by_cases h : (i : Int) < (l.length : Int)
      · have hp := pick_ev (rd l (i : Int)) 4 (by decide) (by decide)
        have hq := pick_ev (wrap64 (Int.tdiv (rd l (i : Int)) 4)) 7 (by decide) (by decide)
        have hb : 0 ≤ rd l (i : Int) % 4 ∧ rd l (i : Int) % 4 < 4 := by omega
        have hc : 0 ≤ wrap64 (Int.tdiv (rd l (i : Int)) 4) % 7 ∧ wrap64 (Int.tdiv (rd l (i : Int)) 4) % 7 < 7 := by omega
        obtain ⟨a, hn1, ha1⟩ := names_at _ hb.1 hb.2
        obtain ⟨b, hv1, hb1⟩ := vals_at _ hc.1 hc.2
        generalize rd l (i : Int) % 4 = t at hp hb ha1
        generalize wrap64 (Int.tdiv (rd l (i : Int)) 4) % 7 = u at hq hc hb1
        have hw : Aside0 (wrap64 ((i : Int) + 1) = ((i + 1 : Nat) : Int)) := ⟨wrap_succ (n := n) (by omega) (by omega)⟩
        obtain ⟨ds, h1, h2⟩ := ih (i + 1) (acc ++ [(a, b)]) (by omega) (by omega) (by simp; omega) (fun x hx => by
          rcases List.mem_append.1 hx with hx | hx
          · exact hr x hx
          · rw [List.mem_singleton.1 hx]; exact ⟨hn1, hv1⟩)
        rw [List.map_append] at h1
        refine ⟨ds, ?_, h2⟩
        refine Ev.one (f := fun k => _) (fun k => by rw [bobbinetkeep_Decls.l0]) (Ev.ite_pos h ?_)
        rw [decide_eq_true (show (i : Int) < (n : Int) by omega)]
        refine Ev.one (f := fun k => _) (fun k => by rw [bobbinetkeep_Decls.j1, hw.out]) (Ev.ite_pos rfl ?_)
        refine Ev.bnd0 rfl (Ev.ite_pos (by omega) (Ev.ite_pos h (Ev.bnd0 hp (Ev.ite_pos hb.1 (Ev.ite_pos (by simp; omega) (Ev.bnd0 rfl (Ev.bnd0 hq (Ev.ite_pos hc.1 (Ev.ite_pos (by simp; omega) (Ev.ite_pos (by rw [List.length_map]; omega) ?_))))))))))
        rw [ha1, hb1]
        exact h1
      · refine ⟨acc, ?_, by omega, hr⟩
        refine Ev.one (f := fun k => _) (fun k => by rw [bobbinetkeep_Decls.l0]) (Ev.ite_neg h (stop i acc))
  unfold bobbinetkeep_Decls.f
  exact outer n 0 [] (by omega) (by omega) rfl (fun d hd => by cases hd)
end Go.Proofs.YteimhgbihpbhaaaDoor.St
end
