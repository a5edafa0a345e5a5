/- Parts of the proof of StyleClean that are needed, put together by pack.py. -/
import Derived.Test.YteimhgbihpbhaaaDoorQStyleCleanan
import Derived.Test.YteimhgbihpbhaaaDoorQStyleCleanap
import Derived.Lib.Join
section
namespace Go.Proofs.YteimhgbihpbhaaaDoor.St
open Go.RowKit Go.Proofs.YteimhgbihpbhaaaDoor.X Go.Proofs.YteimhgbihpbhaaaDoorW.PrintWords Go.Proofs.YteimhgbihpbhaaaDoorW.PrintLast Go.Proofs.YteimhgbihpbhaaaDoorW.PrintMore Go.Proofs.YteimhgbihpbhaaaDoor.Base
set_option linter.unusedVariables false
set_option linter.unusedSimpArgs false
theorem rdD (l : List D) (i : Nat) (h : i < l.length) : rd_T33 l (i : Int) = l[i] := by
  simp [rd_T33, List.getD, h]
theorem D_ext {a b : D} (h0 : a.f0.toList = b.f0.toList) (h1 : a.f1.toList = b.f1.toList) : a = b := by
  cases a; cases b
  dsimp only at h0 h1
  rw [toList_inj.1 h0, toList_inj.1 h1]
/-- lists of declarations are compared -/
theorem cmp_ev (a b : List D) (hl : a.length < 1000000) : ∃ t, Ev (fun k => api_Decl.f k a b) t ∧ (t = true ↔ a = b) := by
  unfold api_Decl.f
  by_cases h : a.length = b.length
  · have loop : ∀ (d i : Nat), a.length - i = d → i ≤ a.length → ∃ t, Ev (fun k => api_Decl.l0 k a b (a.length : Int) (i : Int)) t ∧ (t = true ↔ a.drop i = b.drop i) := by
      intro d
      induction d with
      | zero =>
        intro i hd hi
        refine ⟨true, Ev.one (f := fun k => _) (fun k => by rw [api_Decl.l0]) (Ev.ite_neg (by omega) (Ev.some _)), ?_⟩
        rw [List.drop_eq_nil_of_le (by omega), List.drop_eq_nil_of_le (by omega)]
        simp
      | succ d ih =>
        intro i hd hi
        have hlt : i < a.length := by omega
        have hlt2 : i < b.length := by omega
        have hw : Aside0 (wrap64 ((i : Int) + 1) = ((i + 1 : Nat) : Int)) := ⟨wrap_succ hlt (by omega)⟩
        rw [List.drop_eq_getElem_cons hlt, List.drop_eq_getElem_cons hlt2]
        by_cases he : a[i] = b[i]
        · obtain ⟨t, h1, h2⟩ := ih (i + 1) (by omega) (by omega)
          refine ⟨t, Ev.one (f := fun k => _) (fun k => by rw [api_Decl.l0, hw.out, rdD a i hlt, rdD b i hlt2]) (Ev.ite_pos (by omega) (Ev.ite_pos (by omega) (Ev.ite_pos (by omega) (Ev.ite_pos (by omega) (Ev.ite_neg ?_ h1))))), ?_⟩
          · rw [he]; simp
          · rw [h2, he, List.cons.injEq]; simp
        · refine ⟨false, Ev.one (f := fun k => _) (fun k => by rw [api_Decl.l0, hw.out, rdD a i hlt, rdD b i hlt2]) (Ev.ite_pos (by omega) (Ev.ite_pos (by omega) (Ev.ite_pos (by omega) (Ev.ite_pos (by omega) (Ev.ite_pos ?_ (Ev.some _)))))), ?_⟩
          · rw [Bool.or_eq_true, Bool.not_eq_true', Bool.not_eq_true', beq_eq_false_iff_ne, beq_eq_false_iff_ne]
            by_cases h0 : a[i].f0.toList = b[i].f0.toList
            · exact .inr (fun h1 => he (D_ext h0 h1))
            · exact .inl h0
          · constructor
            · intro e; cases e
            · intro e; exact absurd (List.cons.inj e).1 he
    obtain ⟨t, h1, h2⟩ := loop a.length 0 (by omega) (by omega)
    exact ⟨t, Ev.ite_pos (by omega) h1, by rw [h2]; simp⟩
  · exact ⟨false, Ev.ite_neg (by omega) (Ev.some _), ⟨fun e => (by cases e), fun e => absurd (congrArg List.length e) h⟩⟩
theorem same_refl (a : List D) (hl : a.length < 1000000) : Ev (fun k => bobbinetkeep_sameDecls.f k a a) true := by
  unfold bobbinetkeep_sameDecls.f
  have loop : ∀ (d i : Nat), a.length - i = d → i ≤ a.length → Ev (fun k => bobbinetkeep_sameDecls.l0 k a a (i : Int)) true := by
    intro d
    induction d with
    | zero =>
      intro i hd hi
      exact Ev.one (f := fun k => _) (fun k => by rw [bobbinetkeep_sameDecls.l0]) (Ev.ite_neg (by omega) (Ev.some _))
    | succ d ih =>
      intro i hd hi
      have hlt : i < a.length := by omega
      have hw : Aside0 (wrap64 ((i : Int) + 1) = ((i + 1 : Nat) : Int)) := ⟨wrap_succ hlt (by omega)⟩
      exact Ev.one (f := fun k => _) (fun k => by rw [bobbinetkeep_sameDecls.l0, hw.out, rdD a i hlt]) (Ev.ite_pos (by omega) (Ev.ite_pos (by omega) (Ev.ite_pos (by omega) (Ev.ite_neg (by simp) (ih (i + 1) (by omega) (by omega))))))
  exact Ev.ite_pos rfl (loop a.length 0 (by omega) (by omega))
theorem Parse_ev {a : ByteArray} {u : L} (h : Bare a.data.toList u) (hs : a.size ≤ 600) : Ev (fun k => style_Parse.f k a) ((decls u).map mkD, 0) := by
  unfold style_Parse.f
  exact Ev.ite_neg (by omega) (Ev.bnd (parse_ev h (by have := h.len; rw [size_list] at this; exact this) (by omega)) (Ev.some _))
theorem ab_decls : decls [97, 58, 98] = [([97], [98])] := by decide +kernel
theorem styled_ev {a : ByteArray} {u : L} (h : Bare a.data.toList u) (hs : a.size ≤ 600) : Ev (fun k => bobbinetkeep_styled.f k a) ((decls u).map mkD, true) := by
  unfold bobbinetkeep_styled.f
  have h2 := Parse_ev (a := ⟨#[97, 58, 98]⟩) (u := [97, 58, 98]) (Bare.free (by decide)) (by decide)
  rw [ab_decls] at h2
  refine Ev.bnd (Parse_ev h hs) (Ev.bnd h2 (Ev.ite_pos rfl (Ev.ite_pos rfl (Ev.ite_pos rfl (Ev.ite_pos (by decide) ?_)))))
  have e : ((rd_T33 (([(([97], [98]) : L × L)]).map mkD) 0).f1.toList == ([98] : List UInt8)) = true := by
    have e2 : (rd_T33 (([(([97], [98]) : L × L)]).map mkD) 0).f1 = mk [98] := rfl
    rw [e2, mk_toList]
    rfl
  rw [e]
  exact Ev.some _
theorem line_mk (d : L × L) : ((mk d.1 ++ (⟨#[58, 32]⟩ : ByteArray)) ++ mk d.2) = mk (line d) := by
  have e : (⟨#[58, 32]⟩ : ByteArray) = mk [58, 32] := rfl
  rw [e, mk_app, mk_app, List.append_assoc]
  rfl
theorem join_ev (l : List L) (h1 : l.length ≤ 100000) (h2 : (Lib.join l [59, 32]).length ≤ 100000) : strings_Join.f (l.map mk) ⟨#[59, 32]⟩ = some (mk (Lib.join l [59, 32])) := by
  have e : (l.map mk).map (fun x => x.data.toList) = l := by
    rw [List.map_map]
    exact List.map_id' l
  unfold strings_Join.f
  have e2 : (⟨#[59, 32]⟩ : ByteArray).data.toList = [59, 32] := rfl
  rw [e, e2, if_pos ⟨by rw [List.length_map]; omega, by omega⟩]
theorem map_get (ds : List (L × L)) (i : Nat) (h : i < ds.length) : rd_T33 (ds.map mkD) (i : Int) = mkD ds[i] := by
  rw [rdD _ i (by rw [List.length_map]; exact h), List.getElem_map]
end Go.Proofs.YteimhgbihpbhaaaDoor.St
end
