/- Parts of the proof of StyleJoin that are needed, put together by pack.py. -/
import Derived.Test.YteimhgbihpbhaaaDoorQStyleJoinao
import Derived.Test.YteimhgbihpbhaaaDoorQStyleJoinar
section
namespace Go.Proofs.YteimhgbihpbhaaaDoor.Pure
open Go.RowKit Go.Proofs.YteimhgbihpbhaaaDoor.X Go.Proofs.YteimhgbihpbhaaaDoorW.PrintWords Go.Proofs.YteimhgbihpbhaaaDoorW.PrintLast Go.Proofs.YteimhgbihpbhaaaDoorW.PrintMore Go.Proofs.YteimhgbihpbhaaaDoor.Base Go.Proofs.YteimhgbihpbhaaaDoor.St
theorem StyleJoin (l0 : List Int) (a1 : ByteArray) : ∃ k, bobbinetkeep_StyleJoin.f k l0 a1 = some true := by
  obtain ⟨ds, h1, h2, h3⟩ := Decls_ev l0 8 (by decide)
  have hT := Text_ev ds h3 (by omega)
  have hlen := text_len h3
  obtain ⟨m, hm, hm0, hm1⟩ : ∃ m : Nat, mn (a1.size : Int) 100 = (m : Int) ∧ m ≤ a1.size ∧ m ≤ 100 := by
    unfold mn
    split
    · exact ⟨100, rfl, by omega, by omega⟩
    · exact ⟨a1.size, rfl, by omega, by omega⟩
  obtain ⟨u, hu⟩ : ∃ u : L, a1.extract 0 m = mk u := ⟨_, ext_mk a1 0 m⟩
  have hul : u.length ≤ 100 := by
    have : (a1.extract 0 m).size ≤ 100 := by rw [ByteArray.size_extract]; omega
    rw [hu, mk_size] at this
    exact this
  obtain ⟨v, hv, hvl⟩ := Bare.ex u.length u (Nat.le_refl _)
  have e1 : (mk (text ds) ++ (⟨#[59]⟩ : ByteArray)) ++ mk u = mk (text ds ++ (59 :: u)) := by
    have e : (⟨#[59]⟩ : ByteArray) = mk [59] := rfl
    rw [e, mk_app, mk_app, List.append_assoc]
    rfl
  have e2 : (⟨#[59]⟩ : ByteArray).size = 1 := rfl
  have b1 : Bare (text ds ++ (59 :: u)) (text ds ++ (59 :: v)) := Bare.pre (text_47 h3) (Bare.pre (x := [59]) (by decide) hv)
  have s1 := styled_ev (a := mk (text ds ++ (59 :: u))) b1 (by rw [mk_size, List.length_append, List.length_cons]; omega)
  have s2 := styled_ev (a := mk u) hv (by rw [mk_size]; omega)
  rw [text_join0 v h3] at s1
  have hdl : (decls v).length ≤ 101 := by
    have h5 := pcs_sizes v 0 0 []
    have h6 : (decls v).length ≤ (pcs 0 0 [] v).length := List.length_filterMap_le _ _
    omega
  have main : Ev (fun k => bobbinetkeep_StyleJoin.f k l0 a1) true := by
    unfold bobbinetkeep_StyleJoin.f
    rw [hm, Int.toNat_natCast, hu]
    refine Ev.bnd h1 (Ev.ite_pos (by rw [List.length_nil, List.length_map]; omega) ?_)
    rw [List.nil_append]
    refine Ev.bnd hT (Ev.ite_pos (by omega) (Ev.ite_pos (by omega) (Ev.ite_pos (by rw [mk_size]; omega) (Ev.ite_pos (by have b5 := mk_size (text ds); have b6 := mk_size u; rw [ByteArray.size_append]; show (mk (text ds)).size + 1 + (mk u).size ≤ _; omega) ?_))))
    rw [e1]
    refine Ev.bnd s1 (Ev.bnd s2 (Ev.ite_pos rfl (Ev.ite_pos rfl (Ev.ite_pos rfl (Ev.bnd0 rfl (Ev.ite_pos (by rw [List.length_map, List.length_map]; omega) ?_))))))
    rw [List.map_append]
    exact Ev.bnd (same_refl _ (by rw [List.length_append, List.length_map, List.length_map]; omega)) (Ev.some _)
  obtain ⟨K, hK⟩ := main
  exact ⟨K, hK K (Nat.le_refl _)⟩
end Go.Proofs.YteimhgbihpbhaaaDoor.Pure
end
