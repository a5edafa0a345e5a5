/- Parts of the proof of StyleClean that are needed, put together by pack.py. -/
import Derived.Test.YteimhgbihpbhaaaDoorQStyleCleanan
import Derived.Test.YteimhgbihpbhaaaDoorQStyleCleanaq
section
namespace Go.Proofs.YteimhgbihpbhaaaDoor.Pure
open Go.RowKit Go.Proofs.YteimhgbihpbhaaaDoor.X Go.Proofs.YteimhgbihpbhaaaDoorW.PrintWords Go.Proofs.YteimhgbihpbhaaaDoorW.PrintLast Go.Proofs.YteimhgbihpbhaaaDoorW.PrintMore Go.Proofs.YteimhgbihpbhaaaDoor.Base Go.Proofs.YteimhgbihpbhaaaDoor.St
set_option linter.unusedVariables false
theorem sc_head {l cs : L} {b : UInt8} (h : (Lib.trimS l cs).head? = some b) : cs.contains b = false := by
  unfold Lib.trimS Lib.trimLeftS at h
  have := List.head?_dropWhile_not (cs.contains ·) (Lib.trimRightS l cs)
  rw [h] at this
  exact this
theorem sc_last {l cs : L} {b : UInt8} (h : (Lib.trimS l cs).getLast? = some b) : cs.contains b = false := by
  unfold Lib.trimS Lib.trimLeftS at h
  obtain ⟨t, ht⟩ := List.dropWhile_suffix (l := Lib.trimRightS l cs) (cs.contains ·)
  have h2 : (Lib.trimRightS l cs).getLast? = some b := by
    rw [← ht, List.getLast?_append]
    rw [h]
    rfl
  unfold Lib.trimRightS at h2
  rw [List.getLast?_reverse] at h2
  have := List.head?_dropWhile_not (cs.contains ·) l.reverse
  rw [h2] at this
  exact this
/-- what is known of a declaration that was read -/
structure Rd (d : L × L) : Prop where
  nok : nameOk d.1 = true
  n0 : d.1 ≠ []
  n12 : d.1.length ≤ 12
  v0 : d.2 ≠ []
  vl : d.2.length ≤ 200
  vh : d.2.head? ≠ some 32
  vt : d.2.getLast? ≠ some 32
theorem name_ok {n : L} (h : nameOk n = true) : n ≠ [] ∧ n.length ≤ 12 := by
  have h1 := name_ev n
  rw [h] at h1
  unfold emit_Name.f at h1
  by_cases h2 : (mk n).toList = ([] : List UInt8)
  · rw [if_pos h2] at h1; cases h1
  rw [if_neg h2] at h1
  by_cases h3 : ((mk n).size : Int) > 12
  · rw [if_pos h3] at h1; cases h1
  rw [mk_size] at h3
  rw [mk_toList] at h2
  exact ⟨h2, by omega⟩
theorem decl_rd {p : L} {d : L × L} (h : decl p = some d) (hp : p.length ≤ 200) : Rd d := by
  unfold decl at h
  split at h
  · rename_i hc
    obtain rfl := Option.some.inj h
    have h1 := name_ok hc.2.1
    have hl := cut_len p [58]
    have ht := trim_len (Lib.cut p [58]).2.1 sps
    exact { nok := hc.2.1, n0 := h1.1, n12 := h1.2, v0 := hc.2.2, vl := (by dsimp only; omega), vh := fun e => absurd (sc_head e) (by decide), vt := fun e => absurd (sc_last e) (by decide) }
  · cases h
theorem bt_mk (l : L) (i : Nat) (h : i < l.length) : bt (mk l) (i : Int) = (l[i].toNat : Int) := by
  rw [← bt_at (mk l) (i : Int) (by rw [mk_size]; omega)]
  rfl
theorem StyleClean (a0 : ByteArray) : ∃ k, bobbinetkeep_StyleClean.f k a0 = some true := by
  obtain ⟨m, hm, hm0, hm1⟩ : ∃ m : Nat, mn (a0.size : Int) 200 = (m : Int) ∧ m ≤ a0.size ∧ m ≤ 200 := by
    unfold mn
    split
    · exact ⟨200, rfl, by omega, by omega⟩
    · exact ⟨a0.size, rfl, by omega, by omega⟩
  obtain ⟨u, hu⟩ : ∃ u : L, a0.extract 0 m = mk u := ⟨_, ext_mk a0 0 m⟩
  have hul : u.length ≤ 200 := by
    have : (a0.extract 0 m).size ≤ 200 := by rw [ByteArray.size_extract]; omega
    rw [hu, mk_size] at this
    exact this
  obtain ⟨v, hv, hvl⟩ := Bare.ex u.length u (Nat.le_refl _)
  have s1 := styled_ev (a := mk u) hv (by rw [mk_size]; omega)
  have h5 := pcs_sizes v 0 0 []
  have hrd : ∀ d ∈ decls v, Rd d := by
    intro d hd
    obtain ⟨p, hp, he⟩ := List.mem_filterMap.1 hd
    exact decl_rd he (by have := h5.2 p hp; simp at this; omega)
  have hdl : (decls v).length ≤ 201 := by
    have h6 : (decls v).length ≤ (pcs 0 0 [] v).length := List.length_filterMap_le _ _
    omega
  obtain ⟨ds, hds⟩ : ∃ ds, decls v = ds := ⟨_, rfl⟩
  rw [hds] at s1 hrd hdl
  have loop : ∀ (d i : Nat), ds.length - i = d → i ≤ ds.length → Ev (fun k => bobbinetkeep_StyleClean.l0 k (ds.map mkD) (i : Int)) true := by
    intro d
    induction d with
    | zero =>
      intro i hd hi
      exact Ev.one (f := fun k => _) (fun k => by rw [bobbinetkeep_StyleClean.l0]) (Ev.ite_neg (by rw [List.length_map]; omega) (Ev.some _))
    | succ d ih =>
      intro i hd hi
      have hlt : i < ds.length := by omega
      have hn := ih (i + 1) (by omega) (by omega)
      have hR := hrd ds[i] (List.getElem_mem hlt)
      obtain ⟨p, hp⟩ : ∃ p, ds[i] = p := ⟨_, rfl⟩
      have hw : Aside0 (wrap64 ((i : Int) + 1) = ((i + 1 : Nat) : Int)) := ⟨wrap_succ hlt (by omega)⟩
      have hcut : ((ds.map mkD).take (i + 1)).drop i = [mkD p] := by
        rw [List.take_succ_eq_append_getElem (by rw [List.length_map]; exact hlt), List.drop_append_of_le_length (by rw [List.length_take, List.length_map]; omega), List.drop_eq_nil_of_le (by rw [List.length_take]; omega), List.getElem_map, hp]
        rfl
      rw [hp] at hR
      have hvp : 0 < p.2.length := List.length_pos_iff.2 hR.v0
      have hb0 : ¬ bt (mk p.2) 0 = 32 := by
        have := bt_mk p.2 0 hvp
        rw [Int.natCast_zero] at this
        rw [this]
        intro e
        refine hR.vh ?_
        rw [List.head?_eq_getElem?, List.getElem?_eq_getElem hvp]
        congr 1
        exact UInt8.toNat_inj.1 (by have : (32 : UInt8).toNat = 32 := rfl; omega)
      have hw3 : Aside0 (wrap64 (((mk p.2).size : Int) - 1) = ((p.2.length - 1 : Nat) : Int)) := ⟨by rw [mk_size, wrap_id (by have := hR.vl; omega) (by have := hR.vl; omega)]; omega⟩
      have hb1 : (bt (mk p.2) ((p.2.length - 1 : Nat) : Int) == 32) = false := by
        rw [beq_eq_false_iff_ne, bt_mk p.2 _ (by omega)]
        intro e
        refine hR.vt ?_
        rw [List.getLast?_eq_getElem?, List.getElem?_eq_getElem (by omega)]
        congr 1
        exact UInt8.toNat_inj.1 (by have : (32 : UInt8).toNat = 32 := rfl; omega)
      -- the text of one
      have hll : (line p).length = p.1.length + 2 + p.2.length := by unfold line; rw [List.length_append, List.length_append, List.length_cons, List.length_cons, List.length_nil]; omega
      have hn12 := hR.n12
      have hvl2 := hR.vl
      obtain ⟨x, hx, hxl⟩ := Bare.ex (line p).length (line p) (Nat.le_refl _)
      have hpe := parse_ev (a := mk (line p)) hx (by rw [mk_size]; exact hxl) (by rw [mk_size]; omega)
      have hst := styled_ev (a := mk (line p)) hx (by rw [mk_size]; omega)
      have hx5 := pcs_sizes x 0 0 []
      have hxd : (decls x).length ≤ (pcs 0 0 [] x).length := List.length_filterMap_le _ _
      obtain ⟨t, ht1, ht2⟩ := cmp_ev ((decls x).map mkD) [mkD p] (by rw [List.length_map]; omega)
      have tail : Ev (fun k => bobbinetkeep_StyleClean.j1 k (ds.map mkD) (i : Int) false) true := by
        refine Ev.one (f := fun k => _) (fun k => by rw [bobbinetkeep_StyleClean.j1, hw.out, Int.toNat_natCast, Int.toNat_natCast, hcut]) ?_
        refine Ev.ite_neg (by decide) (Ev.ite_pos (by omega) (Ev.ite_pos (by omega) (Ev.ite_pos (by rw [List.length_map]; omega) ?_)))
        have first : ∀ (r : ByteArray × Int), Ev (fun k => if t = true then (if ([] : List ByteArray).length < 8796093022208 then style_Text.l0 k ([] ++ [mk (line p)]) [mkD p] (([mkD p] : List D).length : Int) ((0 + 1 : Nat) : Int) else none) else some ((⟨#[]⟩ : ByteArray), (4 : Int))) r → Ev (fun k => style_Text.f k [mkD p]) r := by
          intro r hr
          unfold style_Text.f
          have hw4 : wrap64 ((0 : Int) + 1) = ((0 + 1 : Nat) : Int) := by unfold wrap64; omega
          refine Ev.one (f := fun k => _) (fun k => by rw [style_Text.l0, hw4]) ?_
          have hrd0 : rd_T33 [mkD p] 0 = mkD p := rfl
          rw [hrd0, line_mk]
          refine Ev.ite_pos (by simp) (Ev.ite_pos (by decide) (Ev.ite_pos (by simp) (Ev.bnd0 (name_ev p.1) (Ev.ite_pos hR.nok ?_))))
          refine Ev.ite_pos (by rw [mk_size]; omega) (Ev.ite_pos (by rw [ByteArray.size_append]; have a1 := mk_size p.1; have a2 := mk_size p.2; show (mk p.1).size + 2 + (mk p.2).size ≤ _; omega) (Ev.bnd hpe (Ev.bnd ht1 hr)))
        cases t with
        | false =>
          have := first (⟨#[]⟩, 4) (Ev.ite_neg (by decide) (Ev.some _))
          exact Ev.bnd this (Ev.ite_neg (by decide) (Ev.ite_pos rfl hn))
        | true =>
          have heq := ht2.1 rfl
          rw [heq] at hst
          have h7 : Ev (fun k => style_Text.l0 k ([] ++ [mk (line p)]) [mkD p] (([mkD p] : List D).length : Int) ((0 + 1 : Nat) : Int)) (mk (line p), 0) := by
            refine Ev.one (f := fun k => _) (fun k => by rw [style_Text.l0]) (Ev.ite_neg (by simp) ?_)
            have hj := join_ev [line p] (by simp) (by rw [Lib.join_one]; omega)
            rw [Lib.join_one] at hj
            exact Ev.bnd0 hj (Ev.ite_neg (by rw [mk_size]; omega) (Ev.some _))
          have := first (mk (line p), 0) (Ev.ite_pos rfl (Ev.ite_pos (by decide) h7))
          exact Ev.bnd this (Ev.ite_pos rfl (Ev.bnd hst (Ev.ite_pos rfl (Ev.bnd (same_refl [mkD p] (by simp)) (Ev.ite_pos rfl hn)))))
      refine Ev.one (f := fun k => _) (fun k => by rw [bobbinetkeep_StyleClean.l0, map_get ds i hlt, hp, hw3.out, hb1]) ?_
      refine Ev.ite_pos (by rw [List.length_map]; omega) (Ev.ite_pos (by omega) (Ev.ite_neg (by rw [mk_toList]; exact hR.n0) (Ev.ite_neg (by rw [mk_size]; omega) (Ev.ite_neg (by rw [mk_toList]; exact hR.v0) (Ev.ite_pos (by rw [mk_size]; omega) (Ev.ite_neg hb0 (Ev.ite_pos (by omega) (Ev.ite_pos (by rw [mk_size]; omega) tail))))))))
  have main : Ev (fun k => bobbinetkeep_StyleClean.f k a0) true := by
    unfold bobbinetkeep_StyleClean.f
    rw [hm, Int.toNat_natCast, hu]
    exact Ev.ite_pos (by omega) (Ev.ite_pos (by omega) (Ev.bnd s1 (Ev.ite_pos rfl (loop ds.length 0 (by omega) (by omega)))))
  obtain ⟨K, hK⟩ := main
  exact ⟨K, hK K (Nat.le_refl _)⟩
end Go.Proofs.YteimhgbihpbhaaaDoor.Pure
end
