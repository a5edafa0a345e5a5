/- Parts of the proof of StyleBack that are needed, put together by pack.py. -/
import Derived.Test.YteimhgbihpbhaaaDoorQStyleBackap
import Derived.Test.YteimhgbihpbhaaaDoorQStyleBackas
section
namespace Go.Proofs.YteimhgbihpbhaaaDoor.Pure
open Go.RowKit Go.Proofs.YteimhgbihpbhaaaDoor.X Go.Proofs.YteimhgbihpbhaaaDoorW.PrintWords Go.Proofs.YteimhgbihpbhaaaDoorW.PrintLast Go.Proofs.YteimhgbihpbhaaaDoorW.PrintMore Go.Proofs.YteimhgbihpbhaaaDoor.Base Go.Proofs.YteimhgbihpbhaaaDoor.St
set_option linter.unusedVariables false
theorem pres_at (t : Nat) (h1 : t < 4) : pres.getD t ([], []) ∈ pres ∧ ([Value.string (⟨#[]⟩ : ByteArray), Value.string (⟨#[32]⟩ : ByteArray), Value.string (⟨#[47, 42, 59, 120, 58, 121, 42, 47]⟩ : ByteArray), Value.string (⟨#[10, 59, 59]⟩ : ByteArray)] : List Value)[t]? = some (Value.string (mk (pres.getD t ([], [])).1)) ∧ (pres.getD t ([], [])).1.length ≤ 8 := by
  obtain rfl | rfl | rfl | rfl : t = 0 ∨ t = 1 ∨ t = 2 ∨ t = 3 := by omega
  · exact ⟨List.mem_cons_self, rfl, by decide⟩
  · exact ⟨List.mem_cons_of_mem _ List.mem_cons_self, rfl, by decide⟩
  · exact ⟨List.mem_cons_of_mem _ (List.mem_cons_of_mem _ List.mem_cons_self), rfl, by decide⟩
  · exact ⟨List.mem_cons_of_mem _ (List.mem_cons_of_mem _ (List.mem_cons_of_mem _ List.mem_cons_self)), rfl, by decide⟩
theorem mids_at (t : Nat) (h1 : t < 3) : mids.getD t ([], []) ∈ mids ∧ ([Value.string (⟨#[]⟩ : ByteArray), Value.string (⟨#[32]⟩ : ByteArray), Value.string (⟨#[47, 42, 39, 42, 47]⟩ : ByteArray)] : List Value)[t]? = some (Value.string (mk (mids.getD t ([], [])).1)) ∧ (mids.getD t ([], [])).1.length ≤ 5 := by
  obtain rfl | rfl | rfl : t = 0 ∨ t = 1 ∨ t = 2 := by omega
  · exact ⟨List.mem_cons_self, rfl, by decide⟩
  · exact ⟨List.mem_cons_of_mem _ List.mem_cons_self, rfl, by decide⟩
  · exact ⟨List.mem_cons_of_mem _ (List.mem_cons_of_mem _ List.mem_cons_self), rfl, by decide⟩
def chunk (p m : L) (d : L × L) : L := ((((p ++ d.1) ++ m) ++ [58]) ++ d.2) ++ [59]
theorem chunk_wide (p m : L) (d : L × L) (t : L) : chunk p m d ++ t = wide p m d t := by unfold chunk wide; simp only [List.append_assoc]; rfl
theorem chunk_mk (p m : L) (d : L × L) : (((((mk p ++ mk d.1) ++ mk m) ++ (⟨#[58]⟩ : ByteArray)) ++ mk d.2) ++ (⟨#[59]⟩ : ByteArray)) = mk (chunk p m d) := by
  have e1 : (⟨#[58]⟩ : ByteArray) = mk [58] := rfl
  have e2 : (⟨#[59]⟩ : ByteArray) = mk [59] := rfl
  rw [e1, e2, mk_app, mk_app, mk_app, mk_app, mk_app]
  rfl
def gapN (l1 : List Int) (i : Nat) : Int := if (i : Int) < (l1.length : Int) then rd l1 (i : Int) else 0
def gapP (l1 : List Int) (i : Nat) : Nat := (gapN l1 i % 4).toNat
def gapM (l1 : List Int) (i : Nat) : Nat := (wrap64 (Int.tdiv (gapN l1 i) 4) % 3).toNat
theorem gapP_lt (l1 : List Int) (i : Nat) : gapP l1 i < 4 := by unfold gapP; omega
theorem gapM_lt (l1 : List Int) (i : Nat) : gapM l1 i < 3 := by unfold gapM; omega
/-- what is written wide, so far -/
def wl (l1 : List Int) (ds : List (L × L)) : Nat → L
  | 0 => []
  | i + 1 => wl l1 ds i ++ chunk (pres.getD (gapP l1 i) ([], [])).1 (mids.getD (gapM l1 i) ([], [])).1 (ds.getD i ([], []))
theorem wl_ok (l1 : List Int) (ds : List (L × L)) (h : ∀ d ∈ ds, Nv d) : ∀ i, i ≤ ds.length → (wl l1 ds i).length ≤ 40 * i ∧ ∃ ab, (∀ t u, Bare t u → Bare (wl l1 ds i ++ t) (ab ++ u)) ∧ ∀ u, decls (ab ++ u) = ds.take i ++ decls u
  | 0, _ => ⟨Nat.zero_le _, [], fun t u h => h, fun u => by simp⟩
  | i + 1, hi => by
    obtain ⟨hl, ab, hb, hdc⟩ := wl_ok l1 ds h i (by omega)
    have hlt : i < ds.length := by omega
    have hv := h ds[i] (List.getElem_mem hlt)
    have htk : ds.take (i + 1) = ds.take i ++ [ds[i]] := List.take_succ_eq_append_getElem hlt
    have hg : ds.getD i ([], []) = ds[i] := by simp [List.getD, hlt]
    obtain ⟨x, hx⟩ : ∃ x, ds[i] = x := ⟨_, rfl⟩
    rw [hx] at hv htk hg
    have hL := hv.lin.len
    have hll : (line x).length = x.1.length + 2 + x.2.length := by unfold line; rw [List.length_append, List.length_append, List.length_cons, List.length_cons, List.length_nil]; omega
    obtain ⟨hp, _, hp8⟩ := pres_at _ (gapP_lt l1 i)
    obtain ⟨hm, _, hm5⟩ := mids_at _ (gapM_lt l1 i)
    rw [wl, hg]
    generalize pres.getD (gapP l1 i) ([], []) = p at hp hp8 ⊢
    generalize mids.getD (gapM l1 i) ([], []) = m at hm hm5 ⊢
    refine ⟨?_, ab ++ chunk p.2 m.2 x, ?_, ?_⟩
    · unfold chunk
      simp only [List.length_append, List.length_cons, List.length_nil]
      omega
    · intro t u htu
      rw [List.append_assoc, List.append_assoc, chunk_wide, chunk_wide]
      exact hb _ _ (wide_bare hp hm hv htu)
    · intro u
      rw [List.append_assoc, chunk_wide, hdc, wide_decls hp hm hv, htk, List.append_assoc]
      rfl
theorem StyleBack (l0 l1 : List Int) : ∃ k, true = true ∧ ∃ ds t wd, bobbinetkeep_StyleBack.Good k l0 l1 ds t wd := by
  obtain ⟨ds, ⟨K1, h1⟩, h2, h3⟩ := Decls_ev l0 12 (by decide)
  obtain ⟨K2, hT⟩ := Text_ev ds h3 (by omega)
  have hlen := text_len h3
  obtain ⟨K3, hback⟩ : Ev (fun k => bobbinetkeep_styled.f k (mk (text ds))) (ds.map mkD, true) := by
    have := styled_ev (a := mk (text ds)) (u := text ds) (Bare.free (text_47 h3)) (by rw [mk_size]; omega)
    have e : decls (text ds) = ds := by
      cases ds with
      | nil => exact decls_nil
      | cons d l => exact text_decls [] (.inl rfl) h3 (by simp)
    rwa [e] at this
  obtain ⟨K4, hsame⟩ := same_refl (ds.map mkD) (by rw [List.length_map]; omega)
  obtain ⟨K5, hag⟩ : Ev (fun k => bobbinetkeep_styled.f k (mk (wl l1 ds ds.length))) (ds.map mkD, true) := by
    obtain ⟨hl, ab, hb, hdc⟩ := wl_ok l1 ds h3 ds.length (Nat.le_refl _)
    have hb2 := hb [] [] Bare.nil
    have hd2 := hdc []
    rw [List.append_nil, List.append_nil] at hb2
    rw [List.append_nil, List.take_length, decls_nil, List.append_nil] at hd2
    have hs := styled_ev (a := mk (wl l1 ds ds.length)) hb2 (by rw [mk_size]; omega)
    rwa [hd2] at hs
  have hml : (ds.map mkD).length = ds.length := List.length_map _
  refine ⟨K1 + K2 + K3 + K4 + K5, rfl, ds.map mkD, mk (text ds), fun i => mk (wl l1 ds i), {
    dec := h1 _ (by omega)
    few := by omega
    text := hT _ (by omega)
    back := hback _ (by omega)
    w0 := rfl
    step := fun i h => ?_
    again := by rw [hml]; exact hag _ (by omega)
    same := hsame _ (by omega) }⟩
  rw [hml] at h
  have hv := h3 ds[i] (List.getElem_mem h)
  have hL := hv.lin.len
  have hll : (line ds[i]).length = ds[i].1.length + 2 + ds[i].2.length := by unfold line; rw [List.length_append, List.length_append, List.length_cons, List.length_cons, List.length_nil]; omega
  have hwl := (wl_ok l1 ds h3 i (by omega)).1
  obtain ⟨_, hp, hp8⟩ := pres_at _ (gapP_lt l1 i)
  obtain ⟨_, hm, hm5⟩ := mids_at _ (gapM_lt l1 i)
  have hg : (ds.map mkD)[i]'(by omega) = mkD ds[i] := List.getElem_map ..
  have e1 := pick_ev (gapN l1 i) 4 (by decide) (by decide)
  have e2 := pick_ev (wrap64 (Int.tdiv (gapN l1 i) 4)) 3 (by decide) (by decide)
  refine ⟨gapP l1 i, gapM l1 i, mk (pres.getD (gapP l1 i) ([], [])).1, mk (mids.getD (gapM l1 i) ([], [])).1, ?_, ?_, gapP_lt l1 i, gapM_lt l1 i, hp, hm, by rw [mk_size]; omega, by rw [mk_size]; omega, ?_, ?_, by rw [mk_size]; omega, ?_⟩
  · refine e1.trans ?_
    unfold gapP
    rw [Int.toNat_of_nonneg (by omega)]
  · refine e2.trans ?_
    unfold gapM
    rw [Int.toNat_of_nonneg (by omega)]
  · rw [hg]; show (mk ds[i].1).size ≤ _; rw [mk_size]; omega
  · rw [hg]; show (mk ds[i].2).size ≤ _; rw [mk_size]; omega
  · rw [hg]
    show mk (wl l1 ds (i + 1)) = mk (wl l1 ds i) ++ (((((mk (pres.getD (gapP l1 i) ([], [])).1 ++ mk ds[i].1) ++ mk (mids.getD (gapM l1 i) ([], [])).1) ++ (⟨#[58]⟩ : ByteArray)) ++ mk ds[i].2) ++ (⟨#[59]⟩ : ByteArray))
    rw [chunk_mk, mk_app, wl]
    have : ds.getD i ([], []) = ds[i] := by simp [List.getD, h]
    rw [this]
end Go.Proofs.YteimhgbihpbhaaaDoor.Pure
end
