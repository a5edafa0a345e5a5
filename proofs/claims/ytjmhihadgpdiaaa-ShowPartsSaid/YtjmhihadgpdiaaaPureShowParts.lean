/- ShowParts: nodes are shown one by one, and what is around them is around their text. For all numbers. -/
import Derived.Test.YtjmhihadgpdiaaaX30
import Derived.Test.YtjmhihadgpdiaaaLibShowOfX
namespace Go.Proofs.Ytjmhihadgpdiaaa.Tree
open Go.RowKit Go.Proofs.Ytjmhihadgpdiaaa.X Go.Proofs.YtjmhihadgpdiaaaW.PrintWords Go.Proofs.YtjmhihadgpdiaaaW.PrintLast Go.Proofs.Ytjmhihadgpdiaaa.Base
theorem text_ev (l : List S) (d : Nat) (bs : List ByteArray) (h1 : Ev (fun k => show_Check.f k l) 0) (hl : l.length ≤ 1000000) (h : Pieces l bs) (hz : (cat bs).size ≤ 4611686018427387904) : Ev (fun k => show_Text.f k l) (if ((cat bs).size : Int) > 600 then ((⟨#[]⟩ : ByteArray), 1) else (cat bs, 0)) := by
  simp only [show_Text.f]
  refine Ev.bnd h1 (Ev.ite_pos rfl (Ev.bnd (of_f l bs hl h hz) ?_))
  by_cases c : ((cat bs).size : Int) > 600
  · simp only [if_pos c]; exact Ev.now _
  · simp only [if_neg c]; exact Ev.now _
abbrev emB : ByteArray := (⟨#[101, 109]⟩ : ByteArray)
abbrev emN (ns : List S) : S := ⟨emB, ([] : List S63), (⟨#[]⟩ : ByteArray), ns⟩
theorem em_mem : emB ∈ elems := by simp [elems]
theorem fault_em (ns : List S) (d : Nat) (h : Ok d ns) (hd : d ≤ 9) : Ev (fun k => show_fault.f k [emN ns] 0) 0 := by
  refine Ev.succ ?_
  simp only [show_fault.f]
  refine Ev.succ ?_
  simp only [show_fault.l0, rd_zero]
  refine Ev.ite_pos (by simp) (Ev.ite_pos (by simp) (Ev.ite_pos (by simp) (Ev.ite_neg (by simp) ?_)))
  refine Ev.ite_neg (tl_ne (elem_ne _ (.inl em_mem))) (Ev.bnd0 (name_ok _ (.inl em_mem)) (Ev.ite_pos rfl ?_))
  refine Ev.bnd (attrs_ok _ (.inl rfl)) (Ev.ite_pos rfl (Ev.ite_pos (tl_eq rfl) (Ev.bnd (void_no _ em_mem) (Ev.ite_neg (by simp) (Ev.bnd (shut_no _ (.inl em_mem)) (Ev.succ ?_))))))
  simp only [show_fault.j1]
  have hw3 : wrap64 ((0 : Int) + 1) = ((1 : Nat) : Int) := wrap_id (i := 0 + 1) (by omega) (by omega)
  have hw4 : wrap64 ((0 : Int) + 1) = 1 := hw3
  refine Ev.ite_neg (by simp) (Ev.bnd (a := 0) ?_ (Ev.ite_pos rfl ?_))
  · rw [hw3]; exact fault_ev d ns 1 h (by omega) (by omega)
  · rw [hw4]
    refine Ev.succ ?_
    simp only [show_fault.l0]
    exact Ev.ite_neg (by simp) (Ev.now _)
theorem check_em (ns : List S) (d : Nat) (h : Ok d ns) (hd : d ≤ 9) (hc : cnt ns ≤ 149) : Ev (fun k => show_Check.f k [emN ns]) 0 := by
  have e : cnt [emN ns] = 1 + cnt ns := by rw [cnt_cons, cnt_nil]; rfl
  obtain ⟨dp, _, h2⟩ := count_ev [emN ns] (by omega)
  simp only [show_Check.f]
  refine Ev.bnd (fault_em ns d h hd) (Ev.ite_pos rfl (Ev.bnd h2 (Ev.ite_neg ?_ (Ev.now _))))
  simp only
  omega
theorem tag_em : Ev (fun k => emit_Tag.f k emB [] false) (⟨#[60, 101, 109, 62]⟩ : ByteArray) := Ev.of_mono (emit_Tag.mono _ _ _) 4 (by decide +kernel)
theorem text_br : Ev (fun k => show_Text.f k [(⟨(⟨#[98, 114]⟩ : ByteArray), ([] : List S63), (⟨#[]⟩ : ByteArray), ([] : List S)⟩ : S)]) ((⟨#[60, 98, 114, 62]⟩ : ByteArray), 0) := by
  have g : Good 1 1 [(⟨(⟨#[98, 114]⟩ : ByteArray), ([] : List S63), (⟨#[]⟩ : ByteArray), ([] : List S)⟩ : S)] := Good.void (l := []) (Good.none _ _) (by simp) (by simp [voids])
  have hc : cnt [(⟨(⟨#[98, 114]⟩ : ByteArray), ([] : List S63), (⟨#[]⟩ : ByteArray), ([] : List S)⟩ : S)] ≤ 150 := by rw [cnt_cons, cnt_nil]; omega
  have tg : Ev (fun k => emit_Tag.f k (⟨#[98, 114]⟩ : ByteArray) [] false) (⟨#[60, 98, 114, 62]⟩ : ByteArray) := Ev.of_mono (emit_Tag.mono _ _ _) 4 (by decide +kernel)
  have p : Pieces [(⟨(⟨#[98, 114]⟩ : ByteArray), ([] : List S63), (⟨#[]⟩ : ByteArray), ([] : List S)⟩ : S)] [(⟨#[60, 98, 114, 62]⟩ : ByteArray)] := .cons (.void (elem_ne _ (.inr (by simp [voids]))) (void_yes _ (by simp [voids])) tg) .nil
  have e : cat [(⟨#[60, 98, 114, 62]⟩ : ByteArray)] = (⟨#[60, 98, 114, 62]⟩ : ByteArray) := by simp only [cat]; exact B_app_nil _
  have := text_ev _ 1 _ (check_ev _ 1 (g.ok (by omega)) (by omega) hc) (by simp) p (by rw [e]; decide)
  rw [e, if_neg (by decide)] at this
  exact this
theorem many3 : many 3 = 21 := rfl
theorem em_pieces (ns : List S) (bs : List ByteArray) (hl : ns.length ≤ 1000000) (h : Pieces ns bs) (hz : (cat bs).size ≤ 4611686018427387904) : Pieces [emN ns] [((((⟨#[60, 101, 109, 62]⟩ : ByteArray) ++ cat bs) ++ (⟨#[60, 47]⟩ : ByteArray)) ++ emB) ++ (⟨#[62]⟩ : ByteArray)] :=
  .cons (.elem _ _ (elem_ne _ (.inl em_mem)) (void_no _ em_mem) tag_em (of_f ns bs hl h hz) rfl) .nil
theorem em_text (b : ByteArray) : cat [((((⟨#[60, 101, 109, 62]⟩ : ByteArray) ++ b) ++ (⟨#[60, 47]⟩ : ByteArray)) ++ emB) ++ (⟨#[62]⟩ : ByteArray)] = ((⟨#[60, 101, 109, 62]⟩ : ByteArray) ++ b) ++ (⟨#[60, 47, 101, 109, 62]⟩ : ByteArray) := by
  simp only [cat]
  rw [B_app_nil, ByteArray.append_assoc, ByteArray.append_assoc]
  rfl
end Go.Proofs.Ytjmhihadgpdiaaa.Tree
namespace Go.Proofs.Ytjmhihadgpdiaaa.Pure
open Go.RowKit Go.Proofs.Ytjmhihadgpdiaaa.X Go.Proofs.YtjmhihadgpdiaaaW.PrintWords Go.Proofs.YtjmhihadgpdiaaaW.PrintLast Go.Proofs.Ytjmhihadgpdiaaa.Base Go.Proofs.Ytjmhihadgpdiaaa.Tree
theorem ShowParts : bobbinetkeep_ShowParts.Pure := by
  intro l c _ h1 _ _
  obtain ⟨t, rest, e2, hg⟩ := nodes_f l (by omega) 3 6 (by omega) (by omega)
  have hok : Ok 3 t := hg.ok (by omega)
  have hlen := hg.len
  have hcnt : cnt t ≤ 149 := by
    have h2 := hg.cnt
    have h3 : t.length * many 3 ≤ 6 * 21 := Nat.mul_le_mul hlen (by decide)
    omega
  obtain ⟨bs, hp, hz⟩ := pieces_ex 3 t hok (by omega)
  have hz : (cat bs).size ≤ 10000000 := by
    have h3 : t.length * pw 3 ≤ 6 * 1000000 := Nat.mul_le_mul hlen (by decide)
    omega
  have c0 := Int.emod_nonneg c (show ((t.length : Int) + 1) ≠ 0 by omega)
  have c1 := Int.emod_lt_of_pos c (show (0 : Int) < (t.length : Int) + 1 by omega)
  have hw : wrap64 ((t.length : Int) + 1) = (t.length : Int) + 1 := wrap_id (by omega) (by omega)
  obtain ⟨K, hK⟩ : ∃ K : Nat, c % ((t.length : Int) + 1) = (K : Int) := ⟨_, (Int.toNat_of_nonneg c0).symm⟩
  have hKt : (K : Int).toNat = K := by simp
  have hsplit : t = t.take K ++ t.drop K := (List.take_append_drop K t).symm
  obtain ⟨x, y, hxy, px, py⟩ := hp.split _ _ hsplit
  have hcat : cat bs = cat x ++ cat y := by rw [hxy, cat_app]
  have hsz : (cat bs).size = (cat x).size + (cat y).size := by rw [hcat, ByteArray.size_append]
  have okx : Ok 3 (t.take K) := Ok.take (b := t.drop K) (by rw [← hsplit]; exact hok)
  have oky : Ok 3 (t.drop K) := Ok.drop (a := t.take K) (by rw [← hsplit]; exact hok)
  have hcc : cnt t = cnt (t.take K) + cnt (t.drop K) := by rw [← cnt_app, ← hsplit]
  have lx : (t.take K).length ≤ 6 := by rw [List.length_take]; omega
  have ly : (t.drop K).length ≤ 6 := by rw [List.length_drop]; omega
  have et := text_ev t 3 bs (check_ev t 3 hok (by omega) (by omega)) (by omega) hp (by omega)
  have ex := text_ev (t.take K) 3 x (check_ev _ 3 okx (by omega) (by omega)) (by omega) px (by omega)
  have ey := text_ev (t.drop K) 3 y (check_ev _ 3 oky (by omega) (by omega)) (by omega) py (by omega)
  have hes := congrArg ByteArray.size (em_text (cat bs))
  have s1 : (⟨#[60, 101, 109, 62]⟩ : ByteArray).size = 4 := rfl
  have s2 : (⟨#[60, 47, 101, 109, 62]⟩ : ByteArray).size = 5 := rfl
  rw [ByteArray.size_append (a := (⟨#[60, 101, 109, 62]⟩ : ByteArray) ++ cat bs), ByteArray.size_append, s1, s2] at hes
  have ee := text_ev [emN t] 3 _ (check_em t 3 hok (by omega) hcnt) (by simp) (em_pieces t bs (by omega) hp (by omega)) (by omega)
  refine Ev.rounds ?_
  simp only [bobbinetkeep_ShowParts.f, List.nil_append]
  refine Ev.bnd e2 ?_
  simp only [hw]
  refine Ev.bnd0 (picked_f c _ (by omega) (by omega)) ?_
  rw [hK]
  simp only [hKt]
  have eb := text_br
  have ck := check_ev t 3 hok (by omega) (by omega)
  refine Ev.ite_pos (by simp; omega) (Ev.bnd et (Ev.ite_pos (by omega) (Ev.ite_pos (by omega) (Ev.bnd0 rfl (Ev.ite_pos (by simp; omega) (Ev.bnd ex (Ev.bnd0 rfl (Ev.ite_pos (by simp; omega) (Ev.bnd ey (Ev.bnd ee (Ev.bnd eb ?_)))))))))))
  by_cases g1 : ((cat bs).size : Int) > 600
  · rw [if_pos g1]
    exact Ev.ite_pos rfl (Ev.bnd ck (Ev.now _))
  · rw [if_neg g1]
    refine Ev.ite_neg (by simp) ?_
    rw [em_text] at *
    by_cases g2 : (((((⟨#[60, 101, 109, 62]⟩ : ByteArray) ++ cat bs) ++ (⟨#[60, 47, 101, 109, 62]⟩ : ByteArray)).size : Nat) : Int) > 600
    · rw [if_pos g2]
      exact Ev.ite_pos rfl (Ev.bnd ck (Ev.now _))
    · rw [if_neg g2]
      rw [if_neg (show ¬ ((cat x).size : Int) > 600 by omega), if_neg (show ¬ ((cat y).size : Int) > 600 by omega)]
      refine Ev.ite_neg (by simp) (Ev.ite_pos rfl (Ev.ite_pos rfl (Ev.ite_pos rfl (Ev.ite_pos rfl (Ev.ite_pos rfl (Ev.ite_pos (by show (⟨#[60, 98, 114, 62]⟩ : ByteArray).toList = _; rw [toList_eq]) (Ev.ite_pos ?_ (Ev.ite_pos ?_ (Ev.ite_pos ?_ (Ev.ite_pos ?_ ?_))))))))))
      · simp only; omega
      · simp only [hcat]
      · simp only; omega
      · simp only [ByteArray.size_append, s1]; omega
      · simp only [beq_self_eq_true]
        exact Ev.now _
end Go.Proofs.Ytjmhihadgpdiaaa.Pure
