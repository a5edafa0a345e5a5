/- words: all texts, one behind the other. -/
import Derived.Test.YthimfdojpgbmbaaX22
import Derived.Test.YthimfdojpgbmbaaLibTreeX
namespace Go.Proofs.Ythimfdojpgbmbaa.Tree
open Go.RowKit Go.Proofs.Ythimfdojpgbmbaa.X Go.Proofs.YthimfdojpgbmbaaW.PrintWords Go.Proofs.YthimfdojpgbmbaaW.PrintLast Go.Proofs.Ythimfdojpgbmbaa.Base
def wB : List S → ByteArray
  | [] => (⟨#[]⟩ : ByteArray)
  | n :: l => (n.f2 ++ wB n.f3) ++ wB l
termination_by l => SizeOf.sizeOf l
decreasing_by all_goals (cases n; simp; omega)
theorem wB_nil : wB [] = (⟨#[]⟩ : ByteArray) := by rw [wB]
theorem wB_cons (n : S) (l : List S) : wB (n :: l) = (n.f2 ++ wB n.f3) ++ wB l := by rw [wB]
theorem wB_app (a b : List S) : wB (a ++ b) = wB a ++ wB b := by
  induction a with
  | nil => rw [List.nil_append, wB_nil, B_nil_app]
  | cons n a ih => rw [List.cons_append, wB_cons, wB_cons, ih]; simp only [ByteArray.append_assoc]
theorem wB_size (l : List S) : (wB l).size ≤ tot l := by
  induction l using ind with
  | h0 => rw [wB_nil]; exact Nat.zero_le _
  | h1 n l ih1 ih2 =>
    rw [wB_cons, tot_cons, ByteArray.size_append, ByteArray.size_append]
    omega
theorem words_l0 : ∀ (suf pre : List S) (acc : ByteArray), tot (pre ++ suf) ≤ 1099511627776 → acc.size ≤ tot pre → (∀ n ∈ suf, Ev (fun k => bobbinetkeep_words.f k n.f3) (wB n.f3)) → Ev (fun k => bobbinetkeep_words.l0 k (pre ++ suf) acc (pre.length : Int)) (acc ++ wB suf)
  | [], pre, acc, ht, ha, h => by
    refine Ev.succ ?_
    simp only [bobbinetkeep_words.l0, List.append_nil, wB_nil, B_app_nil]
    exact Ev.ite_neg (by omega) (Ev.now _)
  | n :: suf, pre, acc, ht, ha, h => by
    have h1 := tot_len (pre ++ n :: suf)
    have h2 := tot_mem (show n ∈ pre ++ n :: suf by simp)
    have h3 : (pre ++ n :: suf).length = pre.length + suf.length + 1 := by simp; omega
    have h4 := wB_size n.f3
    have h5 := tot_app pre (n :: suf)
    have h6 := tot_cons n suf
    have ih := words_l0 suf (pre ++ [n]) (acc ++ (n.f2 ++ wB n.f3)) (by simpa using ht) (by rw [tot_app, tot_cons, tot_nil, ByteArray.size_append, ByteArray.size_append]; omega) (fun m hm => h m (List.mem_cons_of_mem _ hm))
    refine Ev.succ ?_
    simp only [bobbinetkeep_words.l0]
    rw [rd_mid, wrap_pre pre n suf (by omega)]
    refine Ev.ite_pos (by omega) (Ev.ite_pos (by omega) (Ev.bnd (h n List.mem_cons_self) (Ev.ite_pos (by omega) (Ev.ite_pos (by rw [ByteArray.size_append]; omega) ?_))))
    rw [wB_cons]
    simp only [ByteArray.append_assoc] at ih ⊢
    simpa using ih
theorem words_f (l : List S) : tot l ≤ 1099511627776 → Ev (fun k => bobbinetkeep_words.f k l) (wB l) := by
  induction l using ind2 with
  | h l ih =>
    intro ht
    refine Ev.succ ?_
    simp only [bobbinetkeep_words.f]
    have := words_l0 l [] (⟨#[]⟩ : ByteArray) ht (Nat.zero_le _) (fun n hn => ih n hn (by have := tot_mem hn; omega))
    rw [B_nil_app] at this
    exact this
end Go.Proofs.Ythimfdojpgbmbaa.Tree
