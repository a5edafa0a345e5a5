/- copiedNodes: the nodes themselves. -/
import Derived.Test.YthimfdojpgbmbaaX18
import Derived.Test.YthimfdojpgbmbaaLibTreeX
namespace Go.Proofs.Ythimfdojpgbmbaa.Tree
open Go.RowKit Go.Proofs.Ythimfdojpgbmbaa.X Go.Proofs.YthimfdojpgbmbaaW.PrintWords Go.Proofs.YthimfdojpgbmbaaW.PrintLast Go.Proofs.Ythimfdojpgbmbaa.Base
theorem copied_l0 : ∀ (suf pre acc : List S), tot (pre ++ suf) ≤ 1099511627776 → acc.length = pre.length → (∀ n ∈ suf, Ev (fun k => bobbinetkeep_copiedNodes.f k n.f3) n.f3) → Ev (fun k => bobbinetkeep_copiedNodes.l0 k (pre ++ suf) acc (pre.length : Int)) (acc ++ suf)
  | [], pre, acc, ht, ha, h => by
    refine Ev.succ ?_
    simp only [bobbinetkeep_copiedNodes.l0, List.append_nil]
    exact Ev.ite_neg (by omega) (Ev.now _)
  | n :: suf, pre, acc, ht, ha, h => by
    have h1 := tot_len (pre ++ n :: suf)
    have h2 := tot_mem (show n ∈ pre ++ n :: suf by simp)
    have h3 : (pre ++ n :: suf).length = pre.length + suf.length + 1 := by simp; omega
    have ih := copied_l0 suf (pre ++ [n]) (acc ++ [n]) (by simpa using ht) (by simp [ha]) (fun m hm => h m (List.mem_cons_of_mem _ hm))
    refine Ev.succ ?_
    simp only [bobbinetkeep_copiedNodes.l0]
    rw [rd_mid, wrap_pre pre n suf (by omega)]
    refine Ev.ite_pos (by omega) (Ev.ite_pos (by omega) (Ev.ite_pos (by simp; omega) (Ev.bnd (h n List.mem_cons_self) (Ev.ite_pos (by omega) ?_))))
    obtain ⟨n0, n1, n2, n3⟩ := n
    simpa using ih
theorem copied_f (l : List S) : tot l ≤ 1099511627776 → Ev (fun k => bobbinetkeep_copiedNodes.f k l) l := by
  induction l using ind2 with
  | h l ih =>
    intro ht
    refine Ev.succ ?_
    simp only [bobbinetkeep_copiedNodes.f]
    exact copied_l0 l [] [] ht rfl (fun n hn => ih n hn (by have := tot_mem hn; omega))
end Go.Proofs.Ythimfdojpgbmbaa.Tree
