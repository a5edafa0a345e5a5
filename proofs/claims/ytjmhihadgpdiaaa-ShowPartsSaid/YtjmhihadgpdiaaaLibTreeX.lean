/- Trees of nodes: induction, how great they are; plain tools. -/
import Derived.Test.YtjmhihadgpdiaaaX0
import Derived.Test.YtjmhihadgpdiaaaLibBase
namespace Go.Proofs.Ytjmhihadgpdiaaa.Tree
open Go.RowKit Go.Proofs.Ytjmhihadgpdiaaa.X Go.Proofs.YtjmhihadgpdiaaaW.PrintWords Go.Proofs.YtjmhihadgpdiaaaW.PrintLast Go.Proofs.Ytjmhihadgpdiaaa.Base
abbrev S := S53
theorem ind {P : List S → Prop} (h0 : P []) (h1 : ∀ n l, P n.f3 → P l → P (n :: l)) : ∀ l, P l
  | [] => h0
  | n :: l => h1 n l (ind h0 h1 n.f3) (ind h0 h1 l)
termination_by l => SizeOf.sizeOf l
decreasing_by all_goals (cases n; simp; omega)
/-- nodes, attributes and bytes of texts, all together -/
def tot : List S → Nat
  | [] => 0
  | n :: l => 1 + n.f1.length + n.f2.size + tot n.f3 + tot l
termination_by l => SizeOf.sizeOf l
decreasing_by all_goals (cases n; simp; omega)
theorem tot_nil : tot [] = 0 := by rw [tot]
theorem tot_cons (n : S) (l : List S) : tot (n :: l) = 1 + n.f1.length + n.f2.size + tot n.f3 + tot l := by rw [tot]
theorem tot_app (a b : List S) : tot (a ++ b) = tot a + tot b := by
  induction a with
  | nil => simp [tot_nil]
  | cons n a ih => rw [List.cons_append, tot_cons, tot_cons, ih]; omega
theorem tot_len : ∀ l : List S, l.length ≤ tot l
  | [] => by simp
  | n :: l => by have := tot_len l; rw [tot_cons]; simp; omega
theorem Ev.succ {α : Type} {g : Nat → Option α} {r : α} (h : Ev (fun k => g (k + 1)) r) : Ev g r := Ev.one (f := fun k => g (k + 1)) (fun _ => rfl) h
theorem rd_mid (pre : List S) (d : S) (suf : List S) : rd_T53 (pre ++ d :: suf) (pre.length : Int) = d := by
  simp [rd_T53, List.getD]
theorem rd_zero (d : S) (suf : List S) : rd_T53 (d :: suf) 0 = d := rfl
theorem rdI_zero (d : Int) (suf : List Int) : rd (d :: suf) 0 = d := rfl
theorem rdOf_mem {α : Type} (d : α) (l : List α) (i : Int) (h0 : 0 ≤ i) (h1 : i < l.length) : rdOf d l i ∈ l := by
  have : i.toNat < l.length := by omega
  simp [rdOf, List.getD, this]
theorem B_nil_app (b : ByteArray) : (⟨#[]⟩ : ByteArray) ++ b = b := ByteArray.empty_append
theorem B_app_nil (b : ByteArray) : b ++ (⟨#[]⟩ : ByteArray) = b := ByteArray.append_empty
theorem ind2 {P : List S → Prop} (h : ∀ l, (∀ n ∈ l, P n.f3) → P l) (l : List S) : P l := by
  have : ∀ n ∈ l, P n.f3 := by
    induction l using ind with
    | h0 => simp
    | h1 n l ih1 ih2 =>
      intro m hm
      rcases List.mem_cons.1 hm with rfl | hm
      · exact h _ ih1
      · exact ih2 m hm
  exact h l this
theorem tot_mem {n : S} : ∀ {l : List S}, n ∈ l → 1 + n.f1.length + n.f2.size + tot n.f3 ≤ tot l
  | m :: l, h => by
    rw [tot_cons]
    rcases List.mem_cons.1 h with rfl | h
    · omega
    · have := tot_mem h; omega
theorem wrap_pre (pre : List S) (n : S) (suf : List S) (h : tot (pre ++ n :: suf) ≤ 4611686018427387904) : wrap64 ((pre.length : Int) + 1) = ((pre ++ [n]).length : Int) := by
  have h1 := tot_len (pre ++ n :: suf)
  simp at h1
  rw [wrap_id (by omega) (by omega)]
  simp
end Go.Proofs.Ytjmhihadgpdiaaa.Tree
