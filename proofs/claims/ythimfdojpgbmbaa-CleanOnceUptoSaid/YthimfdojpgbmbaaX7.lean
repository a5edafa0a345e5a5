-- Written by xprint.py (a program of this repo) for seat Ythimfdojpgbmbaa.
import Derived.Test.YthimfdojpgbmbaaX0
namespace Go.Proofs.Ythimfdojpgbmbaa.X
open Go.RowKit Go.Proofs.YthimfdojpgbmbaaW.PrintWords Go.Proofs.YthimfdojpgbmbaaW.PrintLast Go.Proofs.YthimfdojpgbmbaaW.PrintMore
attribute [local go_sem] max2_int min2_int max_two min_two max_three min_three max_four min_four   -- for this text's walks alone
set_option linter.unusedVariables false
set_option linter.unusedSimpArgs false

/-! ### utf_Runes: function 14 -/
def utf_Runes.go (s : ByteArray) : Nat → Nat → List Int
  | 0, _ => []
  | fuel + 1, pos => if pos < s.size then ((Utf8.decode s pos).1 : Int) :: utf_Runes.go s fuel (pos + (Utf8.decode s pos).2) else []
def utf_Runes.f (a0 : ByteArray) : Option (List Int) := if (utf_Runes.go a0 a0.size 0).length ≤ 17592186044416 then some (utf_Runes.go a0 a0.size 0) else none
theorem utf_Runes.width_pos (s : ByteArray) (pos : Nat) (h : pos < s.size) : 1 ≤ (Utf8.decode s pos).2 := by
  by_cases ha : (s[pos]'h).toNat < 128
  · rw [decode_ascii s pos h ha]
    exact Nat.le_refl _
  · exact (decode_high s pos h (by omega)).2
theorem utf_Runes.iterPos_of {w : World} {k : Nat} {s : ByteArray} {p : Nat} (h : w.heap[k]? = some (.stringIter s p)) : w.iterPos k = p := by simp [World.iterPos, h]
theorem utf_Runes.R_iter {α : Type} {d : Kd α} {e : Nat} {wr : World} {base : Nat} {ok : Nat → Prop} {v : Value} {xs : List α} (h : d.R e wr base ok v xs) {k : Nat} (hk : k < base) (s : ByteArray) (p : Nat) : d.R e (wr.iterAt k s p) base ok v xs :=
  Kd.R_mono (Kd.R_step (Kd.R_bound h) (fun j hj _ => Lib.iterAt_other _ _ _ _ _ (by have := hj.2.1; omega))) (fun _ h => h.1)
theorem utf_Runes.go_end (s : ByteArray) (fuel pos : Nat) (h : ¬ pos < s.size) : utf_Runes.go s fuel pos = [] := by
  cases fuel with
  | zero => rfl
  | succ f => simp [utf_Runes.go, h]
set_option maxHeartbeats 4000000 in
set_option maxRecDepth 100000 in
theorem utf_Runes.calls (a0 : ByteArray) (r : List Int) (w : World) (h : utf_Runes.f a0 = some r) :
    Calls Try.prog 14 #[.string a0] w fun e w' => ∃ v0_ : Value, e = .returned (v0_) ∧ Kd.R (Kd.int .i64) 3 w' w.heap.size (fun _ => True) v0_ r ∧ Below w.heap.size w w' := by
  have hl : r.length ≤ 17592186044416 ∧ utf_Runes.go a0 a0.size 0 = r := by
    unfold utf_Runes.f at h
    split at h
    · cases h; exact ⟨by assumption, rfl⟩
    · cases h
  obtain ⟨hl, hr⟩ := hl
  have HL := Aside0.mk hl
  have HR := Aside0.mk hr
  clear h hl hr
  go_enter Try.func14, Try.ntmps14
  go_wp2
  go_loopw [3] (fun v wr => ∃ (pos fuel : Nat) (acc : List Int), wr.heap[w.heap.size]? = some (.stringIter a0 pos) ∧ Aside0 (Kd.R (Kd.int .i64) 3 wr (w.heap.size + 1) (fun _ => True) v acc) ∧ Aside0 (Below w.heap.size w wr) ∧ Aside0 (acc ++ utf_Runes.go a0 fuel pos = r) ∧ a0.size ≤ pos + fuel) (fun _ wr => a0.size - wr.iterPos w.heap.size)
  case atStart => exact ⟨0, a0.size, [], World.iter_heap w a0 0, ⟨Kd.R_nil _ _ _ _ _⟩, ⟨(Below.refl _ _).alloc (Nat.le_refl _) _⟩, ⟨by simpa using HR.out⟩, by omega⟩
  case round =>
    obtain ⟨pos, fuel, acc, hit, HO, HB, HS, hf⟩ := hrel
    have hpos0 := utf_Runes.iterPos_of hit
    by_cases hp : pos < a0.size
    · have hnx : ∀ ty, (Instr.next (.pointer (some ⟨w.heap.size, 0, none⟩)) true ty).run Try.prog wr = _ := fun ty => Lib.run_next_any_at wr w.heap.size a0 pos ty hit hp
      have hwd := utf_Runes.width_pos a0 pos hp
      obtain ⟨fuel, rfl⟩ : ∃ f', fuel = f' + 1 := ⟨fuel - 1, by omega⟩
      have hit2 := Lib.iterAt_heap wr w.heap.size a0 pos (pos + (Utf8.decode a0 pos).2) hit
      have HB2 := Aside0.mk (Lib.below_iterAt HB.out (k := w.heap.size) (Nat.le_refl _) a0 (pos + (Utf8.decode a0 pos).2))
      have HO2 := Aside0.mk (utf_Runes.R_iter HO.out (k := w.heap.size) (by omega) a0 (pos + (Utf8.decode a0 pos).2))
      have HS2 : Aside0 ((acc ++ [((Utf8.decode a0 pos).1 : Int)]) ++ utf_Runes.go a0 fuel (pos + (Utf8.decode a0 pos).2) = r) := ⟨by rw [← HS.out]; simp [utf_Runes.go, hp]⟩
      have HN : Aside0 (acc.length < 17592186044416) := ⟨by have h1 := HL.out; rw [← HS2.out] at h1; simp at h1; omega⟩
      obtain ⟨W1, hW1⟩ : ∃ W1, W1 = wr.iterAt w.heap.size a0 (pos + (Utf8.decode a0 pos).2) := ⟨_, rfl⟩
      rw [← hW1] at hnx hit2 HB2 HO2
      have hlt := blk_lt hit2
      have hle := decode_le a0 pos
      clear hW1 hit HO HB HS
      go_wp2_with (first | (at_builtin; refine Kd.R_append (Kd.int .i64) (w0 := W1) (w.heap.size + 1) rfl (.tmp 11) (.tmp 14) 22 3 (.int .i64 0) 8 rfl Try.underlying22 info3 rfl (by decide) (by omega) u3 acc ((Utf8.decode a0 pos).1 : Int) [.int .i64 ((Utf8.decode a0 pos).1 : Int)] (fun _ => True) (fun _ => False) rfl rfl ?aP (fun _ hk => hk.elim) (fun _ _ => trivial) ?aO ?aB ?aS ?aL ?_; (case aP => exact rfl); (case aB => exact (Below.refl _ _)); (case aO => exact HO2.out); (case aS => omega); (case aL => have := HN.out; omega); intro v1 w2 ho hb hg hat; have hit3 : w2.heap[w.heap.size]? = some (.stringIter a0 (pos + (Utf8.decode a0 pos).2)) := blk_grown hit2 hg (fun he => by have := Kd.R_base HO2.out _ he.symm; omega); have X := Aside0.mk (And.intro ho (And.intro (HB2.out.trans (hb.mono (Nat.le_succ _))) hit3)); clear ho hb hg hat hit3))
      go_roundw
      case rel => exact ⟨_, fuel, _, X.out.2.2, ⟨X.out.1⟩, ⟨X.out.2.1⟩, HS2, by omega⟩
      case measure => rw [utf_Runes.iterPos_of X.out.2.2, hpos0]; omega
    · have hnx : ∀ ty, (Instr.next (.pointer (some ⟨w.heap.size, 0, none⟩)) true ty).run Try.prog wr = _ := fun ty => Lib.run_next_end_at wr w.heap.size a0 pos ty hit hp
      have HE : Aside0 (acc = r) := ⟨by rw [← HS.out, utf_Runes.go_end a0 fuel pos hp, List.append_nil]⟩
      go_wp2
      go_ret
      exact ⟨_, rfl, Kd.R_lower (by rw [← HE.out]; exact HO.out) (Nat.le_succ _), HB.out⟩

end Go.Proofs.Ythimfdojpgbmbaa.X
