-- Written by xprint.py (a program of this repo) for seat Ythimfdojpgbmbaa.
import Derived.Test.YthimfdojpgbmbaaX0
import Derived.Test.YthimfdojpgbmbaaX3
namespace Go.Proofs.Ythimfdojpgbmbaa.X
open Go.RowKit Go.Proofs.YthimfdojpgbmbaaW.PrintWords Go.Proofs.YthimfdojpgbmbaaW.PrintLast Go.Proofs.YthimfdojpgbmbaaW.PrintMore
attribute [local go_sem] max2_int min2_int max_two min_two max_three min_three max_four min_four   -- for this text's walks alone
set_option linter.unusedVariables false
set_option linter.unusedSimpArgs false

/-! ### utf_Clean: function 16 -/
def utf_Clean.go (k : Nat) (s : ByteArray) : Nat → Nat → List Int → Option (List Int)
  | 0, _, acc => some acc
  | fuel + 1, pos, acc => if pos < s.size then
      (if (Utf8.decode s pos).1 = 0 then (utf8_AppendRune.f k acc 65533).bind fun t => utf_Clean.go k s fuel (pos + (Utf8.decode s pos).2) t
       else if (Utf8.decode s pos).1 = 13 ∧ pos + 1 < s.size ∧ bt s ((pos : Int) + 1) = 10 then utf_Clean.go k s fuel (pos + (Utf8.decode s pos).2) acc
       else (utf8_AppendRune.f k acc (if (Utf8.decode s pos).1 = 13 then 10 else ((Utf8.decode s pos).1 : Int))).bind fun t => utf_Clean.go k s fuel (pos + (Utf8.decode s pos).2) t)
    else some acc
def utf_Clean.f (k : Nat) (a0 : ByteArray) : Option ByteArray := if a0.size < 9223372036854775807 then (utf_Clean.go k a0 a0.size 0 []).bind fun l => some (strOfNums l) else none
theorem utf_Clean.go_mono (s : ByteArray) (k : Nat) : ∀ fuel pos acc, LeO (utf_Clean.go k s fuel pos acc) (utf_Clean.go (k + 1) s fuel pos acc)
  | 0, pos, acc => LeO.refl _
  | fuel + 1, pos, acc => by
      unfold utf_Clean.go
      refine LeO.ite (LeO.ite (LeO.bind (utf8_AppendRune.mono _ _ _) (fun t => utf_Clean.go_mono s k fuel _ t)) (LeO.ite (utf_Clean.go_mono s k fuel _ _) (LeO.bind (utf8_AppendRune.mono _ _ _) (fun t => utf_Clean.go_mono s k fuel _ t)))) (LeO.refl _)
theorem utf_Clean.mono : ∀ a0 k, LeO (utf_Clean.f k a0) (utf_Clean.f (k + 1) a0) := by
  intro a0 k
  unfold utf_Clean.f
  exact LeO.ite (LeO.bind (utf_Clean.go_mono _ _ _ _ _) (fun _ => LeO.refl _)) (LeO.refl _)
theorem utf_Clean.width_pos (s : ByteArray) (pos : Nat) (h : pos < s.size) : 1 ≤ (Utf8.decode s pos).2 := by
  by_cases ha : (s[pos]'h).toNat < 128
  · rw [decode_ascii s pos h ha]
    exact Nat.le_refl _
  · exact (decode_high s pos h (by omega)).2
theorem utf_Clean.iterPos_of {w : World} {k : Nat} {s : ByteArray} {p : Nat} (h : w.heap[k]? = some (.stringIter s p)) : w.iterPos k = p := by simp [World.iterPos, h]
theorem utf_Clean.R_iter {α : Type} {d : Kd α} {e : Nat} {wr : World} {base : Nat} {v : Value} {xs : List α} {k : Nat} (h : d.R e wr base (fun j => j ≠ k) v xs) (s : ByteArray) (p : Nat) : d.R e (wr.iterAt k s p) base (fun j => j ≠ k) v xs :=
  Kd.R_step h (fun j hj _ => Lib.iterAt_other _ _ _ _ _ hj)
theorem utf_Clean.go_end (k : Nat) (s : ByteArray) (fuel pos : Nat) (acc : List Int) (h : ¬ pos < s.size) : utf_Clean.go k s fuel pos acc = some acc := by
  cases fuel with
  | zero => rfl
  | succ f => simp [utf_Clean.go, h]
set_option maxHeartbeats 4000000 in
set_option maxRecDepth 100000 in
theorem utf_Clean.calls (k : Nat) (a0 : ByteArray) (r : ByteArray) (w : World) (h : utf_Clean.f k a0 = some r) :
    Calls Try.prog 16 #[.string a0] w fun e w' => e = .returned (.string r) ∧ Below w.heap.size w w' := by
  have hr : ∃ l, utf_Clean.go k a0 a0.size 0 [] = some l ∧ strOfNums l = r ∧ a0.size < 9223372036854775807 := by
    unfold utf_Clean.f at h
    split at h
    · obtain ⟨l, h1, h2⟩ := Option.bind_eq_some_iff.mp h
      exact ⟨l, h1, by simpa using h2, by assumption⟩
    · cases h
  obtain ⟨l, hr, hl, hsz⟩ := hr
  subst hl
  have HR := Aside0.mk hr
  have HZ := Aside0.mk hsz
  clear h hr hsz
  go_enter Try.func16, Try.ntmps16
  go_wp2
  go_loopw [3] (fun v wr => ∃ (pos fuel : Nat) (acc : List Int), wr.heap[w.heap.size]? = some (.stringIter a0 pos) ∧ Aside0 (Kd.R (Kd.int .u8) 5 wr w.heap.size (fun j => j ≠ w.heap.size) v acc) ∧ Aside0 (Below w.heap.size w wr) ∧ Aside0 (utf_Clean.go k a0 fuel pos acc = some l) ∧ a0.size ≤ pos + fuel) (fun _ wr => a0.size - wr.iterPos w.heap.size)
  case atStart => exact ⟨0, a0.size, [], World.iter_heap w a0 0, ⟨Kd.R_nil _ _ _ _ _⟩, ⟨(Below.refl _ _).alloc (Nat.le_refl _) _⟩, HR, by omega⟩
  case round =>
    obtain ⟨pos, fuel, acc, hit, HO, HB, HS, hf⟩ := hrel
    have hpos0 := utf_Clean.iterPos_of hit
    by_cases hp : pos < a0.size
    · have hnx : ∀ ty, (Instr.next (.pointer (some ⟨w.heap.size, 0, none⟩)) true ty).run Try.prog wr = _ := fun ty => Lib.run_next_any_at wr w.heap.size a0 pos ty hit hp
      have hwd := utf_Clean.width_pos a0 pos hp
      obtain ⟨fuel, rfl⟩ : ∃ f', fuel = f' + 1 := ⟨fuel - 1, by omega⟩
      have hit2 := Lib.iterAt_heap wr w.heap.size a0 pos (pos + (Utf8.decode a0 pos).2) hit
      have HB2 := Aside0.mk (Lib.below_iterAt HB.out (k := w.heap.size) (Nat.le_refl _) a0 (pos + (Utf8.decode a0 pos).2))
      have HO2 := Aside0.mk (utf_Clean.R_iter HO.out a0 (pos + (Utf8.decode a0 pos).2))
      obtain ⟨W1, hW1⟩ : ∃ W1, W1 = wr.iterAt w.heap.size a0 (pos + (Utf8.decode a0 pos).2) := ⟨_, rfl⟩
      rw [← hW1] at hnx hit2 HB2 HO2
      have hlt := blk_lt hit2
      have hle := decode_le a0 pos
      obtain ⟨Ao, co, eo⟩ := Kd.R_slice HO2.out
      subst eo
      clear hW1 hit HO HB
      have H := HS.out
      simp only [utf_Clean.go, if_pos hp] at H
      clear HS
      by_cases c0 : (Utf8.decode a0 pos).1 = 0
      · rw [if_pos c0] at H
        obtain ⟨t, HA, HS2⟩ := Option.bind_eq_some_iff.mp H
        replace HA := Aside0.mk HA
        replace HS2 := Aside0.mk HS2
        clear H
        have e0 : (((Utf8.decode a0 pos).1 : Nat) : Int) = 0 := by omega
        go_wp2_with (first | ((with_reducible refine gate_callee (f := 33) rfl ?_); refine goesL_ (some 37) rfl rfl Try.func33 (by kernel_rfl) rfl #[.slice Ao acc.length co, .int .i32 65533] rfl (by (try simp only [List.map_toArray, List.map_cons, List.map_nil]); first | done | rfl) ?_; (with_reducible refine (utf8_AppendRune.calls k (fun j => j ≠ w.heap.size) (.slice Ao acc.length co) acc 65533 t w _ ?side1 ?side2 HA.out).mono ?_); (case side1 => exact HB2.out); (case side2 => exact HO2.out); rintro e w11 ⟨v140, rfl, ho0, hb, hkp⟩; have hit3 : w11.heap[w.heap.size]? = some (.stringIter a0 (pos + (Utf8.decode a0 pos).2)) := (hkp.2 _ hlt (fun he => he rfl)).trans hit2; have X := Aside0.mk (And.intro (Kd.R_mono (ok' := fun j => j ≠ w.heap.size) ho0 (fun j hj => hj.elim id (fun hj => by omega))) (And.intro hb hit3)); clear ho0 hb hkp hit3; refine ⟨_, rfl, ?_⟩))
        go_roundw
        case rel => exact ⟨_, fuel, _, X.out.2.2, ⟨X.out.1⟩, ⟨X.out.2.1⟩, HS2, by omega⟩
        case measure => rw [utf_Clean.iterPos_of X.out.2.2, hpos0]; omega
      · rw [if_neg c0] at H
        have e0 : decide (((Utf8.decode a0 pos).1 : Int) = 0) = false := decide_eq_false (by omega)
        by_cases c1 : (Utf8.decode a0 pos).1 = 13
        · have e1 : decide (((Utf8.decode a0 pos).1 : Int) = 13) = true := decide_eq_true (by omega)
          have ew : wrap64 ((pos : Int) + 1) = (pos : Int) + 1 := by have := HZ.out; unfold wrap64; omega
          by_cases c2 : pos + 1 < a0.size
          · have e2 : decide ((pos : Int) + 1 < (a0.size : Int)) = true := decide_eq_true (by omega)
            have p1 : (0 ≤ (pos : Int) + 1) = True := eq_true (by omega)
            have q1 : ((pos : Int) + 1 < (a0.size : Int)) = True := eq_true (by omega)
            have hx1 : ∀ h : pos + 1 < a0.size, ((a0[pos + 1]'h).toNat : Int) = bt a0 ((pos : Int) + 1) := fun h => by have := bt_at a0 ((pos : Int) + 1) (by omega); simpa using this
            by_cases c3 : bt a0 ((pos : Int) + 1) = 10
            · have e3 : decide (bt a0 ((pos : Int) + 1) = 10) = true := decide_eq_true c3
              rw [if_pos ⟨c1, c2, c3⟩] at H
              have HS2 := Aside0.mk H
              clear H
              have X := Aside0.mk (And.intro HO2.out (And.intro HB2.out hit2))
              go_wp2
              go_roundw
              case rel => exact ⟨_, fuel, _, X.out.2.2, ⟨X.out.1⟩, ⟨X.out.2.1⟩, HS2, by omega⟩
              case measure => rw [utf_Clean.iterPos_of X.out.2.2, hpos0]; omega
            · have e3 : decide (bt a0 ((pos : Int) + 1) = 10) = false := decide_eq_false c3
              rw [if_neg (fun h => c3 h.2.2), if_pos c1] at H
              obtain ⟨t, HA, HS2⟩ := Option.bind_eq_some_iff.mp H
              replace HA := Aside0.mk HA
              replace HS2 := Aside0.mk HS2
              clear H
              go_wp2_with (first | ((with_reducible refine gate_callee (f := 33) rfl ?_); refine goesL_ (some 37) rfl rfl Try.func33 (by kernel_rfl) rfl #[.slice Ao acc.length co, .int .i32 10] rfl (by (try simp only [List.map_toArray, List.map_cons, List.map_nil]); first | done | rfl) ?_; (with_reducible refine (utf8_AppendRune.calls k (fun j => j ≠ w.heap.size) (.slice Ao acc.length co) acc 10 t w _ ?side1 ?side2 HA.out).mono ?_); (case side1 => exact HB2.out); (case side2 => exact HO2.out); rintro e w11 ⟨v140, rfl, ho0, hb, hkp⟩; have hit3 : w11.heap[w.heap.size]? = some (.stringIter a0 (pos + (Utf8.decode a0 pos).2)) := (hkp.2 _ hlt (fun he => he rfl)).trans hit2; have X := Aside0.mk (And.intro (Kd.R_mono (ok' := fun j => j ≠ w.heap.size) ho0 (fun j hj => hj.elim id (fun hj => by omega))) (And.intro hb hit3)); clear ho0 hb hkp hit3; refine ⟨_, rfl, ?_⟩))
              go_roundw
              case rel => exact ⟨_, fuel, _, X.out.2.2, ⟨X.out.1⟩, ⟨X.out.2.1⟩, HS2, by omega⟩
              case measure => rw [utf_Clean.iterPos_of X.out.2.2, hpos0]; omega
          · have e2 : decide ((pos : Int) + 1 < (a0.size : Int)) = false := decide_eq_false (by omega)
            rw [if_neg (fun h => c2 h.2.1), if_pos c1] at H
            obtain ⟨t, HA, HS2⟩ := Option.bind_eq_some_iff.mp H
            replace HA := Aside0.mk HA
            replace HS2 := Aside0.mk HS2
            clear H
            go_wp2_with (first | ((with_reducible refine gate_callee (f := 33) rfl ?_); refine goesL_ (some 37) rfl rfl Try.func33 (by kernel_rfl) rfl #[.slice Ao acc.length co, .int .i32 10] rfl (by (try simp only [List.map_toArray, List.map_cons, List.map_nil]); first | done | rfl) ?_; (with_reducible refine (utf8_AppendRune.calls k (fun j => j ≠ w.heap.size) (.slice Ao acc.length co) acc 10 t w _ ?side1 ?side2 HA.out).mono ?_); (case side1 => exact HB2.out); (case side2 => exact HO2.out); rintro e w11 ⟨v140, rfl, ho0, hb, hkp⟩; have hit3 : w11.heap[w.heap.size]? = some (.stringIter a0 (pos + (Utf8.decode a0 pos).2)) := (hkp.2 _ hlt (fun he => he rfl)).trans hit2; have X := Aside0.mk (And.intro (Kd.R_mono (ok' := fun j => j ≠ w.heap.size) ho0 (fun j hj => hj.elim id (fun hj => by omega))) (And.intro hb hit3)); clear ho0 hb hkp hit3; refine ⟨_, rfl, ?_⟩))
            go_roundw
            case rel => exact ⟨_, fuel, _, X.out.2.2, ⟨X.out.1⟩, ⟨X.out.2.1⟩, HS2, by omega⟩
            case measure => rw [utf_Clean.iterPos_of X.out.2.2, hpos0]; omega
        · have e1 : decide (((Utf8.decode a0 pos).1 : Int) = 13) = false := decide_eq_false (by omega)
          rw [if_neg (fun h => c1 h.1), if_neg c1] at H
          obtain ⟨t, HA, HS2⟩ := Option.bind_eq_some_iff.mp H
          replace HA := Aside0.mk HA
          replace HS2 := Aside0.mk HS2
          clear H
          go_wp2_with (first | ((with_reducible refine gate_callee (f := 33) rfl ?_); refine goesL_ (some 37) rfl rfl Try.func33 (by kernel_rfl) rfl #[.slice Ao acc.length co, .int .i32 ((Utf8.decode a0 pos).1 : Int)] rfl (by (try simp only [List.map_toArray, List.map_cons, List.map_nil]); first | done | rfl) ?_; (with_reducible refine (utf8_AppendRune.calls k (fun j => j ≠ w.heap.size) (.slice Ao acc.length co) acc ((Utf8.decode a0 pos).1 : Int) t w _ ?side1 ?side2 HA.out).mono ?_); (case side1 => exact HB2.out); (case side2 => exact HO2.out); rintro e w11 ⟨v140, rfl, ho0, hb, hkp⟩; have hit3 : w11.heap[w.heap.size]? = some (.stringIter a0 (pos + (Utf8.decode a0 pos).2)) := (hkp.2 _ hlt (fun he => he rfl)).trans hit2; have X := Aside0.mk (And.intro (Kd.R_mono (ok' := fun j => j ≠ w.heap.size) ho0 (fun j hj => hj.elim id (fun hj => by omega))) (And.intro hb hit3)); clear ho0 hb hkp hit3; refine ⟨_, rfl, ?_⟩))
          go_roundw
          case rel => exact ⟨_, fuel, _, X.out.2.2, ⟨X.out.1⟩, ⟨X.out.2.1⟩, HS2, by omega⟩
          case measure => rw [utf_Clean.iterPos_of X.out.2.2, hpos0]; omega
    · have hnx : ∀ ty, (Instr.next (.pointer (some ⟨w.heap.size, 0, none⟩)) true ty).run Try.prog wr = _ := fun ty => Lib.run_next_end_at wr w.heap.size a0 pos ty hit hp
      have HE : Aside0 (acc = l) := ⟨by have := HS.out; rw [utf_Clean.go_end k a0 fuel pos acc hp] at this; exact Option.some.inj this⟩
      obtain ⟨Ao, co, eo⟩ := Kd.R_slice HO.out
      subst eo
      have hcv15 := own_string (P := Try.prog) Try.underlying61 Try.underlying5 Try.underlying9 (Kd.own_of_R HO.out)
      go_wp2
      go_ret
      exact ⟨by rw [HE.out]; rfl, HB.out⟩

end Go.Proofs.Ythimfdojpgbmbaa.X
