/- Parts of the proof of RefNumbers that are needed, put together by pack.py. -/
import Derived.Test.YteimhgbihpbhaaaDoorQRefNumbersah
import Derived.Test.YteimhgbihpbhaaaDoorQRefNumbersaf
import Derived.Lib.Strings
import Derived.Laws.Closers25b
import Derived.Laws.Closers25
import Derived.Laws.Strings3
import Derived.Lib.ConvBytes
section
namespace Go.Proofs.YteimhgbihpbhaaaDoor.X
open Go.RowKit Go.Proofs.YteimhgbihpbhaaaDoorW.PrintWords Go.Proofs.YteimhgbihpbhaaaDoorW.PrintLast Go.Proofs.YteimhgbihpbhaaaDoorW.PrintMore
attribute [local go_sem] max2_int min2_int max_two min_two max_three min_three max_four min_four   -- for this text's walks alone
set_option linter.unusedVariables false
set_option linter.unusedSimpArgs false
def ref_numbered.low (c : UInt8) : Nat := (bits .or .u8 (c.toNat : Int) 32).toNat
def ref_numbered.dig (b : Nat) (c : UInt8) : Option Nat :=
  if 48 ≤ c.toNat ∧ c.toNat ≤ 57 then (if c.toNat - 48 < b then some (c.toNat - 48) else none)
  else if 97 ≤ ref_numbered.low c ∧ ref_numbered.low c ≤ 122 then (if ref_numbered.low c - 87 < b then some (ref_numbered.low c - 87) else none) else none
def ref_numbered.num (b : Nat) : Nat → List UInt8 → Option Nat
  | a, [] => some a
  | a, c :: l => (ref_numbered.dig b c).bind fun d => ref_numbered.num b (a * b + d) l
theorem ref_numbered.step_bd {a k d b : Nat} (h : a < 16 ^ k) (hb : b ≤ 16) (hd : d < b) : a * b + d < 16 ^ (k + 1) := by
  have h1 : (a + 1) * b ≤ 16 ^ k * 16 := Nat.mul_le_mul h hb
  rw [Nat.pow_succ]
  rw [Nat.add_mul, Nat.one_mul] at h1
  omega
theorem ref_numbered.small {a k : Nat} (h : a < 16 ^ k) (hk : k ≤ 7) : a < 268435456 := Nat.lt_of_lt_of_le h (Nat.le_trans (Nat.pow_le_pow_right (by decide) hk) (by decide))
theorem ref_numbered.dig_lt {b : Nat} {c : UInt8} {d : Nat} (h : ref_numbered.dig b c = some d) : d < b := by
  unfold ref_numbered.dig at h
  split at h
  · split at h
    · obtain rfl := Option.some.inj h; assumption
    · cases h
  · split at h
    · split at h
      · obtain rfl := Option.some.inj h; assumption
      · cases h
    · cases h
def ref_numbered.told : Option Nat → Value
  | some n => .tuple #[.int .u64 (n : Int), .nilIface]
  | none => .tuple #[.int .u64 0, .iface 160 (.int .i64 2)]
set_option maxHeartbeats 8000000 in
set_option maxRecDepth 100000 in
theorem ref_numbered.lower (c : Int) (w : World) : Calls Tryd.prog 123 #[.int .u8 c] w fun e w' => e = .returned (.int .u8 (bits .or .u8 c 32)) ∧ w' = w := by
  go_enter Tryd.func123, Tryd.ntmps123
  go_wp2
  go_ret
  exact ⟨rfl, rfl⟩
set_option maxHeartbeats 8000000 in
set_option maxRecDepth 100000 in
theorem ref_numbered.puint (B : Nat) (b : Int) (hb : b = 10 ∧ B = 10 ∨ b = 16 ∧ B = 16) (t : ByteArray) (hne : 0 < t.size) (hmax : t.size ≤ 7) (w : World) :
    Calls Tryd.prog 107 #[.string t, .int .i64 b, .int .i64 64] w fun e w' => e = .returned (ref_numbered.told (ref_numbered.num B 0 t.data.toList)) ∧ w' = Lib.bytesWorld w 5 t := by
  have hemp : t.toList.isEmpty = false := by
    rw [← decide_eq_emptyBytes]
    exact decide_eq_false (fun h => by rw [h] at hne; exact absurd hne (by decide))
  have hcv := Lib.run_convert_string_bytes (P := Tryd.prog) w 9 60 5 t (u := .string) Tryd.underlying9 Tryd.underlying60 Tryd.underlying5
  have hB2 : ∀ j, j < t.size → (Lib.bytesWorld w 5 t).cell? ⟨w.heap.size, j, none⟩ = some (.int .u8 (t.data.toList.getD j 0).toNat) := fun j hj => Lib.bytesWorld_cell w 5 t j hj
  obtain ⟨W1, hW1⟩ : ∃ W1, W1 = Lib.bytesWorld w 5 t := ⟨_, rfl⟩
  rw [← hW1] at hcv hB2 ⊢
  clear hW1
  obtain ⟨bs, hL⟩ : ∃ bs, bs = t.data.toList := ⟨_, rfl⟩
  have hLn : bs.length = t.size := by rw [hL, Lib.size_eq]
  rw [← hL] at hB2 ⊢
  clear hL
  have hmv : IntKind.u64.wrap (IntKind.u64.wrap 18446744073709551616 - 1) = 18446744073709551615 := by
    rw [IntKind.wrap_u64, IntKind.wrap_u64]
    decide
  have HL := Aside0.mk (And.intro hLn hmax)
  have HC := Aside0.mk hB2
  clear hLn hB2
  rcases hb with ⟨rfl, hB⟩ | ⟨rfl, hB⟩
  all_goals
    have HBv := Aside0.mk hB
    clear hB
    go_enter Tryd.func107, Tryd.ntmps107
    go_wp2
    go_loop [12, 13, 101] (fun vu vn vi => ∃ (k acc : Nat) (a : Int), vu = .bool false ∧ vn = .int .u64 a ∧ vi = .int .i64 (k : Int) ∧ k ≤ t.size ∧ Aside0 (a = (acc : Int) ∧ acc < 16 ^ k ∧ ref_numbered.num B 0 bs = ref_numbered.num B acc (bs.drop k))) (fun _ _ vi => t.size - (intOf vi).toNat)
    case atStart => exact ⟨0, 0, 0, rfl, rfl, rfl, by omega, ⟨rfl, by decide, rfl⟩⟩
    case round =>
      obtain ⟨k, acc, a, rfl, rfl, rfl, hk, hh⟩ := hrel
      have hsm := ref_numbered.small hh.out.2.1 (Nat.le_trans hk HL.out.2)
      have ha0 : 0 ≤ a := by have := hh.out.1; omega
      have ha1 : a < 268435456 := by have := hh.out.1; omega
      clear hsm
      by_cases hkn : k < t.size
      · have hc := HC.out k hkn
        have hkb : k < bs.length := by have := HL.out.1; omega
        have hdrop : bs.drop k = bs[k]'hkb :: bs.drop (k + 1) := List.drop_eq_getElem_cons hkb
        have hget : bs.getD k 0 = bs[k]'hkb := by simp [List.getD, List.getElem?_eq_getElem hkb]
        have hdec := hh.out.2.2
        rw [hdrop] at hdec
        rw [hget] at hc
        generalize bs[k]'hkb = c at hc hdec
        have hc256 : c.toNat < 256 := c.toNat_lt
        have HA := Aside0.mk (And.intro hh.out.1 hh.out.2.1)
        have HD := Aside0.mk hdec
        have HK := Aside0.mk hkn
        clear hh hdrop hget hdec hkb
        by_cases hdig : 48 ≤ c.toNat ∧ c.toNat ≤ 57
        · obtain ⟨hd0, hd1⟩ := hdig
          have HG : Aside0 (ref_numbered.dig B c = some (c.toNat - 48)) := ⟨by
            have := HBv.out
            unfold ref_numbered.dig
            rw [if_pos ⟨hd0, hd1⟩, if_pos (by omega)]⟩
          go_wp2
          first | (refine ⟨⟨_, _, _, _, _, _, _, _, ?rel, rfl, rfl, rfl, rfl, rfl, rfl, rfl, rfl⟩, ?measure⟩) | go_round
          case rel =>
            first
              | refine ⟨rfl, k + 1, acc * B + (c.toNat - 48), _, rfl, congrArg (Value.int .i64) (by omega), HK.out, ⟨?_, ?_, ?_⟩⟩
              | refine ⟨k + 1, acc * B + (c.toNat - 48), _, rfl, rfl, congrArg (Value.int .i64) (by omega), HK.out, ⟨?_, ?_, ?_⟩⟩
            · have h1 := HA.out.1; have h2 := HBv.out; subst h2; omega
            · exact ref_numbered.step_bd HA.out.2 (by have := HBv.out; omega) (ref_numbered.dig_lt HG.out)
            · rw [HD.out, ref_numbered.num, HG.out]; rfl
          case measure => have := HK.out; simp [intOf]; omega
        · have hv0 := bits_lo_u8 .or (c.toNat : Int) 32
          have hv1 := bits_hi_u8 .or (c.toNat : Int) 32
          by_cases h95 : c.toNat = 95
          · have HG : Aside0 (ref_numbered.dig B c = none) := ⟨by
              unfold ref_numbered.dig ref_numbered.low
              rw [if_neg hdig, h95]
              rfl⟩
            have HF : Aside0 (ref_numbered.num B 0 bs = none) := ⟨by rw [HD.out, ref_numbered.num, HG.out]; rfl⟩
            have hlw : ∀ w, Calls Tryd.prog 123 #[.int .u8 95] w fun e w' => e = .returned (.int .u8 127) ∧ w' = w := fun w => ref_numbered.lower 95 w
            rw [h95] at hc
            clear hv0 hv1 hdig h95 hc256
            go_wp2_with (go_at_call 123; refine (hlw _).mono ?_; rintro e w' ⟨rfl, rfl⟩)
            all_goals (go_ret2; exact ⟨by rw [HF.out]; rfl, rfl⟩)
          · obtain ⟨y, hy⟩ : ∃ y : Int, bits .or .u8 (c.toNat : Int) 32 = y := ⟨_, rfl⟩
            have hlw : ∀ w, Calls Tryd.prog 123 #[.int .u8 (c.toNat : Int)] w fun e w' => e = .returned (.int .u8 y) ∧ w' = w := fun w => by rw [← hy]; exact ref_numbered.lower _ w
            rw [hy] at hv0 hv1
            have HY : Aside0 (ref_numbered.low c = y.toNat ∧ 0 ≤ y) := ⟨by unfold ref_numbered.low; rw [hy], hv0⟩
            have HND := Aside0.mk hdig
            have h95i : ¬ ((c.toNat : Int) = 95) := by omega
            have h95b : ((c.toNat : Int) == 95) = false := by simpa using h95i
            have hnd : ¬ (48 ≤ (c.toNat : Int) ∧ (c.toNat : Int) ≤ 57) := by omega
            clear hy hdig h95
            by_cases hal : 97 ≤ y ∧ y ≤ 122
            · obtain ⟨hal0, hal1⟩ := hal
              by_cases hdb : y - 87 < (B : Int)
              · have HG : Aside0 (ref_numbered.dig B c = some (y.toNat - 87)) := ⟨by
                  have := HY.out
                  unfold ref_numbered.dig
                  rw [if_neg HND.out, this.1, if_pos (by omega), if_pos (by omega)]⟩
                try (exfalso; have := HBv.out; omega)
                all_goals
                  have hd16 : y < 103 := by have := HBv.out; omega
                  have HYD := Aside0.mk hdb
                  clear hdb
                  go_wp2_with (go_at_call 123; refine (hlw _).mono ?_; rintro e w' ⟨rfl, rfl⟩)
                  all_goals
                    go_round
                    case rel =>
                      refine ⟨k + 1, acc * B + (y.toNat - 87), _, rfl, rfl, congrArg (Value.int .i64) (by omega), HK.out, ⟨?_, ?_, ?_⟩⟩
                      · have h1 := HA.out.1; have h2 := HBv.out; subst h2; omega
                      · exact ref_numbered.step_bd HA.out.2 (by have := HBv.out; omega) (ref_numbered.dig_lt HG.out)
                      · rw [HD.out, ref_numbered.num, HG.out]; rfl
                    case measure => have := HK.out; simp [intOf]; omega
              · have HG : Aside0 (ref_numbered.dig B c = none) := ⟨by
                  have := HY.out
                  unfold ref_numbered.dig
                  rw [if_neg HND.out, this.1, if_pos (by omega), if_neg (by omega)]⟩
                have HF : Aside0 (ref_numbered.num B 0 bs = none) := ⟨by rw [HD.out, ref_numbered.num, HG.out]; rfl⟩
                have h103 : 103 ≤ y ∨ B = 10 := by have := HBv.out; omega
                try (replace h103 : 103 ≤ y := by have := HBv.out; omega)
                go_wp2_with (go_at_call 123; refine (hlw _).mono ?_; rintro e w' ⟨rfl, rfl⟩)
                all_goals (go_ret2; exact ⟨by rw [HF.out]; rfl, rfl⟩)
            · have HG : Aside0 (ref_numbered.dig B c = none) := ⟨by
                have := HY.out
                unfold ref_numbered.dig
                rw [if_neg HND.out, this.1, if_neg (by omega)]⟩
              have HF : Aside0 (ref_numbered.num B 0 bs = none) := ⟨by rw [HD.out, ref_numbered.num, HG.out]; rfl⟩
              go_wp2_with (go_at_call 123; refine (hlw _).mono ?_; rintro e w' ⟨rfl, rfl⟩)
              all_goals (go_ret2; exact ⟨by rw [HF.out]; rfl, rfl⟩)
      · obtain rfl : k = t.size := by omega
        have hF : ref_numbered.num B acc (bs.drop t.size) = some acc := by rw [List.drop_eq_nil_of_le (by rw [HL.out.1]; exact Nat.le_refl _)]; rfl
        have HE : Aside0 (a = (acc : Int) ∧ ref_numbered.num B 0 bs = some acc) := ⟨hh.out.1, hh.out.2.2.trans hF⟩
        clear hh hF
        go_wp2
        go_ret2
        exact ⟨by rw [HE.out.2, HE.out.1]; rfl, rfl⟩
theorem ref_numbered.num_lt {b : Nat} (hb : b ≤ 16) : ∀ (l : List UInt8) (a k n : Nat), a < 16 ^ k → ref_numbered.num b a l = some n → n < 16 ^ (k + l.length)
  | [], a, k, n, ha, h => by obtain rfl := Option.some.inj h; exact ha
  | c :: l, a, k, n, ha, h => by
    rw [ref_numbered.num] at h
    obtain ⟨d, hd, h⟩ := Option.bind_eq_some_iff.1 h
    have := ref_numbered.num_lt hb l _ (k + 1) n (ref_numbered.step_bd ha hb (ref_numbered.dig_lt hd)) h
    rw [List.length_cons, show k + (l.length + 1) = k + 1 + l.length by omega]
    exact this
theorem ref_numbered.num_small {b : Nat} (hb : b ≤ 16) {t : ByteArray} (ht : t.size ≤ 7) {n : Nat} (h : ref_numbered.num b 0 t.data.toList = some n) : n < 268435456 := by
  have h1 := ref_numbered.num_lt hb t.data.toList 0 0 n (by decide) h
  rw [Array.length_toList, Nat.zero_add] at h1
  exact ref_numbered.small h1 ht
set_option maxHeartbeats 8000000 in
set_option maxRecDepth 100000 in
theorem ref_numbered.pint (B : Nat) (b : Int) (hb : b = 10 ∧ B = 10 ∨ b = 16 ∧ B = 16) (t : ByteArray) (hne : 0 < t.size) (hmax : t.size ≤ 7) (hs : ∀ c ∈ t.data.toList, c ≠ 43 ∧ c ≠ 45) (n : Nat) (hn : ref_numbered.num B 0 t.data.toList = some n) (w : World) :
    Calls Tryd.prog 95 #[.string t, .int .i64 b, .int .i64 64] w fun e w' => e = .returned (.tuple #[.int .i64 (n : Int), .nilIface]) ∧ w' = Lib.bytesWorld w 5 t := by
  have hpu := ref_numbered.puint B b hb t hne hmax w
  rw [hn] at hpu
  have hemp : t.toList.isEmpty = false := by
    rw [← decide_eq_emptyBytes]
    exact decide_eq_false (fun h => by rw [h] at hne; exact absurd hne (by decide))
  have hB16 : B ≤ 16 := by omega
  have hsm := ref_numbered.num_small hB16 hmax hn
  obtain ⟨c, hc⟩ : ∃ c, t[0]'hne = c := ⟨_, rfl⟩
  have hcm : c ∈ t.data.toList := by rw [← hc]; show t.data[0]'hne ∈ t.data.toList; exact Array.mem_toList_iff.2 (Array.getElem_mem _)
  obtain ⟨h43, h45⟩ := hs c hcm
  have n43 : ¬ ((c.toNat : Int) = 43) := fun h => h43 (UInt8.toNat_inj.1 (by show c.toNat = 43; omega))
  have n45 : ¬ ((c.toNat : Int) = 45) := fun h => h45 (UInt8.toNat_inj.1 (by show c.toNat = 45; omega))
  have e43 : ((c.toNat : Int) == 43) = false := by simpa using n43
  have e45 : ((c.toNat : Int) == 45) = false := by simpa using n45
  obtain ⟨a, ha⟩ : ∃ a : Int, (n : Int) = a := ⟨_, rfl⟩
  have ha0 : 0 ≤ a := by omega
  have ha1 : a < 268435456 := by omega
  have hpu2 : Calls Tryd.prog 107 #[.string t, .int .i64 b, .int .i64 64] w fun e w' => e = .returned (.tuple #[.int .u64 a, .nilIface]) ∧ w' = Lib.bytesWorld w 5 t := by rw [← ha]; exact hpu
  rw [ha]
  clear hpu hs hcm h43 h45 hsm hn ha hB16 hb
  go_enter Tryd.func95, Tryd.ntmps95
  go_wp2_with (go_at_call 107; refine hpu2.mono ?_; rintro e w' ⟨rfl, rfl⟩)
  all_goals (go_ret2; exact ⟨rfl, rfl⟩)
set_option maxHeartbeats 8000000 in
set_option maxRecDepth 100000 in
theorem ref_numbered.pub (B : Nat) (b : Int) (hb : b = 10 ∧ B = 10 ∨ b = 16 ∧ B = 16) (t : ByteArray) (hne : 0 < t.size) (hmax : t.size ≤ 7) (hs : ∀ c ∈ t.data.toList, c ≠ 43 ∧ c ≠ 45) (n : Nat) (hn : ref_numbered.num B 0 t.data.toList = some n) (w : World) :
    Calls Tryd.prog 78 #[.string t, .int .i64 b, .int .i64 64] w fun e w' => e = .returned (.tuple #[.int .i64 (n : Int), .nilIface]) ∧ w' = Lib.bytesWorld w 5 t := by
  have hp := ref_numbered.pint B b hb t hne hmax hs n hn w
  clear hb hs hn
  go_enter Tryd.func78, Tryd.ntmps78
  go_wp2_with (go_at_call 95; refine hp.mono ?_; rintro e w' ⟨rfl, rfl⟩)
  go_ret2
  exact ⟨rfl, rfl⟩
/-- what a number of a reference stands for -/
def ref_numbered.rune (n : Nat) : Int := if n = 0 ∨ 1114111 < n ∨ (55296 ≤ n ∧ n ≤ 57343) then 65533 else (n : Int)
def ref_numbered.okS (l : List UInt8) : Bool := l.all fun c => decide (c.toNat < 128) && (c != 43 && (c != 45 && c != 95))
def ref_numbered.f (a0 : ByteArray) (a1 a2 : Int) : Option (Int × Bool) :=
  if 0 < a0.size ∧ a0.size ≤ 7 ∧ (a0.size : Int) ≤ a2 ∧ (a1 = 10 ∨ a1 = 16) ∧ ref_numbered.okS a0.data.toList = true then (ref_numbered.num a1.toNat 0 a0.data.toList).map fun n => (ref_numbered.rune n, true) else none
theorem ref_numbered.signs_small : ∀ b ∈ (⟨#[43, 45, 95]⟩ : ByteArray).data.toList, b.toNat < 128 := by decide
theorem ref_numbered.noAny : ∀ l : List UInt8, (∀ c ∈ l, c ≠ 43 ∧ c ≠ 45 ∧ c ≠ 95) → Lib.containsAny l (⟨#[43, 45, 95]⟩ : ByteArray).data.toList = false := by
  intro l h
  have h1 : Lib.indexAny l (⟨#[43, 45, 95]⟩ : ByteArray).data.toList = -1 := by
    induction l with
    | nil => rfl
    | cons c l ih =>
      obtain ⟨h1, h2, h3⟩ := h c List.mem_cons_self
      have hc : ((⟨#[43, 45, 95]⟩ : ByteArray).data.toList).contains c = false := by
        show ([43, 45, 95] : List UInt8).contains c = false
        simp [h1, h2, h3]
      rw [Lib.indexAny, if_neg (by rw [hc]; simp), ih (fun d hd => h d (List.mem_cons_of_mem _ hd))]
      rfl
  unfold Lib.containsAny
  rw [h1]
  rfl
theorem ref_numbered.valid (n : Nat) (h : n < 268435456) (w : World) : Calls Tryd.prog 79 #[.int .i32 (n : Int)] w fun e w' => e = .returned (.bool (!decide (1114111 < n ∨ (55296 ≤ n ∧ n ≤ 57343)))) ∧ w' = w := by
  obtain ⟨a, ha⟩ : ∃ a : Int, (n : Int) = a := ⟨_, rfl⟩
  have ha0 : 0 ≤ a := by omega
  have ha1 : a < 268435456 := by omega
  have e : decide (1114111 < n ∨ (55296 ≤ n ∧ n ≤ 57343)) = decide (1114111 < a ∨ (55296 ≤ a ∧ a ≤ 57343)) := by
    rw [Bool.eq_iff_iff, decide_eq_true_eq, decide_eq_true_eq]; omega
  rw [e, ha]
  clear e ha h
  by_cases h1 : a < 55296
  · have h2 : ¬ (1114111 < a ∨ (55296 ≤ a ∧ a ≤ 57343)) := by omega
    rw [decide_eq_false h2]
    clear h2
    go_enter Tryd.func79, Tryd.ntmps79
    go_wp2
    all_goals (go_ret; exact ⟨rfl, rfl⟩)
  · by_cases h3 : 57343 < a ∧ a ≤ 1114111
    · obtain ⟨h3, h4⟩ := h3
      have h2 : ¬ (1114111 < a ∨ (55296 ≤ a ∧ a ≤ 57343)) := by omega
      rw [decide_eq_false h2]
      clear h2
      go_enter Tryd.func79, Tryd.ntmps79
      go_wp2
      all_goals (go_ret; exact ⟨rfl, rfl⟩)
    · have h2 : (1114111 < a ∨ (55296 ≤ a ∧ a ≤ 57343)) := by omega
      rw [decide_eq_true h2]
      go_enter Tryd.func79, Tryd.ntmps79
      go_wp2
      all_goals (go_ret; exact ⟨rfl, rfl⟩)
set_option maxHeartbeats 8000000 in
set_option maxRecDepth 100000 in
theorem ref_numbered.calls (a0 : ByteArray) (a1 a2 : Int) (r1 : Int) (r2 : Bool) (w : World) (h : ref_numbered.f a0 a1 a2 = some (r1, r2)) :
    Calls Tryd.prog 60 #[.string a0, .int .i64 a1, .int .i64 a2] w fun e w' => e = .returned (.tuple #[.int .i32 r1, .bool r2]) ∧ Below w.heap.size w w' := by
  unfold ref_numbered.f at h
  split at h
  case isFalse => cases h
  rename_i hc
  obtain ⟨hne, hmax, h2, hb, hok⟩ := hc
  obtain ⟨n, hn, hr⟩ := Option.map_eq_some_iff.1 h
  simp only [Prod.mk.injEq] at hr
  obtain ⟨rfl, rfl⟩ := hr
  have hall := List.all_eq_true.1 hok
  have hasc : ∀ c ∈ a0.data.toList, c.toNat < 128 ∧ c ≠ 43 ∧ c ≠ 45 ∧ c ≠ 95 := fun c hc => by
    have := hall c hc
    simpa using this
  obtain ⟨B, hB, hBn⟩ : ∃ B : Nat, (a1 = 10 ∧ B = 10 ∨ a1 = 16 ∧ B = 16) ∧ a1.toNat = B := by
    rcases hb with rfl | rfl
    · exact ⟨10, .inl ⟨rfl, rfl⟩, rfl⟩
    · exact ⟨16, .inr ⟨rfl, rfl⟩, rfl⟩
  rw [hBn] at hn
  have hsm := ref_numbered.num_small (by omega) hmax hn
  have hpub := ref_numbered.pub B a1 hB a0 hne hmax (fun c hc => ⟨(hasc c hc).2.1, (hasc c hc).2.2.1⟩) n hn
  have hany : Lib.containsAny a0.data.toList (⟨#[43, 45, 95]⟩ : ByteArray).data.toList = false := ref_numbered.noAny _ (fun c hc => (hasc c hc).2)
  have hca := Tryd.strings_ContainsAny_laid a0 ⟨#[43, 45, 95]⟩ w (by omega) (by decide) (fun j b hj => (hasc b (List.mem_of_getElem? hj)).1) (fun j b hj => by
    have : b ∈ (⟨#[43, 45, 95]⟩ : ByteArray).data.toList := List.mem_of_getElem? hj
    exact ref_numbered.signs_small b this)
  rw [hany] at hca
  have hemp : a0.toList.isEmpty = false := by
    rw [← decide_eq_emptyBytes]
    exact decide_eq_false (fun h => by rw [h] at hne; exact absurd hne (by decide))
  have hvr := ref_numbered.valid n hsm
  obtain ⟨a, ha⟩ : ∃ a : Int, (n : Int) = a := ⟨_, rfl⟩
  have ha0 : 0 ≤ a := by omega
  have ha1 : a < 268435456 := by omega
  rw [ha] at hvr hpub
  have hbb : ∀ W, Below w.heap.size w W → Below w.heap.size w (Lib.bytesWorld W 5 a0) := fun W hW => ⟨hW.os, hW.tape, hW.output, Nat.le_trans hW.size (by rw [Lib.bytesWorld_size]; omega), fun j hj => (Lib.bytesWorld_at_old W 5 a0 j (Nat.lt_of_lt_of_le hj hW.size)).trans (hW.block j hj)⟩
  have hbi : IntKind.i32.wrap a = a := by rw [IntKind.wrap_i32]; omega
  have HBB := Aside0.mk hbb
  have hrn : ref_numbered.rune n = if a = 0 ∨ 1114111 < a ∨ (55296 ≤ a ∧ a ≤ 57343) then 65533 else a := by
    unfold ref_numbered.rune
    by_cases hq : n = 0 ∨ 1114111 < n ∨ (55296 ≤ n ∧ n ≤ 57343)
    · rw [if_pos hq, if_pos (by omega)]
    · rw [if_neg hq, if_neg (by omega), ha]
  have hvb : decide (1114111 < n ∨ (55296 ≤ n ∧ n ≤ 57343)) = decide (1114111 < a ∨ (55296 ≤ a ∧ a ≤ 57343)) := by
    rw [Bool.eq_iff_iff, decide_eq_true_eq, decide_eq_true_eq]; omega
  rw [hvb] at hvr
  rw [hrn]
  clear h hall hasc hB hBn hok hn hany hb hbb hvb hrn hsm ha
  by_cases hbad : a = 0 ∨ 1114111 < a ∨ (55296 ≤ a ∧ a ≤ 57343)
  · rw [if_pos hbad]
    by_cases hz : a = 0
    · subst hz
      clear hvr hbad
      go_enter Tryd.func60, Tryd.ntmps60
      go_wp2_with (first
        | (go_at_call 77; refine hca.mono ?_; rintro e w1 ⟨rfl, hb1⟩; have HB1 := Aside0.mk hb1; clear hb1)
        | (go_at_call 78; refine (hpub _).mono ?_; rintro e w2 ⟨rfl, rfl⟩))
      all_goals (go_ret2; exact ⟨rfl, HBB.out _ HB1.out⟩)
    · by_cases hbig : 1114111 < a
      · clear hvr hbad
        go_enter Tryd.func60, Tryd.ntmps60
        go_wp2_with (first
          | (go_at_call 77; refine hca.mono ?_; rintro e w1 ⟨rfl, hb1⟩; have HB1 := Aside0.mk hb1; clear hb1)
          | (go_at_call 78; refine (hpub _).mono ?_; rintro e w2 ⟨rfl, rfl⟩))
        all_goals (go_ret2; exact ⟨rfl, HBB.out _ HB1.out⟩)
      · have hd : decide (1114111 < a ∨ (55296 ≤ a ∧ a ≤ 57343)) = true := decide_eq_true (by omega)
        rw [hd] at hvr
        clear hd hbad
        go_enter Tryd.func60, Tryd.ntmps60
        go_wp2_with (first
          | (go_at_call 77; refine hca.mono ?_; rintro e w1 ⟨rfl, hb1⟩; have HB1 := Aside0.mk hb1; clear hb1)
          | (go_at_call 78; refine (hpub _).mono ?_; rintro e w2 ⟨rfl, rfl⟩)
          | (go_at_call 79; refine (hvr _).mono ?_; rintro e w3 ⟨rfl, rfl⟩))
        all_goals (go_ret2; exact ⟨rfl, HBB.out _ HB1.out⟩)
  · rw [if_neg hbad]
    have hd : decide (1114111 < a ∨ (55296 ≤ a ∧ a ≤ 57343)) = false := decide_eq_false (by omega)
    have hz : ¬ (a = 0) := by omega
    have hbig : a ≤ 1114111 := by omega
    have hz2 : (a == 0) = false := by simpa using hz
    have hbig2 : decide (1114111 < a) = false := decide_eq_false (by omega)
    have hsz2 : decide (a2 < (a0.size : Int)) = false := decide_eq_false (by omega)
    rw [hd] at hvr
    clear hd hbad
    go_enter Tryd.func60, Tryd.ntmps60
    go_wp2_with (first
      | (go_at_call 77; refine hca.mono ?_; rintro e w1 ⟨rfl, hb1⟩; have HB1 := Aside0.mk hb1; clear hb1)
      | (go_at_call 78; refine (hpub _).mono ?_; rintro e w2 ⟨rfl, rfl⟩)
      | (go_at_call 79; refine (hvr _).mono ?_; rintro e w3 ⟨rfl, rfl⟩))
    all_goals (go_ret2; exact ⟨rfl, HBB.out _ HB1.out⟩)
end Go.Proofs.YteimhgbihpbhaaaDoor.X
end
