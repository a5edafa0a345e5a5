/- Parts of the proof of RefTwice that are needed, put together by pack.py. -/
import Derived.Test.YtckdmjdlmhnamaaDoorQRefTwiceag
import Derived.Test.YtckdmjdlmhnamaaDoorQRefTwiceaf
section
namespace Go.Proofs.YtckdmjdlmhnamaaDoor.X
open Go.RowKit Go.Proofs.YtckdmjdlmhnamaaDoorW.PrintWords Go.Proofs.YtckdmjdlmhnamaaDoorW.PrintLast Go.Proofs.YtckdmjdlmhnamaaDoorW.PrintMore
attribute [local go_sem] max2_int min2_int max_two min_two max_three min_three max_four min_four   -- for this text's walks alone
set_option linter.unusedVariables false
set_option linter.unusedSimpArgs false
def ref_Escape.esc (q : Bool) (c : UInt8) : List UInt8 := if c = 38 then [38, 97, 109, 112, 59] else if c = 60 then [38, 108, 116, 59] else if c = 62 then [38, 103, 116, 59] else if c = 34 ∧ q = true then [38, 113, 117, 111, 116, 59] else [c]
def ref_Escape.go (l : List UInt8) (q : Bool) : List UInt8 := l.flatMap (ref_Escape.esc q)
def ref_Escape.f (a0 : ByteArray) (a1 : Bool) : Option ByteArray := if a0.size ≤ 17592186044416 then some ⟨(ref_Escape.go a0.data.toList a1).toArray⟩ else none
def ref_Escape.iv : Value → Nat
  | .int _ i => i.toNat
  | _ => 0
theorem ref_Escape.esc_len (q : Bool) (c : UInt8) : (ref_Escape.esc q c).length ≤ 6 := by
  unfold ref_Escape.esc
  repeat' split
  all_goals simp
theorem ref_Escape.byte (c : UInt8) (n : Nat) (hn : n < 256) : ((c.toNat : Int) = n) ↔ c = UInt8.ofNat n := by
  constructor
  · intro h
    apply UInt8.toNat_inj.1
    rw [UInt8.toNat_ofNat']
    omega
  · rintro rfl
    rw [UInt8.toNat_ofNat']
    omega
theorem ref_Escape.cells (acc l : List UInt8) (s : ByteArray) (h : s.data.toList = l) : Lib.byteCells acc ++ Lib.strCells s = Lib.byteCells (acc ++ l) := by
  subst h
  simp [Lib.byteCells, Lib.strCells]
set_option maxHeartbeats 4000000 in
set_option maxRecDepth 100000 in
theorem ref_Escape.calls (a0 : ByteArray) (a1 : Bool) (r : ByteArray) (w : World) (h : ref_Escape.f a0 a1 = some r) :
    Calls Tryd.prog 21 #[.string a0, .bool a1] w fun e w' => e = .returned (.string r) ∧ Below w.heap.size w w' := by
  have hr : (⟨(ref_Escape.go a0.data.toList a1).toArray⟩ : ByteArray) = r ∧ a0.size ≤ 17592186044416 := by
    unfold ref_Escape.f at h
    split at h
    · cases h; exact ⟨rfl, by assumption⟩
    · cases h
  obtain ⟨rfl, hz⟩ := hr
  have HZ := Aside0.mk hz
  clear h hz
  go_enter Tryd.func21, Tryd.ntmps21
  go_wp2
  go_loopw [10] (fun v10 wr => ∃ (i : Nat) (acc : List UInt8), v10 = .int .i64 (i : Int) ∧ Aside0 (Bld.IsB w.heap.size w.heap.size (Lib.byteCells acc) wr) ∧ Aside0 (Below w.heap.size w wr) ∧ Aside0 (acc ++ ref_Escape.go (a0.data.toList.drop i) a1 = ref_Escape.go a0.data.toList a1) ∧ Aside0 (i ≤ a0.size) ∧ Aside0 (acc.length ≤ 6 * i)) (fun v10 wr => a0.size - ref_Escape.iv v10)
  case atStart =>
    refine ⟨0, [], rfl, ⟨?_⟩, ⟨?_⟩, ⟨by simp⟩, ⟨by omega⟩, ⟨by simp⟩⟩
    · exact Lib.IsBuilderF.of (Lib.fresh_isBuilder 64 5 w)
    · exact (Below.refl _ w).alloc (Nat.le_refl _) _
  case round =>
    obtain ⟨i, acc, rfl, HI, HB, HS, HL, HA⟩ := hrel
    have hbs : w.heap.size ≤ wr.heap.size := HB.out.size
    have hlen : a0.data.toList.length = a0.size := Array.length_toList
    by_cases hi : i < a0.size
    · obtain ⟨c, l, hcl⟩ : ∃ c l, a0.data.toList.drop i = c :: l := by
        cases e : a0.data.toList.drop i with
        | nil => have := congrArg List.length e; simp at this; omega
        | cons c l => exact ⟨c, l, rfl⟩
      have hdl : a0.data.toList.drop (i + 1) = l := by
        have : a0.data.toList.drop (i + 1) = (a0.data.toList.drop i).drop 1 := by rw [List.drop_drop]
        rw [this, hcl]; rfl
      have hx1 : ∀ h : i < a0.size, ((a0[i]'h).toNat : Int) = (c.toNat : Int) := by
        intro h
        have h2 : i < a0.data.toList.length := by omega
        have h3 : a0.data.toList[i]? = some c := by
          have := congrArg (fun z => z[0]?) hcl
          simpa [List.getElem?_drop] using this
        have h4 := List.getElem?_eq_getElem h2
        rw [h3] at h4
        have h5 : a0[i]'h = c := by
          have := Option.some.inj h4
          rw [this]
          simp
          rfl
        rw [h5]
      have ew : wrap64 ((i : Int) + 1) = ((i + 1 : Nat) : Int) := by have := HZ.out; unfold wrap64; omega
      have c1 : decide ((i : Int) < (a0.size : Int)) = true := decide_eq_true (by omega)
      have p1 : (0 ≤ (i : Int)) = True := eq_true (by omega)
      have q1 : ((i : Int) < (a0.size : Int)) = True := eq_true (by omega)
      have hl1 : (Lib.byteCells acc).length + 6 ≤ 140737488355328 := by rw [Lib.byteCells_length]; have := HZ.out; have := HA.out; omega
      have hl0 : (Lib.byteCells acc).length + 1 ≤ 140737488355328 := Nat.le_trans (Nat.add_le_add_left (n := 1) (m := 6) (by decide) (Lib.byteCells acc).length) hl1
      have hz4 : (Lib.byteCells acc).length + 4 ≤ 140737488355328 := Nat.le_trans (Nat.add_le_add_left (n := 4) (m := 6) (by decide) (Lib.byteCells acc).length) hl1
      have hz5 : (Lib.byteCells acc).length + 5 ≤ 140737488355328 := Nat.le_trans (Nat.add_le_add_left (n := 5) (m := 6) (by decide) (Lib.byteCells acc).length) hl1
      have hz6 := hl1
      have HEL := Aside0.mk (ref_Escape.esc_len a1 c)
      have HS2 : Aside0 ((acc ++ ref_Escape.esc a1 c) ++ ref_Escape.go l a1 = ref_Escape.go a0.data.toList a1) := ⟨by rw [← HS.out, hcl]; simp [ref_Escape.go]⟩
      clear HS
      have b1 : (c.toNat : Int) = 38 ↔ c = 38 := ref_Escape.byte c 38 (by decide)
      have b2 : (c.toNat : Int) = 60 ↔ c = 60 := ref_Escape.byte c 60 (by decide)
      have b3 : (c.toNat : Int) = 62 ↔ c = 62 := ref_Escape.byte c 62 (by decide)
      have b4 : (c.toNat : Int) = 34 ↔ c = 34 := ref_Escape.byte c 34 (by decide)
      by_cases k38 : (c.toNat : Int) = 38
      · have he : ref_Escape.esc a1 c = [38, 97, 109, 112, 59] := by unfold ref_Escape.esc; rw [if_pos (b1.1 k38)]
        have f38 : ((c.toNat : Int) == 38) = true := beq_iff_eq.mpr k38
        have g38 : decide ((c.toNat : Int) = 38) = true := decide_eq_true k38
        replace he := Aside0.mk he
        clear b1 b2 b3 b4 hcl hlen
        go_wp2_with (go_at_call 37; refine (Bld.writeString w.heap.size w.heap.size (Lib.byteCells acc) (⟨#[38, 97, 109, 112, 59]⟩ : ByteArray) wr HI.out hz5 hbs).mono ?_; rintro e w2 ⟨rfl, HI2, HB2, _⟩; rw [ref_Escape.cells acc [38, 97, 109, 112, 59] (⟨#[38, 97, 109, 112, 59]⟩ : ByteArray) rfl] at HI2; have HI3 : Bld.IsB w.heap.size w.heap.size (Lib.byteCells (acc ++ ref_Escape.esc a1 c)) w2 := (by rw [he.out]; exact HI2))
        go_roundw
        case rel => exact ⟨i + 1, acc ++ ref_Escape.esc a1 c, by rw [← ew], ⟨HI3⟩, ⟨HB.out.trans HB2⟩, ⟨by rw [hdl]; exact HS2.out⟩, ⟨by omega⟩, ⟨by have := HA.out; have := HEL.out; simp; omega⟩⟩
        case measure => simp only [ref_Escape.iv, ew]; omega
      · have f38 : ((c.toNat : Int) == 38) = false := beq_eq_false_iff_ne.mpr k38
        have g38 : decide ((c.toNat : Int) = 38) = false := decide_eq_false k38
        by_cases k60 : (c.toNat : Int) = 60
        · have he : ref_Escape.esc a1 c = [38, 108, 116, 59] := by unfold ref_Escape.esc; rw [if_neg (fun z => k38 (b1.2 z)), if_pos (b2.1 k60)]
          have f60 : ((c.toNat : Int) == 60) = true := beq_iff_eq.mpr k60
          have g60 : decide ((c.toNat : Int) = 60) = true := decide_eq_true k60
          replace he := Aside0.mk he
          clear b1 b2 b3 b4 hcl hlen
          go_wp2_with (go_at_call 37; refine (Bld.writeString w.heap.size w.heap.size (Lib.byteCells acc) (⟨#[38, 108, 116, 59]⟩ : ByteArray) wr HI.out hz4 hbs).mono ?_; rintro e w2 ⟨rfl, HI2, HB2, _⟩; rw [ref_Escape.cells acc [38, 108, 116, 59] (⟨#[38, 108, 116, 59]⟩ : ByteArray) rfl] at HI2; have HI3 : Bld.IsB w.heap.size w.heap.size (Lib.byteCells (acc ++ ref_Escape.esc a1 c)) w2 := (by rw [he.out]; exact HI2))
          go_roundw
          case rel => exact ⟨i + 1, acc ++ ref_Escape.esc a1 c, by rw [← ew], ⟨HI3⟩, ⟨HB.out.trans HB2⟩, ⟨by rw [hdl]; exact HS2.out⟩, ⟨by omega⟩, ⟨by have := HA.out; have := HEL.out; simp; omega⟩⟩
          case measure => simp only [ref_Escape.iv, ew]; omega
        · have f60 : ((c.toNat : Int) == 60) = false := beq_eq_false_iff_ne.mpr k60
          have g60 : decide ((c.toNat : Int) = 60) = false := decide_eq_false k60
          by_cases k62 : (c.toNat : Int) = 62
          · have he : ref_Escape.esc a1 c = [38, 103, 116, 59] := by unfold ref_Escape.esc; rw [if_neg (fun z => k38 (b1.2 z)), if_neg (fun z => k60 (b2.2 z)), if_pos (b3.1 k62)]
            have f62 : ((c.toNat : Int) == 62) = true := beq_iff_eq.mpr k62
            have g62 : decide ((c.toNat : Int) = 62) = true := decide_eq_true k62
            replace he := Aside0.mk he
            clear b1 b2 b3 b4 hcl hlen
            go_wp2_with (go_at_call 37; refine (Bld.writeString w.heap.size w.heap.size (Lib.byteCells acc) (⟨#[38, 103, 116, 59]⟩ : ByteArray) wr HI.out hz4 hbs).mono ?_; rintro e w2 ⟨rfl, HI2, HB2, _⟩; rw [ref_Escape.cells acc [38, 103, 116, 59] (⟨#[38, 103, 116, 59]⟩ : ByteArray) rfl] at HI2; have HI3 : Bld.IsB w.heap.size w.heap.size (Lib.byteCells (acc ++ ref_Escape.esc a1 c)) w2 := (by rw [he.out]; exact HI2))
            go_roundw
            case rel => exact ⟨i + 1, acc ++ ref_Escape.esc a1 c, by rw [← ew], ⟨HI3⟩, ⟨HB.out.trans HB2⟩, ⟨by rw [hdl]; exact HS2.out⟩, ⟨by omega⟩, ⟨by have := HA.out; have := HEL.out; simp; omega⟩⟩
            case measure => simp only [ref_Escape.iv, ew]; omega
          · have f62 : ((c.toNat : Int) == 62) = false := beq_eq_false_iff_ne.mpr k62
            have g62 : decide ((c.toNat : Int) = 62) = false := decide_eq_false k62
            by_cases k34 : (c.toNat : Int) = 34
            · have f34 : ((c.toNat : Int) == 34) = true := beq_iff_eq.mpr k34
              have g34 : decide ((c.toNat : Int) = 34) = true := decide_eq_true k34
              cases a1 with
              | true =>
                have he : ref_Escape.esc true c = [38, 113, 117, 111, 116, 59] := by unfold ref_Escape.esc; rw [if_neg (fun z => k38 (b1.2 z)), if_neg (fun z => k60 (b2.2 z)), if_neg (fun z => k62 (b3.2 z)), if_pos ⟨b4.1 k34, rfl⟩]
                replace he := Aside0.mk he
                clear b1 b2 b3 b4 hcl hlen
                go_wp2_with (go_at_call 37; refine (Bld.writeString w.heap.size w.heap.size (Lib.byteCells acc) (⟨#[38, 113, 117, 111, 116, 59]⟩ : ByteArray) wr HI.out hz6 hbs).mono ?_; rintro e w2 ⟨rfl, HI2, HB2, _⟩; rw [ref_Escape.cells acc [38, 113, 117, 111, 116, 59] (⟨#[38, 113, 117, 111, 116, 59]⟩ : ByteArray) rfl] at HI2; have HI3 : Bld.IsB w.heap.size w.heap.size (Lib.byteCells (acc ++ ref_Escape.esc true c)) w2 := (by rw [he.out]; exact HI2))
                go_roundw
                case rel => exact ⟨i + 1, acc ++ ref_Escape.esc true c, by rw [← ew], ⟨HI3⟩, ⟨HB.out.trans HB2⟩, ⟨by rw [hdl]; exact HS2.out⟩, ⟨by omega⟩, ⟨by have := HA.out; have := HEL.out; simp; omega⟩⟩
                case measure => simp only [ref_Escape.iv, ew]; omega
              | false =>
                have he : ref_Escape.esc false c = [c] := by unfold ref_Escape.esc; rw [if_neg (fun z => k38 (b1.2 z)), if_neg (fun z => k60 (b2.2 z)), if_neg (fun z => k62 (b3.2 z)), if_neg (by simp)]
                replace he := Aside0.mk he
                clear b1 b2 b3 b4 hcl hlen
                go_wp2_with (go_at_call 38; refine (Bld.writeByte w.heap.size w.heap.size (Lib.byteCells acc) 34 wr HI.out hl0 hbs).mono ?_; rintro e w2 ⟨rfl, HI2, HB2, _⟩; have HI3 : Bld.IsB w.heap.size w.heap.size (Lib.byteCells (acc ++ ref_Escape.esc false c)) w2 := (by rw [he.out, Lib.byteCells_append]; have e34 : Lib.byteCells [c] = [Value.int .u8 34] := (by simp only [Lib.byteCells, List.map_cons, List.map_nil]; rw [k34]); rw [e34]; exact HI2))
                go_roundw
                case rel => exact ⟨i + 1, acc ++ ref_Escape.esc false c, by rw [← ew], ⟨HI3⟩, ⟨HB.out.trans HB2⟩, ⟨by rw [hdl]; exact HS2.out⟩, ⟨by omega⟩, ⟨by have := HA.out; have := HEL.out; simp; omega⟩⟩
                case measure => simp only [ref_Escape.iv, ew]; omega
            · have f34 : ((c.toNat : Int) == 34) = false := beq_eq_false_iff_ne.mpr k34
              have g34 : decide ((c.toNat : Int) = 34) = false := decide_eq_false k34
              have he : ref_Escape.esc a1 c = [c] := by unfold ref_Escape.esc; rw [if_neg (fun z => k38 (b1.2 z)), if_neg (fun z => k60 (b2.2 z)), if_neg (fun z => k62 (b3.2 z)), if_neg (fun z => k34 (b4.2 z.1))]
              replace he := Aside0.mk he
              clear b1 b2 b3 b4 hcl hlen
              go_wp2_with (go_at_call 38; refine (Bld.writeByte w.heap.size w.heap.size (Lib.byteCells acc) (c.toNat : Int) wr HI.out hl0 hbs).mono ?_; rintro e w2 ⟨rfl, HI2, HB2, _⟩; have HI3 : Bld.IsB w.heap.size w.heap.size (Lib.byteCells (acc ++ ref_Escape.esc a1 c)) w2 := (by rw [he.out, Lib.byteCells_append]; exact HI2))
              go_roundw
              case rel => exact ⟨i + 1, acc ++ ref_Escape.esc a1 c, by rw [← ew], ⟨HI3⟩, ⟨HB.out.trans HB2⟩, ⟨by rw [hdl]; exact HS2.out⟩, ⟨by omega⟩, ⟨by have := HA.out; have := HEL.out; simp; omega⟩⟩
              case measure => simp only [ref_Escape.iv, ew]; omega
    · have c1 : decide ((i : Int) < (a0.size : Int)) = false := decide_eq_false (by omega)
      have hd : a0.data.toList.drop i = [] := List.drop_eq_nil_of_le (by omega)
      have HE : acc = ref_Escape.go a0.data.toList a1 := by
        have := HS.out
        rw [hd] at this
        simpa [ref_Escape.go] using this
      go_wp2_with (first | (go_at_call 39; refine (Bld.string_of w.heap.size w.heap.size acc _ HI.out hbs).mono ?_; rintro e w2 ⟨rfl, HI2, HB2, _⟩))
      go_ret
      exact ⟨by rw [← HE]; rfl, HB.out.trans HB2⟩
end Go.Proofs.YtckdmjdlmhnamaaDoor.X
end
