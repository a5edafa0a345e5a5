-- Written by xprint.py (a program of this repo) for seat Ythimfdojpgbmbaa.
import Derived.Test.YthimfdojpgbmbaaX0
namespace Go.Proofs.Ythimfdojpgbmbaa.X
open Go.RowKit Go.Proofs.YthimfdojpgbmbaaW.PrintWords Go.Proofs.YthimfdojpgbmbaaW.PrintLast Go.Proofs.YthimfdojpgbmbaaW.PrintMore
attribute [local go_sem] max2_int min2_int max_two min_two max_three min_three max_four min_four   -- for this text's walks alone
set_option linter.unusedVariables false
set_option linter.unusedSimpArgs false

/-! ### bobbinetkeep_sameNodes: function 32 -/
def bobbinetkeep_sameNodes.eq : List S60 → List S60 → Bool
  | [], [] => true
  | n :: l, m :: l2 => decide (n.f0 = m.f0) && decide (n.f2 = m.f2) && decide (n.f1.map (fun a => (a.f0, a.f1)) = m.f1.map (fun a => (a.f0, a.f1))) && bobbinetkeep_sameNodes.eq n.f3 m.f3 && bobbinetkeep_sameNodes.eq l l2
  | _, _ => false
termination_by l => SizeOf.sizeOf l
decreasing_by all_goals (cases n; simp; omega)
theorem bobbinetkeep_sameNodes.ind {P : List S60 → Prop} (h0 : P []) (h1 : ∀ n l, P n.f3 → P l → P (n :: l)) : ∀ l, P l
  | [] => h0
  | n :: l => h1 n l (bobbinetkeep_sameNodes.ind h0 h1 n.f3) (bobbinetkeep_sameNodes.ind h0 h1 l)
termination_by l => SizeOf.sizeOf l
decreasing_by all_goals (cases n; simp; omega)
theorem bobbinetkeep_sameNodes.ind2 {P : List S60 → Prop} (h : ∀ l, (∀ n ∈ l, P n.f3) → P l) (l : List S60) : P l := by
  have : ∀ n ∈ l, P n.f3 := by
    induction l using bobbinetkeep_sameNodes.ind with
    | h0 => simp
    | h1 n l ih1 ih2 =>
      intro m hm
      rcases List.mem_cons.1 hm with rfl | hm
      · exact h _ ih1
      · exact ih2 m hm
  exact h l this
theorem bobbinetkeep_sameNodes.attrs : ∀ a b : List S75, a.map (fun a => (a.f0, a.f1)) = b.map (fun a => (a.f0, a.f1)) → a = b
  | [], [], _ => rfl
  | [], _ :: _, h => by simp at h
  | _ :: _, [], h => by simp at h
  | ⟨x0, x1⟩ :: a, ⟨y0, y1⟩ :: b, h => by
    simp only [List.map_cons, List.cons.injEq, Prod.mk.injEq] at h
    obtain ⟨⟨rfl, rfl⟩, h⟩ := h
    rw [bobbinetkeep_sameNodes.attrs a b h]
theorem bobbinetkeep_sameNodes.eq_iff (l : List S60) : ∀ l2, bobbinetkeep_sameNodes.eq l l2 = true ↔ l = l2 := by
  induction l using bobbinetkeep_sameNodes.ind with
  | h0 =>
    intro l2
    cases l2 with
    | nil => simp [bobbinetkeep_sameNodes.eq]
    | cons m l2 => simp [bobbinetkeep_sameNodes.eq]
  | h1 n l ih1 ih2 =>
    intro l2
    cases l2 with
    | nil => simp [bobbinetkeep_sameNodes.eq]
    | cons m l2 =>
      rw [bobbinetkeep_sameNodes.eq]
      simp only [Bool.and_eq_true, decide_eq_true_eq, ih1, ih2]
      obtain ⟨n0, n1, n2, n3⟩ := n
      obtain ⟨m0, m1, m2, m3⟩ := m
      constructor
      · rintro ⟨⟨⟨⟨h1, h2⟩, h3⟩, h4⟩, h5⟩
        simp only at h1 h2 h3 h4
        rw [h1, h2, bobbinetkeep_sameNodes.attrs _ _ h3, h4, h5]
      · intro h
        simp only [List.cons.injEq, S60.mk.injEq] at h
        obtain ⟨⟨rfl, rfl, rfl, rfl⟩, rfl⟩ := h
        exact ⟨⟨⟨⟨rfl, rfl⟩, rfl⟩, rfl⟩, rfl⟩
def bobbinetkeep_sameNodes.f (l0 l1 : List S60) : Option Bool := if bobbinetkeep_sameNodes.eq l0 l1 = true then some true else none
theorem bobbinetkeep_sameNodes.f_refl (l : List S60) : bobbinetkeep_sameNodes.f l l = some true := if_pos ((bobbinetkeep_sameNodes.eq_iff l l).2 rfl)
theorem bobbinetkeep_sameNodes.eqA (d : Nat) (w : World) (x0 x1 : ByteArray) :
    (Op.equalIn (d + 2) 75 (.agg #[.string x0, .string x1]) (.agg #[.string x0, .string x1])).run Try.prog w = .ok true w := by
  have h : (Op.equalIn (d + 2) 75 (.agg #[.string x0, .string x1]) (.agg #[.string x0, .string x1])).run Try.prog w = .ok (x0.toList == x0.toList && (x1.toList == x1.toList)) w := by
    refine eqA_of Try.underlying75 (by kernel_rfl) ?_
    refine eqf_cons (by rfl) (by go_simp; rfl) (by go_simp; rfl) (by go_simp) ?_
    exact eqf_last (by rfl) (by go_simp; rfl) (by go_simp; rfl) (by go_simp)
  simpa using h
attribute [local go_sem high] bobbinetkeep_sameNodes.eqA
def bobbinetkeep_sameNodes.W (l : List S60) : Prop := ∀ (A0 : Option Addr) (c0 : Nat) (A1 : Option Addr) (c1 : Nat) (w : World), Kd.C k60 w A0 l.length l → Kd.C k60 w A1 l.length l → Calls Try.prog 32 #[.slice A0 l.length c0, .slice A1 l.length c1] w fun e w' => e = .returned (.bool true) ∧ Drawn0 w w'
set_option maxHeartbeats 2000000 in
set_option maxRecDepth 100000 in
theorem bobbinetkeep_sameNodes.step (l : List S60) (ih : ∀ n ∈ l, bobbinetkeep_sameNodes.W n.f3) : bobbinetkeep_sameNodes.W l := by
  intro A0 c0 A1 c1 w h0 h1
  have HR0 := Aside0.mk h0
  have HR1 := Aside0.mk h1
  have HIH := Aside0.mk ih
  have hmax := Kd.C_max h0
  clear h0 h1 ih
  go_enter Try.func32, Try.ntmps32
  go_wp2
  go_loopw [5] (fun v5 wr => ∃ x5 : Int, v5 = .int .i64 x5 ∧ Aside0 (0 ≤ x5 ∧ x5 ≤ l.length) ∧ Drawn0 w wr) (fun v5 wr => l.length - (intOf v5).toNat)
  case atStart => exact ⟨0, rfl, ⟨by omega⟩, ⟨0, rfl⟩⟩
  case round =>
    obtain ⟨x5, rfl, HX, HD⟩ := hrel
    obtain ⟨nd, rfl⟩ := HD.out
    have p0 := HX.out.1
    by_cases q0 : x5 < (l.length : Int)
    · obtain ⟨ad, C1, e1, C3, e3, eA, hx0, hx1, hx2, hx3, hl1, hc1, hl3, hc3⟩ := at_T60 HR0.out x5 p0 q0
      obtain ⟨bd, D1, g1, D3, g3, eB, hy0, hy1, hy2, hy3, hm1, hd1, hm3, hd3⟩ := at_T60 HR1.out x5 p0 q0
      have hmem : rd_T60 l x5 ∈ l := by
        have : x5.toNat < l.length := by omega
        simp [rd_T60, List.getD, this]
      have HQ := HIH.out _ hmem
      obtain ⟨⟨n0, n1, n2, n3⟩, hn⟩ : ∃ n, rd_T60 l x5 = n := ⟨_, rfl⟩
      simp only [hn] at hx0 hx1 hx2 hx3 hy0 hy1 hy2 hy3 hc1 hc3 hd1 hd3 HQ
      clear hn hmem hl1 hl3 hm1 hm3
      have HC : Aside0 (∀ m, Calls Try.prog 32 #[.slice C3 n3.length e3, .slice D3 n3.length g3] (w.drewN (nd + m)) fun e w' => e = .returned (.bool true) ∧ ∃ q, w' = w.drewN (nd + q)) := ⟨fun m => (HQ C3 e3 D3 g3 (w.drewN (nd + m)) (Kd.C_drewN hc3 _) (Kd.C_drewN hd3 _)).mono (fun e w' h => ⟨h.1, by
        obtain ⟨q, hq⟩ := h.2.out
        exact ⟨m + q, by rw [hq, World.drewN_drewN, Nat.add_assoc]⟩⟩)⟩
      have HC1 := Aside0.mk hc1
      have HD1 := Aside0.mk hd1
      have hm1 := Kd.C_max hc1
      clear HQ hc1 hc3 hd1 hd3
      subst eA eB
      have hb0 : decide (x5 < (l.length : Int)) = true := decide_eq_true q0
      have hw : wrap64 (x5 + 1) = x5 + 1 := by unfold wrap64; omega
      have HW := Aside0.mk hw
      have HQ0 := Aside0.mk q0
      clear hw
      replace p0 := eq_true p0
      replace q0 := eq_true q0
      go_wp2
      go_quiet ((go_at_call 32; exact HC.out _))
      go_wp2
      go_loopw [6] (fun v6 wr => ∃ x6 : Int, v6 = .int .i64 x6 ∧ Aside0 (0 ≤ x6 ∧ x6 ≤ n1.length) ∧ Drawn0 w wr) (fun v6 wr => n1.length - (intOf v6).toNat)
      case atStart => exact ⟨0, rfl, ⟨by omega⟩, ⟨_, by first | exact World.drewN_drewN _ _ _ | rfl⟩⟩
      case round =>
        obtain ⟨x6, rfl, HX6, HD6⟩ := hrel
        obtain ⟨nd6, rfl⟩ := HD6.out
        have p6 := HX6.out.1
        by_cases q6 : x6 < (n1.length : Int)
        · obtain ⟨ad6, eA6, ha0, ha1⟩ := at_T75 HC1.out x6 p6 q6
          obtain ⟨bd6, eB6, hd0, hd1⟩ := at_T75 HD1.out x6 p6 q6
          obtain ⟨⟨a0, a1⟩, ha⟩ : ∃ a, rd_T75 n1 x6 = a := ⟨_, rfl⟩
          simp only [ha] at ha0 ha1 hd0 hd1
          clear ha
          subst eA6 eB6
          have hb6 : decide (x6 < (n1.length : Int)) = true := decide_eq_true q6
          have hw6 : wrap64 (x6 + 1) = x6 + 1 := by unfold wrap64; omega
          have HW6 := Aside0.mk hw6
          have HQ6 := Aside0.mk q6
          clear hw6
          replace p6 := eq_true p6
          replace q6 := eq_true q6
          go_wp2
          go_quiet (fail)
          go_wp2
          go_roundw
          case rel => exact ⟨x6 + 1, by rw [HW6.out], ⟨by have := HX6.out; have := HQ6.out; omega⟩, ⟨_, by first | exact World.drewN_drewN _ _ _ | rfl⟩⟩
          case measure => have := HQ6.out; have := HX6.out; simp [intOf, HW6.out]; omega
        · have hb6 : decide (x6 < (n1.length : Int)) = false := decide_eq_false q6
          go_wp2
          go_roundw
          case rel => exact ⟨x5 + 1, by rw [HW.out], ⟨by have := HX.out; have := HQ0.out; omega⟩, ⟨_, rfl⟩⟩
          case measure => have := HQ0.out; have := HX.out; simp [intOf, HW.out]; omega
    · have hb0 : decide (x5 < (l.length : Int)) = false := decide_eq_false q0
      go_wp2
      go_ret
      exact ⟨rfl, ⟨nd, rfl⟩⟩
theorem bobbinetkeep_sameNodes.calls (A0 : Option Addr) (c0 : Nat) (l0 : List S60) (A1 : Option Addr) (c1 : Nat) (l1 : List S60) (r : Bool) (w : World) (hr0 : Kd.C k60 w A0 l0.length l0) (hc0 : l0.length ≤ c0) (hr1 : Kd.C k60 w A1 l1.length l1) (hc1 : l1.length ≤ c1) (h : bobbinetkeep_sameNodes.f l0 l1 = some r) :
    Calls Try.prog 32 #[.slice A0 l0.length c0, .slice A1 l1.length c1] w fun e w' => e = .returned (.bool r) ∧ Drawn0 w w' := by
  have h2 : bobbinetkeep_sameNodes.eq l0 l1 = true ∧ true = r := by
    unfold bobbinetkeep_sameNodes.f at h
    split at h
    · exact ⟨by assumption, Option.some.inj h⟩
    · cases h
  obtain ⟨h2, rfl⟩ := h2
  obtain rfl := (bobbinetkeep_sameNodes.eq_iff l0 l1).1 h2
  exact bobbinetkeep_sameNodes.ind2 bobbinetkeep_sameNodes.step l0 A0 c0 A1 c1 w hr0 hr1

end Go.Proofs.Ythimfdojpgbmbaa.X
