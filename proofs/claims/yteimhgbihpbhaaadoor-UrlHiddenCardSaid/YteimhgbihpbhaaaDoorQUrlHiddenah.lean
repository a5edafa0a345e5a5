/- Parts of the proof of UrlHidden that are needed, put together by pack.py. -/
import Derived.Test.YteimhgbihpbhaaaDoorQUrlHiddenag
import Derived.Test.YteimhgbihpbhaaaDoorQUrlHiddenaf
import Derived.Lib.BufferMore
import Derived.Laws.BytesArg
import Derived.Shelf.Strings.SlTrimAscii
import Derived.Lib.SlTrimSet
import Derived.Lib.ConvBytes
import Derived.Laws.NewBlocks
import Derived.RegionCalls
import Derived.RegionTactic
import Derived.Laws.LoneSync
import Derived.Laws.Pointers
import Derived.Tactics2
import Derived.Defers
section
namespace Go.Proofs.YteimhgbihpbhaaaDoor.X
open Go.RowKit Go.Proofs.YteimhgbihpbhaaaDoorW.PrintWords Go.Proofs.YteimhgbihpbhaaaDoorW.PrintLast Go.Proofs.YteimhgbihpbhaaaDoorW.PrintMore
attribute [local go_sem] max2_int min2_int max_two min_two max_three min_three max_four min_four   -- for this text's walks alone
set_option linter.unusedVariables false
set_option linter.unusedSimpArgs false
def url_Strip.cutset : ByteArray := ⟨#[0, 1, 2, 3, 4, 5, 6, 7, 8, 9, 10, 11, 12, 13, 14, 15, 16, 17, 18, 19, 20, 21, 22, 23, 24, 25, 26, 27, 28, 29, 30, 31, 32]⟩
def url_Strip.gone (c : UInt8) : Bool := c == 9 || c == 10 || c == 13
def url_Strip.f (a0 : ByteArray) : Option ByteArray := if a0.size ≤ 140737488355328 then some ⟨((Lib.trimS a0.data.toList url_Strip.cutset.data.toList).filter fun c => !url_Strip.gone c).toArray⟩ else none
theorem url_Strip.disable (w : World) : (callFunc 113 #[]).run Tryd.prog w = .ok (.value (.tuple #[])) w := run_call_mark0 Tryd.func113 (by kernel_rfl) (by kernel_rfl) (by kernel_rfl) .disable (by kernel_rfl) w
theorem url_Strip.enable (w : World) : (callFunc 115 #[]).run Tryd.prog w = .ok (.value (.tuple #[])) w := run_call_mark0 Tryd.func115 (by kernel_rfl) (by kernel_rfl) (by kernel_rfl) .enable (by kernel_rfl) w
theorem url_Strip.acquire (a : Addr) (w : World) : (callFunc 116 #[.pointer (some a)]).run Tryd.prog w = .ok (.value (.tuple #[])) w := run_call_marked Tryd.func116 (by kernel_rfl) (by kernel_rfl) (by kernel_rfl) .acquire (by kernel_rfl) a w
theorem url_Strip.releaseMerge (a : Addr) (w : World) : (callFunc 118 #[.pointer (some a)]).run Tryd.prog w = .ok (.value (.tuple #[])) w := run_call_marked Tryd.func118 (by kernel_rfl) (by kernel_rfl) (by kernel_rfl) .releaseMerge (by kernel_rfl) a w
set_option maxRecDepth 100000 in
set_option maxHeartbeats 1600000 in
theorem url_Strip.store_deferred (a : Addr) (x : Value) (u : FrameMode) (w : World) (hc : w.cell? a = some x) (hz : w.frozen? a = false) :
    CallsD Tryd.prog 90 #[.pointer (some a), .bool true] u w fun e u' w' => u' = u ∧ (e = .returned (.tuple #[]) ∧ w' = w.drew.setCell a (.int .u32 1)) := by
  have hc' : w.drew.cell? a = some x := by go_simp
  have hz' : w.drew.frozen? a = false := by go_simp
  have hst := run_call_store (P := Tryd.prog) Tryd.func102 (by kernel_rfl) (by kernel_rfl) (by kernel_rfl) (by kernel_rfl) (k := .u32) (y := 1) hc' hz'
  go_enter_d Tryd.func90, Tryd.ntmps90
  go_wp2
  go_region_calls
  all_goals (go_end0; exact ⟨rfl, rfl⟩)
set_option maxRecDepth 100000 in
set_option maxHeartbeats 1600000 in
theorem url_Strip.unlock_deferred (a : Addr) (u : FrameMode) (w : World) (hc : w.cell? a = some (.int .i32 1)) (hz : w.frozen? a = false) :
    CallsD Tryd.prog 89 #[.pointer (some a)] u w fun e u' w' => u' = u ∧ (e = .returned (.tuple #[]) ∧ w' = w.setCell a (.int .i32 0)) := by
  have hd := url_Strip.disable
  have he := url_Strip.enable
  have hr := url_Strip.releaseMerge
  have hadd := run_call_add (P := Tryd.prog) Tryd.func119 (by kernel_rfl) (by kernel_rfl) (by kernel_rfl) .i32 (by kernel_rfl) (y := -1) (s := 0) hc hz (by simp [go_sem]; rfl)
  have hcv := run_convert_to_unsafe (P := Tryd.prog) (src := 169) (dst := 116) Tryd.underlying169 Tryd.underlying116 (by kernel_rfl) hc
  go_enter_d Tryd.func89, Tryd.ntmps89
  go_wp2
  go_end0
  go_wp2
  go_end0
  exact ⟨rfl, rfl⟩
set_option maxRecDepth 100000 in
set_option maxHeartbeats 1600000 in
theorem url_Strip.lock_free (a : Addr) (w : World) (hc : w.cell? a = some (.int .i32 0)) (hz : w.frozen? a = false) :
    Calls Tryd.prog 88 #[.pointer (some a)] w fun e w' => e = .returned (.tuple #[]) ∧ w' = w.setCell a (.int .i32 1) := by
  have hd := url_Strip.disable
  have he := url_Strip.enable
  have ha := url_Strip.acquire
  have hcas := run_call_cas_hit (P := Tryd.prog) Tryd.func114 (by kernel_rfl) (by kernel_rfl) (by kernel_rfl) .i32 (by kernel_rfl) (y := 1) hc hz
  have hc' : (w.setCell a (.int .i32 1)).cell? a = some (.int .i32 1) := World.cell?_setCell_same w a _ hc
  have hcv := run_convert_to_unsafe (P := Tryd.prog) (src := 169) (dst := 116) Tryd.underlying169 Tryd.underlying116 (by kernel_rfl) hc'
  go_enter Tryd.func88, Tryd.ntmps88
  go_wp2
  first | go_end0 | (simp only [Exit.inBlock, Exit.then]; refine bodyPost_ret (results_none rfl _ _ _) rfl ?_) | refine bodyPost_ret (results_none rfl _ _ _) rfl ?_
  go_wp2
  go_end0
  exact ⟨rfl, rfl⟩
abbrev url_Strip.olds : List ByteArray := [⟨#[9]⟩, ⟨#[]⟩, ⟨#[10]⟩, ⟨#[]⟩, ⟨#[13]⟩, ⟨#[]⟩]
theorem url_Strip.pack {P : Program} {c : Code} {Q : Exit → Act → World → Prop} {a : Act} {W : World} (F : World → Prop) (h1 : F W) (h : ∀ W', F W' → Code.wp P c Q a W') : Code.wp P c Q a W := h W h1
/-- the replacer's table: which bytes have a text, and the list of them -/
structure url_Strip.Rep (W : World) (g base : Nat) (done : List Nat) (v : Value) (names : List ByteArray) : Prop where
  blk : ∃ C, W.heap[g]? = some (.cells C 138 (0, 0)) ∧ C.size = 257 ∧ C[256]? = some v ∧ ∀ c, c < 256 → (c ∈ done → ∃ hh cc, C[c]? = some (.slice (some ⟨hh, 0, none⟩) 0 cc)) ∧ (c ∉ done → C[c]? = some (.slice none 0 0))
  row : Kd.string.R 9 W base (fun k => k ≠ g) v names
theorem url_Strip.blk_new' (w : World) (o1 o2 : Obj) : ((w.alloc o1).alloc o2).heap[w.heap.size + 1]? = some o2 := by
  have := heap_alloc_new (w.alloc o1) o2
  simpa using this
theorem url_Strip.below_bytes (w : World) (s : ByteArray) : Below w.heap.size w (Lib.bytesWorld w 5 s) := ⟨rfl, rfl, rfl, by rw [Lib.bytesWorld_size]; omega, fun j hj => Lib.bytesWorld_at_old w 5 s j hj⟩
theorem url_Strip.zero_size : Tryd.zeroCells138.size = 257 := by kernel_rfl
theorem url_Strip.zero_all : (Tryd.zeroCells138.toList.all fun v => match v with | .slice none 0 0 => true | _ => false) = true := by kernel_rfl
theorem url_Strip.zero_at (c : Nat) (h : c < 257) : Tryd.zeroCells138[c]? = some (.slice none 0 0) := by
  have hl : c < Tryd.zeroCells138.size := by rw [url_Strip.zero_size]; exact h
  have h1 := List.all_eq_true.1 url_Strip.zero_all (Tryd.zeroCells138[c]) (by rw [Array.mem_toList_iff]; exact Array.getElem_mem hl)
  rw [Array.getElem?_eq_getElem hl]
  congr 1
  split at h1
  · assumption
  · cases h1
set_option maxRecDepth 100000 in
set_option maxHeartbeats 8000000 in
theorem url_Strip.build (b h cap : Nat) (w : World) (hb : w.cell? ⟨b, 4, none⟩ = some (.slice (some ⟨h, 0, none⟩) 6 cap)) (hc : ∀ (i : Nat) (s : ByteArray), url_Strip.olds[i]? = some s → w.cell? ⟨h, i, none⟩ = some (.string s)) :
    Calls Tryd.prog 72 #[.pointer (some ⟨b, 0, none⟩)] w fun e w' => ∃ g v, e = .returned (.iface 139 (.pointer (some ⟨g, 0, none⟩))) ∧ w.heap.size ≤ g ∧ url_Strip.Rep w' g w.heap.size [13, 10, 9] v [⟨#[13]⟩, ⟨#[10]⟩, ⟨#[9]⟩] ∧ Below w.heap.size w w' := by
  have h0 := hc 0 _ rfl
  have h1 := hc 1 _ rfl
  have h2 := hc 2 _ rfl
  have h3 := hc 3 _ rfl
  have h4 := hc 4 _ rfl
  have h5 := hc 5 _ rfl
  have HC := Aside0.mk hc
  have HCB := Aside0.mk hb
  clear hc
  go_enter Tryd.func72, Tryd.ntmps72
  go_wp2
  go_loopw [4, 5] (fun v4 v5 wr => Aside0 (wr = w) ∧ ((v4 = .bool true ∧ v5 = .int .i64 0) ∨ (v4 = .bool false ∧ v5 = .int .i64 2) ∨ (v4 = .bool false ∧ v5 = .int .i64 4) ∨ (v4 = .bool false ∧ v5 = .int .i64 6))) (fun _ v5 _ => 6 - (intOf v5).toNat)
  case atStart => exact ⟨⟨rfl⟩, .inl ⟨rfl, rfl⟩⟩
  case round =>
    obtain ⟨⟨rfl⟩, ⟨rfl, rfl⟩ | ⟨rfl, rfl⟩ | ⟨rfl, rfl⟩ | ⟨rfl, rfl⟩⟩ := hrel
    · go_wp2
      go_roundw
      case rel => exact ⟨⟨trivial⟩, .inr (.inl ⟨rfl, rfl⟩)⟩
      case measure => simp [intOf]
    · go_wp2
      go_roundw
      case rel => exact ⟨⟨trivial⟩, .inr (.inr (.inl ⟨rfl, rfl⟩))⟩
      case measure => simp [intOf]
    · go_wp2
      go_roundw
      case rel => exact ⟨⟨trivial⟩, .inr (.inr (.inr ⟨rfl, rfl⟩))⟩
      case measure => simp [intOf]
    · obtain ⟨i0, hi, hzz⟩ := Option.map_eq_some_iff.1 info9
      simp only [Prod.mk.injEq] at hzz
      have hmk := run_make (P := Tryd.prog) wr 30 9 i0 (.string ⟨#[]⟩) Tryd.underlying30 hi hzz.1 .i64 .i64 0 3 (by decide) (by decide) (by rw [hzz.2.2]; decide) (by decide)
      rw [hzz.2.1] at hmk
      clear hzz hi
      have hst := run_storeCells_from (P := Tryd.prog) (wr.heap.size + 1) 138 (Tryd.zeroCells138.toList.set 256 (Value.slice (some ⟨wr.heap.size, 0, none⟩) 0 3)) 0 Tryd.zeroCells138 ((wr.alloc (.cells (madeCells #[Value.string ⟨#[]⟩] 3) 9)).alloc (.cells Tryd.zeroCells138 138)) (by have := heap_alloc_new (wr.alloc (.cells (madeCells #[Value.string ⟨#[]⟩] 3) 9)) (.cells Tryd.zeroCells138 138); simpa using this) (by simp) (fun v hv => by
        rcases List.mem_or_eq_of_mem_set hv with hv | rfl
        · obtain ⟨i, hi, rfl⟩ := List.getElem_of_mem hv
          have hz := url_Strip.zero_at i (by have := url_Strip.zero_size; simp at hi; omega)
          rw [Array.getElem?_eq_getElem (by simpa using hi)] at hz
          have e2 := Option.some.inj hz
          rw [Array.getElem_toList, e2]; rfl
        · rfl)
      go_wp2
      refine url_Strip.pack (fun W => url_Strip.Rep W (wr.heap.size + 1) wr.heap.size [] (.slice (some ⟨wr.heap.size, 0, none⟩) 0 3) [] ∧ Below wr.heap.size wr W) ?_ ?_
      · refine ⟨⟨⟨(Tryd.zeroCells138.toList.set 256 (Value.slice (some ⟨wr.heap.size, 0, none⟩) 0 3)).toArray, ?_, ?_, ?_, fun c hc => ⟨fun h => by simp at h, fun _ => ?_⟩⟩, ?_⟩, ?_⟩
        · exact setRow_heap _ _ _ _ _ _ (url_Strip.blk_new' wr _ _)
        · simp [url_Strip.zero_size]
        · simp [url_Strip.zero_size]
        · have hz := url_Strip.zero_at c (by omega)
          simp [List.getElem?_set, show ¬ 256 = c by omega]
          simpa using hz
        · refine ⟨fun k hk => ?_, [], ⟨rfl, .inr ⟨wr.heap.size, 3, madeCells #[Value.string ⟨#[]⟩] 3, rfl, Nat.le_refl _, ?_, Nat.zero_le _, by decide, by rw [size_madeCells]; rfl, rfl⟩⟩, ⟨rfl, fun j p hj => by simp at hj⟩⟩
          · have hk2 : wr.heap.size = k := by simpa [Value.ownBlock] using hk
            omega
          · rw [setRow_other _ _ _ _ (by omega)]
            exact blk_alloc (blk_new _ _) _
        · have hb2 : Below wr.heap.size wr ((wr.alloc (.cells (madeCells #[Value.string ⟨#[]⟩] 3) 9)).alloc (.cells Tryd.zeroCells138 138)) := below_alloc (below_alloc (Below.refl _ _) _) _
          exact ⟨hb2.os, hb2.tape, hb2.output, by rw [setRow_size]; exact hb2.size, fun j hj => (setRow_other _ _ _ _ (by omega)).trans (hb2.block j hj)⟩
      · rintro W1 ⟨hrep, hbl⟩
        obtain ⟨g, hg⟩ : ∃ g, wr.heap.size + 1 = g := ⟨_, rfl⟩
        rw [hg] at hrep ⊢
        have HG := Aside0.mk hg
        have HR := Aside0.mk hrep
        have HB := Aside0.mk hbl
        clear hmk hst hrep hbl hg h0 h1 h2 h3 h4 h5 hb
        obtain ⟨wo, rfl⟩ : ∃ wo : World, wo = wr := ⟨_, rfl⟩
        go_loopw [12, 13, 14] (fun v12 _ _ W => ∃ (n : Nat) (v : Value), ((n = 0 ∧ v12 = .int .i64 (-2)) ∨ ∃ m, n = m + 1 ∧ v12 = .int .i64 ((2 * m : Nat) : Int)) ∧ Aside0 (n ≤ 3) ∧ Aside0 (url_Strip.Rep W g wo.heap.size (([13, 10, 9] : List Nat).take (3 - n)) v (([⟨#[13]⟩, ⟨#[10]⟩, ⟨#[9]⟩] : List ByteArray).take (3 - n))) ∧ Aside0 (Below wo.heap.size wo W)) (fun v12 _ _ _ => ((intOf v12) + 2).toNat)
        case atStart => exact ⟨3, _, .inr ⟨2, rfl, rfl⟩, ⟨Nat.le_refl _⟩, HR, HB⟩
        case round =>
          clear HR HB
          obtain ⟨n, v, hv, HN, HR, HB⟩ := hrel
          rcases hv with ⟨rfl, rfl⟩ | ⟨m, rfl, rfl⟩
          · have hlt : decide ((-2 : Int) ≥ 0) = false := by decide
            go_wp2
            go_ret
            exact ⟨_, _, rfl, by have := HG.out; omega, HR.out, HB.out⟩
          · obtain ⟨C, hC, hCs, hCl, hCc⟩ := HR.out.blk
            have hm3 := HN.out
            obtain ⟨c, hcx, hcl, hc256, hcn, htk, htn⟩ : ∃ c : UInt8, url_Strip.olds[2 * m]? = some ⟨#[c]⟩ ∧ url_Strip.olds[2 * m + 1]? = some ⟨#[]⟩ ∧ c.toNat < 256 ∧ c.toNat ∉ (([13, 10, 9] : List Nat).take (3 - (m + 1))) ∧ ([13, 10, 9] : List Nat).take (3 - m) = ([13, 10, 9] : List Nat).take (3 - (m + 1)) ++ [c.toNat] ∧ (([⟨#[13]⟩, ⟨#[10]⟩, ⟨#[9]⟩] : List ByteArray).take (3 - m)) = (([⟨#[13]⟩, ⟨#[10]⟩, ⟨#[9]⟩] : List ByteArray).take (3 - (m + 1))) ++ [⟨#[c]⟩] := by
              obtain rfl | rfl | rfl : m = 0 ∨ m = 1 ∨ m = 2 := by omega
              · exact ⟨9, rfl, rfl, by decide, by decide, rfl, rfl⟩
              · exact ⟨10, rfl, rfl, by decide, by decide, rfl, rfl⟩
              · exact ⟨13, rfl, rfl, by decide, by decide, rfl, rfl⟩
            have hx := pw_cell_below HB.out (HC.out _ _ hcx)
            have hy := pw_cell_below HB.out (HC.out _ _ hcl)
            obtain ⟨j, hj⟩ : ∃ j : Nat, 2 * m = j := ⟨_, rfl⟩
            obtain ⟨j1, hj1⟩ : ∃ j1 : Nat, j + 1 = j1 := ⟨_, rfl⟩
            rw [hj] at hx hy ⊢
            rw [hj1] at hy
            have hw1 : wrap64 ((j : Int) + 1) = (j1 : Int) := by unfold wrap64; omega
            have hj0 : (0 : Int) ≤ (j : Int) := by omega
            have hj6 : (j : Int) < 6 := by omega
            have hj10 : (0 : Int) ≤ (j : Int) + 1 := by omega
            have hj16 : (j : Int) + 1 < 6 := by omega
            have hjn : ((j : Int) + 1).toNat = j + 1 := by omega
            have hcz : 0 < (⟨#[c]⟩ : ByteArray).size := Nat.one_pos
            have hcc : (⟨#[c]⟩ : ByteArray)[0] = c := rfl
            rw [← hj1] at hy
            have hlt : decide ((j : Int) ≥ 0) = true := by simp
            have hC1 := (hCc c.toNat hc256).2 hcn
            have hld := (blk_cell hC c.toNat).trans hC1
            have hl256 := (blk_cell hC 256).trans hCl
            obtain ⟨A0, c0, rfl, hA0, _⟩ := Kd.R_reads HR.out.row
            have hcn0 : (0 : Int) ≤ (c.toNat : Int) := by omega
            have hcn1 : (c.toNat : Int) < 256 := by omega
            have hcnn : ((c.toNat : Int)).toNat = c.toNat := by omega
            have hnil : ∀ W, (binOp .eql 60 (.slice none 0 0) (.slice none 0 0)).run Tryd.prog W = .ok (.bool true) W := fun W => Lib.run_eql_slice_nil_nil W _ _ Tryd.underlying60
            have HNX : Aside0 (Kd.string.R 9 wr wo.heap.size (fun k => k ≠ g) (.slice A0 (List.take (3 - (m + 1)) ([⟨#[13]⟩, ⟨#[10]⟩, ⟨#[9]⟩] : List ByteArray)).length c0) (([⟨#[13]⟩, ⟨#[10]⟩, ⟨#[9]⟩] : List ByteArray).take (3 - (m + 1)))) := ⟨HR.out.row⟩
            obtain ⟨done, hdone⟩ : ∃ d, ([13, 10, 9] : List Nat).take (3 - (m + 1)) = d := ⟨_, rfl⟩
            obtain ⟨names, hnames⟩ : ∃ d, (([⟨#[13]⟩, ⟨#[10]⟩, ⟨#[9]⟩] : List ByteArray).take (3 - (m + 1))) = d := ⟨_, rfl⟩
            have HNL : Aside0 (names.length ≤ 3) := ⟨by rw [← hnames]; simp; omega⟩
            rw [hdone] at hCc htk
            rw [hnames] at hCl hl256 HNX htn
            clear hdone hnames HR
            have hcv1 := run_convert_bytes_arg (P := Tryd.prog) (wr.alloc (.cells #[.int .u8 (c.toNat : Int)] 5)) 60 5 Tryd.underlying60 Tryd.underlying5 wr.heap.size 0 1 1 [(c.toNat : Int)] rfl (fun i hi => by
              obtain rfl : i = 0 := by omega
              simp) 9 Tryd.underlying9
            have hso : strOfNums [(c.toNat : Int)] = (⟨#[c]⟩ : ByteArray) := by
              apply ByteArray.ext
              apply Array.ext'
              rw [strOfNums_data]
              simp
            rw [hso] at hcv1
            have hcv2 : ∀ W, (convert 9 60 (.string ⟨#[]⟩)).run Tryd.prog W = .ok (.slice (some ⟨W.heap.size, 0, none⟩) 0 (grownCap W 0 0 5)) (Lib.bytesWorld W 5 ⟨#[]⟩) := fun W => Lib.run_convert_string_bytes W 9 60 5 ⟨#[]⟩ (u := .string) Tryd.underlying9 Tryd.underlying60 Tryd.underlying5
            have HBx := Aside0.mk (And.intro hC (And.intro hCs (And.intro hCl hCc)))
            have HJ : Aside0 (2 * m = j ∧ c.toNat < 256 ∧ m ≤ 2) := ⟨hj, hc256, by omega⟩
            have HTK := Aside0.mk htk
            have HC1 := Aside0.mk hC1
            have HTN := Aside0.mk htn
            clear hC hCs hCl hCc hC1 hcx hcl hcn htk htn hj hj1 hso hc256 hm3
            go_wp2_with (first
              | (at_builtin; refine Kd.R_append Kd.string (w0 := wo) wo.heap.size rfl (.tmp 119) (.tmp 123) 30 9 (.string ⟨#[]⟩) 16 rfl Tryd.underlying30 info9 rfl (by decide) (by omega) (.slice A0 names.length c0) names ⟨#[c]⟩ [.string ⟨#[c]⟩] (fun k => k ≠ g) (fun _ => False) rfl (by first | (go_simp; done) | (go_simp; rfl)) rfl (fun _ hk => hk.elim) ?aF ?aO ?aB ?aS ?aL ?_; (case aF => exact fun k hk => by have := blk_lt HBx.out.1; simp at hk; omega); (case aO => exact Kd.R_alloc HNX.out _); (case aB => exact below_alloc HB.out _); (case aS => have := HB.out.size; simp; omega); (case aL => have := HNL.out; omega); intro v1 w1 ho hb hg hat; have HG1 := Aside0.mk (blk_grown (blk_alloc HBx.out.1 _) hg (Kd.R_away HNX.out (fun k hk => hk))); obtain ⟨A1, c1, e1⟩ := Kd.R_slice ho; subst e1; have HO1 := Aside0.mk ho; have HB1 := Aside0.mk hb; clear ho hb hg hat HNX HB hld hl256; have hst1 := (blk_cell HG1.out 256).trans HBx.out.2.2.1; have hst2 := blk_frozen HG1.out 256; have HG2 := Aside0.mk (blk_below (blk_set HG1.out 256 (.slice A1 (names.length + 1) c1)) (url_Strip.below_bytes _ ⟨#[]⟩)); have hst3 := (blk_cell HG2.out c.toNat).trans ((Array.getElem?_setIfInBounds_ne (by have := HJ.out.2.1; omega)).trans HC1.out); have hst4 := blk_frozen HG2.out c.toNat))
            go_roundw
            case rel =>
              have hb1 := HB1.out
              have hlen : (names ++ [(⟨#[c]⟩ : ByteArray)]).length = names.length + 1 := by simp
              have ho1 := HO1.out
              rw [hlen] at ho1
              refine ⟨m, .slice A1 (names.length + 1) c1, ?_, ⟨by have := HN.out; omega⟩, ⟨⟨⟨_, blk_set HG2.out c.toNat _, ?_, ?_, fun k hk => ⟨fun h => ?_, fun h => ?_⟩⟩, ?_⟩⟩, ⟨?_⟩⟩
              · have := HJ.out.1
                rcases Nat.eq_zero_or_pos m with rfl | hm
                · exact .inl ⟨rfl, by congr 1; omega⟩
                · exact .inr ⟨m - 1, by omega, by congr 1; omega⟩
              · simpa using HBx.out.2.1
              · rw [Array.getElem?_setIfInBounds_ne (by have := HJ.out.2.1; omega), Array.getElem?_setIfInBounds_self_of_lt (by have := HBx.out.2.1; omega)]
              · rw [HTK.out] at h
                by_cases hkc : c.toNat = k
                · exact ⟨_, _, by rw [← hkc, Array.getElem?_setIfInBounds_self_of_lt (by have := HBx.out.2.1; have := HJ.out.2.1; simp; omega)]⟩
                · obtain ⟨hh, cc, hcc'⟩ := (HBx.out.2.2.2 k hk).1 (by simpa [Ne.symm hkc] using h)
                  exact ⟨hh, cc, by rw [Array.getElem?_setIfInBounds_ne hkc, Array.getElem?_setIfInBounds_ne (by omega)]; exact hcc'⟩
              · rw [HTK.out] at h
                have hkc : c.toNat ≠ k := fun e => h (by simp [e])
                rw [Array.getElem?_setIfInBounds_ne hkc, Array.getElem?_setIfInBounds_ne (by omega)]
                exact (HBx.out.2.2.2 k hk).2 (fun h' => h (by simp [h']))
              · rw [HTN.out]
                refine Kd.R_far (Kd.R_below (Kd.R_far ho1 (p := ⟨g, 256, none⟩) (fun k hk => hk) _) (url_Strip.below_bytes _ ⟨#[]⟩)) (p := ⟨g, c.toNat, none⟩) (fun k hk => hk) _
              · have hgb := HG.out
                have q1 := hb1.setCell (p := ⟨g, 256, none⟩) (by show _ ≤ g; omega) (.slice A1 (names.length + 1) c1)
                have q2 : Below wo.heap.size wo (Lib.bytesWorld (w1.setCell ⟨g, 256, none⟩ (.slice A1 (names.length + 1) c1)) 5 ⟨#[]⟩) := ⟨q1.os, q1.tape, q1.output, (by rw [Lib.bytesWorld_size]; exact Nat.le_succ_of_le q1.size), fun j hj => (Lib.bytesWorld_at_old _ _ _ j (Nat.lt_of_lt_of_le hj q1.size)).trans (q1.block j hj)⟩
                exact q2.setCell (p := ⟨g, c.toNat, none⟩) (by show _ ≤ g; omega) _
            case measure =>
              have := HJ.out.1
              simp only [intOf]
              omega
            all_goals trace_state
def url_Strip.out (l : List UInt8) (i : Nat) : Nat := ((l.take i).filter url_Strip.gone).length
def url_Strip.kept (l : List UInt8) (i : Nat) : List UInt8 := (l.take i).filter fun c => !url_Strip.gone c
theorem url_Strip.out_le (l : List UInt8) (i : Nat) : url_Strip.out l i ≤ i := Nat.le_trans (List.length_filter_le _ _) (by rw [List.length_take]; omega)
theorem url_Strip.out_succ (l : List UInt8) (i : Nat) (h : i < l.length) : url_Strip.out l (i + 1) = url_Strip.out l i + (if url_Strip.gone l[i] then 1 else 0) := by
  unfold url_Strip.out
  rw [List.take_succ_eq_append_getElem h, List.filter_append, List.length_append]
  by_cases hg : url_Strip.gone l[i] = true <;> simp [hg]
theorem url_Strip.kept_succ (l : List UInt8) (i : Nat) (h : i < l.length) : url_Strip.kept l (i + 1) = url_Strip.kept l i ++ (if url_Strip.gone l[i] then [] else [l[i]]) := by
  unfold url_Strip.kept
  rw [List.take_succ_eq_append_getElem h, List.filter_append]
  by_cases hg : url_Strip.gone l[i] = true <;> simp [hg]
theorem url_Strip.both (l : List UInt8) (i : Nat) (h : i ≤ l.length) : (url_Strip.kept l i).length + url_Strip.out l i = i := by
  induction i with
  | zero => simp [url_Strip.kept, url_Strip.out]
  | succ i ih =>
    have := ih (by omega)
    rw [url_Strip.kept_succ l i (by omega), url_Strip.out_succ l i (by omega), List.length_append]
    by_cases hg : url_Strip.gone (l[i]'(by omega)) = true <;> simp [hg] <;> omega
theorem url_Strip.mono (l : List UInt8) (i : Nat) (h : i ≤ l.length) : (url_Strip.kept l i).length ≤ (url_Strip.kept l l.length).length := by
  have e : url_Strip.kept l l.length = url_Strip.kept l i ++ (l.drop i).filter fun c => !url_Strip.gone c := by
    unfold url_Strip.kept
    rw [List.take_length, ← List.filter_append, List.take_append_drop]
  rw [e, List.length_append]; omega
/-- what stands at a place of the made row, when so many bytes have been looked at -/
def url_Strip.cellAt (l : List UInt8) (i j : Nat) : Int := (((url_Strip.kept l i).getD j 0).toNat : Int)
theorem url_Strip.back (l : List UInt8) : strOfNums ((List.range (url_Strip.kept l l.length).length).map fun j => url_Strip.cellAt l l.length j) = (⟨(l.filter fun c => !url_Strip.gone c).toArray⟩ : ByteArray) := by
  have e : url_Strip.kept l l.length = l.filter fun c => !url_Strip.gone c := by unfold url_Strip.kept; rw [List.take_length]
  rw [← e]
  apply ByteArray.ext
  apply Array.ext'
  rw [strOfNums_data]
  apply List.ext_getElem
  · simp
  · intro j h1 h2
    simp at h2
    simp [url_Strip.cellAt, List.getD, h2]
theorem url_Strip.bt_get (s : ByteArray) (j : Nat) (hj : j < s.size) : bt s (j : Int) = ((s.data.toList.getD j 0).toNat : Int) := by
  rw [← bt_at s (j : Int) (by omega)]
  simp [List.getD, hj]
  rfl
theorem url_Strip.three (l : List UInt8) : l.count 13 + l.count 10 + l.count 9 = url_Strip.out l l.length := by
  unfold url_Strip.out
  rw [List.take_length]
  induction l with
  | nil => rfl
  | cons c l ih =>
    rw [List.filter_cons, List.count_cons, List.count_cons, List.count_cons]
    by_cases h9 : c = 9
    · subst h9; simp [url_Strip.gone]; omega
    by_cases h10 : c = 10
    · subst h10; simp [url_Strip.gone]; omega
    by_cases h13 : c = 13
    · subst h13; simp [url_Strip.gone]; omega
    simp [url_Strip.gone, h9, h10, h13]; omega
def url_Strip.pre (l : List UInt8) (k : Nat) : Nat := match k with
  | 0 => 0
  | 1 => l.count 13
  | 2 => l.count 13 + l.count 10
  | _ => l.count 13 + l.count 10 + l.count 9
theorem url_Strip.pre_le (l : List UInt8) (k : Nat) (h : k ≤ 3) : url_Strip.pre l k ≤ url_Strip.pre l 3 := by
  obtain rfl | rfl | rfl | rfl : k = 0 ∨ k = 1 ∨ k = 2 ∨ k = 3 := by omega
  · exact Nat.zero_le _
  · show l.count 13 ≤ l.count 13 + l.count 10 + l.count 9; omega
  · show l.count 13 + l.count 10 ≤ l.count 13 + l.count 10 + l.count 9; omega
  · exact Nat.le_refl _
theorem url_Strip.none_out (l : List UInt8) (h : url_Strip.out l l.length = 0) : (l.filter fun c => !url_Strip.gone c) = l := by
  unfold url_Strip.out at h
  rw [List.take_length, List.length_eq_zero_iff] at h
  rw [List.filter_eq_self]
  intro c hc
  by_cases hg : url_Strip.gone c = true
  · have : c ∈ l.filter url_Strip.gone := List.mem_filter.2 ⟨hc, hg⟩
    rw [h] at this; cases this
  · simpa using hg
theorem url_Strip.gone_mem (c : UInt8) : c.toNat ∈ ([13, 10, 9] : List Nat) ↔ url_Strip.gone c = true := by
  have e : ∀ n : Nat, n < 256 → (c.toNat = n ↔ c = UInt8.ofNat n) := fun n hn => ⟨fun h => by rw [← h, UInt8.ofNat_toNat], fun h => by subst h; simp; omega⟩
  simp [url_Strip.gone, e 13 (by omega), e 10 (by omega), e 9 (by omega)]
  constructor
  · rintro (h | h | h) <;> simp [h]
  · rintro ((h | h) | h) <;> simp [h]
theorem url_Strip.zero_cell (n j : Nat) (h : j < n) : (madeCells #[Value.int .u8 0] n)[j]? = some (.int .u8 0) := by
  rw [← Array.getElem?_toList, toList_madeCells_one, List.getElem?_replicate, if_pos h]
set_option maxRecDepth 100000 in
set_option maxHeartbeats 8000000 in
theorem url_Strip.replace (g base : Nat) (v : Value) (s : ByteArray) (w : World) (hs : s.size ≤ 140737488355328) (hrep : url_Strip.Rep w g base [13, 10, 9] v [⟨#[13]⟩, ⟨#[10]⟩, ⟨#[9]⟩]) :
    Calls Tryd.prog 173 #[.pointer (some ⟨g, 0, none⟩), .string s] w fun e w' => e = .returned (.string ⟨(s.data.toList.filter fun c => !url_Strip.gone c).toArray⟩) ∧ Below w.heap.size w w' := by
  obtain ⟨l, hl⟩ : ∃ l, s.data.toList = l := ⟨_, rfl⟩
  have hll : l.length = s.size := by rw [← hl, Array.length_toList]; rfl
  obtain ⟨C, hC, hCs, hCl, hCc⟩ := hrep.blk
  obtain ⟨A0, c0, rfl, hA0, hrd⟩ := Kd.R_reads hrep.row
  have hgl := blk_lt hC
  have h256 := (blk_cell hC 256).trans hCl
  have hrp : ∀ c : UInt8, (url_Strip.gone c = true → ∃ hh cc, w.cell? ⟨g, c.toNat, none⟩ = some (.slice (some ⟨hh, 0, none⟩) 0 cc)) ∧ (url_Strip.gone c = false → w.cell? ⟨g, c.toNat, none⟩ = some (.slice none 0 0)) := fun c => by
    have hlt := c.toNat_lt
    refine ⟨fun h => ?_, fun h => ?_⟩
    · obtain ⟨hh, cc, e⟩ := (hCc c.toNat (by omega)).1 ((url_Strip.gone_mem c).2 h)
      exact ⟨hh, cc, (blk_cell hC _).trans e⟩
    · exact (blk_cell hC _).trans ((hCc c.toNat (by omega)).2 (fun h' => by rw [(url_Strip.gone_mem c).1 h'] at h; cases h))
  have HRP := Aside0.mk hrp
  have HRD := Aside0.mk hrd
  have HL := Aside0.mk (And.intro hl hll)
  have HS := Aside0.mk hs
  have HG := Aside0.mk hgl
  clear hrep hC hCs hCl hCc hrp hrd hl hll hA0
  have hnil : ∀ W, (binOp .neq 60 (.slice none 0 0) (.slice none 0 0)).run Tryd.prog W = .ok (.bool false) W := fun W => rfl
  have hnot : ∀ hh cc W, (binOp .neq 60 (.slice (some ⟨hh, 0, none⟩) 0 cc) (.slice none 0 0)).run Tryd.prog W = .ok (.bool true) W := fun _ _ W => rfl
  by_cases h24 : (24 : Int) ≤ (s.size : Int)
  · have d24 : decide ((24 : Int) ≤ (s.size : Int)) = true := decide_eq_true h24
    clear h24
    obtain ⟨ad, rfl, hx0⟩ := Kd.at_string HRD.out 0 (by decide) (by decide)
    obtain ⟨ad1, e1, hx1⟩ := Kd.at_string HRD.out 1 (by decide) (by decide)
    obtain rfl := Option.some.inj e1
    obtain ⟨ad2, e2, hx2⟩ := Kd.at_string HRD.out 2 (by decide) (by decide)
    obtain rfl := Option.some.inj e2
    have HX : Aside0 (∀ k : Nat, k < 3 → ∃ c : UInt8, w.cell? (ad.add k) = some (.string ⟨#[c]⟩) ∧ url_Strip.gone c = true ∧ url_Strip.pre l (k + 1) = url_Strip.pre l k + l.count c) := ⟨fun k hk => by
      obtain rfl | rfl | rfl : k = 0 ∨ k = 1 ∨ k = 2 := by omega
      · exact ⟨13, hx0, rfl, by simp [url_Strip.pre]⟩
      · exact ⟨10, hx1, rfl, by simp [url_Strip.pre]⟩
      · exact ⟨9, hx2, rfl, by simp [url_Strip.pre]⟩⟩
    clear hx0 hx1 hx2 e1 e2
    have hct : ∀ (c : UInt8) (W : World), Calls Tryd.prog 175 #[.string s, .string ⟨#[c]⟩] W fun e w' => e = .returned (.int .i64 (l.count c : Int)) ∧ w' = W := fun c W => by
      rw [← HL.out.1]
      exact Any.strings_Count_one Tryd.lays138 s c W
    have HCT := Aside0.mk hct
    clear hct
    go_enter Tryd.func173, Tryd.ntmps173
    go_wp2
    go_loopw [5, 6, 8, 9, 32] (fun v5 v6 _ _ v32 wr => ∃ (k : Nat) (z : Int) (q : Bool), v5 = .int .i64 z ∧ v6 = .bool q ∧ v32 = .int .i64 (k : Int) ∧ Aside0 (k ≤ 3) ∧ Aside0 (z = (s.size : Int) - (url_Strip.pre l k : Int)) ∧ Aside0 (q = decide (url_Strip.pre l k ≠ 0)) ∧ Aside0 (Below w.heap.size w wr)) (fun _ _ _ _ v32 _ => 3 - (intOf v32).toNat)
    case atStart => exact ⟨0, _, _, rfl, rfl, rfl, ⟨Nat.zero_le _⟩, ⟨by simp [url_Strip.pre]⟩, ⟨by simp [url_Strip.pre]⟩, ⟨Below.refl _ _⟩⟩
    case round =>
      obtain ⟨k, z, q, rfl, rfl, rfl, HI, HZ, HQ, HB⟩ := hrel
      by_cases hi : k < 3
      · have hlt : decide ((k : Int) < 3) = true := decide_eq_true (by omega)
        have hi0 : (0 : Int) ≤ (k : Int) := by omega
        have hi1 : (k : Int) < 3 := by omega
        have hw : wrap64 ((k : Int) + 1) = (k : Int) + 1 := by unfold wrap64; omega
        obtain ⟨c, hxc, hg, hpre⟩ := HX.out k hi
        have hxc := pw_cell_below HB.out hxc
        have hple : url_Strip.pre l (k + 1) ≤ s.size := by
          have h3 := url_Strip.three l
          have h4 := url_Strip.out_le l l.length
          have h5 := HL.out.2
          have h6 := url_Strip.pre_le l (k + 1) (by omega)
          have h7 : url_Strip.pre l 3 = l.count 13 + l.count 10 + l.count 9 := rfl
          rw [h7] at h6
          exact Nat.le_trans h6 (h5 ▸ (h3 ▸ h4))
        obtain ⟨hh, cc, hce⟩ := (HRP.out c).1 hg
        have hce := pw_cell_below HB.out hce
        have hcl := c.toNat_lt
        have hcz : 0 < (⟨#[c]⟩ : ByteArray).size := Nat.one_pos
        have hcc : (⟨#[c]⟩ : ByteArray)[0] = c := rfl
        have hcn0 : (0 : Int) ≤ (c.toNat : Int) := by omega
        have hcn1 : (c.toNat : Int) < 256 := by omega
        have hcnn : ((c.toNat : Int)).toNat = c.toNat := by omega
        have hcount := HCT.out c
        obtain ⟨m, hm⟩ : ∃ m, l.count c = m := ⟨_, rfl⟩
        rw [hm] at hpre hcount
        have HP : Aside0 (url_Strip.pre l (k + 1) = url_Strip.pre l k + m ∧ url_Strip.pre l (k + 1) ≤ s.size) := ⟨hpre, hple⟩
        have HII := Aside0.mk hi
        clear hm hpre hple hg hcl hi
        by_cases hm0 : (m : Int) = 0
        · have hne : decide ((m : Int) ≠ 0) = false := by simp [hm0]
          have hne2 : ((m : Int) != 0) = false := by simp [hm0]
          have HM := Aside0.mk hm0
          clear hm0
          go_wp2_with (go_at_call 175; refine (hcount _).mono ?_; rintro e w' ⟨rfl, rfl⟩)
          go_roundw
          case rel => exact ⟨k + 1, z, q, rfl, rfl, congrArg (Value.int .i64) (by omega), ⟨HII.out⟩, ⟨by have := HM.out; have := HP.out.1; have := HZ.out; omega⟩, ⟨by have h1 := HM.out; have h2 := HP.out.1; rw [show url_Strip.pre l (k + 1) = url_Strip.pre l k by omega]; exact HQ.out⟩, HB⟩
          case measure => have := HII.out; simp [intOf]; omega
        · have hne : decide ((m : Int) ≠ 0) = true := by simp; omega
          have hne2 : ((m : Int) != 0) = true := by simp; omega
          have HM := Aside0.mk hm0
          clear hm0
          go_wp2_with (go_at_call 175; refine (hcount _).mono ?_; rintro e w' ⟨rfl, rfl⟩)
          go_region_calls
          have e1 : IntKind.i64.wrap (-1) = -1 := by rw [IntKind.wrap_i64]; omega
          have e2 : IntKind.i64.wrap ((m : Int) * (-1)) = -(m : Int) := by have := HP.out; have := HS.out; rw [IntKind.wrap_i64]; omega
          have e3 : IntKind.i64.wrap (z + -(m : Int)) = z - (m : Int) := by have := HP.out; have := HZ.out; have := HS.out; rw [IntKind.wrap_i64]; omega
          simp only [e1, e2, e3]
          go_wp2
          go_roundw
          case rel => exact ⟨k + 1, z - (m : Int), true, rfl, rfl, congrArg (Value.int .i64) (by omega), ⟨HII.out⟩, ⟨by have := HP.out.1; have := HZ.out; omega⟩, ⟨by have h1 := HM.out; have h2 := HP.out.1; symm; rw [decide_eq_true_eq]; omega⟩, ⟨below_drew HB.out⟩⟩
          case measure => have := HII.out; simp [intOf]; omega
      · have hk3 : k = 3 := by have := HI.out; omega
        have hlt : decide ((k : Int) < 3) = false := decide_eq_false (by omega)
        have h37 : url_Strip.pre l k = url_Strip.out l l.length := by rw [hk3, ← url_Strip.three l]; rfl
        rw [h37] at HZ HQ
        have HI : Aside0 (s.size ≤ s.size) := ⟨Nat.le_refl _⟩
        rw [HL.out.2] at HZ HQ
        clear HX HCT h37 hi hk3
        have hfin := url_Strip.both l l.length (Nat.le_refl _)
        have hlen := HL.out.2
        have hzz0 := HZ.out
        have hqq := HQ.out
        rw [← hlen] at hzz0 hqq
        cases q with
        | false =>
          have hb0 : url_Strip.out l l.length = 0 := by simpa using hqq.symm
          have hkeep := url_Strip.none_out l hb0
          have HK := Aside0.mk hkeep
          clear hfin hlen hzz0 hqq hb0 hkeep
          go_wp2
          go_ret
          exact ⟨by rw [HL.out.1, HK.out, ← HL.out.1, Array.toArray_toList]; rfl, HB.out⟩
        | true =>
          obtain ⟨n, hn⟩ : ∃ n, (url_Strip.kept l l.length).length = n := ⟨_, rfl⟩
          rw [hn] at hfin
          obtain rfl : z = (n : Int) := by omega
          have HN : Aside0 ((url_Strip.kept l l.length).length = n ∧ n ≤ s.size) := ⟨hn, by omega⟩
          clear hfin hlen hzz0 hqq hn HZ HQ HI
          obtain ⟨i0, hi0, hzz⟩ := Option.map_eq_some_iff.1 info5
          simp only [Prod.mk.injEq] at hzz
          have hmk := run_make (P := Tryd.prog) wr 60 5 i0 (.int .u8 0) Tryd.underlying60 hi0 hzz.1 .i64 .i64 (n : Int) (n : Int) (by omega) (Int.le_refl _) (by rw [hzz.2.2]; have := HN.out.2; have := HS.out; omega) (by have := HN.out.2; have := HS.out; omega)
          rw [hzz.2.1, Nat.mul_one, Int.toNat_natCast] at hmk
          have HSZ : Aside0 ((Tryd.prog.info? 5).map (·.size) = some 1) := ⟨by rw [hi0]; simp [hzz.2.1]⟩
          clear hzz hi0
          go_wp2
          have hbl := below_alloc HB.out (.cells (madeCells #[Value.int .u8 0] n) 5)
          have hbn := blk_new wr (.cells (madeCells #[Value.int .u8 0] n) 5)
          refine url_Strip.pack (fun W => (∀ j, j < n → W.cell? ⟨wr.heap.size, j, none⟩ = some (.int .u8 (url_Strip.cellAt l 0 j))) ∧ (∀ j, j < n → W.frozen? ⟨wr.heap.size, j, none⟩ = false) ∧ Below w.heap.size w W) ?_ ?_
          · exact ⟨fun j hj => (blk_cell hbn j).trans (by rw [url_Strip.zero_cell n j hj]; rfl), fun j hj => blk_frozen hbn j, hbl⟩
          rintro W1 ⟨hcl, hfr, hbw⟩
          obtain ⟨h, hh⟩ : ∃ h, wr.heap.size = h := ⟨_, rfl⟩
          rw [hh] at hcl hfr ⊢
          have HH : Aside0 (w.heap.size ≤ h) := ⟨by rw [← hh]; exact HB.out.size⟩
          clear HB
          have HC := Aside0.mk hcl
          have HF := Aside0.mk hfr
          have HB := Aside0.mk hbw
          clear hbl hbn hmk hcl hfr hbw hlt hh
          go_loopw [13, 14, 15] (fun v13 v14 _ W => ∃ i j : Nat, v13 = .int .i64 (j : Int) ∧ v14 = .int .i64 (i : Int) ∧ Aside0 (i ≤ s.size) ∧ Aside0 (j = (url_Strip.kept l i).length) ∧ Aside0 (∀ k, k < n → W.cell? ⟨h, k, none⟩ = some (.int .u8 (url_Strip.cellAt l i k))) ∧ Aside0 (∀ k, k < n → W.frozen? ⟨h, k, none⟩ = false) ∧ Aside0 (Below w.heap.size w W)) (fun _ v14 _ _ => s.size - (intOf v14).toNat)
          case atStart => exact ⟨0, 0, rfl, rfl, ⟨Nat.zero_le _⟩, ⟨rfl⟩, HC, HF, HB⟩
          case round =>
            clear HC HF HB
            obtain ⟨i, j, rfl, rfl, HI, HJ, HC, HF, HB⟩ := hrel
            by_cases hi : i < s.size
            · have hlt : decide ((i : Int) < (s.size : Int)) = true := decide_eq_true (by omega)
              have hi0 : (0 : Int) ≤ (i : Int) := by omega
              have hi1 : (i : Int) < (s.size : Int) := by omega
              have hil : i < l.length := by have := HL.out.2; omega
              have hw : wrap64 ((i : Int) + 1) = (i : Int) + 1 := by have := HS.out; unfold wrap64; omega
              have hks := url_Strip.kept_succ l i hil
              have hmo := url_Strip.mono l (i + 1) hil
              obtain ⟨c, hc⟩ : ∃ c, l[i] = c := ⟨_, rfl⟩
              have hsc : s[i]'hi = c := by
                rw [← hc]
                have e := HL.out.1
                subst e
                simp
                rfl
              rw [hc] at hks
              have hcl := c.toNat_lt
              have hcn0 : (0 : Int) ≤ (c.toNat : Int) := by omega
              have hcn1 : (c.toNat : Int) < 256 := by omega
              have hcnn : ((c.toNat : Int)).toNat = c.toNat := by omega
              have HII := Aside0.mk hi
              by_cases hg : url_Strip.gone c = true
              · rw [if_pos hg, List.append_nil] at hks
                obtain ⟨hh, cc, hce⟩ := (HRP.out c).1 hg
                have hce := pw_cell_below HB.out hce
                have HKS := Aside0.mk hks
                rw [hks] at hmo
                have hj0 : (0 : Int) ≤ (j : Int) := by omega
                have hjn : (j : Int) ≤ (n : Int) := by have := HJ.out; have := HN.out.1; omega
                have hcp : ∀ W d dl dc, (Builtin.copy_ #[60, 60] 3 #[.slice d dl dc, .slice (some ⟨hh, 0, none⟩) 0 cc]).run Tryd.prog W = .ok (.int .i64 0) W := fun W d dl dc => run_copy_none (P := Tryd.prog) W 60 60 3 5 d (some ⟨hh, 0, none⟩) dl dc 0 cc Tryd.underlying60 HSZ.out (by simp)
                clear hg hks hmo hc hcl hil
                by_cases hnj : j = n
                · subst hnj
                  go_wp2
                  go_region_calls
                  have hjj : IntKind.i64.wrap (j : Int) = (j : Int) := by have := HS.out; have := HN.out.2; rw [IntKind.wrap_i64]; omega
                  simp only [hjj]
                  go_wp2
                  go_roundw
                  case rel =>
                    refine ⟨i + 1, j, by first | rfl | simp, by first | exact congrArg (Value.int .i64) (by omega) | omega, ⟨HII.out⟩, ⟨by rw [HKS.out]; exact HJ.out⟩, ⟨by intro k hk; have := HC.out k hk; unfold url_Strip.cellAt at this ⊢; rw [HKS.out]; exact this⟩, ?_⟩
                    first | exact ⟨HF, ⟨below_drew HB.out⟩⟩ | exact ⟨below_drew HB.out⟩
                  case measure => have := HII.out; simp [intOf]; omega
                · have hnj' : ¬ n = j := fun e => hnj e.symm
                  go_wp2
                  go_region_calls
                  have hjj : IntKind.i64.wrap (j : Int) = (j : Int) := by have := HS.out; have := HN.out.2; rw [IntKind.wrap_i64]; omega
                  simp only [hjj]
                  go_wp2
                  go_roundw
                  case rel =>
                    refine ⟨i + 1, j, by first | rfl | simp, by first | exact congrArg (Value.int .i64) (by omega) | omega, ⟨HII.out⟩, ⟨by rw [HKS.out]; exact HJ.out⟩, ⟨by intro k hk; have := HC.out k hk; unfold url_Strip.cellAt at this ⊢; rw [HKS.out]; exact this⟩, ?_⟩
                    first | exact ⟨HF, ⟨below_drew HB.out⟩⟩ | exact ⟨below_drew HB.out⟩
                  case measure => have := HII.out; simp [intOf]; omega
              · rw [if_neg hg] at hks
                have hce := (HRP.out c).2 (by simpa using hg)
                have hce := pw_cell_below HB.out hce
                have HKS := Aside0.mk hks
                rw [hks, List.length_append] at hmo
                have hj0 : (0 : Int) ≤ (j : Int) := by omega
                have hjn : (j : Int) < (n : Int) := by have := HJ.out; have := HN.out.1; simp at hmo; omega
                have hjw : wrap64 ((j : Int) + 1) = (j : Int) + 1 := by have := HS.out; have := HN.out.2; unfold wrap64; omega
                have HJN : Aside0 (j < n) := ⟨Int.ofNat_lt.1 hjn⟩
                have hcj := HC.out j HJN.out
                have hfj := HF.out j HJN.out
                clear hg hks hmo hc hcl hil
                go_wp2
                go_roundw
                case rel => exact ⟨i + 1, j + 1, congrArg (Value.int .i64) (by have := HS.out; have := HN.out.2; have := HJN.out; unfold wrap64; omega), congrArg (Value.int .i64) (by omega), ⟨HII.out⟩, ⟨by rw [HKS.out, List.length_append, ← HJ.out]; rfl⟩, ⟨fun k hk => by
                    unfold url_Strip.cellAt
                    rw [HKS.out]
                    by_cases hkj : k = j
                    · subst hkj
                      rw [World.cell?_setCell_same _ _ _ (HC.out k hk)]
                      simp [List.getD, HJ.out]
                    · refine (World.cell?_setCell_other _ _ _ _ (fun e => hkj ?_)).trans ((HC.out k hk).trans ?_)
                      · injection e with _ e2 _
                        exact e2.symm
                      · unfold url_Strip.cellAt
                        have := HJ.out
                        by_cases hlt : k < (url_Strip.kept l i).length
                        · simp [List.getD, hlt, List.getElem?_append_left hlt]
                        · simp [List.getD, List.getElem?_eq_none (show (url_Strip.kept l i).length ≤ k by omega), List.getElem?_eq_none (show (url_Strip.kept l i ++ [c]).length ≤ k by simp; omega)]⟩, ⟨fun k hk => by rw [World.frozen?_setCell]; exact HF.out k hk⟩, ⟨HB.out.setCell (by have := HH.out; show w.heap.size ≤ h; omega) _⟩⟩
                case measure => have := HII.out; simp [intOf]; omega
            · obtain rfl : i = s.size := by have := HI.out; omega
              have hlt : decide ((s.size : Int) < (s.size : Int)) = false := decide_eq_false (by omega)
              have hcv := run_convert_bytes_arg (P := Tryd.prog) wr 60 5 Tryd.underlying60 Tryd.underlying5 h 0 n n ((List.range n).map fun j => url_Strip.cellAt l s.size j) (by simp) (fun j hj => by
                have e : ((List.range n).map fun j => url_Strip.cellAt l s.size j).getD j 0 = url_Strip.cellAt l s.size j := by simp [List.getD, hj]
                rw [e, Nat.zero_add]
                exact HC.out j hj) 9 Tryd.underlying9
              have hbk := url_Strip.back l
              rw [HN.out.1, HL.out.2, ← HL.out.1] at hbk
              rw [HL.out.1] at hbk
              rw [hbk] at hcv
              clear hbk
              go_wp2
              go_ret
              exact ⟨by rw [HL.out.1]; rfl, HB.out⟩
  · have d24 : decide ((24 : Int) ≤ (s.size : Int)) = false := decide_eq_false h24
    clear h24
    go_enter Tryd.func173, Tryd.ntmps173
    go_wp2
    go_loopw [5, 6, 10, 11] (fun v5 v6 v10 _ wr => ∃ (i : Nat) (z : Int) (q : Bool), v5 = .int .i64 z ∧ v6 = .bool q ∧ v10 = .int .i64 (i : Int) ∧ Aside0 (i ≤ s.size) ∧ Aside0 (z = (s.size : Int) - (url_Strip.out l i : Int)) ∧ Aside0 (q = decide (url_Strip.out l i ≠ 0)) ∧ Aside0 (Below w.heap.size w wr)) (fun _ _ v10 _ _ => s.size - (intOf v10).toNat)
    case atStart => exact ⟨0, _, _, rfl, rfl, rfl, ⟨Nat.zero_le _⟩, ⟨by simp [url_Strip.out]⟩, ⟨by simp [url_Strip.out]⟩, ⟨Below.refl _ _⟩⟩
    case round =>
      obtain ⟨i, z, q, rfl, rfl, rfl, HI, HZ, HQ, HB⟩ := hrel
      by_cases hi : i < s.size
      · have hlt : decide ((i : Int) < (s.size : Int)) = true := decide_eq_true (by omega)
        have hi0 : (0 : Int) ≤ (i : Int) := by omega
        have hi1 : (i : Int) < (s.size : Int) := by omega
        have hil : i < l.length := by have := HL.out.2; omega
        have hw : wrap64 ((i : Int) + 1) = ((i + 1 : Nat) : Int) := by have := HS.out; unfold wrap64; omega
        have hos := url_Strip.out_succ l i hil
        have hol := url_Strip.out_le l i
        obtain ⟨c, hc⟩ : ∃ c, l[i] = c := ⟨_, rfl⟩
        have hsc : s[i]'hi = c := by
          rw [← hc]
          have e := HL.out.1
          subst e
          simp
          rfl
        rw [hc] at hos
        have hcl := c.toNat_lt
        have hcn0 : (0 : Int) ≤ (c.toNat : Int) := by omega
        have hcn1 : (c.toNat : Int) < 256 := by omega
        have hcnn : ((c.toNat : Int)).toNat = c.toNat := by omega
        have hz1 : wrap64 (z - 1) = z - 1 := by have := HS.out; have := HZ.out; unfold wrap64; omega
        have hz2 : wrap64 (z + -1) = z - 1 := by have := HS.out; have := HZ.out; unfold wrap64; omega
        have HOS := Aside0.mk hos
        have HII := Aside0.mk hi
        have HW := Aside0.mk hw
        have HZ1 := Aside0.mk hz1
        clear hos hol hc hcl hil hw
        by_cases hg : url_Strip.gone c = true
        · obtain ⟨hh, cc, hce⟩ := (HRP.out c).1 hg
          have hce := pw_cell_below HB.out hce
          have HOS2 : Aside0 (url_Strip.out l (i + 1) = url_Strip.out l i + 1) := ⟨by have := HOS.out; rw [if_pos hg] at this; exact this⟩
          clear hg
          go_wp2
          go_roundw
          case rel => exact ⟨i + 1, z - 1, true, by simp only [hz2], rfl, congrArg (Value.int .i64) (by omega), ⟨HII.out⟩, ⟨by have := HOS2.out; have := HZ.out; omega⟩, ⟨by have := HOS2.out; symm; rw [decide_eq_true_eq]; omega⟩, HB⟩
          case measure => have := HII.out; simp [intOf]; omega
        · have hce := pw_cell_below HB.out ((HRP.out c).2 (by simpa using hg))
          have HOS2 : Aside0 (url_Strip.out l (i + 1) = url_Strip.out l i) := ⟨by have := HOS.out; rw [if_neg hg] at this; exact this⟩
          clear hg
          go_wp2
          go_roundw
          case rel => exact ⟨i + 1, z, q, rfl, rfl, congrArg (Value.int .i64) (by omega), ⟨HII.out⟩, ⟨by rw [HOS2.out]; exact HZ.out⟩, ⟨by rw [HOS2.out]; exact HQ.out⟩, HB⟩
          case measure => have := HII.out; simp [intOf]; omega
      · obtain rfl : i = s.size := by have := HI.out; omega
        have hlt : decide ((s.size : Int) < (s.size : Int)) = false := decide_eq_false (by omega)
        have hfin := url_Strip.both l l.length (Nat.le_refl _)
        have hlen := HL.out.2
        have hzz0 := HZ.out
        have hqq := HQ.out
        rw [← hlen] at hzz0 hqq
        cases q with
        | false =>
          have hb0 : url_Strip.out l l.length = 0 := by simpa using hqq.symm
          have hkeep := url_Strip.none_out l hb0
          have HK := Aside0.mk hkeep
          clear hfin hlen hzz0 hqq hb0 hkeep
          go_wp2
          go_ret
          exact ⟨by rw [HL.out.1, HK.out, ← HL.out.1, Array.toArray_toList]; rfl, HB.out⟩
        | true =>
          obtain ⟨n, hn⟩ : ∃ n, (url_Strip.kept l l.length).length = n := ⟨_, rfl⟩
          rw [hn] at hfin
          obtain rfl : z = (n : Int) := by omega
          have HN : Aside0 ((url_Strip.kept l l.length).length = n ∧ n ≤ s.size) := ⟨hn, by omega⟩
          clear hfin hlen hzz0 hqq hn HZ HQ HI
          obtain ⟨i0, hi0, hzz⟩ := Option.map_eq_some_iff.1 info5
          simp only [Prod.mk.injEq] at hzz
          have hmk := run_make (P := Tryd.prog) wr 60 5 i0 (.int .u8 0) Tryd.underlying60 hi0 hzz.1 .i64 .i64 (n : Int) (n : Int) (by omega) (Int.le_refl _) (by rw [hzz.2.2]; have := HN.out.2; have := HS.out; omega) (by have := HN.out.2; have := HS.out; omega)
          rw [hzz.2.1, Nat.mul_one, Int.toNat_natCast] at hmk
          have HSZ : Aside0 ((Tryd.prog.info? 5).map (·.size) = some 1) := ⟨by rw [hi0]; simp [hzz.2.1]⟩
          clear hzz hi0
          go_wp2
          have hbl := below_alloc HB.out (.cells (madeCells #[Value.int .u8 0] n) 5)
          have hbn := blk_new wr (.cells (madeCells #[Value.int .u8 0] n) 5)
          refine url_Strip.pack (fun W => (∀ j, j < n → W.cell? ⟨wr.heap.size, j, none⟩ = some (.int .u8 (url_Strip.cellAt l 0 j))) ∧ (∀ j, j < n → W.frozen? ⟨wr.heap.size, j, none⟩ = false) ∧ Below w.heap.size w W) ?_ ?_
          · exact ⟨fun j hj => (blk_cell hbn j).trans (by rw [url_Strip.zero_cell n j hj]; rfl), fun j hj => blk_frozen hbn j, hbl⟩
          rintro W1 ⟨hcl, hfr, hbw⟩
          obtain ⟨h, hh⟩ : ∃ h, wr.heap.size = h := ⟨_, rfl⟩
          rw [hh] at hcl hfr ⊢
          have HH : Aside0 (w.heap.size ≤ h) := ⟨by rw [← hh]; exact HB.out.size⟩
          clear HB
          have HC := Aside0.mk hcl
          have HF := Aside0.mk hfr
          have HB := Aside0.mk hbw
          clear hbl hbn hmk hcl hfr hbw hlt hh
          go_loopw [13, 14, 15] (fun v13 v14 _ W => ∃ i j : Nat, v13 = .int .i64 (j : Int) ∧ v14 = .int .i64 (i : Int) ∧ Aside0 (i ≤ s.size) ∧ Aside0 (j = (url_Strip.kept l i).length) ∧ Aside0 (∀ k, k < n → W.cell? ⟨h, k, none⟩ = some (.int .u8 (url_Strip.cellAt l i k))) ∧ Aside0 (∀ k, k < n → W.frozen? ⟨h, k, none⟩ = false) ∧ Aside0 (Below w.heap.size w W)) (fun _ v14 _ _ => s.size - (intOf v14).toNat)
          case atStart => exact ⟨0, 0, rfl, rfl, ⟨Nat.zero_le _⟩, ⟨rfl⟩, HC, HF, HB⟩
          case round =>
            clear HC HF HB
            obtain ⟨i, j, rfl, rfl, HI, HJ, HC, HF, HB⟩ := hrel
            by_cases hi : i < s.size
            · have hlt : decide ((i : Int) < (s.size : Int)) = true := decide_eq_true (by omega)
              have hi0 : (0 : Int) ≤ (i : Int) := by omega
              have hi1 : (i : Int) < (s.size : Int) := by omega
              have hil : i < l.length := by have := HL.out.2; omega
              have hw : wrap64 ((i : Int) + 1) = (i : Int) + 1 := by have := HS.out; unfold wrap64; omega
              have hks := url_Strip.kept_succ l i hil
              have hmo := url_Strip.mono l (i + 1) hil
              obtain ⟨c, hc⟩ : ∃ c, l[i] = c := ⟨_, rfl⟩
              have hsc : s[i]'hi = c := by
                rw [← hc]
                have e := HL.out.1
                subst e
                simp
                rfl
              rw [hc] at hks
              have hcl := c.toNat_lt
              have hcn0 : (0 : Int) ≤ (c.toNat : Int) := by omega
              have hcn1 : (c.toNat : Int) < 256 := by omega
              have hcnn : ((c.toNat : Int)).toNat = c.toNat := by omega
              have HII := Aside0.mk hi
              by_cases hg : url_Strip.gone c = true
              · rw [if_pos hg, List.append_nil] at hks
                obtain ⟨hh, cc, hce⟩ := (HRP.out c).1 hg
                have hce := pw_cell_below HB.out hce
                have HKS := Aside0.mk hks
                rw [hks] at hmo
                have hj0 : (0 : Int) ≤ (j : Int) := by omega
                have hjn : (j : Int) ≤ (n : Int) := by have := HJ.out; have := HN.out.1; omega
                have hcp : ∀ W d dl dc, (Builtin.copy_ #[60, 60] 3 #[.slice d dl dc, .slice (some ⟨hh, 0, none⟩) 0 cc]).run Tryd.prog W = .ok (.int .i64 0) W := fun W d dl dc => run_copy_none (P := Tryd.prog) W 60 60 3 5 d (some ⟨hh, 0, none⟩) dl dc 0 cc Tryd.underlying60 HSZ.out (by simp)
                clear hg hks hmo hc hcl hil
                by_cases hnj : j = n
                · subst hnj
                  go_wp2
                  go_region_calls
                  have hjj : IntKind.i64.wrap (j : Int) = (j : Int) := by have := HS.out; have := HN.out.2; rw [IntKind.wrap_i64]; omega
                  simp only [hjj]
                  go_wp2
                  go_roundw
                  case rel =>
                    refine ⟨i + 1, j, by first | rfl | simp, by first | exact congrArg (Value.int .i64) (by omega) | omega, ⟨HII.out⟩, ⟨by rw [HKS.out]; exact HJ.out⟩, ⟨by intro k hk; have := HC.out k hk; unfold url_Strip.cellAt at this ⊢; rw [HKS.out]; exact this⟩, ?_⟩
                    first | exact ⟨HF, ⟨below_drew HB.out⟩⟩ | exact ⟨below_drew HB.out⟩
                  case measure => have := HII.out; simp [intOf]; omega
                · have hnj' : ¬ n = j := fun e => hnj e.symm
                  go_wp2
                  go_region_calls
                  have hjj : IntKind.i64.wrap (j : Int) = (j : Int) := by have := HS.out; have := HN.out.2; rw [IntKind.wrap_i64]; omega
                  simp only [hjj]
                  go_wp2
                  go_roundw
                  case rel =>
                    refine ⟨i + 1, j, by first | rfl | simp, by first | exact congrArg (Value.int .i64) (by omega) | omega, ⟨HII.out⟩, ⟨by rw [HKS.out]; exact HJ.out⟩, ⟨by intro k hk; have := HC.out k hk; unfold url_Strip.cellAt at this ⊢; rw [HKS.out]; exact this⟩, ?_⟩
                    first | exact ⟨HF, ⟨below_drew HB.out⟩⟩ | exact ⟨below_drew HB.out⟩
                  case measure => have := HII.out; simp [intOf]; omega
              · rw [if_neg hg] at hks
                have hce := (HRP.out c).2 (by simpa using hg)
                have hce := pw_cell_below HB.out hce
                have HKS := Aside0.mk hks
                rw [hks, List.length_append] at hmo
                have hj0 : (0 : Int) ≤ (j : Int) := by omega
                have hjn : (j : Int) < (n : Int) := by have := HJ.out; have := HN.out.1; simp at hmo; omega
                have hjw : wrap64 ((j : Int) + 1) = (j : Int) + 1 := by have := HS.out; have := HN.out.2; unfold wrap64; omega
                have HJN : Aside0 (j < n) := ⟨Int.ofNat_lt.1 hjn⟩
                have hcj := HC.out j HJN.out
                have hfj := HF.out j HJN.out
                clear hg hks hmo hc hcl hil
                go_wp2
                go_roundw
                case rel => exact ⟨i + 1, j + 1, congrArg (Value.int .i64) (by have := HS.out; have := HN.out.2; have := HJN.out; unfold wrap64; omega), congrArg (Value.int .i64) (by omega), ⟨HII.out⟩, ⟨by rw [HKS.out, List.length_append, ← HJ.out]; rfl⟩, ⟨fun k hk => by
                    unfold url_Strip.cellAt
                    rw [HKS.out]
                    by_cases hkj : k = j
                    · subst hkj
                      rw [World.cell?_setCell_same _ _ _ (HC.out k hk)]
                      simp [List.getD, HJ.out]
                    · refine (World.cell?_setCell_other _ _ _ _ (fun e => hkj ?_)).trans ((HC.out k hk).trans ?_)
                      · injection e with _ e2 _
                        exact e2.symm
                      · unfold url_Strip.cellAt
                        have := HJ.out
                        by_cases hlt : k < (url_Strip.kept l i).length
                        · simp [List.getD, hlt, List.getElem?_append_left hlt]
                        · simp [List.getD, List.getElem?_eq_none (show (url_Strip.kept l i).length ≤ k by omega), List.getElem?_eq_none (show (url_Strip.kept l i ++ [c]).length ≤ k by simp; omega)]⟩, ⟨fun k hk => by rw [World.frozen?_setCell]; exact HF.out k hk⟩, ⟨HB.out.setCell (by have := HH.out; show w.heap.size ≤ h; omega) _⟩⟩
                case measure => have := HII.out; simp [intOf]; omega
            · obtain rfl : i = s.size := by have := HI.out; omega
              have hlt : decide ((s.size : Int) < (s.size : Int)) = false := decide_eq_false (by omega)
              have hcv := run_convert_bytes_arg (P := Tryd.prog) wr 60 5 Tryd.underlying60 Tryd.underlying5 h 0 n n ((List.range n).map fun j => url_Strip.cellAt l s.size j) (by simp) (fun j hj => by
                have e : ((List.range n).map fun j => url_Strip.cellAt l s.size j).getD j 0 = url_Strip.cellAt l s.size j := by simp [List.getD, hj]
                rw [e, Nat.zero_add]
                exact HC.out j hj) 9 Tryd.underlying9
              have hbk := url_Strip.back l
              rw [HN.out.1, HL.out.2, ← HL.out.1] at hbk
              rw [HL.out.1] at hbk
              rw [hbk] at hcv
              clear hbk
              go_wp2
              go_ret
              exact ⟨by rw [HL.out.1]; rfl, HB.out⟩
theorem url_Strip.rep_far {W : World} {g base : Nat} {done : List Nat} {v : Value} {names : List ByteArray} (h : url_Strip.Rep W g base done v names) {b : Nat} (hb : b < base) (hg : b < g) (i : Nat) (u : Value) : url_Strip.Rep (W.setCell ⟨b, i, none⟩ u) g base done v names := by
  obtain ⟨C, h1, h2⟩ := h.blk
  exact ⟨⟨C, blk_far h1 (p := ⟨b, i, none⟩) (by show g ≠ b; omega) u, h2⟩, Kd.R_mono (Kd.R_far (p := ⟨b, i, none⟩) (Kd.R_bound h.row) (fun k hk => by have := hk.2.1; show k ≠ b; omega) u) (fun k hk => hk.1)⟩
theorem url_Strip.rep_drew {W : World} {g base : Nat} {done : List Nat} {v : Value} {names : List ByteArray} (h : url_Strip.Rep W g base done v names) : url_Strip.Rep W.drew g base done v names := ⟨h.blk, Kd.R_move h.row (fun _ _ => rfl)⟩
/-- the Replacer's block as the once leaves it, with the state of the once and of its lock -/
structure url_Strip.Done (w0 : World) (B b : Nat) (d m s : Int) (w' : World) (g base : Nat) (v : Value) : Prop where
  lg : b < g
  lb : b < base
  blk : w'.heap[b]? = some (.cells #[.int .u32 d, .int .i32 m, .int .u32 s, .iface 139 (.pointer (some ⟨g, 0, none⟩)), .slice none 0 0] 101 (0, 0))
  rep : url_Strip.Rep w' g base [13, 10, 9] v [⟨#[13]⟩, ⟨#[10]⟩, ⟨#[9]⟩]
  below : Below B w0 w'
set_option maxRecDepth 100000 in
set_option maxHeartbeats 4000000 in
theorem url_Strip.once (w0 : World) (B b h cap : Nat) (d m s : Int) (r : Value) (w : World) (hb : w.heap[b]? = some (.cells #[.int .u32 d, .int .i32 m, .int .u32 s, r, .slice (some ⟨h, 0, none⟩) 6 cap] 101 (0, 0))) (hc : ∀ (i : Nat) (s : ByteArray), url_Strip.olds[i]? = some s → w.cell? ⟨h, i, none⟩ = some (.string s)) (hB : Below B w0 w) (hBw : B ≤ w.heap.size) (hBb : B ≤ b) :
    Calls Tryd.prog 55 #[.pointer (some ⟨b, 0, none⟩)] w fun e w' => e = .returned (.tuple #[]) ∧ ∃ g base v, url_Strip.Done w0 B b d m s w' g base v := by
  have hbuild := url_Strip.build b h cap w (by have h4 := blk_cell hb 4; simp at h4; exact h4) hc
  have HX := Aside0.mk (And.intro hb (And.intro hB (And.intro hBw hBb)))
  clear hb hB hBb hc hBw
  go_enter Tryd.func55, Tryd.ntmps55
  go_wp2_with (go_at_call 72; refine hbuild.mono ?_; rintro e w1 ⟨g, v, rfl, hg, hrep, hbl⟩; have HR := Aside0.mk (And.intro hg (And.intro hrep hbl)); have hb1 := blk_below HX.out.1 hbl; have c3 := blk_cell hb1 3; have f3 := blk_frozen hb1 3; have c4 := blk_cell hb1 4; have f4 := blk_frozen hb1 4; have HB1 := Aside0.mk hb1; simp at c3 c4; clear hg hrep hbl hb1 hbuild)
  refine bodyPost_end (v := .tuple #[]) (by exact results_none rfl _ _ _) rfl ?_
  have hlt := blk_lt HX.out.1
  refine ⟨rfl, g, w.heap.size, v, by have := HR.out.1; omega, hlt, ?_, ?_, ?_⟩
  · exact blk_put (blk_put HB1.out 3 _ rfl) 4 _ rfl
  · exact url_Strip.rep_far (url_Strip.rep_far HR.out.2.1 hlt (by have := HR.out.1; omega) 3 _) hlt (by have := HR.out.1; omega) 4 _
  · exact ((HX.out.2.1.trans (HR.out.2.2.mono HX.out.2.2.1)).setCell (p := ⟨b, 3, none⟩) HX.out.2.2.2 _).setCell (p := ⟨b, 4, none⟩) HX.out.2.2.2 _
set_option maxRecDepth 100000 in
set_option maxHeartbeats 4000000 in
theorem url_Strip.slow (w0 : World) (B b h cap : Nat) (s : Int) (r : Value) (w : World) (hb : w.heap[b]? = some (.cells #[.int .u32 0, .int .i32 0, .int .u32 s, r, .slice (some ⟨h, 0, none⟩) 6 cap] 101 (0, 0))) (hhb : h ≠ b) (hc : ∀ (i : Nat) (s : ByteArray), url_Strip.olds[i]? = some s → w.cell? ⟨h, i, none⟩ = some (.string s)) (hB : Below B w0 w) (hBw : B ≤ w.heap.size) (hBb : B ≤ b) :
    Calls Tryd.prog 71 #[.pointer (some ⟨b, 0, none⟩), .func (.func 55) #[.pointer (some ⟨b, 0, none⟩)] #[]] w fun e w' => e = .returned (.tuple #[]) ∧ ∃ g base v, url_Strip.Done w0 B b 1 0 s w' g base v := by
  have hb1 : (w.setCell ⟨b, 1, none⟩ (.int .i32 1)).heap[b]? = some (.cells #[.int .u32 0, .int .i32 1, .int .u32 s, r, .slice (some ⟨h, 0, none⟩) 6 cap] 101 (0, 0)) := blk_put hb 1 _ rfl
  have hc1 : ∀ (i : Nat) (s : ByteArray), url_Strip.olds[i]? = some s → (w.setCell ⟨b, 1, none⟩ (.int .i32 1)).cell? ⟨h, i, none⟩ = some (.string s) := fun i s hi => (World.cell?_setCell_other _ ⟨b, 1, none⟩ ⟨h, i, none⟩ _ (fun e => hhb (by injection e with e1 _ _; exact e1.symm))).trans (hc i s hi)
  have honce := url_Strip.once w0 B b h cap 0 1 s r _ hb1 hc1 (hB.setCell (p := ⟨b, 1, none⟩) hBb _) (by rw [World.size_setCell]; exact hBw) hBb
  have k0 := blk_cell hb 0
  have k1 := blk_cell hb 1
  have f1 := blk_frozen hb 1
  simp at k0 k1
  have hl := run_call_load (P := Tryd.prog) Tryd.func87 (by kernel_rfl) (by kernel_rfl) (by kernel_rfl) .u32 (by kernel_rfl) (w := w.setCell ⟨b, 1, none⟩ (.int .i32 1)) (a := ⟨b, 0, none⟩) (x := 0) ((World.cell?_setCell_other _ ⟨b, 1, none⟩ ⟨b, 0, none⟩ _ (by simp)).trans k0)
  have hlock := url_Strip.lock_free ⟨b, 1, none⟩ w k1 f1
  have hnot : ∀ (x : Bool) (w : World), (Op.unary .not (.bool x)).run Tryd.prog w = .ok (.bool (!x)) w := fun _ _ => rfl
  clear hb hb1 hc hc1 hB hBw
  go_enter_defers Tryd.func71, Tryd.ntmps71
  go_wp2_with (first
    | (go_at_call 88; refine hlock.mono ?_; rintro e w' ⟨rfl, rfl⟩)
    | (go_at_call 70; go_in)
    | (go_at_call 55; refine honce.mono ?_; rintro e w1 ⟨rfl, g, base, v, hdone⟩; have HD := Aside0.mk hdone; clear hdone honce))
  have hb1 := HD.out.blk
  have c0 := blk_cell hb1 0
  have z0 := blk_frozen hb1 0
  simp at c0
  have hb2 : ((w1.drew).setCell ⟨b, 0, none⟩ (.int .u32 1)).heap[b]? = some (.cells #[.int .u32 1, .int .i32 1, .int .u32 s, .iface 139 (.pointer (some ⟨g, 0, none⟩)), .slice none 0 0] 101 (0, 0)) := blk_put (blk_drew hb1) 0 _ rfl
  have c1 := blk_cell hb2 1
  have z1 := blk_frozen hb2 1
  simp at c1
  refine leaves_cons (f := 90) (args := #[.pointer (some ⟨b, 0, none⟩), .bool true]) (by simp) (by simp [go_sem]) ?_
  refine (url_Strip.store_deferred ⟨b, 0, none⟩ (.int .u32 0) .returning _ c0 z0).mono ?_
  rintro e u' w'' ⟨rfl, rfl, rfl⟩
  refine leaves_cons (f := 89) (args := #[.pointer (some ⟨b, 1, none⟩)]) (by simp [settle]) (by simp [go_sem]) ?_
  refine (url_Strip.unlock_deferred ⟨b, 1, none⟩ _ _ c1 z1).mono ?_
  rintro e u' w'' ⟨rfl, rfl, rfl⟩
  have hend : url_Strip.Done w0 B b 1 0 s (((w1.drew).setCell ⟨b, 0, none⟩ (.int .u32 1)).setCell ⟨b, 1, none⟩ (.int .i32 0)) g base v := by
    refine ⟨HD.out.lg, HD.out.lb, blk_put hb2 1 _ rfl, ?_, ?_⟩
    · exact url_Strip.rep_far (url_Strip.rep_far (url_Strip.rep_drew HD.out.rep) HD.out.lb HD.out.lg 0 _) HD.out.lb HD.out.lg 1 _
    · exact ((below_drew HD.out.below).setCell (p := ⟨b, 0, none⟩) hBb _).setCell (p := ⟨b, 1, none⟩) hBb _
  have HE := Aside0.mk hend
  clear hend hb1 hb2 c0 c1 z0 z1 hl hlock k0 k1 f1 hnot
  simp [Leaves, settle, results, Tryd.results71]
  exact ⟨g, base, v, HE.out⟩
set_option maxRecDepth 100000 in
set_option maxHeartbeats 4000000 in
theorem url_Strip.first (w0 : World) (B b h cap : Nat) (s : Int) (r : Value) (w : World) (hb : w.heap[b]? = some (.cells #[.int .u32 0, .int .i32 0, .int .u32 s, r, .slice (some ⟨h, 0, none⟩) 6 cap] 101 (0, 0))) (hhb : h ≠ b) (hc : ∀ (i : Nat) (s : ByteArray), url_Strip.olds[i]? = some s → w.cell? ⟨h, i, none⟩ = some (.string s)) (hB : Below B w0 w) (hBw : B ≤ w.heap.size) (hBb : B ≤ b) :
    Calls Tryd.prog 54 #[.pointer (some ⟨b, 0, none⟩), .func (.func 55) #[.pointer (some ⟨b, 0, none⟩)] #[]] w fun e w' => e = .returned (.tuple #[]) ∧ ∃ g base v, url_Strip.Done w0 B b 1 0 s w' g base v := by
  have hslow := url_Strip.slow w0 B b h cap s r w hb hhb hc hB hBw hBb
  have k0 := blk_cell hb 0
  simp at k0
  have hl := run_call_load (P := Tryd.prog) Tryd.func87 (by kernel_rfl) (by kernel_rfl) (by kernel_rfl) .u32 (by kernel_rfl) k0
  have hnot : ∀ (x : Bool) (w : World), (Op.unary .not (.bool x)).run Tryd.prog w = .ok (.bool (!x)) w := fun _ _ => rfl
  clear hb hc hB hBw
  go_enter Tryd.func54, Tryd.ntmps54
  go_wp2_with (first
    | (go_at_call 70; go_in)
    | (go_at_call 71; refine hslow.mono ?_; rintro e w1 ⟨rfl, g, base, v, hdone⟩; have HD := Aside0.mk hdone; clear hdone hslow))
  go_end0
  exact ⟨rfl, g, base, v, HD.out⟩
set_option maxRecDepth 100000 in
set_option maxHeartbeats 4000000 in
theorem url_Strip.replaced (w0 : World) (B b h cap : Nat) (sm : Int) (r : Value) (s : ByteArray) (w : World) (hs : s.size ≤ 140737488355328) (hb : w.heap[b]? = some (.cells #[.int .u32 0, .int .i32 0, .int .u32 sm, r, .slice (some ⟨h, 0, none⟩) 6 cap] 101 (0, 0))) (hhb : h ≠ b) (hc : ∀ (i : Nat) (s : ByteArray), url_Strip.olds[i]? = some s → w.cell? ⟨h, i, none⟩ = some (.string s)) (hB : Below B w0 w) (hBw : B ≤ w.heap.size) (hBb : B ≤ b) :
    Calls Tryd.prog 30 #[.pointer (some ⟨b, 0, none⟩), .string s] w fun e w' => e = .returned (.string ⟨(s.data.toList.filter fun c => !url_Strip.gone c).toArray⟩) ∧ Below B w0 w' := by
  have hfirst := url_Strip.first w0 B b h cap sm r w hb hhb hc hB hBw hBb
  have hsz := (blk_lt hb)
  have hmf : ∀ (fn : Fn) (first cap : Array Value) (w : World), (Instr.makeFunc fn first cap).run Tryd.prog w = .ok (.func fn first cap) w := fun _ _ _ _ => rfl
  have hmt : ∀ (x : Value) (w : World), (method 330 139 x "Replace").run Tryd.prog w = .ok (173, x) w := fun _ _ => by kernel_rfl
  have HS := Aside0.mk hs
  have HW := Aside0.mk (And.intro hBw hsz)
  clear hb hc hB hs hBw hsz
  go_enter Tryd.func30, Tryd.ntmps30
  go_wp2_with (first
    | (go_at_call 54; refine hfirst.mono ?_; rintro e w1 ⟨rfl, g, base, v, hdone⟩; have HD := Aside0.mk hdone; have c3 := blk_cell HD.out.blk 3; simp at c3; clear hdone hfirst)
    | (go_at_call 173; refine (url_Strip.replace g base v s _ HS.out HD.out.rep).mono ?_; rintro e w2 ⟨rfl, hb2⟩; have HB2 := Aside0.mk hb2; clear hb2))
  go_ret
  exact ⟨rfl, HD.out.below.trans (HB2.out.mono (by have := blk_lt HD.out.blk; omega))⟩
theorem url_Strip.lit_row (h0 : Nat) (w : World) (hC : w.heap[h0]? = some (.cells #[.string ⟨#[9]⟩, .string ⟨#[]⟩, .string ⟨#[10]⟩, .string ⟨#[]⟩, .string ⟨#[13]⟩, .string ⟨#[]⟩] 9 (0, 0))) : Kd.string.C w (some ⟨h0, 0, none⟩) 6 url_Strip.olds := by
  refine ⟨rfl, by decide, fun _ => ⟨⟨h0, 0, none⟩, rfl, fun j p hj => ?_⟩⟩
  refine ⟨[.string p], rfl, rfl, fun i u hi => ?_⟩
  obtain ⟨rfl, rfl⟩ : i = 0 ∧ Value.string p = u := by
    cases i with
    | zero => exact ⟨rfl, by simpa using hi⟩
    | succ i => simp at hi
  have e : (⟨h0, 0, none⟩ : Addr).add (j * 1 + 0) = ⟨h0, j, none⟩ := by simp [Addr.add]; try omega
  show w.cell? ((⟨h0, 0, none⟩ : Addr).add (j * 1 + 0)) = _
  rw [e, blk_cell hC j]
  match j, hj with
  | 0, hj => obtain rfl := Option.some.inj hj; rfl
  | 1, hj => obtain rfl := Option.some.inj hj; rfl
  | 2, hj => obtain rfl := Option.some.inj hj; rfl
  | 3, hj => obtain rfl := Option.some.inj hj; rfl
  | 4, hj => obtain rfl := Option.some.inj hj; rfl
  | 5, hj => obtain rfl := Option.some.inj hj; rfl
  | j + 6, hj => simp at hj
set_option maxRecDepth 100000 in
set_option maxHeartbeats 4000000 in
theorem url_Strip.newRep (h0 : Nat) (w : World) (hC : w.heap[h0]? = some (.cells #[.string ⟨#[9]⟩, .string ⟨#[]⟩, .string ⟨#[10]⟩, .string ⟨#[]⟩, .string ⟨#[13]⟩, .string ⟨#[]⟩] 9 (0, 0))) :
    Calls Tryd.prog 29 #[.slice (some ⟨h0, 0, none⟩) 6 6] w fun e w' => ∃ b h cap r, e = .returned (.pointer (some ⟨b, 0, none⟩)) ∧ w.heap.size ≤ b ∧ h ≠ b ∧ w'.heap[b]? = some (.cells #[.int .u32 0, .int .i32 0, .int .u32 0, r, .slice (some ⟨h, 0, none⟩) 6 cap] 101 (0, 0)) ∧ (∀ (i : Nat) (s : ByteArray), url_Strip.olds[i]? = some s → w'.cell? ⟨h, i, none⟩ = some (.string s)) ∧ Below w.heap.size w w' := by
  have hrow := Aside0.mk (url_Strip.lit_row h0 w hC)
  clear hC
  go_enter Tryd.func29, Tryd.ntmps29
  go_wp2_with (at_builtin; refine Kd.R_append_rows Kd.string (w0 := w) w.heap.size rfl (.const (.slice none 0 0)) (.tmp 8) 30 9 (.string ⟨#[]⟩) 16 rfl Tryd.underlying30 info9 rfl (by decide) (by omega) (.slice none 0 0) [] url_Strip.olds (some ⟨h0, 0, none⟩) 6 6 (fun k_ => w.heap.size ≤ k_) (fun _ => False) rfl rfl (Kd.R_nil _ _ _ _ _) hrow.out (fun _ _ h => h) (fun _ h => h.elim) (fun k hk => hk) (Below.refl _ _) (Nat.le_refl _) (by decide) ?_; intro v1 w1 ho hb hg hat; rw [List.nil_append] at ho; have HO := Aside0.mk ho; have HB := Aside0.mk hb; obtain ⟨g, cap, rfl, hg1, hg2, hg3⟩ := Kd.N_form (Kd.R_N ho) (by decide); have HG := Aside0.mk (And.intro hg1 hg2); clear ho hb hg hat hg1 hg2 hg3)
  go_ret
  refine ⟨_, g, cap, _, rfl, HB.out.size, by have := HG.out; omega, blk_new _ _, fun i s hi => ?_, below_alloc HB.out _⟩
  have hlt : i < 6 := (List.getElem?_eq_some_iff.1 hi).1
  have h1 := (Kd.R_cell ByteArray.empty HO.out (i : Int) (by omega) (by show (i : Int) < 6; omega)).1
  rw [World.cell?_alloc_lt _ _ _ (by exact HG.out.2)]
  have e : rdOf ByteArray.empty url_Strip.olds (i : Int) = s := by simp only [rdOf, Int.toNat_natCast]; simp [List.getD, hi]
  rw [e] at h1
  exact h1
theorem url_Strip.trim_len (l cs : List UInt8) : (Lib.trimS l cs).length ≤ l.length := by
  have h1 : (Lib.trimRightS l cs).length ≤ l.length := by
    unfold Lib.trimRightS
    rw [List.length_reverse]
    have := (List.dropWhile_sublist (cs.contains ·) (l := l.reverse)).length_le
    rwa [List.length_reverse] at this
  exact Nat.le_trans ((List.dropWhile_sublist (cs.contains ·) (l := Lib.trimRightS l cs)).length_le) h1
set_option maxRecDepth 100000 in
set_option maxHeartbeats 4000000 in
theorem url_Strip.calls (a0 : ByteArray) (r : ByteArray) (w : World) (h : url_Strip.f a0 = some r) :
    Calls Tryd.prog 16 #[.string a0] w fun e w' => e = .returned (.string r) ∧ Below w.heap.size w w' := by
  unfold url_Strip.f at h
  by_cases hc : a0.size ≤ 140737488355328
  · rw [if_pos hc] at h
    obtain ⟨t, ht⟩ : ∃ t : ByteArray, (⟨(Lib.trimS a0.data.toList url_Strip.cutset.data.toList).toArray⟩ : ByteArray) = t := ⟨_, rfl⟩
    have htl : t.data.toList = Lib.trimS a0.data.toList url_Strip.cutset.data.toList := by rw [← ht]
    have hts : t.size ≤ 140737488355328 := by
      have h1 := url_Strip.trim_len a0.data.toList url_Strip.cutset.data.toList
      rw [← htl, Array.length_toList, Array.length_toList] at h1
      exact Nat.le_trans h1 hc
    rw [← htl] at h
    obtain rfl := Option.some.inj h
    have htrim := Any.strings_Trim_laid Tryd.lays160 (by kernel_rfl) a0 url_Strip.cutset w (by omega) (by decide) (ascii_of_all (by decide +kernel))
    rw [ht] at htrim
    have HT := Aside0.mk (And.intro hts htl)
    clear hc h ht hts htl
    go_enter Tryd.func16, Tryd.ntmps16
    go_wp2_with (first
      | (go_at_call 28; refine htrim.mono ?_; rintro e w1 ⟨rfl, hb⟩; have HB := Aside0.mk hb; clear hb htrim)
      | (go_at_call 29; refine (url_Strip.newRep _ _ (blk_new _ _)).mono ?_; rintro e w2 ⟨b, h, cap, r, rfl, hwb, hhb, hblk, hcs, hb2⟩; have HB2 := Aside0.mk (below_step (below_alloc HB.out _) hb2); have HN := Aside0.mk (And.intro hwb (And.intro hhb (And.intro hblk hcs))); clear hwb hhb hblk hcs hb2)
      | (go_at_call 30; refine (url_Strip.replaced w w.heap.size b h cap 0 r t _ HT.out.1 HN.out.2.2.1 HN.out.2.1 HN.out.2.2.2 HB2.out HB2.out.size (Nat.le_trans (below_alloc HB.out _).size HN.out.1)).mono ?_; rintro e w3 ⟨rfl, hb3⟩; have HB3 := Aside0.mk hb3; clear hb3))
    go_ret
    exact ⟨rfl, HB3.out⟩
  · rw [if_neg hc] at h; cases h
end Go.Proofs.YteimhgbihpbhaaaDoor.X
end
