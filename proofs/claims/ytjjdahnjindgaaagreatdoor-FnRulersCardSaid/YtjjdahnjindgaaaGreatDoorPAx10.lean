-- Written for this claim by a program of this session's (ownprint.py), by way of the kit's print and hand-proved texts. Lean checks it.
import Derived.Tactics
import Derived.Tactics2
import Derived.Defers
import Derived.Laws.Pointers
import Derived.Laws.LoneSync
import Derived.RegionTactic
import Derived.RegionCalls
import Derived.ChangeAlike
import Derived.Laws.NewBlocks
import Derived.Lib.LazyBuf
import Derived.Test.YtjjdahnjindgaaaGreatDoorPAx0
import Derived.Test.YtjjdahnjindgaaaGreatDoorPAx9
namespace Go.Proofs.YtjjdahnjindgaaaGreatDoor.PA
open Go.RowKit Go.Proofs.YtjjdahnjindgaaaGreatDoorW.PrintWords Go.Proofs.YtjjdahnjindgaaaGreatDoorW.PrintLast Go.Proofs.YtjjdahnjindgaaaGreatDoorW.PrintMore
attribute [local go_sem] max2_int min2_int max_two min_two max_three min_three max_four min_four   -- for this text's walks alone
set_option linter.unusedVariables false
set_option linter.unusedSimpArgs false

/-! ### impl_MirrorLaying: function 8 (by hand) -/
theorem mr_disable (w : World) : (callFunc 98 #[]).run Tryz.prog w = .ok (.value (.tuple #[])) w := run_call_mark0 Tryz.func98 (by kernel_rfl) (by kernel_rfl) (by kernel_rfl) .disable (by kernel_rfl) w
theorem mr_enable (w : World) : (callFunc 100 #[]).run Tryz.prog w = .ok (.value (.tuple #[])) w := run_call_mark0 Tryz.func100 (by kernel_rfl) (by kernel_rfl) (by kernel_rfl) .enable (by kernel_rfl) w
theorem mr_acquire (a : Addr) (w : World) : (callFunc 101 #[.pointer (some a)]).run Tryz.prog w = .ok (.value (.tuple #[])) w := run_call_marked Tryz.func101 (by kernel_rfl) (by kernel_rfl) (by kernel_rfl) .acquire (by kernel_rfl) a w
theorem mr_release (a : Addr) (w : World) : (callFunc 103 #[.pointer (some a)]).run Tryz.prog w = .ok (.value (.tuple #[])) w := run_call_marked Tryz.func103 (by kernel_rfl) (by kernel_rfl) (by kernel_rfl) .releaseMerge (by kernel_rfl) a w
theorem mr_store_d (a : Addr) (x : Value) (u : FrameMode) (w : World) (hc : w.cell? a = some x) (hz : w.frozen? a = false) :
    CallsD Tryz.prog 75 #[.pointer (some a), .bool true] u w fun e u' w' => u' = u ∧ (e = .returned (.tuple #[]) ∧ w' = w.drew.setCell a (.int .u32 1)) := by
  have hc' : w.drew.cell? a = some x := by go_simp
  have hz' : w.drew.frozen? a = false := by go_simp
  have hst := run_call_store (P := Tryz.prog) Tryz.func89 (by kernel_rfl) (by kernel_rfl) (by kernel_rfl) (by kernel_rfl) (k := .u32) (y := 1) hc' hz'
  go_enter_d Tryz.func75, Tryz.ntmps75
  go_wp2
  go_region_calls
  all_goals (go_end0; exact ⟨rfl, rfl⟩)
set_option maxRecDepth 100000 in
theorem mr_unlock_d (a : Addr) (u : FrameMode) (w : World) (hc : w.cell? a = some (.int .i32 1)) (hz : w.frozen? a = false) :
    CallsD Tryz.prog 74 #[.pointer (some a)] u w fun e u' w' => u' = u ∧ (e = .returned (.tuple #[]) ∧ w' = w.setCell a (.int .i32 0)) := by
  have hd := mr_disable
  have he := mr_enable
  have hr := mr_release
  have hadd := run_call_add (P := Tryz.prog) Tryz.func104 (by kernel_rfl) (by kernel_rfl) (by kernel_rfl) .i32 (by kernel_rfl) (y := -1) (s := 0) hc hz (by simp [go_sem]; rfl)
  have hcv := run_convert_to_unsafe (P := Tryz.prog) (src := 149) (dst := 153) Tryz.underlying149 Tryz.underlying153 (by kernel_rfl) hc
  go_enter_d Tryz.func74, Tryz.ntmps74
  go_wp2
  go_end0
  go_wp2
  go_end0
  exact ⟨rfl, rfl⟩
set_option maxRecDepth 100000 in
theorem mr_lock (a : Addr) (w : World) (hc : w.cell? a = some (.int .i32 0)) (hz : w.frozen? a = false) :
    Calls Tryz.prog 73 #[.pointer (some a)] w fun e w' => e = .returned (.tuple #[]) ∧ w' = w.setCell a (.int .i32 1) := by
  have hd := mr_disable
  have he := mr_enable
  have ha := mr_acquire
  have hcas := run_call_cas_hit (P := Tryz.prog) Tryz.func99 (by kernel_rfl) (by kernel_rfl) (by kernel_rfl) .i32 (by kernel_rfl) (y := 1) hc hz
  have hc' : (w.setCell a (.int .i32 1)).cell? a = some (.int .i32 1) := World.cell?_setCell_same w a _ hc
  have hcv := run_convert_to_unsafe (P := Tryz.prog) (src := 149) (dst := 153) Tryz.underlying149 Tryz.underlying153 (by kernel_rfl) hc'
  go_enter Tryz.func73, Tryz.ntmps73
  go_wp2
  first | go_end0 | (simp only [Exit.inBlock, Exit.then]; refine bodyPost_ret (results_none rfl _ _ _) rfl ?_) | refine bodyPost_ret (results_none rfl _ _ _) rfl ?_
  go_wp2
  go_end0
  exact ⟨rfl, rfl⟩
/-- The Replacer's five cells. -/
def mrS (w : World) (b : Nat) (d m : Int) (ifc sl : Value) : Prop := w.heap[b]? = some (.cells #[.int .u32 d, .int .i32 m, .int .u32 0, ifc, sl] 68 (0, 0))
theorem mrS.set0 {w : World} {b : Nat} {d m : Int} {ifc sl : Value} (h : mrS w b d m ifc sl) (x : Int) : mrS (w.setCell ⟨b, 0, none⟩ (.int .u32 x)) b x m ifc sl := blk_set h 0 _
theorem mrS.set1 {w : World} {b : Nat} {d m : Int} {ifc sl : Value} (h : mrS w b d m ifc sl) (x : Int) : mrS (w.setCell ⟨b, 1, none⟩ (.int .i32 x)) b d x ifc sl := blk_set h 1 _
theorem mrS.cell {w : World} {b : Nat} {d m : Int} {ifc sl : Value} (h : mrS w b d m ifc sl) (i : Nat) : w.cell? ⟨b, i, none⟩ = #[Value.int .u32 d, .int .i32 m, .int .u32 0, ifc, sl][i]? := blk_cell h i
theorem mrS.fz {w : World} {b : Nat} {d m : Int} {ifc sl : Value} (h : mrS w b d m ifc sl) (i : Nat) : w.frozen? ⟨b, i, none⟩ = false := blk_frozen h i
set_option maxRecDepth 100000 in
set_option maxHeartbeats 1600000 in
theorem mr_slow (b : Nat) (w : World) (ifc sl : Value) (R : Value → Value → World → Prop) (h : mrS w b 0 0 ifc sl)
    (hF : Calls Tryz.prog 40 #[.pointer (some ⟨b, 0, none⟩)] (w.setCell ⟨b, 1, none⟩ (.int .i32 1)) fun e w' => e = .returned (.tuple #[]) ∧ ∃ ifc' sl', mrS w' b 0 1 ifc' sl' ∧ R ifc' sl' w') :
    Calls Tryz.prog 54 #[.pointer (some ⟨b, 0, none⟩), .func (.func 40) #[.pointer (some ⟨b, 0, none⟩)] #[]] w fun e w' => e = .returned (.tuple #[]) ∧ ∃ ifc' sl' w2, mrS w2 b 0 1 ifc' sl' ∧ R ifc' sl' w2 ∧ w' = (w2.drew.setCell ⟨b, 0, none⟩ (.int .u32 1)).setCell ⟨b, 1, none⟩ (.int .i32 0) := by
  have h1 := h.set1 1
  have c0 : w.cell? ⟨b, 0, none⟩ = some (.int .u32 0) := h.cell 0
  have c1 : w.cell? ⟨b, 1, none⟩ = some (.int .i32 0) := h.cell 1
  have f1 : w.frozen? ⟨b, 1, none⟩ = false := h.fz 1
  have c01 : (w.setCell ⟨b, 1, none⟩ (.int .i32 1)).cell? ⟨b, 0, none⟩ = some (.int .u32 0) := h1.cell 0
  have hl := run_call_load (P := Tryz.prog) Tryz.func72 (by kernel_rfl) (by kernel_rfl) (by kernel_rfl) .u32 (by kernel_rfl) (w := w.setCell ⟨b, 1, none⟩ (.int .i32 1)) (a := ⟨b, 0, none⟩) (x := 0) c01
  have hnot : ∀ (x : Bool) (w : World), (Op.unary .not (.bool x)).run Tryz.prog w = .ok (.bool (!x)) w := fun _ _ => rfl
  go_enter_defers Tryz.func54, Tryz.ntmps54
  go_wp2_with (go_at_call 73; refine (mr_lock ⟨b, 1, none⟩ _ c1 f1).mono ?_; rintro e w' ⟨rfl, rfl⟩)
  go_wp2_with (first | (go_at_call 40; refine hF.mono ?_; rintro e w2 ⟨rfl, ifc', sl', hS, hR⟩) | (go_at_call 53; go_in))
  refine leaves_cons (f := 75) (args := #[.pointer (some ⟨b, 0, none⟩), .bool true]) (by simp) (by simp [go_sem]) ?_
  refine (mr_store_d ⟨b, 0, none⟩ (.int .u32 0) .returning _ (hS.cell 0) (hS.fz 0)).mono ?_
  rintro e u' w'' ⟨rfl, rfl, rfl⟩
  have hS2 : mrS (w2.drew.setCell ⟨b, 0, none⟩ (.int .u32 1)) b 1 1 ifc' sl' := mrS.set0 (w := w2.drew) (blk_drew hS) 1
  refine leaves_cons (f := 74) (args := #[.pointer (some ⟨b, 1, none⟩)]) (by simp [settle]) (by simp [go_sem]) ?_
  refine (mr_unlock_d ⟨b, 1, none⟩ _ _ (hS2.cell 1) (hS2.fz 1)).mono ?_
  rintro e u' w'' ⟨rfl, rfl, rfl⟩
  simp [Leaves, settle, results, Tryz.results54]
  exact ⟨_, _, _, hS, hR, rfl⟩
set_option maxRecDepth 100000 in
set_option maxHeartbeats 1600000 in
theorem mr_do (b : Nat) (w : World) (ifc sl : Value) (R : Value → Value → World → Prop) (h : mrS w b 0 0 ifc sl)
    (hF : Calls Tryz.prog 40 #[.pointer (some ⟨b, 0, none⟩)] (w.setCell ⟨b, 1, none⟩ (.int .i32 1)) fun e w' => e = .returned (.tuple #[]) ∧ ∃ ifc' sl', mrS w' b 0 1 ifc' sl' ∧ R ifc' sl' w') :
    Calls Tryz.prog 39 #[.pointer (some ⟨b, 0, none⟩), .func (.func 40) #[.pointer (some ⟨b, 0, none⟩)] #[]] w fun e w' => e = .returned (.tuple #[]) ∧ ∃ ifc' sl' w2, mrS w2 b 0 1 ifc' sl' ∧ R ifc' sl' w2 ∧ w' = (w2.drew.setCell ⟨b, 0, none⟩ (.int .u32 1)).setCell ⟨b, 1, none⟩ (.int .i32 0) := by
  have c0 : w.cell? ⟨b, 0, none⟩ = some (.int .u32 0) := h.cell 0
  have hl := run_call_load (P := Tryz.prog) Tryz.func72 (by kernel_rfl) (by kernel_rfl) (by kernel_rfl) .u32 (by kernel_rfl) c0
  have hnot : ∀ (x : Bool) (w : World), (Op.unary .not (.bool x)).run Tryz.prog w = .ok (.bool (!x)) w := fun _ _ => rfl
  go_enter Tryz.func39, Tryz.ntmps39
  go_wp2_with (first | (go_at_call 54; refine (mr_slow b _ ifc sl R h hF).mono ?_; rintro e w' ⟨rfl, hw⟩) | (go_at_call 53; go_in))
  go_end0
  exact ⟨rfl, hw⟩
def mrT : Array Value := #[.string ⟨#[114]⟩, .string ⟨#[108]⟩, .string ⟨#[108]⟩, .string ⟨#[114]⟩]
/-- The four strings that the Replacer was made of. -/
structure MrRow (w : World) (b1 : Nat) : Prop where
  lt : b1 < w.heap.size
  c : ∀ i : Nat, i < 4 → w.cell? ⟨b1, i, none⟩ = mrT[i]?
theorem MrRow.below {w w' : World} {b1 : Nat} (h : MrRow w b1) (hb : Below w.heap.size w w') : MrRow w' b1 :=
  ⟨Nat.lt_of_lt_of_le h.lt hb.size, fun i hi => (hb.cell (by exact h.lt)).trans (h.c i hi)⟩
theorem MrRow.far {w : World} {b1 : Nat} (h : MrRow w b1) {p : Addr} (hp : b1 ≠ p.block) (u : Value) : MrRow (w.setCell p u) b1 :=
  ⟨by simpa using h.lt, fun i hi => (World.cell?_setCell_other _ _ _ _ (by rintro rfl; exact hp rfl)).trans (h.c i hi)⟩
/-- The table while it is filled. -/
def mrTab (n : Nat) : Array Value := ((List.range 256).map fun j : Nat => Value.int .u8 (if j < n then (j : Int) else 0)).toArray
theorem mrTab_next {n : Nat} (h : n < 256) : (mrTab n).setIfInBounds n (.int .u8 (n : Int)) = mrTab (n + 1) := by
  unfold mrTab
  rw [List.setIfInBounds_toArray]
  congr 1
  apply List.ext_getElem (by simp)
  intro i h1 h2
  rw [List.getElem_set, List.getElem_map, List.getElem_map, List.getElem_range]
  by_cases c : n = i
  · subst c; rw [if_pos rfl, if_pos (by omega)]
  · rw [if_neg c]
    by_cases c2 : i < n
    · rw [if_pos c2, if_pos (by omega)]
    · rw [if_neg c2, if_neg (by omega)]
theorem mr_same (g : Nat) (t : TypeId) (cs : Array Value) : ∀ (vs : List Value) (o : Nat) (w : World), w.heap[g]? = some (.cells cs t (0, 0)) → (∀ j, j < vs.length → cs[o + j]? = vs[j]?) → (w.setCells g o vs).heap[g]? = some (.cells cs t (0, 0))
  | [], _, _, h, _ => h
  | v :: r, o, w, h, hv => by
    have h0 : cs[o]? = some v := by have := hv 0 (by simp); simpa using this
    have e : cs.setIfInBounds o v = cs := by
      apply Array.ext_getElem?
      intro i
      rw [Array.getElem?_setIfInBounds]
      split
      · rename_i c; subst c
        split
        · exact h0.symm
        · rename_i c2; rw [Array.getElem?_eq_none (by omega)] at h0; cases h0
      · rfl
    exact mr_same g t cs r (o + 1) _ (blk_put h o v e) (fun j hj => by
      have := hv (j + 1) (by simp; omega)
      rw [show o + 1 + j = o + (j + 1) by omega]
      simpa using this)
theorem mrTab_get {n j : Nat} (h : j < 256) : (mrTab n)[j]? = some (.int .u8 (if j < n then (j : Int) else 0)) := by
  unfold mrTab
  simp [h]
theorem mr_fill (w : World) : ∃ W2, (storeCells ⟨w.heap.size, 0, none⟩ (mrTab 0).toList).run Tryz.prog (w.alloc (.cells (mrTab 0) 113)) = .ok () W2 ∧ W2.heap[w.heap.size]? = some (.cells (mrTab 0) 113 (0, 0)) ∧ Below w.heap.size w W2 := by
  have hb : (w.alloc (.cells (mrTab 0) 113)).heap[w.heap.size]? = some (.cells (mrTab 0) 113 (0, 0)) := blk_new w _
  have hl : (mrTab 0).toList.length = 256 := by simp [mrTab]
  have hg : ∀ j, j < 256 → (mrTab 0)[j]? = some (.int .u8 0) := fun j hj => by rw [mrTab_get hj]; rfl
  refine ⟨_, run_storeCells_cells w.heap.size 0 (mrTab 0).toList 0 _ (fun j hj => ?_) (fun j hj => blk_frozen hb _) (fun v hv => ?_), ?_, ?_⟩
  · rw [blk_cell hb, show 0 + 0 + j = j by omega, hg j (by omega)]; rfl
  · obtain ⟨j, hj, rfl⟩ := List.getElem_of_mem hv
    simp [mrTab]
    rfl
  · refine mr_same _ _ _ _ _ _ hb (fun j hj => ?_)
    simp
  · exact Go.below_setCells (Nat.le_refl _) _ _ _ (below_alloc (Below.refl _ _) _)
def mrTable : Array Value := ((mrTab 256).setIfInBounds 108 (.int .u8 114)).setIfInBounds 114 (.int .u8 108)
set_option maxRecDepth 100000 in
set_option maxHeartbeats 1600000 in
theorem mr_build (b b1 cc : Nat) (w : World) (d m : Int) (ifc : Value) (h : mrS w b d m ifc (.slice (some ⟨b1, 0, none⟩) 4 cc)) (h1 : MrRow w b1) :
    Calls Tryz.prog 55 #[.pointer (some ⟨b, 0, none⟩)] w fun e w' => e = .returned (.iface 114 (.pointer (some ⟨w.heap.size, 0, none⟩))) ∧ w'.heap[w.heap.size]? = some (.cells mrTable 113 (0, 0)) ∧ Below w.heap.size w w' := by
  have c4 : w.cell? ⟨b, 4, none⟩ = some (.slice (some ⟨b1, 0, none⟩) 4 cc) := h.cell 4
  have s0 : w.cell? ⟨b1, 0, none⟩ = some (.string ⟨#[114]⟩) := h1.c 0 (by omega)
  have s1 : w.cell? ⟨b1, 1, none⟩ = some (.string ⟨#[108]⟩) := h1.c 1 (by omega)
  have s2 : w.cell? ⟨b1, 2, none⟩ = some (.string ⟨#[108]⟩) := h1.c 2 (by omega)
  have s3 : w.cell? ⟨b1, 3, none⟩ = some (.string ⟨#[114]⟩) := h1.c 3 (by omega)
  have ez : Tryz.zeroCells113 = mrTab 0 := by kernel_rfl
  have H1 := Aside0.mk h1
  clear h1
  go_enter Tryz.func55, Tryz.ntmps55
  go_wp2
  go_loopg [4, 5] 2 (fun gk v4 v5 w' => v4 = .bool true ∧ w' = w ∧ (v5 = .int .i64 0 ∧ gk = 2 ∨ v5 = .int .i64 2 ∧ gk = 1 ∨ v5 = .int .i64 4 ∧ gk = 0))
  case atStart => exact ⟨rfl, rfl, .inl ⟨rfl, rfl⟩⟩
  case round =>
    obtain ⟨rfl, hwr, h5⟩ := hrel
    rw [hwr]
    clear hwr
    rcases h5 with ⟨rfl, rfl⟩ | ⟨rfl, rfl⟩ | ⟨rfl, rfl⟩
    · go_wp2
      go_roundg 1
      case measure => omega
      case rel => exact ⟨rfl, rfl, .inr (.inl ⟨rfl, rfl⟩)⟩
    · go_wp2
      go_roundg 0
      case measure => omega
      case rel => exact ⟨rfl, rfl, .inr (.inr ⟨rfl, rfl⟩)⟩
    · obtain ⟨W2, hfill, hblk, hbel⟩ := mr_fill w
      have HBK := Aside0.mk hblk
      have HBL := Aside0.mk hbel
      clear hblk hbel
      go_wp2
      clear hfill ez c4 s0 s1 s2 s3
      go_loopg [61] 256 (fun gk v61 w' => ∃ n : Nat, v61 = .int .i64 (n : Int) ∧ Aside0 (n + gk = 256) ∧ Aside0 (w'.heap[w.heap.size]? = some (.cells (mrTab n) 113 (0, 0))) ∧ Aside0 (Below w.heap.size w w'))
      case atStart => exact ⟨0, rfl, ⟨rfl⟩, HBK, HBL⟩
      case round =>
        clear HBK HBL
        obtain ⟨n, rfl, HN, HBK, HBL⟩ := hrel
        by_cases c : n < 256
        · have p1 : decide ((n : Int) < 256) = true := decide_eq_true (by omega)
          have p2 : (0 ≤ (n : Int)) = True := eq_true (by omega)
          have p3 : ((n : Int) < 256) = True := eq_true (by omega)
          have hw8 : IntKind.u8.wrap (n : Int) = (n : Int) := by simp [IntKind.wrap, IntKind.bits, IntKind.signed]; omega
          have hc : wr.cell? ⟨w.heap.size, n, none⟩ = some (.int .u8 0) := by
            rw [blk_cell HBK.out, mrTab_get c, if_neg (by omega)]
          have hf : wr.frozen? ⟨w.heap.size, n, none⟩ = false := blk_frozen HBK.out _
          go_wp2
          go_roundg (gk - 1)
          case measure => have := HN.out; omega
          case rel => exact ⟨n + 1, rfl, ⟨by have := HN.out; omega⟩, ⟨blk_put HBK.out n _ (mrTab_next c)⟩, ⟨HBL.out.setCell (Nat.le_refl _) _⟩⟩
        · obtain rfl : n = 256 := by have := HN.out; omega
          clear HN c
          go_wp2
          go_loopg [8] 2 (fun gk v8 w' => (v8 = .int .i64 2 ∧ gk = 2 ∧ Aside0 (w'.heap[w.heap.size]? = some (.cells (mrTab 256) 113 (0, 0))) ∨ v8 = .int .i64 0 ∧ gk = 1 ∧ Aside0 (w'.heap[w.heap.size]? = some (.cells ((mrTab 256).setIfInBounds 108 (.int .u8 114)) 113 (0, 0))) ∨ v8 = .int .i64 (-2) ∧ gk = 0 ∧ Aside0 (w'.heap[w.heap.size]? = some (.cells mrTable 113 (0, 0)))) ∧ Aside0 (Below w.heap.size w w'))
          case atStart => exact ⟨.inl ⟨rfl, rfl, HBK⟩, HBL⟩
          case round =>
            clear HBK HBL
            obtain ⟨h8, HBL⟩ := hrel
            have h1 := H1.out
            have g1 := h1.below HBL.out
            have s0 : wr.cell? ⟨b1, 0, none⟩ = some (.string ⟨#[114]⟩) := g1.c 0 (by omega)
            have s1 : wr.cell? ⟨b1, 1, none⟩ = some (.string ⟨#[108]⟩) := g1.c 1 (by omega)
            have s2 : wr.cell? ⟨b1, 2, none⟩ = some (.string ⟨#[108]⟩) := g1.c 2 (by omega)
            have s3 : wr.cell? ⟨b1, 3, none⟩ = some (.string ⟨#[114]⟩) := g1.c 3 (by omega)
            clear h1 g1
            have e108 : ∀ h, ((⟨#[108]⟩ : ByteArray)[0]'h).toNat = 108 := fun _ => rfl
            have e114 : ∀ h, ((⟨#[114]⟩ : ByteArray)[0]'h).toNat = 114 := fun _ => rfl
            rcases h8 with ⟨rfl, rfl, HBK⟩ | ⟨rfl, rfl, HBK⟩ | ⟨rfl, rfl, HBK⟩
            · have hc : wr.cell? ⟨w.heap.size, 108, none⟩ = some (.int .u8 108) := by rw [blk_cell HBK.out, mrTab_get (by omega)]; rfl
              have hf : wr.frozen? ⟨w.heap.size, 108, none⟩ = false := blk_frozen HBK.out _
              go_wp2
              go_roundg 1
              case measure => omega
              case rel => exact ⟨.inr (.inl ⟨rfl, rfl, ⟨blk_set HBK.out 108 _⟩⟩), ⟨HBL.out.setCell (Nat.le_refl _) _⟩⟩
            · have hc : wr.cell? ⟨w.heap.size, 114, none⟩ = some (.int .u8 114) := by rw [blk_cell HBK.out, Array.getElem?_setIfInBounds, if_neg (by omega), mrTab_get (by omega)]; rfl
              have hf : wr.frozen? ⟨w.heap.size, 114, none⟩ = false := blk_frozen HBK.out _
              go_wp2
              go_roundg 0
              case measure => omega
              case rel => exact ⟨.inr (.inr ⟨rfl, rfl, ⟨blk_set HBK.out 114 _⟩⟩), ⟨HBL.out.setCell (Nat.le_refl _) _⟩⟩
            · go_wp2
              go_ret
              exact ⟨rfl, HBK.out, HBL.out⟩
/-- The Replacer behind the first use. -/
structure MrDone (B : Nat) (w0 w : World) (b g : Nat) (d m : Int) : Prop where
  s : mrS w b d m (.iface 114 (.pointer (some ⟨g, 0, none⟩))) (.slice none 0 0)
  t : w.heap[g]? = some (.cells mrTable 113 (0, 0))
  ne : g ≠ b
  bel : Below B w0 w
set_option maxRecDepth 100000 in
set_option maxHeartbeats 1600000 in
theorem mr_once (B b b1 cc : Nat) (w0 w : World) (ifc : Value) (hB : B ≤ b) (hb : Below B w0 w) (h : mrS w b 0 1 ifc (.slice (some ⟨b1, 0, none⟩) 4 cc)) (h1 : MrRow w b1) :
    Calls Tryz.prog 40 #[.pointer (some ⟨b, 0, none⟩)] w fun e w' => e = .returned (.tuple #[]) ∧ ∃ g, MrDone B w0 w' b g 0 1 := by
  have hbl := blk_lt h
  go_enter Tryz.func40, Tryz.ntmps40
  have H := Aside0.mk h
  clear h
  have hne : w.heap.size ≠ b := by omega
  go_wp2_with (go_at_call 55; refine (mr_build b b1 cc _ 0 1 ifc H.out h1).mono ?_; rintro e w1 ⟨rfl, ht, hb1⟩; have hs1 : mrS w1 b 0 1 ifc (.slice (some ⟨b1, 0, none⟩) 4 cc) := blk_below H.out hb1; have c3 : w1.cell? ⟨b, 3, none⟩ = some ifc := hs1.cell 3; have f3 : w1.frozen? ⟨b, 3, none⟩ = false := hs1.fz 3; have c4 : w1.cell? ⟨b, 4, none⟩ = some (.slice (some ⟨b1, 0, none⟩) 4 cc) := hs1.cell 4; have f4 : w1.frozen? ⟨b, 4, none⟩ = false := hs1.fz 4; have HT := Aside0.mk ht; have HS1 := Aside0.mk hs1; have HB1 := Aside0.mk hb1; clear ht hs1 hb1)
  go_end0
  refine ⟨rfl, w.heap.size, ?_, ?_, hne, ?_⟩
  · exact blk_set (blk_set HS1.out 3 _) 4 _
  · exact blk_far (blk_far HT.out (by exact hne) _) (by exact hne) _
  · exact ((below_then hb (by omega) HB1.out).setCell (by exact hB) _).setCell (by exact hB) _
def mirZ (x : Int) : Int := if x = 114 then 108 else 114
theorem mr_byte (s : ByteArray) (n : Nat) (h : n < s.size) : (bytesOf s).getD n 0 = ((s[n]'h).toNat : Int) := by
  have h' : n < s.data.toList.length := by rw [data_length]; exact h
  simp [bytesOf, List.getD_eq_getElem?_getD, List.getElem?_eq_getElem h']
  rfl
/-- The bytes of s in a block of their own, the first n of them turned. -/
def MrBuf (w : World) (g : Nat) (s : ByteArray) (n : Nat) : Prop :=
  ∃ (cs : Array Value) (N : Nat), w.heap[g]? = some (.cells cs 5 (N, N + 1)) ∧ s.size ≤ N ∧ ∀ j, j < s.size → cs[j]? = some (.int .u8 (if j < n then mirZ ((bytesOf s).getD j 0) else (bytesOf s).getD j 0))
theorem MrBuf.cell {w : World} {g n : Nat} {s : ByteArray} (h : MrBuf w g s n) {j : Nat} (hj : j < s.size) : w.cell? ⟨g, j, none⟩ = some (.int .u8 (if j < n then mirZ ((bytesOf s).getD j 0) else (bytesOf s).getD j 0)) := by
  obtain ⟨cs, N, h1, h2, h3⟩ := h
  rw [cell_of_row w g j cs _ _ h1, h3 j hj]
theorem MrBuf.fz {w : World} {g n : Nat} {s : ByteArray} (h : MrBuf w g s n) {j : Nat} (hj : j < s.size) : w.frozen? ⟨g, j, none⟩ = false := by
  obtain ⟨cs, N, h1, h2, h3⟩ := h
  simp [World.frozen?, h1]
  omega
theorem MrBuf.put {w : World} {g n : Nat} {s : ByteArray} (h : MrBuf w g s n) (hn : n < s.size) : MrBuf (w.setCell ⟨g, n, none⟩ (.int .u8 (mirZ ((bytesOf s).getD n 0)))) g s (n + 1) := by
  obtain ⟨cs, N, h1, h2, h3⟩ := h
  refine ⟨cs.setIfInBounds n (.int .u8 (mirZ ((bytesOf s).getD n 0))), N, by simp [World.setCell, Array.getElem?_modify, h1], h2, fun j hj => ?_⟩
  rw [Array.getElem?_setIfInBounds]
  by_cases c : n = j
  · subst c
    have hlt : n < cs.size := by
      have := h3 n hn
      rcases Nat.lt_or_ge n cs.size with z | z
      · exact z
      · rw [Array.getElem?_eq_none z] at this; cases this
    rw [if_pos rfl, if_pos hlt, if_pos (by omega)]
  · rw [if_neg c, h3 j hj]
    by_cases c2 : j < n
    · rw [if_pos c2, if_pos (by omega)]
    · rw [if_neg c2, if_neg (by omega)]
theorem MrBuf.new (w : World) (s : ByteArray) (hs : s.size ≤ 10) : MrBuf (Lib.bytesWorld w 5 s) w.heap.size s 0 := by
  have h1 := Lib.bytesWorld_at_new w 5 s
  have hr := bytes_reads w 5 s (by omega)
  have hc : ∀ j, j < s.size → (Lib.bytesCells w 5 s)[j]? = some (.int .u8 ((bytesOf s).getD j 0)) := fun j hj => by
    obtain ⟨ad, e, hx⟩ := hr.2.2 (by omega)
    obtain rfl := Option.some.inj e
    have := hx j hj
    rw [add_plain, cell_of_row _ _ _ _ _ _ h1] at this
    simpa using this
  refine ⟨_, _, h1, ?_, fun j hj => by rw [hc j hj, if_neg (by omega)]⟩
  rcases Nat.lt_or_ge (Lib.bytesCells w 5 s).size s.size with z | z
  · have := hc _ z
    rw [Array.getElem?_eq_none (Nat.le_refl _)] at this
    cases this
  · exact z
theorem MrBuf.done {w : World} {g : Nat} {s : ByteArray} (hs : s.size ≤ 10) (h : MrBuf w g s s.size) : ReadsInt w .u8 (some ⟨g, 0, none⟩) s.size ((bytesOf s).map mirZ) := by
  refine ⟨by rw [List.length_map, bytesOf_length], by omega, fun _ => ⟨_, rfl, fun j hj => ?_⟩⟩
  rw [add_plain, h.cell hj, if_pos hj]
  have hl : j < (bytesOf s).length := by rw [bytesOf_length]; exact hj
  simp [List.getD_eq_getElem?_getD, hl]
theorem mr_nil (w : World) (n c : Nat) : (binOp .eql 22 (.slice none n c) (.slice none 0 0)).run Tryz.prog w = .ok (.bool true) w := run_eql_slice_nil w 22 5 none n c (by kernel_rfl)
theorem mr_some (w : World) (a : Addr) (n c : Nat) : (binOp .eql 22 (.slice (some a) n c) (.slice none 0 0)).run Tryz.prog w = .ok (.bool false) w := run_eql_slice_nil w 22 5 (some a) n c (by kernel_rfl)
theorem mrT_114 : mrTable[114]? = some (.int .u8 108) := by
  unfold mrTable
  rw [Array.getElem?_setIfInBounds, if_pos rfl, if_pos (by simp [mrTab])]
theorem mrT_108 : mrTable[108]? = some (.int .u8 114) := by
  unfold mrTable
  rw [Array.getElem?_setIfInBounds, if_neg (by omega), Array.getElem?_setIfInBounds, if_pos rfl, if_pos (by simp [mrTab])]
set_option maxRecDepth 100000 in
set_option maxHeartbeats 1600000 in
theorem mr_replace (s : ByteArray) (hs : s.size ≤ 10) (hl : ∀ n (h : n < s.size), (s[n]'h).toNat = 114 ∨ (s[n]'h).toNat = 108) (gT : Nat) (w : World) (hT : w.heap[gT]? = some (.cells mrTable 113 (0, 0))) :
    Calls Tryz.prog 147 #[.pointer (some ⟨gT, 0, none⟩), .string s] w fun e w' => e = .returned (.string (strOfNums ((bytesOf s).map mirZ))) ∧ Below w.heap.size w w' := by
  have hn1 := mr_nil
  have hn2 := mr_some
  have hT := Aside0.mk hT
  have HL := Aside0.mk hl
  clear hl
  go_enter Tryz.func147, Tryz.ntmps147
  go_wp2
  go_loopg [5, 6] s.size (fun gk v5 v6 w' => ∃ n : Nat, v6 = .int .i64 (n : Int) ∧ Aside0 (n + gk = s.size) ∧ Aside0 (Below w.heap.size w w') ∧ (n = 0 ∧ v5 = .slice none 0 0 ∨ 0 < n ∧ ∃ g cap : Nat, v5 = .slice (some ⟨g, 0, none⟩) s.size cap ∧ Aside0 (w.heap.size ≤ g) ∧ Aside0 (MrBuf w' g s n)))
  case atStart => exact ⟨0, rfl, ⟨by omega⟩, ⟨Below.refl _ _⟩, .inl ⟨rfl, rfl⟩⟩
  case round =>
    obtain ⟨n, rfl, HN, HB, h5⟩ := hrel
    by_cases hlt : n < s.size
    · have p1 : decide ((n : Int) < (s.size : Int)) = true := decide_eq_true (by omega)
      have p2 : decide (n < s.size) = true := decide_eq_true hlt
      rcases HL.out n hlt with hy | hy
      · have e1 : ∀ h, (s[n]'h).toNat = 114 := fun _ => hy
        have hz : mirZ ((bytesOf s).getD n 0) = 108 := by rw [mr_byte s n hlt, hy]; rfl
        have ht : wr.cell? ⟨gT, 114, none⟩ = some (.int .u8 108) := by rw [blk_cell (blk_below hT.out HB.out)]; exact mrT_114
        rcases h5 with ⟨rfl, rfl⟩ | ⟨h0, g, cap, rfl, HG, HM⟩
        · have kb := print_bytes (P := Tryz.prog) 9 22 5 Tryz.underlying9 Tryz.underlying22 Tryz.underlying5 s wr
          have hTl := blk_lt (blk_below hT.out HB.out)
          have ht2 : (Lib.bytesWorld wr 5 s).cell? ⟨gT, 114, none⟩ = some (.int .u8 108) := by rw [Lib.bytesWorld_old _ _ _ _ (by exact hTl)]; exact ht
          have HM := Aside0.mk (MrBuf.new wr s hs)
          have hc := HM.out.cell hlt
          have hf := HM.out.fz hlt
          have HB2 := Aside0.mk (bytes_below HB.out HB.out.size 5 s)
          have HP := HM.out.put hlt
          rw [hz] at HP
          have HP := Aside0.mk HP
          clear hTl
          generalize Lib.bytesWorld wr 5 s = W2 at *
          generalize grownCap wr s.size 0 5 = cap at *
          go_wp2
          go_roundg (gk - 1)
          case measure => have := HN.out; omega
          case rel => exact ⟨1, rfl, ⟨by have := HN.out; omega⟩, ⟨HB2.out.setCell HB.out.size _⟩, .inr ⟨by omega, _, _, rfl, ⟨HB.out.size⟩, HP⟩⟩
        · have hc := HM.out.cell hlt
          have hf := HM.out.fz hlt
          have HP := HM.out.put hlt
          rw [hz] at HP
          have HP := Aside0.mk HP
          have q1 : (0 ≤ (n : Int)) = True := eq_true (by omega)
          have q2 : ((n : Int) < (s.size : Int)) = True := eq_true (by omega)
          go_wp2
          go_roundg (gk - 1)
          case measure => have := HN.out; omega
          case rel => exact ⟨n + 1, rfl, ⟨by have := HN.out; omega⟩, ⟨HB.out.setCell HG.out _⟩, .inr ⟨by omega, _, _, rfl, HG, HP⟩⟩
      · have e1 : ∀ h, (s[n]'h).toNat = 108 := fun _ => hy
        have hz : mirZ ((bytesOf s).getD n 0) = 114 := by rw [mr_byte s n hlt, hy]; rfl
        have ht : wr.cell? ⟨gT, 108, none⟩ = some (.int .u8 114) := by rw [blk_cell (blk_below hT.out HB.out)]; exact mrT_108
        rcases h5 with ⟨rfl, rfl⟩ | ⟨h0, g, cap, rfl, HG, HM⟩
        · have kb := print_bytes (P := Tryz.prog) 9 22 5 Tryz.underlying9 Tryz.underlying22 Tryz.underlying5 s wr
          have hTl := blk_lt (blk_below hT.out HB.out)
          have ht2 : (Lib.bytesWorld wr 5 s).cell? ⟨gT, 108, none⟩ = some (.int .u8 114) := by rw [Lib.bytesWorld_old _ _ _ _ (by exact hTl)]; exact ht
          have HM := Aside0.mk (MrBuf.new wr s hs)
          have hc := HM.out.cell hlt
          have hf := HM.out.fz hlt
          have HB2 := Aside0.mk (bytes_below HB.out HB.out.size 5 s)
          have HP := HM.out.put hlt
          rw [hz] at HP
          have HP := Aside0.mk HP
          clear hTl
          generalize Lib.bytesWorld wr 5 s = W2 at *
          generalize grownCap wr s.size 0 5 = cap at *
          go_wp2
          go_roundg (gk - 1)
          case measure => have := HN.out; omega
          case rel => exact ⟨1, rfl, ⟨by have := HN.out; omega⟩, ⟨HB2.out.setCell HB.out.size _⟩, .inr ⟨by omega, _, _, rfl, ⟨HB.out.size⟩, HP⟩⟩
        · have hc := HM.out.cell hlt
          have hf := HM.out.fz hlt
          have HP := HM.out.put hlt
          rw [hz] at HP
          have HP := Aside0.mk HP
          have q1 : (0 ≤ (n : Int)) = True := eq_true (by omega)
          have q2 : ((n : Int) < (s.size : Int)) = True := eq_true (by omega)
          go_wp2
          go_roundg (gk - 1)
          case measure => have := HN.out; omega
          case rel => exact ⟨n + 1, rfl, ⟨by have := HN.out; omega⟩, ⟨HB.out.setCell HG.out _⟩, .inr ⟨by omega, _, _, rfl, HG, HP⟩⟩
    · have p1 : decide ((n : Int) < (s.size : Int)) = false := decide_eq_false (by omega)
      have p2 : decide (n < s.size) = false := decide_eq_false hlt
      obtain rfl : n = s.size := by have := HN.out; omega
      rcases h5 with ⟨h0, rfl⟩ | ⟨h0, g, cap, rfl, HG, HM⟩
      · go_wp2
        go_ret
        refine ⟨?_, HB.out⟩
        have e : bytesOf s = [] := List.eq_nil_of_length_eq_zero (by rw [bytesOf_length]; exact h0)
        rw [e]
        have e2 : s = ⟨#[]⟩ := by
          obtain ⟨a⟩ := s
          have : a = #[] := Array.eq_empty_of_size_eq_zero h0
          rw [this]
        rw [e2]
        rfl
      · have hcv : (convert 22 9 (.slice (some ⟨g, 0, none⟩) s.size cap)).run Tryz.prog wr = .ok (.string (strOfNums ((bytesOf s).map mirZ))) wr := string_of_reads (P := Tryz.prog) Tryz.underlying22 Tryz.underlying5 Tryz.underlying9 (HM.out.done hs)
        go_wp2
        go_ret
        exact ⟨rfl, HB.out⟩
set_option maxRecDepth 100000 in
set_option maxHeartbeats 1600000 in
theorem mr_Replace (s : ByteArray) (hs : s.size ≤ 10) (hl : ∀ n (h : n < s.size), (s[n]'h).toNat = 114 ∨ (s[n]'h).toNat = 108) (B b b1 cc : Nat) (w0 w : World) (hB : B ≤ b) (hB0 : B ≤ w0.heap.size) (hb : Below B w0 w) (h : mrS w b 0 0 .nilIface (.slice (some ⟨b1, 0, none⟩) 4 cc)) (h1 : MrRow w b1) (hne : b1 ≠ b) :
    Calls Tryz.prog 24 #[.pointer (some ⟨b, 0, none⟩), .string s] w fun e w' => e = .returned (.string (strOfNums ((bytesOf s).map mirZ))) ∧ Below B w0 w' := by
  have hmf : ∀ (fn : Fn) (first cap : Array Value) (w : World), (Instr.makeFunc fn first cap).run Tryz.prog w = .ok (.func fn first cap) w := fun _ _ _ _ => rfl
  have hF := Aside0.mk (mr_once B b b1 cc w0 (w.setCell ⟨b, 1, none⟩ (.int .i32 1)) .nilIface hB (hb.setCell (by exact hB) _) (h.set1 1) (h1.far (by exact hne) _))
  have hD := Aside0.mk (mr_do b w .nilIface (.slice (some ⟨b1, 0, none⟩) 4 cc) (fun ifc' sl' w' => ∃ g, ifc' = .iface 114 (.pointer (some ⟨g, 0, none⟩)) ∧ w'.heap[g]? = some (.cells mrTable 113 (0, 0)) ∧ g ≠ b ∧ Below B w0 w') h (hF.out.mono fun e w' ⟨he, g, hg⟩ => ⟨he, _, _, hg.s, g, rfl, hg.t, hg.ne, hg.bel⟩))
  clear hF
  have HB := Aside0.mk hB
  have HC0 := h.cell 0
  clear hB hb h h1
  have hm : ∀ (g : Nat) (W : World), (method 304 114 (.pointer (some ⟨g, 0, none⟩)) "Replace").run Tryz.prog W = .ok (147, .pointer (some ⟨g, 0, none⟩)) W := fun _ _ => by kernel_rfl
  go_enter Tryz.func24, Tryz.ntmps24
  go_wp2_with (first | (go_at_call 147; refine (mr_replace s hs hl g W3 hT3.out).mono ?_; rintro e w4 ⟨rfl, hbR⟩) | (go_at_call 39; refine hD.out.mono ?_; rintro e w1 ⟨rfl, ifc', sl', w2, hS, ⟨g, rfl, ht, hgb, hbel⟩, rfl⟩; have hS3 : mrS ((w2.drew.setCell ⟨b, 0, none⟩ (.int .u32 1)).setCell ⟨b, 1, none⟩ (.int .i32 0)) b 1 0 _ _ := (mrS.set0 (w := w2.drew) (blk_drew hS) 1).set1 0; have c3 := hS3.cell 3; have hT3 := Aside0.mk (blk_far (blk_far (blk_drew ht) (by exact hgb) _) (by exact hgb) _ : ((w2.drew.setCell ⟨b, 0, none⟩ (.int .u32 1)).setCell ⟨b, 1, none⟩ (.int .i32 0)).heap[g]? = some (.cells mrTable 113 (0, 0))); have HB3 := Aside0.mk (((below_drew hbel).setCell (by exact HB.out) _).setCell (by exact HB.out) _ : Below B w0 ((w2.drew.setCell ⟨b, 0, none⟩ (.int .u32 1)).setCell ⟨b, 1, none⟩ (.int .i32 0))); generalize ((w2.drew.setCell ⟨b, 0, none⟩ (.int .u32 1)).setCell ⟨b, 1, none⟩ (.int .i32 0)) = W3 at *; clear hS ht hbel hS3))
  go_ret
  exact ⟨rfl, below_then HB3.out (Nat.le_trans hB0 HB3.out.size) hbR⟩
def mrL : List ByteArray := [⟨#[114]⟩, ⟨#[108]⟩, ⟨#[108]⟩, ⟨#[114]⟩]
theorem mr_infoS : (Tryz.prog.info? 9).map (fun i => (i.zero, i.size, i.bytes)) = some (some (.string ByteArray.empty), 1, 16) := by kernel_rfl
theorem mr_row {w : World} {g cap base : Nat} {ok : Nat → Prop} (h : Kd.R Kd.string 9 w base ok (.slice (some ⟨g, 0, none⟩) 4 cap) mrL) (hg : g < w.heap.size) : MrRow w g := by
  have h4 : mrL.length = 4 := rfl
  refine ⟨hg, fun i hi => ?_⟩
  have hc := (Kd.R_celln ByteArray.empty h (i : Int) (by omega) (by omega)).1
  rw [Int.toNat_natCast] at hc
  rw [hc]
  match i, hi with
  | 0, _ => rfl
  | 1, _ => rfl
  | 2, _ => rfl
  | 3, _ => rfl
set_option maxRecDepth 100000 in
set_option maxHeartbeats 1600000 in
theorem mr_new (A : Option Addr) (c : Nat) (w0 w : World) (B : Nat) (hB0 : B ≤ w.heap.size) (hb : Below B w0 w) (hr : Kd.C Kd.string w A 4 mrL) :
    Calls Tryz.prog 23 #[.slice A 4 c] w fun e w' => ∃ b b1 cc : Nat, e = .returned (.pointer (some ⟨b, 0, none⟩)) ∧ mrS w' b 0 0 .nilIface (.slice (some ⟨b1, 0, none⟩) 4 cc) ∧ MrRow w' b1 ∧ b1 ≠ b ∧ Below B w0 w' ∧ B ≤ b := by
  have HR := Aside0.mk hr
  have HB := Aside0.mk hb
  clear hr hb
  go_enter Tryz.func23, Tryz.ntmps23
  go_wp2_with (first | ((with_reducible refine gate_builtin (b := .append) (xs := #[.const (.slice none 0 0), .tmp 8]) rfl ?_); at_builtin; refine Kd.R_append_rows Kd.string (w0 := w0) B rfl (.const (.slice none 0 0)) (.tmp 8) 52 9 (.string ByteArray.empty) 16 rfl Tryz.underlying52 mr_infoS rfl (by decide) (by omega) (.slice none 0 0) ([] : List ByteArray) mrL _ _ _ (fun _ => True) (fun _ => False) rfl rfl ?aO ?aR (fun _ _ h => h) (fun _ h => h.elim) (fun _ _ => trivial) ?aB ?aS ?aL ?_; (case aR => exact HR.out); (case aB => exact HB.out); (case aO => exact Kd.R_nil _ _ _ _ _); (case aS => exact hB0); (case aL => simp); intro v1 w1 ho hb1 hg_ hat; clear hg_ hat; rw [List.nil_append] at ho; obtain ⟨g, cap, rfl, hg0, hg1, _⟩ := Kd.R_form ho (by decide); (have e4 : mrL.length = 4 := rfl); rw [e4] at ho ⊢; have HMR := Aside0.mk (mr_row ho hg1); have HB1 := Aside0.mk hb1; have HG1 := Aside0.mk hg1; clear ho hb1 hg1 e4))
  go_ret
  exact ⟨w1.heap.size, g, cap, rfl, blk_new w1 _, HMR.out.below (below_alloc (Below.refl _ _) _), by have := HG1.out; omega, HB1.out.alloc (Nat.le_trans hg0 (Nat.le_of_lt HG1.out)) _, Nat.le_trans hg0 (Nat.le_of_lt HG1.out)⟩
def mirror (s : ByteArray) : ByteArray := strOfNums ((bytesOf s).map mirZ)
def impl_MirrorLaying.f (s0 : ByteArray) : Option (ByteArray) := if s0.size ≤ 10 then (impl_isLaying.f s0).bind fun u => if u = true then some (mirror s0) else some ⟨#[]⟩ else some ⟨#[]⟩
theorem mr_lay {s : ByteArray} (h : layOk s = true) : ∀ n (h : n < s.size), (s[n]'h).toNat = 114 ∨ (s[n]'h).toNat = 108 := by
  intro n hn
  have h' : n < s.data.toList.length := by rw [data_length]; exact hn
  have := List.all_eq_true.1 h (s.data.toList[n]) (List.getElem_mem h')
  rw [Bool.or_eq_true, beq_iff_eq, beq_iff_eq] at this
  have e : s[n]'hn = s.data.toList[n] := by simp; rfl
  rw [e]
  rcases this with h | h
  · left; rw [h]; rfl
  · right; rw [h]; rfl
theorem mr_rowC (w : World) : Kd.C Kd.string (w.alloc (.cells mrT 9 (0, 0))) (some ⟨w.heap.size, 0, none⟩) 4 mrL := by
  have hb := blk_new w (.cells mrT 9 (0, 0))
  have hR : Kd.R Kd.string 9 (w.alloc (.cells mrT 9 (0, 0))) 0 (fun _ => True) (.slice (some ⟨w.heap.size, 0, none⟩) 4 4) mrL :=
    ⟨fun k hk => trivial, mrL.map Value.string, ⟨by first | (simp [Kd.string, Kd.scalar]; done) | (simp [Kd.string, Kd.scalar]; rfl), .inr ⟨w.heap.size, 4, _, rfl, Nat.zero_le _, hb, by decide, by decide, by first | (simp [Kd.string, Kd.scalar]; done) | (simp [Kd.string, Kd.scalar]; rfl), by first | (simp [Kd.string, Kd.scalar]; done) | (simp [Kd.string, Kd.scalar]; rfl)⟩⟩, Kd.reps_scalar _⟩
  exact (Kd.R_reads' hR).2.2
set_option maxRecDepth 100000 in
set_option maxHeartbeats 1600000 in
theorem impl_MirrorLaying.calls (s0 : ByteArray) (r : ByteArray) (w : World) (h : impl_MirrorLaying.f s0 = some r) :
    Calls Tryz.prog 8 #[.string s0] w fun e w' => e = .returned (.string r) ∧ Below w.heap.size w w' := by
  unfold impl_MirrorLaying.f at h
  by_cases c : s0.size ≤ 10
  · rw [if_pos c] at h
    have c0 : decide (10 < (s0.size : Int)) = false := decide_eq_false (by omega)
    have c1 : decide (10 < s0.size) = false := decide_eq_false (by omega)
    obtain ⟨u, hu, h⟩ := Option.bind_eq_some_iff.1 h
    have HU := Aside0.mk hu
    cases u with
    | true =>
      rw [if_pos rfl] at h
      obtain rfl := Option.some.inj h
      have hok : layOk s0 = true := by
        unfold impl_isLaying.f at hu
        rw [if_pos (by omega)] at hu
        exact Option.some.inj hu
      have HL := Aside0.mk (mr_lay hok)
      clear hu hok h
      go_enter Tryz.func8, Tryz.ntmps8
      go_wp2_with (first
        | (go_at_call 22; refine (impl_isLaying.calls s0 true _ HU.out).mono ?_; rintro e w1 ⟨rfl, hb1⟩; have HB1 := Aside0.mk hb1; clear hb1)
        | (go_at_call 23; refine (mr_new _ 4 w _ w.heap.size (by have := HB1.out.size; simp; omega) (below_alloc HB1.out _) (mr_rowC w1)).mono ?_; rintro e w2 ⟨b, b1, cc, rfl, hS, hM, hne, hb2, hbb⟩; have HS := Aside0.mk hS; have HM := Aside0.mk hM; have HB2 := Aside0.mk hb2; clear hS hM hb2)
        | (go_at_call 24; refine (mr_Replace s0 c HL.out w.heap.size b b1 cc w w2 hbb (Nat.le_refl _) HB2.out HS.out HM.out hne).mono ?_; rintro e w3 ⟨rfl, hb3⟩; have HB3 := Aside0.mk hb3; clear hb3))
      go_ret
      exact ⟨rfl, HB3.out⟩
    | false =>
      rw [if_neg (by simp)] at h
      obtain rfl := Option.some.inj h
      clear hu h
      go_enter Tryz.func8, Tryz.ntmps8
      go_wp2_with (first | (go_at_call 22; refine (impl_isLaying.calls s0 false _ HU.out).mono ?_; rintro e w1 ⟨rfl, hb1⟩; have HB1 := Aside0.mk hb1; clear hb1))
      go_ret
      exact ⟨rfl, HB1.out⟩
  · rw [if_neg c] at h
    obtain rfl := Option.some.inj h
    have c0 : decide (10 < (s0.size : Int)) = true := decide_eq_true (by omega)
    have c1 : decide (10 < s0.size) = true := decide_eq_true (by omega)
    go_enter Tryz.func8, Tryz.ntmps8
    go_wp2
    go_ret
    exact ⟨rfl, Below.refl _ _⟩

end Go.Proofs.YtjjdahnjindgaaaGreatDoor.PA
