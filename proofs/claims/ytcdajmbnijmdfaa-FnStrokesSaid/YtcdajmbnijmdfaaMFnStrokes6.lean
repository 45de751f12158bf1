/- Texts of this claim put together in build order (FnStrokes). -/
import Derived.Test.YtcdajmbnijmdfaaMFnStrokes0
import Derived.Test.YtcdajmbnijmdfaaMFnStrokes1
import Derived.Test.YtcdajmbnijmdfaaMFnStrokes2
import Derived.Test.YtcdajmbnijmdfaaMFnStrokes3
import Derived.Test.YtcdajmbnijmdfaaMFnStrokes4
import Derived.Test.YtcdajmbnijmdfaaMFnStrokes5
-- Written for this claim by a program of this session's (ownprint.py), by way of the kit's print and hand-proved texts. Lean checks it.
namespace Go.Proofs.Ytcdajmbnijmdfaa.PA
open Go.RowKit Go.Proofs.YtcdajmbnijmdfaaW.PrintWords Go.Proofs.YtcdajmbnijmdfaaW.PrintLast Go.Proofs.YtcdajmbnijmdfaaW.PrintMore
attribute [local go_sem] max2_int min2_int max_two min_two max_three min_three max_four min_four   -- for this text's walks alone
set_option linter.unusedVariables false
set_option linter.unusedSimpArgs false
/-- What one region of the law asks of a stroke: the stroke less its last line is one, the stroke with its first line once more is none. -/
def STROKEX.f (k : Nat) (a0 : Int) (l1 : List (List Int)) (a2 : Int) (l3 : List Int) : Option (Bool) := if 0 < l3.length then ((impl_IsStroke.f k a0 l1 a2 (l3.take (l3.length - 1))).bind fun b1 => if b1 = true then (if l3.length < 1048576 then ((impl_IsStroke.f k a0 l1 a2 (l3 ++ [rd l3 0])).bind fun b2 => some b2) else none) else some true) else some false
theorem STROKEX.mono : ∀ a0 a1 a2 a3 k, LeO (STROKEX.f k a0 a1 a2 a3) (STROKEX.f (k + 1) a0 a1 a2 a3) := by
  intro a0 a1 a2 a3 k
  unfold STROKEX.f
  repeat' first
      | (with_reducible exact impl_IsStroke.mono _ _ _ _ _)
      | (with_reducible exact LeO.refl _)
      | (with_reducible exact LeO.none _)
      | (with_reducible refine LeO.ite ?_ ?_)
      | (with_reducible refine LeO.bind ?_ (fun _ => ?_))
theorem strokex_inv {k : Nat} {a0 : Int} {l1 : List (List Int)} {a2 : Int} {l3 : List Int} (h : STROKEX.f k a0 l1 a2 l3 = some false) : (0 < l3.length ∧ l3.length < 1048576 ∧ impl_IsStroke.f k a0 l1 a2 (l3.take (l3.length - 1)) = some true ∧ impl_IsStroke.f k a0 l1 a2 (l3 ++ [rd l3 0]) = some false) ∨ l3.length = 0 := by
  unfold STROKEX.f at h
  by_cases c : 0 < l3.length
  · rw [if_pos c] at h
    obtain ⟨b1, h1, h⟩ := Option.bind_eq_some_iff.1 h
    cases b1 with
    | false => rw [if_neg (by simp)] at h; cases h
    | true =>
      rw [if_pos rfl] at h
      by_cases c2 : l3.length < 1048576
      · rw [if_pos c2] at h
        obtain ⟨b2, h2, h⟩ := Option.bind_eq_some_iff.1 h
        obtain rfl := Option.some.inj h
        exact .inl ⟨c, c2, h1, h2⟩
      · rw [if_neg c2] at h; cases h
  · exact .inr (by omega)
theorem sx_new (w : World) (o : Obj) : (w.alloc o).heap[w.heap.size]? = some o := by simpa using heap_alloc_new w o
theorem sx_new1 (w : World) (o o1 : Obj) : ((w.alloc o).alloc o1).heap[w.heap.size + 1]? = some o1 := by
  have := heap_alloc_new (w.alloc o) o1
  simpa using this
theorem sx_row {W : World} {base g : Nat} {xs : List Int} (hb : W.heap[g]? = some (.cells (xs.map (Value.int .i64)).toArray 3 (0, 0))) (hg : base ≤ g) (hl : xs.length ≤ 9223372036854775807) : Kd.R (Kd.int .i64) 3 W base (fun _ => True) (.slice (some ⟨g, 0, none⟩) xs.length xs.length) xs :=
  ⟨fun k hk => trivial, xs.map (Value.int .i64), ⟨by simp [Kd.int, Kd.scalar], .inr ⟨g, xs.length, _, rfl, hg, hb, Nat.le_refl _, hl, by simp [Kd.int, Kd.scalar], by simp [Kd.int, Kd.scalar, List.take_of_length_le]⟩⟩, Kd.reps_scalar _⟩
theorem sx_row0 {W : World} {base g : Nat} (hb : W.heap[g]? = some (.cells #[] 3 (0, 0))) (hg : base ≤ g) : Kd.R (Kd.int .i64) 3 W base (fun _ => True) (.slice (some ⟨g, 0, none⟩) 0 0) [] := sx_row (xs := []) hb hg (by simp)
theorem sx_one {W : World} {g : Nat} {x : Int} (hb : W.heap[g]? = some (.cells #[.int .i64 x] 3 (0, 0))) : Kd.C (Kd.int .i64) W (some ⟨g, 0, none⟩) 1 [x] := (Kd.R_reads' (sx_row (xs := [x]) (base := 0) hb (Nat.zero_le _) (by simp))).2.2
mutual
def laws_FnStrokes.l0 : Nat → Int → List (List Int) → List Int → List Int → Int → Bool → List Int → Int → Int → Option (Bool)
  | 0, _, _, _, _, _, _, _, _, _ => none
  | k + 1, x3, x4, x5, x6, x7, x9, x104, x105, x106 => if x106 < x105 then (if 0 ≤ x106 then (if x106 < (x104.length : Int) then ((laws_has.f k x6 x106).bind fun t619 => (if (t619 != ((Int.tmod (rd x104 x106) 2) == 1)) = true then (none) else (laws_FnStrokes.l0 k x3 x4 x5 x6 x7 x9 x104 x105 (wrap64 (x106 + 1))))) else (none)) else (none)) else (laws_FnStrokes.l1 k x3 x4 x5 x6 x7 x9 false 0)
def laws_FnStrokes.l1 : Nat → Int → List (List Int) → List Int → List Int → Int → Bool → Bool → Int → Option (Bool)
  | 0, _, _, _, _, _, _, _, _ => none
  | k + 1, x3, x4, x5, x6, x7, x9, x12, x13 => if x13 < x3 then ((impl_FirstStroke.f k x3 x4 x13).bind fun bt620 => (if x12 = true then (laws_FnStrokes.j2 k x3 x4 x5 x6 x7 x9 true x13 bt620.1 bt620.2) else (laws_FnStrokes.j2 k x3 x4 x5 x6 x7 x9 bt620.2 x13 bt620.1 bt620.2))) else (if (x12 != x9) = true then (none) else (if (x6.length : Int) < 2 then (laws_FnStrokes.j4 k x3 x4 x6 x7 true) else (laws_FnStrokes.j4 k x3 x4 x6 x7 ((x4.length : Int) == 12))))
def laws_FnStrokes.j2 : Nat → Int → List (List Int) → List Int → List Int → Int → Bool → Bool → Int → List Int → Bool → Option (Bool)
  | 0, _, _, _, _, _, _, _, _, _, _ => none
  | k + 1, x3, x4, x5, x6, x7, x9, x12, x13, x14, x15 => if x15 = true then (if (x14.length : Int) = (x4.length : Int) then ((impl_IsStroke.f k x3 x4 x13 x14).bind fun t624 => (if t624 = true then (if (x6.length : Int) = 2 then ((laws_has.f k x6 x13).bind fun t625 => (if t625 = true then (if (x4.length : Int) > 0 then (if 0 ≤ x13 then (if x13 < (x5.length : Int) then (laws_FnStrokes.j3 k x3 x4 x5 x6 x7 x9 x12 x13 x14 ((rd x5 x13) == 0)) else (none)) else (none)) else (laws_FnStrokes.j3 k x3 x4 x5 x6 x7 x9 x12 x13 x14 false)) else (none))) else (if (x4.length : Int) > 0 then (if 0 ≤ x13 then (if x13 < (x5.length : Int) then (laws_FnStrokes.j3 k x3 x4 x5 x6 x7 x9 x12 x13 x14 ((rd x5 x13) == 0)) else (none)) else (none)) else (laws_FnStrokes.j3 k x3 x4 x5 x6 x7 x9 x12 x13 x14 false))) else (none))) else (none)) else (laws_FnStrokes.l1 k x3 x4 x5 x6 x7 x9 x12 (wrap64 (x13 + 1)))
def laws_FnStrokes.j3 : Nat → Int → List (List Int) → List Int → List Int → Int → Bool → Bool → Int → List Int → Bool → Option (Bool)
  | 0, _, _, _, _, _, _, _, _, _, _ => none
  | k + 1, x3, x4, x5, x6, x7, x9, x12, x13, x14, x172 => if x172 = true then (none) else ((STROKEX.f k x3 x4 x13 x14).bind fun t628 => (if t628 = true then (none) else (laws_FnStrokes.l1 k x3 x4 x5 x6 x7 x9 x12 (wrap64 (x13 + 1)))))
def laws_FnStrokes.j4 : Nat → Int → List (List Int) → List Int → Int → Bool → Option (Bool)
  | 0, _, _, _, _, _ => none
  | k + 1, x3, x4, x6, x7, x212 => if x212 = true then (some true) else (if 0 < (x6.length : Int) then (if 1 < (x6.length : Int) then ((impl_WithLine.f k x3 x4 (rd x6 0) (rd x6 1)).bind fun bt631 => (if bt631.2 = true then (if (bt631.1.length : Int) = (wrap64 ((x4.length : Int) + 1)) then ((impl_OddPoints.f k x3 bt631.1).bind fun t635 => (if (t635.length : Int) = (wrap64 ((x6.length : Int) - 2)) then ((impl_StrokesNeeded.f k x3 bt631.1).bind fun t638 => (some (decide (t638 ≤ x7)))) else (none))) else (none)) else (none))) else (none)) else (none))
end
def laws_FnStrokes.f (k : Nat) (l0 : List Int) : Option (Bool) := if (l0.length : Int) > 1048576 then (some true) else ((spec_MakeDrawing.f k l0 0).bind fun bt603 => ((impl_DegreesOf.f k bt603.1 bt603.2).bind fun t607 => ((impl_OddPoints.f k bt603.1 bt603.2).bind fun t610 => ((impl_StrokesNeeded.f k bt603.1 bt603.2).bind fun t613 => ((impl_LineParts.f k bt603.1 bt603.2).bind fun t614 => ((impl_CanTrace.f k bt603.1 bt603.2).bind fun t615 => ((impl_IsDrawing.f k bt603.1 bt603.2).bind fun t616 => (if t616 = true then (if (t607.length : Int) = bt603.1 then ((laws_sum.f k t607).bind fun t617 => (if t617 = (wrap64 (2 * (bt603.2.length : Int))) then (if ((t610.length : Int) % 2) = 0 then (if t614 < 0 then (none) else (if t613 < t614 then (none) else (if t613 < (wrap64 ((t610.length : Int) / 2)) then (none) else (if t613 > (wrap64 (t614 + (wrap64 ((t610.length : Int) / 2)))) then (none) else (if (t615 != (decide (t613 ≤ 1))) = true then (none) else (if ((t614 == 0) != ((bt603.2.length : Int) == 0)) = true then (none) else (laws_FnStrokes.l0 k bt603.1 bt603.2 t607 t610 t613 t615 t607 (t607.length : Int) 0))))))) else (none)) else (none))) else (none)) else (none)))))))))
def laws_FnStrokes.T32 : Bool × List (List Nat × List Nat) := (true, [([], []), ([], []), ([], []), ([2], [2]), ([3], [3]), ([], []), ([5], [5]), ([6], [6]), ([0, 1, 4, 7], [0, 1, 4, 7]), ([8], [8]), ([9], [9]), ([9], [9]), ([10, 8, 0, 1, 2, 3, 4, 5, 6, 7, 8, 9, 10], [10]), ([11, 12, 0, 1, 2, 3, 4, 5, 6, 7, 8, 9, 10, 11, 12], [11])])
def laws_FnStrokes.B32 : List Nat := [0, 0, 0, 4, 12, 0, 32, 96, 255, 511, 1023, 1023, 2047, 8191]
theorem laws_FnStrokes.tab32 : rtab .any (opsOf Try.f12 32) = laws_FnStrokes.T32 := by kernel_rfl
theorem laws_FnStrokes.bits32 : waitsOk laws_FnStrokes.T32.2 laws_FnStrokes.B32 = true := by kernel_rfl
set_option maxHeartbeats 8000000 in
set_option maxRecDepth 100000 in
theorem laws_FnStrokes.calls (k : Nat) (A0 : Option Addr) (c0 : Nat) (l0 : List Int) (r : Bool) (w : World) (hr0 : Kd.C (Kd.int .u8) w A0 l0.length l0) (hc0 : l0.length ≤ c0) (h : laws_FnStrokes.f k l0 = some r) :
    Calls Try.prog 12 #[.slice A0 l0.length c0] w fun e w' => e = .returned (.bool r) ∧ Below w.heap.size w w' := by
  have HR0 := Aside0.mk hr0
  have HC0 := Aside0.mk hc0
  clear hr0 hc0
  have HB := Aside0.mk (Below.refl w.heap.size w)
  have H : (if (l0.length : Int) > 1048576 then (some true) else ((spec_MakeDrawing.f k l0 0).bind fun bt603 => ((impl_DegreesOf.f k bt603.1 bt603.2).bind fun t607 => ((impl_OddPoints.f k bt603.1 bt603.2).bind fun t610 => ((impl_StrokesNeeded.f k bt603.1 bt603.2).bind fun t613 => ((impl_LineParts.f k bt603.1 bt603.2).bind fun t614 => ((impl_CanTrace.f k bt603.1 bt603.2).bind fun t615 => ((impl_IsDrawing.f k bt603.1 bt603.2).bind fun t616 => (if t616 = true then (if (t607.length : Int) = bt603.1 then ((laws_sum.f k t607).bind fun t617 => (if t617 = (wrap64 (2 * (bt603.2.length : Int))) then (if ((t610.length : Int) % 2) = 0 then (if t614 < 0 then (none) else (if t613 < t614 then (none) else (if t613 < (wrap64 ((t610.length : Int) / 2)) then (none) else (if t613 > (wrap64 (t614 + (wrap64 ((t610.length : Int) / 2)))) then (none) else (if (t615 != (decide (t613 ≤ 1))) = true then (none) else (if ((t614 == 0) != ((bt603.2.length : Int) == 0)) = true then (none) else (laws_FnStrokes.l0 k bt603.1 bt603.2 t607 t610 t613 t615 t607 (t607.length : Int) 0))))))) else (none)) else (none))) else (none)) else (none)))))))))) = some r := h
  clear h
  by_cases c2 : (l0.length : Int) > 1048576
  · rw [if_pos c2] at H
    have c2b0 : decide (1048576 < (l0.length : Int)) = true := decide_eq_true c2
    have c2b1 : decide (1048576 < l0.length) = true := decide_eq_true (by omega)
    clear c2
    as_aux_lemma =>
      obtain rfl := Option.some.inj H
      go_enter Try.func12, Try.ntmps12
      go_wp2
      go_ret
      exact ⟨by first | rfl | (simp [errW_none, errW_some] <;> rfl) | (simp [*, errW_none, errW_some] <;> rfl), by repeat (first | (with_reducible first | exact HB.out | apply below_alloc | apply pw_below_drewN | apply below_drew1) | exact HB.out)⟩
  · rw [if_neg c2] at H
    have c2b0 : decide (1048576 < (l0.length : Int)) = false := decide_eq_false c2
    have c2b1 : decide (1048576 < l0.length) = false := decide_eq_false (by omega)
    clear c2
    replace H := Option.bind_eq_some_iff.mp H
    obtain ⟨⟨t603, t604⟩, A30, H⟩ := H
    replace H : ((impl_DegreesOf.f k t603 t604).bind fun t607 => ((impl_OddPoints.f k t603 t604).bind fun t610 => ((impl_StrokesNeeded.f k t603 t604).bind fun t613 => ((impl_LineParts.f k t603 t604).bind fun t614 => ((impl_CanTrace.f k t603 t604).bind fun t615 => ((impl_IsDrawing.f k t603 t604).bind fun t616 => (if t616 = true then (if (t607.length : Int) = t603 then ((laws_sum.f k t607).bind fun t617 => (if t617 = (wrap64 (2 * (t604.length : Int))) then (if ((t610.length : Int) % 2) = 0 then (if t614 < 0 then (none) else (if t613 < t614 then (none) else (if t613 < (wrap64 ((t610.length : Int) / 2)) then (none) else (if t613 > (wrap64 (t614 + (wrap64 ((t610.length : Int) / 2)))) then (none) else (if (t615 != (decide (t613 ≤ 1))) = true then (none) else (if ((t614 == 0) != ((t604.length : Int) == 0)) = true then (none) else (laws_FnStrokes.l0 k t603 t604 t607 t610 t613 t615 t607 (t607.length : Int) 0))))))) else (none)) else (none))) else (none)) else (none)))))))) = some r := H
    have A3 := Aside0.mk A30
    clear A30
    replace H := Option.bind_eq_some_iff.mp H
    obtain ⟨t607, A40, H⟩ := H
    replace H : ((impl_OddPoints.f k t603 t604).bind fun t610 => ((impl_StrokesNeeded.f k t603 t604).bind fun t613 => ((impl_LineParts.f k t603 t604).bind fun t614 => ((impl_CanTrace.f k t603 t604).bind fun t615 => ((impl_IsDrawing.f k t603 t604).bind fun t616 => (if t616 = true then (if (t607.length : Int) = t603 then ((laws_sum.f k t607).bind fun t617 => (if t617 = (wrap64 (2 * (t604.length : Int))) then (if ((t610.length : Int) % 2) = 0 then (if t614 < 0 then (none) else (if t613 < t614 then (none) else (if t613 < (wrap64 ((t610.length : Int) / 2)) then (none) else (if t613 > (wrap64 (t614 + (wrap64 ((t610.length : Int) / 2)))) then (none) else (if (t615 != (decide (t613 ≤ 1))) = true then (none) else (if ((t614 == 0) != ((t604.length : Int) == 0)) = true then (none) else (laws_FnStrokes.l0 k t603 t604 t607 t610 t613 t615 t607 (t607.length : Int) 0))))))) else (none)) else (none))) else (none)) else (none))))))) = some r := H
    have A4 := Aside0.mk A40
    clear A40
    replace H := Option.bind_eq_some_iff.mp H
    obtain ⟨t610, A50, H⟩ := H
    replace H : ((impl_StrokesNeeded.f k t603 t604).bind fun t613 => ((impl_LineParts.f k t603 t604).bind fun t614 => ((impl_CanTrace.f k t603 t604).bind fun t615 => ((impl_IsDrawing.f k t603 t604).bind fun t616 => (if t616 = true then (if (t607.length : Int) = t603 then ((laws_sum.f k t607).bind fun t617 => (if t617 = (wrap64 (2 * (t604.length : Int))) then (if ((t610.length : Int) % 2) = 0 then (if t614 < 0 then (none) else (if t613 < t614 then (none) else (if t613 < (wrap64 ((t610.length : Int) / 2)) then (none) else (if t613 > (wrap64 (t614 + (wrap64 ((t610.length : Int) / 2)))) then (none) else (if (t615 != (decide (t613 ≤ 1))) = true then (none) else (if ((t614 == 0) != ((t604.length : Int) == 0)) = true then (none) else (laws_FnStrokes.l0 k t603 t604 t607 t610 t613 t615 t607 (t607.length : Int) 0))))))) else (none)) else (none))) else (none)) else (none)))))) = some r := H
    have A5 := Aside0.mk A50
    clear A50
    replace H := Option.bind_eq_some_iff.mp H
    obtain ⟨t613, A60, H⟩ := H
    replace H : ((impl_LineParts.f k t603 t604).bind fun t614 => ((impl_CanTrace.f k t603 t604).bind fun t615 => ((impl_IsDrawing.f k t603 t604).bind fun t616 => (if t616 = true then (if (t607.length : Int) = t603 then ((laws_sum.f k t607).bind fun t617 => (if t617 = (wrap64 (2 * (t604.length : Int))) then (if ((t610.length : Int) % 2) = 0 then (if t614 < 0 then (none) else (if t613 < t614 then (none) else (if t613 < (wrap64 ((t610.length : Int) / 2)) then (none) else (if t613 > (wrap64 (t614 + (wrap64 ((t610.length : Int) / 2)))) then (none) else (if (t615 != (decide (t613 ≤ 1))) = true then (none) else (if ((t614 == 0) != ((t604.length : Int) == 0)) = true then (none) else (laws_FnStrokes.l0 k t603 t604 t607 t610 t613 t615 t607 (t607.length : Int) 0))))))) else (none)) else (none))) else (none)) else (none))))) = some r := H
    have A6 := Aside0.mk A60
    clear A60
    replace H := Option.bind_eq_some_iff.mp H
    obtain ⟨t614, A70, H⟩ := H
    replace H : ((impl_CanTrace.f k t603 t604).bind fun t615 => ((impl_IsDrawing.f k t603 t604).bind fun t616 => (if t616 = true then (if (t607.length : Int) = t603 then ((laws_sum.f k t607).bind fun t617 => (if t617 = (wrap64 (2 * (t604.length : Int))) then (if ((t610.length : Int) % 2) = 0 then (if t614 < 0 then (none) else (if t613 < t614 then (none) else (if t613 < (wrap64 ((t610.length : Int) / 2)) then (none) else (if t613 > (wrap64 (t614 + (wrap64 ((t610.length : Int) / 2)))) then (none) else (if (t615 != (decide (t613 ≤ 1))) = true then (none) else (if ((t614 == 0) != ((t604.length : Int) == 0)) = true then (none) else (laws_FnStrokes.l0 k t603 t604 t607 t610 t613 t615 t607 (t607.length : Int) 0))))))) else (none)) else (none))) else (none)) else (none)))) = some r := H
    have A7 := Aside0.mk A70
    clear A70
    replace H := Option.bind_eq_some_iff.mp H
    obtain ⟨t615, A80, H⟩ := H
    replace H : ((impl_IsDrawing.f k t603 t604).bind fun t616 => (if t616 = true then (if (t607.length : Int) = t603 then ((laws_sum.f k t607).bind fun t617 => (if t617 = (wrap64 (2 * (t604.length : Int))) then (if ((t610.length : Int) % 2) = 0 then (if t614 < 0 then (none) else (if t613 < t614 then (none) else (if t613 < (wrap64 ((t610.length : Int) / 2)) then (none) else (if t613 > (wrap64 (t614 + (wrap64 ((t610.length : Int) / 2)))) then (none) else (if (t615 != (decide (t613 ≤ 1))) = true then (none) else (if ((t614 == 0) != ((t604.length : Int) == 0)) = true then (none) else (laws_FnStrokes.l0 k t603 t604 t607 t610 t613 t615 t607 (t607.length : Int) 0))))))) else (none)) else (none))) else (none)) else (none))) = some r := H
    have A8 := Aside0.mk A80
    clear A80
    replace H := Option.bind_eq_some_iff.mp H
    obtain ⟨t616, A90, H⟩ := H
    replace H : (if t616 = true then (if (t607.length : Int) = t603 then ((laws_sum.f k t607).bind fun t617 => (if t617 = (wrap64 (2 * (t604.length : Int))) then (if ((t610.length : Int) % 2) = 0 then (if t614 < 0 then (none) else (if t613 < t614 then (none) else (if t613 < (wrap64 ((t610.length : Int) / 2)) then (none) else (if t613 > (wrap64 (t614 + (wrap64 ((t610.length : Int) / 2)))) then (none) else (if (t615 != (decide (t613 ≤ 1))) = true then (none) else (if ((t614 == 0) != ((t604.length : Int) == 0)) = true then (none) else (laws_FnStrokes.l0 k t603 t604 t607 t610 t613 t615 t607 (t607.length : Int) 0))))))) else (none)) else (none))) else (none)) else (none)) = some r := H
    have A9 := Aside0.mk A90
    clear A90
    by_cases c10 : t616 = true
    · subst c10
      have H1 : (if (t607.length : Int) = t603 then ((laws_sum.f k t607).bind fun t617 => (if t617 = (wrap64 (2 * (t604.length : Int))) then (if ((t610.length : Int) % 2) = 0 then (if t614 < 0 then (none) else (if t613 < t614 then (none) else (if t613 < (wrap64 ((t610.length : Int) / 2)) then (none) else (if t613 > (wrap64 (t614 + (wrap64 ((t610.length : Int) / 2)))) then (none) else (if (t615 != (decide (t613 ≤ 1))) = true then (none) else (if ((t614 == 0) != ((t604.length : Int) == 0)) = true then (none) else (laws_FnStrokes.l0 k t603 t604 t607 t610 t613 t615 t607 (t607.length : Int) 0))))))) else (none)) else (none))) else (none)) = some r := by rw [if_pos rfl] at H; exact H
      clear H
      have H := H1
      clear H1
      by_cases c11 : (t607.length : Int) = t603
      · rw [if_pos c11] at H
        have c11b0 : ((t607.length : Int) == t603) = true := beq_iff_eq.mpr c11
        have c11b1 : ((t607.length : Int) != t603) = false := bne_eq_false_iff_eq.mpr c11
        clear c11
        replace H := Option.bind_eq_some_iff.mp H
        obtain ⟨t617, A120, H⟩ := H
        replace H : (if t617 = (wrap64 (2 * (t604.length : Int))) then (if ((t610.length : Int) % 2) = 0 then (if t614 < 0 then (none) else (if t613 < t614 then (none) else (if t613 < (wrap64 ((t610.length : Int) / 2)) then (none) else (if t613 > (wrap64 (t614 + (wrap64 ((t610.length : Int) / 2)))) then (none) else (if (t615 != (decide (t613 ≤ 1))) = true then (none) else (if ((t614 == 0) != ((t604.length : Int) == 0)) = true then (none) else (laws_FnStrokes.l0 k t603 t604 t607 t610 t613 t615 t607 (t607.length : Int) 0))))))) else (none)) else (none)) = some r := H
        have A12 := Aside0.mk A120
        clear A120
        by_cases c13 : t617 = (wrap64 (2 * (t604.length : Int)))
        · rw [if_pos c13] at H
          have c13b0 : (t617 == (wrap64 (2 * (t604.length : Int)))) = true := beq_iff_eq.mpr c13
          have c13b1 : (t617 != (wrap64 (2 * (t604.length : Int)))) = false := bne_eq_false_iff_eq.mpr c13
          clear c13
          by_cases c14 : ((t610.length : Int) % 2) = 0
          · rw [if_pos c14] at H
            have c14b0 : (((t610.length : Int) % 2) == 0) = true := beq_iff_eq.mpr c14
            have c14b1 : (((t610.length : Int) % 2) != 0) = false := bne_eq_false_iff_eq.mpr c14
            clear c14
            by_cases c15 : t614 < 0
            · rw [if_pos c15] at H
              exact absurd H (by simp)
            · rw [if_neg c15] at H
              have c15b0 : decide (t614 < 0) = false := decide_eq_false c15
              clear c15
              by_cases c16 : t613 < t614
              · rw [if_pos c16] at H
                exact absurd H (by simp)
              · rw [if_neg c16] at H
                have c16b0 : decide (t613 < t614) = false := decide_eq_false c16
                clear c16
                by_cases c17 : t613 < (wrap64 ((t610.length : Int) / 2))
                · rw [if_pos c17] at H
                  exact absurd H (by simp)
                · rw [if_neg c17] at H
                  have c17b0 : decide (t613 < (wrap64 ((t610.length : Int) / 2))) = false := decide_eq_false c17
                  clear c17
                  by_cases c18 : t613 > (wrap64 (t614 + (wrap64 ((t610.length : Int) / 2))))
                  · rw [if_pos c18] at H
                    exact absurd H (by simp)
                  · rw [if_neg c18] at H
                    have c18b0 : decide ((wrap64 (t614 + (wrap64 ((t610.length : Int) / 2)))) < t613) = false := decide_eq_false c18
                    clear c18
                    by_cases c19 : (t615 != (decide (t613 ≤ 1))) = true
                    · rw [if_pos c19] at H
                      exact absurd H (by simp)
                    · rw [if_neg c19] at H
                      have c19b0 : (t615 != (decide (t613 ≤ 1))) = false := by simpa using c19
                      (try (have c19b1 : decide (t615 = (decide (t613 ≤ 1))) = true := by simpa using c19))
                      (try (have c19b2 : (t615 == (decide (t613 ≤ 1))) = true := by simpa using c19))
                      clear c19
                      by_cases c20 : ((t614 == 0) != ((t604.length : Int) == 0)) = true
                      · rw [if_pos c20] at H
                        exact absurd H (by simp)
                      · rw [if_neg c20] at H
                        have c20b0 : ((t614 == 0) != ((t604.length : Int) == 0)) = false := by simpa using c20
                        (try (have c20b1 : decide ((t614 == 0) = ((t604.length : Int) == 0)) = true := by simpa using c20))
                        (try (have c20b2 : ((t614 == 0) == ((t604.length : Int) == 0)) = true := by simpa using c20))
                        clear c20
                        have H' := Aside0.mk H
                        clear H
                        go_enter Try.func12, Try.ntmps12
                        go_wp2_with (first | ((with_reducible refine gate_callee (f := 40) rfl ?_); refine goesL_ (some 23) rfl rfl Try.func40 (by kernel_rfl) rfl #[.slice A0 l0.length c0, .int .i64 0] rfl (by (try simp only [List.map_toArray, List.map_cons, List.map_nil]); first | done | rfl | (simp only [List.length_drop, List.length_take]; rfl)) ?_; (with_reducible refine (spec_MakeDrawing.calls k _ _ l0 0 t603 t604 _ ?side1 ?side2 A3.out).mono ?_); (case side1 => repeat (first | exact HR0.out | (with_reducible refine Kd.C_alloc ?_ _) | (with_reducible refine Kd.C_drewN ?_ _) | (with_reducible refine Kd.C_drew ?_))); (case side2 => exact HC0.out); rintro e w21 ⟨v605, rfl, ho0, hb⟩; refine ⟨_, rfl, ?_⟩; have n0_ := Aside0.mk (Kd.S_lower ho0 (below_size (by repeat (first | (with_reducible first | exact HB.out | apply below_alloc | apply pw_below_drewN | apply below_drew1) | exact HB.out)))); have n1_ := Aside0.mk (below_step (by repeat (first | (with_reducible first | exact HB.out | apply below_alloc | apply pw_below_drewN | apply below_drew1) | exact HB.out)) hb); clear HB; have HO606 := n0_; have HB := n1_; clear n0_ n1_; (try clear hb); (try clear hb2); (try clear hk); (try clear hi); (try clear ho0); obtain ⟨Ao22, co22, eo22⟩ := Kd.S_slice HO606.out; subst eo22) | ((with_reducible refine gate_callee (f := 23) rfl ?_); refine goesL_ (some 28) rfl rfl Try.func23 (by kernel_rfl) rfl #[.int .i64 t603, .slice Ao22 t604.length co22] rfl (by (try simp only [List.map_toArray, List.map_cons, List.map_nil]); first | done | rfl | (simp only [List.length_drop, List.length_take]; rfl)) ?_; (with_reducible refine (impl_DegreesOf.calls k t603 _ _ t604 t607 _ ?side1 ?side2 A4.out).mono ?_); (case side1 => repeat (first | exact (Kd.S_reads' HO606.out).2.2 | (with_reducible refine Kd.C_alloc ?_ _) | (with_reducible refine Kd.C_drewN ?_ _) | (with_reducible refine Kd.C_drew ?_))); (case side2 => exact (Kd.S_reads' HO606.out).2.1); rintro e w23 ⟨v608, rfl, ho0, hb⟩; refine ⟨_, rfl, ?_⟩; have n0_ := Aside0.mk (Kd.S_elder' (by (with_reducible repeat (first | apply Kd.S_alloc | apply Kd.S_drewN | apply Kd.S_drew)); exact HO606.out) (Kd.R_base ho0) hb); have n1_ := Aside0.mk (Kd.R_lower ho0 (below_size (by repeat (first | (with_reducible first | exact HB.out | apply below_alloc | apply pw_below_drewN | apply below_drew1) | exact HB.out)))); have n2_ := Aside0.mk (below_step (by repeat (first | (with_reducible first | exact HB.out | apply below_alloc | apply pw_below_drewN | apply below_drew1) | exact HB.out)) hb); clear HO606; clear HB; have HO606 := n0_; have HO609 := n1_; have HB := n2_; clear n0_ n1_ n2_; (try clear hb); (try clear hb2); (try clear hk); (try clear hi); (try clear ho0)) | ((with_reducible refine gate_callee (f := 28) rfl ?_); refine goesL_ (some 31) rfl rfl Try.func28 (by kernel_rfl) rfl #[.int .i64 t603, .slice Ao22 t604.length co22] rfl (by (try simp only [List.map_toArray, List.map_cons, List.map_nil]); first | done | rfl | (simp only [List.length_drop, List.length_take]; rfl)) ?_; (with_reducible refine (impl_OddPoints.calls k t603 _ _ t604 t610 _ ?side1 ?side2 A5.out).mono ?_); (case side1 => repeat (first | exact (Kd.S_reads' HO606.out).2.2 | (with_reducible refine Kd.C_alloc ?_ _) | (with_reducible refine Kd.C_drewN ?_ _) | (with_reducible refine Kd.C_drew ?_))); (case side2 => exact (Kd.S_reads' HO606.out).2.1); rintro e w24 ⟨v611, rfl, ho0, hb⟩; refine ⟨_, rfl, ?_⟩; have n0_ := Aside0.mk (Kd.S_elder' (by (with_reducible repeat (first | apply Kd.S_alloc | apply Kd.S_drewN | apply Kd.S_drew)); exact HO606.out) (Kd.R_base ho0) hb); have n1_ := Aside0.mk (Kd.R_elder' (by (with_reducible repeat (first | apply Kd.R_alloc | apply Kd.R_drewN | apply Kd.R_drew)); exact HO609.out) (Kd.R_base ho0) hb); have n2_ := Aside0.mk (Kd.R_lower (Kd.R_new' ho0 (Kd.R_lt (by (with_reducible repeat (first | apply Kd.R_alloc | apply Kd.R_drewN | apply Kd.R_drew)); exact HO609.out))) (below_size (by repeat (first | (with_reducible first | exact HB.out | apply below_alloc | apply pw_below_drewN | apply below_drew1) | exact HB.out)))); have n3_ := Aside0.mk (below_step (by repeat (first | (with_reducible first | exact HB.out | apply below_alloc | apply pw_below_drewN | apply below_drew1) | exact HB.out)) hb); clear HO606; clear HO609; clear HB; have HO606 := n0_; have HO609 := n1_; have HO612 := n2_; have HB := n3_; clear n0_ n1_ n2_ n3_; (try clear hb); (try clear hb2); (try clear hk); (try clear hi); (try clear ho0)) | ((with_reducible refine gate_callee (f := 37) rfl ?_); refine goesL_ (some 34) rfl rfl Try.func37 (by kernel_rfl) rfl #[.int .i64 t603, .slice Ao22 t604.length co22] rfl (by (try simp only [List.map_toArray, List.map_cons, List.map_nil]); first | done | rfl | (simp only [List.length_drop, List.length_take]; rfl)) ?_; (with_reducible refine (impl_StrokesNeeded.calls k t603 _ _ t604 t613 _ ?side1 ?side2 A6.out).mono ?_); (case side1 => repeat (first | exact (Kd.S_reads' HO606.out).2.2 | (with_reducible refine Kd.C_alloc ?_ _) | (with_reducible refine Kd.C_drewN ?_ _) | (with_reducible refine Kd.C_drew ?_))); (case side2 => exact (Kd.S_reads' HO606.out).2.1); rintro e w25 ⟨rfl, hb⟩; refine ⟨_, rfl, ?_⟩; have n0_ := Aside0.mk (Kd.S_below (by (with_reducible repeat (first | apply Kd.S_alloc | apply Kd.S_drewN | apply Kd.S_drew)); exact HO606.out) hb); have n1_ := Aside0.mk (Kd.R_below (by (with_reducible repeat (first | apply Kd.R_alloc | apply Kd.R_drewN | apply Kd.R_drew)); exact HO609.out) hb); have n2_ := Aside0.mk (Kd.R_below (by (with_reducible repeat (first | apply Kd.R_alloc | apply Kd.R_drewN | apply Kd.R_drew)); exact HO612.out) hb); have n3_ := Aside0.mk (below_step (by repeat (first | (with_reducible first | exact HB.out | apply below_alloc | apply pw_below_drewN | apply below_drew1) | exact HB.out)) hb); clear HO606; clear HO609; clear HO612; clear HB; have HO606 := n0_; have HO609 := n1_; have HO612 := n2_; have HB := n3_; clear n0_ n1_ n2_ n3_; (try clear hb); (try clear hb2); (try clear hk); (try clear hi)) | ((with_reducible refine gate_callee (f := 39) rfl ?_); refine goesL_ (some 37) rfl rfl Try.func39 (by kernel_rfl) rfl #[.int .i64 t603, .slice Ao22 t604.length co22] rfl (by (try simp only [List.map_toArray, List.map_cons, List.map_nil]); first | done | rfl | (simp only [List.length_drop, List.length_take]; rfl)) ?_; (with_reducible refine (impl_LineParts.calls k t603 _ _ t604 t614 _ ?side1 ?side2 A7.out).mono ?_); (case side1 => repeat (first | exact (Kd.S_reads' HO606.out).2.2 | (with_reducible refine Kd.C_alloc ?_ _) | (with_reducible refine Kd.C_drewN ?_ _) | (with_reducible refine Kd.C_drew ?_))); (case side2 => exact (Kd.S_reads' HO606.out).2.1); rintro e w26 ⟨rfl, hb⟩; refine ⟨_, rfl, ?_⟩; have n0_ := Aside0.mk (Kd.S_below (by (with_reducible repeat (first | apply Kd.S_alloc | apply Kd.S_drewN | apply Kd.S_drew)); exact HO606.out) hb); have n1_ := Aside0.mk (Kd.R_below (by (with_reducible repeat (first | apply Kd.R_alloc | apply Kd.R_drewN | apply Kd.R_drew)); exact HO609.out) hb); have n2_ := Aside0.mk (Kd.R_below (by (with_reducible repeat (first | apply Kd.R_alloc | apply Kd.R_drewN | apply Kd.R_drew)); exact HO612.out) hb); have n3_ := Aside0.mk (below_step (by repeat (first | (with_reducible first | exact HB.out | apply below_alloc | apply pw_below_drewN | apply below_drew1) | exact HB.out)) hb); clear HO606; clear HO609; clear HO612; clear HB; have HO606 := n0_; have HO609 := n1_; have HO612 := n2_; have HB := n3_; clear n0_ n1_ n2_ n3_; (try clear hb); (try clear hb2); (try clear hk); (try clear hi)) | ((with_reducible refine gate_callee (f := 33) rfl ?_); refine goesL_ (some 40) rfl rfl Try.func33 (by kernel_rfl) rfl #[.int .i64 t603, .slice Ao22 t604.length co22] rfl (by (try simp only [List.map_toArray, List.map_cons, List.map_nil]); first | done | rfl | (simp only [List.length_drop, List.length_take]; rfl)) ?_; (with_reducible refine (impl_CanTrace.calls k t603 _ _ t604 t615 _ ?side1 ?side2 A8.out).mono ?_); (case side1 => repeat (first | exact (Kd.S_reads' HO606.out).2.2 | (with_reducible refine Kd.C_alloc ?_ _) | (with_reducible refine Kd.C_drewN ?_ _) | (with_reducible refine Kd.C_drew ?_))); (case side2 => exact (Kd.S_reads' HO606.out).2.1); rintro e w27 ⟨rfl, hb⟩; refine ⟨_, rfl, ?_⟩; have n0_ := Aside0.mk (Kd.S_below (by (with_reducible repeat (first | apply Kd.S_alloc | apply Kd.S_drewN | apply Kd.S_drew)); exact HO606.out) hb); have n1_ := Aside0.mk (Kd.R_below (by (with_reducible repeat (first | apply Kd.R_alloc | apply Kd.R_drewN | apply Kd.R_drew)); exact HO609.out) hb); have n2_ := Aside0.mk (Kd.R_below (by (with_reducible repeat (first | apply Kd.R_alloc | apply Kd.R_drewN | apply Kd.R_drew)); exact HO612.out) hb); have n3_ := Aside0.mk (below_step (by repeat (first | (with_reducible first | exact HB.out | apply below_alloc | apply pw_below_drewN | apply below_drew1) | exact HB.out)) hb); clear HO606; clear HO609; clear HO612; clear HB; have HO606 := n0_; have HO609 := n1_; have HO612 := n2_; have HB := n3_; clear n0_ n1_ n2_ n3_; (try clear hb); (try clear hb2); (try clear hk); (try clear hi)) | ((with_reducible refine gate_callee (f := 16) rfl ?_); refine goesL_ (some 43) rfl rfl Try.func16 (by kernel_rfl) rfl #[.int .i64 t603, .slice Ao22 t604.length co22] rfl (by (try simp only [List.map_toArray, List.map_cons, List.map_nil]); first | done | rfl | (simp only [List.length_drop, List.length_take]; rfl)) ?_; (with_reducible refine (impl_IsDrawing.calls k t603 _ _ t604 true _ ?side1 ?side2 A9.out).mono ?_); (case side1 => repeat (first | exact (Kd.S_reads' HO606.out).2.2 | (with_reducible refine Kd.C_alloc ?_ _) | (with_reducible refine Kd.C_drewN ?_ _) | (with_reducible refine Kd.C_drew ?_))); (case side2 => exact (Kd.S_reads' HO606.out).2.1); rintro e w28 ⟨rfl, hb⟩; refine ⟨_, rfl, ?_⟩; have n0_ := Aside0.mk (Kd.S_below (by (with_reducible repeat (first | apply Kd.S_alloc | apply Kd.S_drewN | apply Kd.S_drew)); exact HO606.out) hb); have n1_ := Aside0.mk (Kd.R_below (by (with_reducible repeat (first | apply Kd.R_alloc | apply Kd.R_drewN | apply Kd.R_drew)); exact HO609.out) hb); have n2_ := Aside0.mk (Kd.R_below (by (with_reducible repeat (first | apply Kd.R_alloc | apply Kd.R_drewN | apply Kd.R_drew)); exact HO612.out) hb); have n3_ := Aside0.mk (below_step (by repeat (first | (with_reducible first | exact HB.out | apply below_alloc | apply pw_below_drewN | apply below_drew1) | exact HB.out)) hb); clear HO606; clear HO609; clear HO612; clear HB; have HO606 := n0_; have HO609 := n1_; have HO612 := n2_; have HB := n3_; clear n0_ n1_ n2_ n3_; (try clear hb); (try clear hb2); (try clear hk); (try clear hi); obtain ⟨Ao29, co29, eo29⟩ := Kd.R_slice HO609.out; subst eo29) | (go_at_call 41; (with_reducible refine (laws_sum.calls k _ _ t607 t617 _ ?side1 ?side2 A12.out).mono ?_); (case side1 => repeat (first | exact (Kd.R_reads' HO609.out).2.2 | (with_reducible refine Kd.C_alloc ?_ _) | (with_reducible refine Kd.C_drewN ?_ _) | (with_reducible refine Kd.C_drew ?_))); (case side2 => exact (Kd.R_reads' HO609.out).2.1); rintro e w' ⟨rfl, ⟨nd, rfl⟩⟩; obtain ⟨Ao30, co30, eo30⟩ := Kd.R_slice HO612.out; subst eo30))
                        go_loopg [106] k (fun kq v106 w' => ∃ (x106_1 : Int), v106 = .int .i64 x106_1 ∧ Aside0 (laws_FnStrokes.l0 kq t603 t604 t607 t610 t613 t615 t607 (t607.length : Int) x106_1 = some r) ∧ Aside0 (kq ≤ k) ∧ Aside0 (Kd.S (Kd.slice 3 (Kd.int .i64)) 27 w' w.heap.size (fun k_ => some k_ ≠ ((.slice Ao29 t607.length co29) : Value).ownBlock ∧ some k_ ≠ ((.slice Ao30 t610.length co30) : Value).ownBlock ∧ some k_ ≠ ((.slice Ao29 t607.length co29) : Value).ownBlock) (.slice Ao22 t604.length co22) t604) ∧ Aside0 (Kd.R (Kd.int .i64) 3 w' w.heap.size (fun k_ => some k_ ≠ ((.slice Ao30 t610.length co30) : Value).ownBlock) (.slice Ao29 t607.length co29) t607) ∧ Aside0 (Kd.R (Kd.int .i64) 3 w' w.heap.size (fun k_ => some k_ ≠ ((.slice Ao29 t607.length co29) : Value).ownBlock ∧ some k_ ≠ ((.slice Ao29 t607.length co29) : Value).ownBlock) (.slice Ao30 t610.length co30) t610) ∧ Aside0 (Kd.R (Kd.int .i64) 3 w' w.heap.size (fun k_ => some k_ ≠ ((.slice Ao30 t610.length co30) : Value).ownBlock) (.slice Ao29 t607.length co29) t607) ∧ Aside0 (Below w.heap.size w w'))
                        case atStart => exact ⟨(0), (by first | rfl | (simp; done) | (simp [*]; done)), H', ⟨Nat.le_refl _⟩, ⟨by (with_reducible repeat (first | apply Kd.S_alloc | apply Kd.S_drewN | apply Kd.S_drew)); exact Kd.S_mono HO606.out (fun _ hk => ⟨hk.1.2, ⟨hk.2, hk.1.2⟩⟩)⟩, ⟨by (with_reducible repeat (first | apply Kd.R_alloc | apply Kd.R_drewN | apply Kd.R_drew)); exact Kd.R_mono HO609.out (fun _ hk => hk.2)⟩, ⟨by (with_reducible repeat (first | apply Kd.R_alloc | apply Kd.R_drewN | apply Kd.R_drew)); exact Kd.R_mono HO612.out (fun _ hk => ⟨hk.2, hk.2⟩)⟩, ⟨by (with_reducible repeat (first | apply Kd.R_alloc | apply Kd.R_drewN | apply Kd.R_drew)); exact Kd.R_mono HO609.out (fun _ hk => hk.2)⟩, ⟨by repeat (first | (with_reducible first | exact HB.out | apply below_alloc | apply pw_below_drewN | apply below_drew1) | exact HB.out)⟩⟩
                        case round =>
                          clear H'
                          try clear c1
                          try clear c2
                          try clear c2b0
                          try clear c2b1
                          try clear p2
                          try clear c3
                          try clear c4
                          try clear p6
                          try clear c10
                          try clear c11
                          try clear c11b0
                          try clear c11b1
                          try clear c12
                          try clear c13
                          try clear c13b0
                          try clear c13b1
                          try clear c14
                          try clear c14b0
                          try clear c14b1
                          try clear c15
                          try clear c15b0
                          try clear c16
                          try clear c16b0
                          try clear c17
                          try clear c17b0
                          try clear c18
                          try clear c18b0
                          try clear c19
                          try clear c19b0
                          try clear c19b1
                          try clear c19b2
                          try clear c20
                          try clear c20b0
                          try clear c20b1
                          try clear c20b2
                          try clear c23
                          try clear c28
                          obtain ⟨x106_1, rfl, HA, HK1, HO_4, HO_5, HO_6, HO_104, HB⟩ := hrel
                          cases gk with
                          | zero => exact absurd HA.out (by simp [laws_FnStrokes.l0])
                          | succ k1 =>
                            have H := HA.out
                            clear HA
                            simp only [laws_FnStrokes.l0] at H
                            by_cases c31 : x106_1 < (t607.length : Int)
                            · rw [if_pos c31] at H
                              have c31b0 : decide (x106_1 < (t607.length : Int)) = true := decide_eq_true c31
                              clear c31
                              by_cases c32 : 0 ≤ x106_1
                              · rw [if_pos c32] at H
                                have c32b0 : decide (0 ≤ x106_1) = true := decide_eq_true c32
                                clear c32
                                by_cases c33 : x106_1 < (t607.length : Int)
                                · rw [if_pos c33] at H
                                  have c33b0 : decide (x106_1 < (t607.length : Int)) = true := decide_eq_true c33
                                  clear c33
                                  replace H := Option.bind_eq_some_iff.mp H
                                  obtain ⟨t619, A340, H⟩ := H
                                  replace H : (if (t619 != ((Int.tmod (rd t607 x106_1) 2) == 1)) = true then (none) else (laws_FnStrokes.l0 k1 t603 t604 t607 t610 t613 t615 t607 (t607.length : Int) (wrap64 (x106_1 + 1)))) = some r := H
                                  have A34 := Aside0.mk A340
                                  clear A340
                                  by_cases c35 : (t619 != ((Int.tmod (rd t607 x106_1) 2) == 1)) = true
                                  · rw [if_pos c35] at H
                                    exact absurd H (by simp)
                                  · rw [if_neg c35] at H
                                    have c35b0 : (t619 != ((Int.tmod (rd t607 x106_1) 2) == 1)) = false := by simpa using c35
                                    (try (have c35b1 : decide (t619 = ((Int.tmod (rd t607 x106_1) 2) == 1)) = true := by simpa using c35))
                                    (try (have c35b2 : (t619 == ((Int.tmod (rd t607 x106_1) 2) == 1)) = true := by simpa using c35))
                                    clear c35
                                    as_aux_lemma =>
                                      have H' := Aside0.mk H
                                      clear H
                                      have p618 : 0 ≤ (x106_1 : Int) := of_decide_eq_true (by first | (with_reducible assumption) | assumption)
                                      have q618 : x106_1 < (t607.length : Int) := of_decide_eq_true (by first | (with_reducible assumption) | assumption)
                                      obtain ⟨ad618, e618, hx618_0⟩ := Kd.at_int (Kd.R_reads' HO_104.out).2.2 x106_1 p618 q618
                                      cases e618
                                      replace p618 := eq_true p618
                                      replace q618 := eq_true q618
                                      go_wp2_with (first | ((with_reducible refine gate_callee (f := 42) rfl ?_); refine goesL_ (some 113) rfl rfl Try.func42 (by kernel_rfl) rfl #[.slice Ao30 t610.length co30, .int .i64 x106_1] rfl (by (try simp only [List.map_toArray, List.map_cons, List.map_nil]); first | done | rfl | (simp only [List.length_drop, List.length_take]; rfl)) ?_; (with_reducible refine (laws_has.calls k1 _ _ t610 x106_1 t619 _ ?side1 ?side2 A34.out).mono ?_); (case side1 => repeat (first | exact (Kd.R_reads' HO_6.out).2.2 | (with_reducible refine Kd.C_alloc ?_ _) | (with_reducible refine Kd.C_drewN ?_ _) | (with_reducible refine Kd.C_drew ?_))); (case side2 => exact (Kd.R_reads' HO_6.out).2.1); rintro e w' ⟨rfl, ⟨nd, rfl⟩⟩; refine ⟨_, rfl, ?_⟩))
                                      go_roundg k1
                                      case measure => have := HK1.out; omega
                                      case rel => exact ⟨(wrap64 (x106_1 + 1)), (by first | rfl | (simp; done) | (simp [*]; done)), H', ⟨by have := HK1.out; omega⟩, ⟨by (with_reducible repeat (first | apply Kd.S_alloc | apply Kd.S_drewN | apply Kd.S_drew)); exact HO_4.out⟩, ⟨by (with_reducible repeat (first | apply Kd.R_alloc | apply Kd.R_drewN | apply Kd.R_drew)); exact HO_5.out⟩, ⟨by (with_reducible repeat (first | apply Kd.R_alloc | apply Kd.R_drewN | apply Kd.R_drew)); exact HO_6.out⟩, ⟨by (with_reducible repeat (first | apply Kd.R_alloc | apply Kd.R_drewN | apply Kd.R_drew)); exact HO_104.out⟩, ⟨by repeat (first | (with_reducible first | exact HB.out | apply below_alloc | apply pw_below_drewN | apply below_drew1) | exact HB.out)⟩⟩
                                · rw [if_neg c33] at H
                                  exact absurd H (by simp)
                              · rw [if_neg c32] at H
                                exact absurd H (by simp)
                            · rw [if_neg c31] at H
                              have c31b0 : decide (x106_1 < (t607.length : Int)) = false := decide_eq_false c31
                              clear c31
                              have H' := Aside0.mk H
                              clear H
                              go_wp2
                              go_loopg [12, 13] k1 (fun kq v12 v13 w' => ∃ (x12_2 : Bool) (x13_2 : Int), v12 = .bool x12_2 ∧ v13 = .int .i64 x13_2 ∧ Aside0 (laws_FnStrokes.l1 kq t603 t604 t607 t610 t613 t615 x12_2 x13_2 = some r) ∧ Aside0 (kq ≤ k1) ∧ Aside0 (Kd.S (Kd.slice 3 (Kd.int .i64)) 27 w' w.heap.size (fun k_ => some k_ ≠ ((.slice Ao29 t607.length co29) : Value).ownBlock ∧ some k_ ≠ ((.slice Ao30 t610.length co30) : Value).ownBlock) (.slice Ao22 t604.length co22) t604) ∧ Aside0 (Kd.R (Kd.int .i64) 3 w' w.heap.size (fun k_ => some k_ ≠ ((.slice Ao30 t610.length co30) : Value).ownBlock) (.slice Ao29 t607.length co29) t607) ∧ Aside0 (Kd.R (Kd.int .i64) 3 w' w.heap.size (fun k_ => some k_ ≠ ((.slice Ao29 t607.length co29) : Value).ownBlock) (.slice Ao30 t610.length co30) t610) ∧ Aside0 (Below w.heap.size w w'))
                              case atStart => exact ⟨(false), (0), (by first | rfl | (simp; done) | (simp [*]; done)), (by first | rfl | (simp; done) | (simp [*]; done)), H', ⟨Nat.le_refl _⟩, ⟨by (with_reducible repeat (first | apply Kd.S_alloc | apply Kd.S_drewN | apply Kd.S_drew)); exact Kd.S_mono HO_4.out (fun _ hk => ⟨hk.1, hk.2.1⟩)⟩, ⟨by (with_reducible repeat (first | apply Kd.R_alloc | apply Kd.R_drewN | apply Kd.R_drew)); exact HO_5.out⟩, ⟨by (with_reducible repeat (first | apply Kd.R_alloc | apply Kd.R_drewN | apply Kd.R_drew)); exact Kd.R_mono HO_6.out (fun _ hk => hk.1)⟩, ⟨by repeat (first | (with_reducible first | exact HB.out | apply below_alloc | apply pw_below_drewN | apply below_drew1) | exact HB.out)⟩⟩
                              case round =>
                                clear H'
                                try clear c1
                                try clear c2
                                try clear c2b0
                                try clear c2b1
                                try clear p2
                                try clear c3
                                try clear c4
                                try clear p6
                                try clear q6
                                try clear hx6
                                try clear c10
                                try clear c11
                                try clear c11b0
                                try clear c11b1
                                try clear c12
                                try clear c13
                                try clear c13b0
                                try clear c13b1
                                try clear c14
                                try clear c14b0
                                try clear c14b1
                                try clear c15
                                try clear c15b0
                                try clear c16
                                try clear c16b0
                                try clear c17
                                try clear c17b0
                                try clear c18
                                try clear c18b0
                                try clear c19
                                try clear c19b0
                                try clear c19b1
                                try clear c19b2
                                try clear c20
                                try clear c20b0
                                try clear c20b1
                                try clear c20b2
                                try clear c23
                                try clear c28
                                try clear c31
                                try clear c31b0
                                try clear c32
                                try clear c32b0
                                try clear c33
                                try clear c33b0
                                try clear c35
                                try clear c35b0
                                try clear c35b1
                                try clear c35b2
                                try clear hx618_0
                                try clear p2
                                try clear p6
                                try clear p618
                                try clear q618
                                obtain ⟨x12_2, x13_2, rfl, rfl, HA, HK2, HO_4, HO_5, HO_6, HB⟩ := hrel
                                cases gk with
                                | zero => exact absurd HA.out (by simp [laws_FnStrokes.l1])
                                | succ k2 =>
                                  have H := HA.out
                                  clear HA
                                  simp only [laws_FnStrokes.l1] at H
                                  by_cases c36 : x13_2 < t603
                                  · rw [if_pos c36] at H
                                    have c36b0 : decide (x13_2 < t603) = true := decide_eq_true c36
                                    clear c36
                                    replace H := Option.bind_eq_some_iff.mp H
                                    obtain ⟨⟨t620, t621⟩, A370, H⟩ := H
                                    replace H : (if x12_2 = true then (laws_FnStrokes.j2 k2 t603 t604 t607 t610 t613 t615 true x13_2 t620 t621) else (laws_FnStrokes.j2 k2 t603 t604 t607 t610 t613 t615 t621 x13_2 t620 t621)) = some r := H
                                    have A37 := Aside0.mk A370
                                    clear A370
                                    have HC38 := Aside0.mk H
                                    clear H
                                    go_upto_region 22 with (first | ((with_reducible refine gate_callee (f := 35) rfl ?_); refine goesL_ (some 128) rfl rfl Try.func35 (by kernel_rfl) rfl #[.int .i64 t603, .slice Ao22 t604.length co22, .int .i64 x13_2] rfl (by (try simp only [List.map_toArray, List.map_cons, List.map_nil]); first | done | rfl | (simp only [List.length_drop, List.length_take]; rfl)) ?_; (with_reducible refine (impl_FirstStroke.calls k2 t603 _ _ t604 x13_2 t620 t621 _ ?side1 ?side2 A37.out).mono ?_); (case side1 => repeat (first | exact (Kd.S_reads' HO_4.out).2.2 | (with_reducible refine Kd.C_alloc ?_ _) | (with_reducible refine Kd.C_drewN ?_ _) | (with_reducible refine Kd.C_drew ?_))); (case side2 => exact (Kd.S_reads' HO_4.out).2.1); rintro e w39 ⟨v622, rfl, ho0, hb⟩; refine ⟨_, rfl, ?_⟩; have n0_ := Aside0.mk (Kd.S_elder' (by (with_reducible repeat (first | apply Kd.S_alloc | apply Kd.S_drewN | apply Kd.S_drew)); exact HO_4.out) (Kd.R_base ho0) hb); have n1_ := Aside0.mk (Kd.R_elder' (by (with_reducible repeat (first | apply Kd.R_alloc | apply Kd.R_drewN | apply Kd.R_drew)); exact HO_5.out) (Kd.R_base ho0) hb); have n2_ := Aside0.mk (Kd.R_elder' (by (with_reducible repeat (first | apply Kd.R_alloc | apply Kd.R_drewN | apply Kd.R_drew)); exact HO_6.out) (Kd.R_base ho0) hb); have n3_ := Aside0.mk (Kd.R_lower (Kd.R_new' (Kd.R_new' ho0 (Kd.R_lt (by (with_reducible repeat (first | apply Kd.R_alloc | apply Kd.R_drewN | apply Kd.R_drew)); exact HO_5.out))) (Kd.R_lt (by (with_reducible repeat (first | apply Kd.R_alloc | apply Kd.R_drewN | apply Kd.R_drew)); exact HO_6.out))) (below_size (by repeat (first | (with_reducible first | exact HB.out | apply below_alloc | apply pw_below_drewN | apply below_drew1) | exact HB.out)))); have n4_ := Aside0.mk (below_step (by repeat (first | (with_reducible first | exact HB.out | apply below_alloc | apply pw_below_drewN | apply below_drew1) | exact HB.out)) hb); clear HO_4; clear HO_5; clear HO_6; clear HB; have HO_4 := n0_; have HO_5 := n1_; have HO_6 := n2_; have HO623 := n3_; have HB := n4_; clear n0_ n1_ n2_ n3_ n4_; (try clear hb); (try clear hb2); (try clear hk); (try clear hi); (try clear ho0)))
                                    (try simp only [Act.put, List.setIfInBounds_toArray, List.set_cons_zero, List.set_cons_succ])
                                    go_cut [12] (fun v12 wc => ∃ (kq : Nat) (x12_37 : Bool), v12 = .bool x12_37 ∧ Aside0 (laws_FnStrokes.j2 kq t603 t604 t607 t610 t613 t615 x12_37 x13_2 t620 t621 = some r) ∧ Aside0 (kq ≤ k2) ∧ Aside0 (Kd.S (Kd.slice 3 (Kd.int .i64)) 27 wc w.heap.size (fun k_ => some k_ ≠ ((.slice Ao29 t607.length co29) : Value).ownBlock ∧ some k_ ≠ ((.slice Ao30 t610.length co30) : Value).ownBlock ∧ some k_ ≠ (v622 : Value).ownBlock) (.slice Ao22 t604.length co22) t604) ∧ Aside0 (Kd.R (Kd.int .i64) 3 wc w.heap.size (fun k_ => some k_ ≠ ((.slice Ao30 t610.length co30) : Value).ownBlock ∧ some k_ ≠ (v622 : Value).ownBlock) (.slice Ao29 t607.length co29) t607) ∧ Aside0 (Kd.R (Kd.int .i64) 3 wc w.heap.size (fun k_ => some k_ ≠ ((.slice Ao29 t607.length co29) : Value).ownBlock ∧ some k_ ≠ (v622 : Value).ownBlock) (.slice Ao30 t610.length co30) t610) ∧ Aside0 (Kd.R (Kd.int .i64) 3 wc w.heap.size (fun k_ => some k_ ≠ ((.slice Ao29 t607.length co29) : Value).ownBlock ∧ some k_ ≠ ((.slice Ao30 t610.length co30) : Value).ownBlock) v622 t620) ∧ Aside0 (Below w.heap.size w wc))
                                    case first =>
                                      have H := HC38.out
                                      clear HC38
                                      by_cases c40 : x12_2 = true
                                      · subst c40
                                        have H1 : (laws_FnStrokes.j2 k2 t603 t604 t607 t610 t613 t615 true x13_2 t620 t621) = some r := by rw [if_pos rfl] at H; exact H
                                        clear H
                                        have H := H1
                                        clear H1
                                        as_aux_lemma =>
                                          have H' := Aside0.mk H
                                          clear H
                                          go_wp2
                                          go_meet
                                          case rel => exact ⟨_, (true), (by first | rfl | (simp; done) | (simp [*]; done)), H', ⟨by have := HK1.out; have := HK2.out; first | omega | exact Nat.le_refl _⟩, ⟨by (with_reducible repeat (first | apply Kd.S_alloc | apply Kd.S_drewN | apply Kd.S_drew)); exact Kd.S_mono HO_4.out (fun _ hk => ⟨hk.1.1, ⟨hk.1.2, hk.2⟩⟩)⟩, ⟨by (with_reducible repeat (first | apply Kd.R_alloc | apply Kd.R_drewN | apply Kd.R_drew)); exact HO_5.out⟩, ⟨by (with_reducible repeat (first | apply Kd.R_alloc | apply Kd.R_drewN | apply Kd.R_drew)); exact HO_6.out⟩, ⟨by (with_reducible repeat (first | apply Kd.R_alloc | apply Kd.R_drewN | apply Kd.R_drew)); exact Kd.R_mono HO623.out (fun _ hk => ⟨hk.1.2, hk.2⟩)⟩, ⟨by repeat (first | (with_reducible first | exact HB.out | apply below_alloc | apply pw_below_drewN | apply below_drew1) | exact HB.out)⟩⟩
                                      · replace c40 := Bool.eq_false_iff.mpr c40
                                        subst c40
                                        have H1 : (laws_FnStrokes.j2 k2 t603 t604 t607 t610 t613 t615 t621 x13_2 t620 t621) = some r := by rw [if_neg (show ¬ (false = true) by decide)] at H; exact H
                                        clear H
                                        have H := H1
                                        clear H1
                                        as_aux_lemma =>
                                          have H' := Aside0.mk H
                                          clear H
                                          go_wp2
                                          go_meet
                                          case rel => exact ⟨_, (t621), (by first | rfl | (simp; done) | (simp [*]; done)), H', ⟨by have := HK1.out; have := HK2.out; first | omega | exact Nat.le_refl _⟩, ⟨by (with_reducible repeat (first | apply Kd.S_alloc | apply Kd.S_drewN | apply Kd.S_drew)); exact Kd.S_mono HO_4.out (fun _ hk => ⟨hk.1.1, ⟨hk.1.2, hk.2⟩⟩)⟩, ⟨by (with_reducible repeat (first | apply Kd.R_alloc | apply Kd.R_drewN | apply Kd.R_drew)); exact HO_5.out⟩, ⟨by (with_reducible repeat (first | apply Kd.R_alloc | apply Kd.R_drewN | apply Kd.R_drew)); exact HO_6.out⟩, ⟨by (with_reducible repeat (first | apply Kd.R_alloc | apply Kd.R_drewN | apply Kd.R_drew)); exact Kd.R_mono HO623.out (fun _ hk => ⟨hk.1.2, hk.2⟩)⟩, ⟨by repeat (first | (with_reducible first | exact HB.out | apply below_alloc | apply pw_below_drewN | apply below_drew1) | exact HB.out)⟩⟩
                                    case rest =>
                                      clear HC38
                                      try clear c1
                                      try clear c2
                                      try clear c2b0
                                      try clear c2b1
                                      try clear p2
                                      try clear c3
                                      try clear c4
                                      try clear p6
                                      try clear q6
                                      try clear hx6
                                      try clear c10
                                      try clear c11
                                      try clear c11b0
                                      try clear c11b1
                                      try clear c12
                                      try clear c13
                                      try clear c13b0
                                      try clear c13b1
                                      try clear c14
                                      try clear c14b0
                                      try clear c14b1
                                      try clear c15
                                      try clear c15b0
                                      try clear c16
                                      try clear c16b0
                                      try clear c17
                                      try clear c17b0
                                      try clear c18
                                      try clear c18b0
                                      try clear c19
                                      try clear c19b0
                                      try clear c19b1
                                      try clear c19b2
                                      try clear c20
                                      try clear c20b0
                                      try clear c20b1
                                      try clear c20b2
                                      try clear c23
                                      try clear c28
                                      try clear c31
                                      try clear c31b0
                                      try clear c32
                                      try clear c32b0
                                      try clear c33
                                      try clear c33b0
                                      try clear c35
                                      try clear c35b0
                                      try clear c35b1
                                      try clear c35b2
                                      try clear c36
                                      try clear c36b0
                                      try clear c37
                                      try clear c39
                                      try clear c40
                                      try clear hx618_0
                                      try clear p2
                                      try clear p6
                                      try clear p618
                                      try clear q6
                                      try clear q618
                                      obtain ⟨kq, x12_37, rfl, HA, HJ37, HO_4, HO_5, HO_6, HO_14, HB⟩ := hcut
                                      cases kq with
                                      | zero => exact absurd HA.out (by simp [laws_FnStrokes.j2])
                                      | succ kj37 =>
                                        have H := HA.out
                                        clear HA
                                        simp only [laws_FnStrokes.j2] at H
                                        by_cases c41 : t621 = true
                                        · subst c41
                                          have H1 : (if (t620.length : Int) = (t604.length : Int) then ((impl_IsStroke.f kj37 t603 t604 x13_2 t620).bind fun t624 => (if t624 = true then (if (t610.length : Int) = 2 then ((laws_has.f kj37 t610 x13_2).bind fun t625 => (if t625 = true then (if (t604.length : Int) > 0 then (if 0 ≤ x13_2 then (if x13_2 < (t607.length : Int) then (laws_FnStrokes.j3 kj37 t603 t604 t607 t610 t613 t615 x12_37 x13_2 t620 ((rd t607 x13_2) == 0)) else (none)) else (none)) else (laws_FnStrokes.j3 kj37 t603 t604 t607 t610 t613 t615 x12_37 x13_2 t620 false)) else (none))) else (if (t604.length : Int) > 0 then (if 0 ≤ x13_2 then (if x13_2 < (t607.length : Int) then (laws_FnStrokes.j3 kj37 t603 t604 t607 t610 t613 t615 x12_37 x13_2 t620 ((rd t607 x13_2) == 0)) else (none)) else (none)) else (laws_FnStrokes.j3 kj37 t603 t604 t607 t610 t613 t615 x12_37 x13_2 t620 false))) else (none))) else (none)) = some r := by rw [if_pos rfl] at H; exact H
                                          clear H
                                          have H := H1
                                          clear H1
                                          have HC42 := Aside0.mk H
                                          clear H
                                          go_upto_region 24 with (fail)
                                          go_cut [172] (fun v172 wc => ∃ (kq : Nat) (x172_41 : Bool), v172 = .bool x172_41 ∧ Aside0 (laws_FnStrokes.j3 kq t603 t604 t607 t610 t613 t615 x12_37 x13_2 t620 x172_41 = some r) ∧ Aside0 (kq ≤ kj37) ∧ Aside0 (Kd.S (Kd.slice 3 (Kd.int .i64)) 27 wc w.heap.size (fun k_ => some k_ ≠ ((.slice Ao29 t607.length co29) : Value).ownBlock ∧ some k_ ≠ ((.slice Ao30 t610.length co30) : Value).ownBlock ∧ some k_ ≠ (v622 : Value).ownBlock) (.slice Ao22 t604.length co22) t604) ∧ Aside0 (Kd.R (Kd.int .i64) 3 wc w.heap.size (fun k_ => some k_ ≠ ((.slice Ao30 t610.length co30) : Value).ownBlock ∧ some k_ ≠ (v622 : Value).ownBlock) (.slice Ao29 t607.length co29) t607) ∧ Aside0 (Kd.R (Kd.int .i64) 3 wc w.heap.size (fun k_ => some k_ ≠ ((.slice Ao29 t607.length co29) : Value).ownBlock ∧ some k_ ≠ (v622 : Value).ownBlock) (.slice Ao30 t610.length co30) t610) ∧ Aside0 (Kd.R (Kd.int .i64) 3 wc w.heap.size (fun k_ => some k_ ≠ ((.slice Ao29 t607.length co29) : Value).ownBlock ∧ some k_ ≠ ((.slice Ao30 t610.length co30) : Value).ownBlock) v622 t620) ∧ Aside0 (Below w.heap.size w wc))
                                          case first =>
                                            have H := HC42.out
                                            clear HC42
                                            by_cases c43 : (t620.length : Int) = (t604.length : Int)
                                            · rw [if_pos c43] at H
                                              have c43b0 : ((t620.length : Int) == (t604.length : Int)) = true := beq_iff_eq.mpr c43
                                              have c43b1 : ((t620.length : Int) != (t604.length : Int)) = false := bne_eq_false_iff_eq.mpr c43
                                              have c43b2 : (t620.length == t604.length) = true := by first | simpa using c43 | (simp at c43 ⊢; omega)
                                              clear c43
                                              (first | rw [c43b0] | (simp only [i64_w, i32_w]; rw [c43b0]) | skip)
                                              replace H := Option.bind_eq_some_iff.mp H
                                              obtain ⟨t624, A440, H⟩ := H
                                              replace H : (if t624 = true then (if (t610.length : Int) = 2 then ((laws_has.f kj37 t610 x13_2).bind fun t625 => (if t625 = true then (if (t604.length : Int) > 0 then (if 0 ≤ x13_2 then (if x13_2 < (t607.length : Int) then (laws_FnStrokes.j3 kj37 t603 t604 t607 t610 t613 t615 x12_37 x13_2 t620 ((rd t607 x13_2) == 0)) else (none)) else (none)) else (laws_FnStrokes.j3 kj37 t603 t604 t607 t610 t613 t615 x12_37 x13_2 t620 false)) else (none))) else (if (t604.length : Int) > 0 then (if 0 ≤ x13_2 then (if x13_2 < (t607.length : Int) then (laws_FnStrokes.j3 kj37 t603 t604 t607 t610 t613 t615 x12_37 x13_2 t620 ((rd t607 x13_2) == 0)) else (none)) else (none)) else (laws_FnStrokes.j3 kj37 t603 t604 t607 t610 t613 t615 x12_37 x13_2 t620 false))) else (none)) = some r := H
                                              have A44 := Aside0.mk A440
                                              clear A440
                                              by_cases c45 : t624 = true
                                              · subst c45
                                                have H1 : (if (t610.length : Int) = 2 then ((laws_has.f kj37 t610 x13_2).bind fun t625 => (if t625 = true then (if (t604.length : Int) > 0 then (if 0 ≤ x13_2 then (if x13_2 < (t607.length : Int) then (laws_FnStrokes.j3 kj37 t603 t604 t607 t610 t613 t615 x12_37 x13_2 t620 ((rd t607 x13_2) == 0)) else (none)) else (none)) else (laws_FnStrokes.j3 kj37 t603 t604 t607 t610 t613 t615 x12_37 x13_2 t620 false)) else (none))) else (if (t604.length : Int) > 0 then (if 0 ≤ x13_2 then (if x13_2 < (t607.length : Int) then (laws_FnStrokes.j3 kj37 t603 t604 t607 t610 t613 t615 x12_37 x13_2 t620 ((rd t607 x13_2) == 0)) else (none)) else (none)) else (laws_FnStrokes.j3 kj37 t603 t604 t607 t610 t613 t615 x12_37 x13_2 t620 false))) = some r := by rw [if_pos rfl] at H; exact H
                                                clear H
                                                have H := H1
                                                clear H1
                                                by_cases c46 : (t610.length : Int) = 2
                                                · rw [if_pos c46] at H
                                                  have c46b0 : ((t610.length : Int) == 2) = true := beq_iff_eq.mpr c46
                                                  have c46b1 : ((t610.length : Int) != 2) = false := bne_eq_false_iff_eq.mpr c46
                                                  clear c46
                                                  replace H := Option.bind_eq_some_iff.mp H
                                                  obtain ⟨t625, A470, H⟩ := H
                                                  replace H : (if t625 = true then (if (t604.length : Int) > 0 then (if 0 ≤ x13_2 then (if x13_2 < (t607.length : Int) then (laws_FnStrokes.j3 kj37 t603 t604 t607 t610 t613 t615 x12_37 x13_2 t620 ((rd t607 x13_2) == 0)) else (none)) else (none)) else (laws_FnStrokes.j3 kj37 t603 t604 t607 t610 t613 t615 x12_37 x13_2 t620 false)) else (none)) = some r := H
                                                  have A47 := Aside0.mk A470
                                                  clear A470
                                                  by_cases c48 : t625 = true
                                                  · subst c48
                                                    have H1 : (if (t604.length : Int) > 0 then (if 0 ≤ x13_2 then (if x13_2 < (t607.length : Int) then (laws_FnStrokes.j3 kj37 t603 t604 t607 t610 t613 t615 x12_37 x13_2 t620 ((rd t607 x13_2) == 0)) else (none)) else (none)) else (laws_FnStrokes.j3 kj37 t603 t604 t607 t610 t613 t615 x12_37 x13_2 t620 false)) = some r := by rw [if_pos rfl] at H; exact H
                                                    clear H
                                                    have H := H1
                                                    clear H1
                                                    by_cases c49 : (t604.length : Int) > 0
                                                    · rw [if_pos c49] at H
                                                      have c49b0 : decide (0 < (t604.length : Int)) = true := decide_eq_true c49
                                                      have c49b1 : decide (0 < t604.length) = true := decide_eq_true (by omega)
                                                      clear c49
                                                      by_cases c50 : 0 ≤ x13_2
                                                      · rw [if_pos c50] at H
                                                        have c50b0 : decide (0 ≤ x13_2) = true := decide_eq_true c50
                                                        clear c50
                                                        by_cases c51 : x13_2 < (t607.length : Int)
                                                        · rw [if_pos c51] at H
                                                          have c51b0 : decide (x13_2 < (t607.length : Int)) = true := decide_eq_true c51
                                                          clear c51
                                                          as_aux_lemma =>
                                                            have H' := Aside0.mk H
                                                            clear H
                                                            obtain ⟨Ao52, co52, eo52⟩ := Kd.R_slice HO_14.out
                                                            subst eo52
                                                            go_wp2_with (first | (go_at_call 20; (with_reducible refine (impl_IsStroke.calls kj37 t603 _ _ t604 x13_2 _ _ t620 true _ ?side1 ?side2 ?side3 ?side4 A44.out).mono ?_); (case side1 => repeat (first | exact (Kd.S_reads' HO_4.out).2.2 | (with_reducible refine Kd.C_alloc ?_ _) | (with_reducible refine Kd.C_drewN ?_ _) | (with_reducible refine Kd.C_drew ?_))); (case side2 => exact (Kd.S_reads' HO_4.out).2.1); (case side3 => repeat (first | exact (Kd.R_reads' HO_14.out).2.2 | (with_reducible refine Kd.C_alloc ?_ _) | (with_reducible refine Kd.C_drewN ?_ _) | (with_reducible refine Kd.C_drew ?_))); (case side4 => exact (Kd.R_reads' HO_14.out).2.1); rintro e w53 ⟨rfl, hb⟩; have n0_ := Aside0.mk (Kd.S_below (by (with_reducible repeat (first | apply Kd.S_alloc | apply Kd.S_drewN | apply Kd.S_drew)); exact HO_4.out) hb); have n1_ := Aside0.mk (Kd.R_below (by (with_reducible repeat (first | apply Kd.R_alloc | apply Kd.R_drewN | apply Kd.R_drew)); exact HO_5.out) hb); have n2_ := Aside0.mk (Kd.R_below (by (with_reducible repeat (first | apply Kd.R_alloc | apply Kd.R_drewN | apply Kd.R_drew)); exact HO_6.out) hb); have n3_ := Aside0.mk (Kd.R_below (by (with_reducible repeat (first | apply Kd.R_alloc | apply Kd.R_drewN | apply Kd.R_drew)); exact HO_14.out) hb); have n4_ := Aside0.mk (below_step (by repeat (first | (with_reducible first | exact HB.out | apply below_alloc | apply pw_below_drewN | apply below_drew1) | exact HB.out)) hb); clear HO_4; clear HO_5; clear HO_6; clear HO_14; clear HB; have HO_4 := n0_; have HO_5 := n1_; have HO_6 := n2_; have HO_14 := n3_; have HB := n4_; clear n0_ n1_ n2_ n3_ n4_; (try clear hb); (try clear hb2); (try clear hk); (try clear hi)) | (go_at_call 42; (with_reducible refine (laws_has.calls kj37 _ _ t610 x13_2 true _ ?side1 ?side2 A47.out).mono ?_); (case side1 => repeat (first | exact (Kd.R_reads' HO_6.out).2.2 | (with_reducible refine Kd.C_alloc ?_ _) | (with_reducible refine Kd.C_drewN ?_ _) | (with_reducible refine Kd.C_drew ?_))); (case side2 => exact (Kd.R_reads' HO_6.out).2.1); rintro e w' ⟨rfl, ⟨nd, rfl⟩⟩; have p626 : 0 ≤ (x13_2 : Int) := of_decide_eq_true (by first | (with_reducible assumption) | assumption); have q626 : x13_2 < (t607.length : Int) := of_decide_eq_true (by first | (with_reducible assumption) | assumption); obtain ⟨ad626, e626, hx626_0⟩ := Kd.at_int (Kd.R_reads' HO_5.out).2.2 x13_2 p626 q626; cases e626; replace p626 := eq_true p626; replace q626 := eq_true q626))
                                                            go_meet
                                                            case rel => exact ⟨_, (((rd t607 x13_2) == 0)), (by first | rfl | (simp; done) | (simp [*]; done)), H', ⟨by have := HK1.out; have := HK2.out; have := HJ37.out; first | omega | exact Nat.le_refl _⟩, ⟨by (with_reducible repeat (first | apply Kd.S_alloc | apply Kd.S_drewN | apply Kd.S_drew)); exact HO_4.out⟩, ⟨by (with_reducible repeat (first | apply Kd.R_alloc | apply Kd.R_drewN | apply Kd.R_drew)); exact HO_5.out⟩, ⟨by (with_reducible repeat (first | apply Kd.R_alloc | apply Kd.R_drewN | apply Kd.R_drew)); exact HO_6.out⟩, ⟨by (with_reducible repeat (first | apply Kd.R_alloc | apply Kd.R_drewN | apply Kd.R_drew)); exact HO_14.out⟩, ⟨by repeat (first | (with_reducible first | exact HB.out | apply below_alloc | apply pw_below_drewN | apply below_drew1) | exact HB.out)⟩⟩
                                                        · rw [if_neg c51] at H
                                                          exact absurd H (by simp)
                                                      · rw [if_neg c50] at H
                                                        exact absurd H (by simp)
                                                    · rw [if_neg c49] at H
                                                      have c49b0 : decide (0 < (t604.length : Int)) = false := decide_eq_false c49
                                                      have c49b1 : decide (0 < t604.length) = false := decide_eq_false (by omega)
                                                      clear c49
                                                      as_aux_lemma =>
                                                        have H' := Aside0.mk H
                                                        clear H
                                                        obtain ⟨Ao54, co54, eo54⟩ := Kd.R_slice HO_14.out
                                                        subst eo54
                                                        go_wp2_with (first | (go_at_call 20; (with_reducible refine (impl_IsStroke.calls kj37 t603 _ _ t604 x13_2 _ _ t620 true _ ?side1 ?side2 ?side3 ?side4 A44.out).mono ?_); (case side1 => repeat (first | exact (Kd.S_reads' HO_4.out).2.2 | (with_reducible refine Kd.C_alloc ?_ _) | (with_reducible refine Kd.C_drewN ?_ _) | (with_reducible refine Kd.C_drew ?_))); (case side2 => exact (Kd.S_reads' HO_4.out).2.1); (case side3 => repeat (first | exact (Kd.R_reads' HO_14.out).2.2 | (with_reducible refine Kd.C_alloc ?_ _) | (with_reducible refine Kd.C_drewN ?_ _) | (with_reducible refine Kd.C_drew ?_))); (case side4 => exact (Kd.R_reads' HO_14.out).2.1); rintro e w55 ⟨rfl, hb⟩; have n0_ := Aside0.mk (Kd.S_below (by (with_reducible repeat (first | apply Kd.S_alloc | apply Kd.S_drewN | apply Kd.S_drew)); exact HO_4.out) hb); have n1_ := Aside0.mk (Kd.R_below (by (with_reducible repeat (first | apply Kd.R_alloc | apply Kd.R_drewN | apply Kd.R_drew)); exact HO_5.out) hb); have n2_ := Aside0.mk (Kd.R_below (by (with_reducible repeat (first | apply Kd.R_alloc | apply Kd.R_drewN | apply Kd.R_drew)); exact HO_6.out) hb); have n3_ := Aside0.mk (Kd.R_below (by (with_reducible repeat (first | apply Kd.R_alloc | apply Kd.R_drewN | apply Kd.R_drew)); exact HO_14.out) hb); have n4_ := Aside0.mk (below_step (by repeat (first | (with_reducible first | exact HB.out | apply below_alloc | apply pw_below_drewN | apply below_drew1) | exact HB.out)) hb); clear HO_4; clear HO_5; clear HO_6; clear HO_14; clear HB; have HO_4 := n0_; have HO_5 := n1_; have HO_6 := n2_; have HO_14 := n3_; have HB := n4_; clear n0_ n1_ n2_ n3_ n4_; (try clear hb); (try clear hb2); (try clear hk); (try clear hi)) | (go_at_call 42; (with_reducible refine (laws_has.calls kj37 _ _ t610 x13_2 true _ ?side1 ?side2 A47.out).mono ?_); (case side1 => repeat (first | exact (Kd.R_reads' HO_6.out).2.2 | (with_reducible refine Kd.C_alloc ?_ _) | (with_reducible refine Kd.C_drewN ?_ _) | (with_reducible refine Kd.C_drew ?_))); (case side2 => exact (Kd.R_reads' HO_6.out).2.1); rintro e w' ⟨rfl, ⟨nd, rfl⟩⟩))
                                                        go_meet
                                                        case rel => exact ⟨_, (false), (by first | rfl | (simp; done) | (simp [*]; done)), H', ⟨by have := HK1.out; have := HK2.out; have := HJ37.out; first | omega | exact Nat.le_refl _⟩, ⟨by (with_reducible repeat (first | apply Kd.S_alloc | apply Kd.S_drewN | apply Kd.S_drew)); exact HO_4.out⟩, ⟨by (with_reducible repeat (first | apply Kd.R_alloc | apply Kd.R_drewN | apply Kd.R_drew)); exact HO_5.out⟩, ⟨by (with_reducible repeat (first | apply Kd.R_alloc | apply Kd.R_drewN | apply Kd.R_drew)); exact HO_6.out⟩, ⟨by (with_reducible repeat (first | apply Kd.R_alloc | apply Kd.R_drewN | apply Kd.R_drew)); exact HO_14.out⟩, ⟨by repeat (first | (with_reducible first | exact HB.out | apply below_alloc | apply pw_below_drewN | apply below_drew1) | exact HB.out)⟩⟩
                                                  · replace c48 := Bool.eq_false_iff.mpr c48
                                                    subst c48
                                                    have H1 : (none) = some r := by rw [if_neg (show ¬ (false = true) by decide)] at H; exact H
                                                    clear H
                                                    have H := H1
                                                    clear H1
                                                    exact absurd H (by simp)
                                                · rw [if_neg c46] at H
                                                  have c46b0 : ((t610.length : Int) == 2) = false := beq_eq_false_iff_ne.mpr c46
                                                  have c46b1 : ((t610.length : Int) != 2) = true := bne_iff_ne.mpr c46
                                                  by_cases c56 : (t604.length : Int) > 0
                                                  · rw [if_pos c56] at H
                                                    have c56b0 : decide (0 < (t604.length : Int)) = true := decide_eq_true c56
                                                    have c56b1 : decide (0 < t604.length) = true := decide_eq_true (by omega)
                                                    clear c56
                                                    by_cases c57 : 0 ≤ x13_2
                                                    · rw [if_pos c57] at H
                                                      have c57b0 : decide (0 ≤ x13_2) = true := decide_eq_true c57
                                                      clear c57
                                                      by_cases c58 : x13_2 < (t607.length : Int)
                                                      · rw [if_pos c58] at H
                                                        have c58b0 : decide (x13_2 < (t607.length : Int)) = true := decide_eq_true c58
                                                        clear c58
                                                        as_aux_lemma =>
                                                          have H' := Aside0.mk H
                                                          clear H
                                                          obtain ⟨Ao59, co59, eo59⟩ := Kd.R_slice HO_14.out
                                                          subst eo59
                                                          go_wp2_with (first | (go_at_call 20; (with_reducible refine (impl_IsStroke.calls kj37 t603 _ _ t604 x13_2 _ _ t620 true _ ?side1 ?side2 ?side3 ?side4 A44.out).mono ?_); (case side1 => repeat (first | exact (Kd.S_reads' HO_4.out).2.2 | (with_reducible refine Kd.C_alloc ?_ _) | (with_reducible refine Kd.C_drewN ?_ _) | (with_reducible refine Kd.C_drew ?_))); (case side2 => exact (Kd.S_reads' HO_4.out).2.1); (case side3 => repeat (first | exact (Kd.R_reads' HO_14.out).2.2 | (with_reducible refine Kd.C_alloc ?_ _) | (with_reducible refine Kd.C_drewN ?_ _) | (with_reducible refine Kd.C_drew ?_))); (case side4 => exact (Kd.R_reads' HO_14.out).2.1); rintro e w60 ⟨rfl, hb⟩; have n0_ := Aside0.mk (Kd.S_below (by (with_reducible repeat (first | apply Kd.S_alloc | apply Kd.S_drewN | apply Kd.S_drew)); exact HO_4.out) hb); have n1_ := Aside0.mk (Kd.R_below (by (with_reducible repeat (first | apply Kd.R_alloc | apply Kd.R_drewN | apply Kd.R_drew)); exact HO_5.out) hb); have n2_ := Aside0.mk (Kd.R_below (by (with_reducible repeat (first | apply Kd.R_alloc | apply Kd.R_drewN | apply Kd.R_drew)); exact HO_6.out) hb); have n3_ := Aside0.mk (Kd.R_below (by (with_reducible repeat (first | apply Kd.R_alloc | apply Kd.R_drewN | apply Kd.R_drew)); exact HO_14.out) hb); have n4_ := Aside0.mk (below_step (by repeat (first | (with_reducible first | exact HB.out | apply below_alloc | apply pw_below_drewN | apply below_drew1) | exact HB.out)) hb); clear HO_4; clear HO_5; clear HO_6; clear HO_14; clear HB; have HO_4 := n0_; have HO_5 := n1_; have HO_6 := n2_; have HO_14 := n3_; have HB := n4_; clear n0_ n1_ n2_ n3_ n4_; (try clear hb); (try clear hb2); (try clear hk); (try clear hi); have p627 : 0 ≤ (x13_2 : Int) := of_decide_eq_true (by first | (with_reducible assumption) | assumption); have q627 : x13_2 < (t607.length : Int) := of_decide_eq_true (by first | (with_reducible assumption) | assumption); obtain ⟨ad627, e627, hx627_0⟩ := Kd.at_int (Kd.R_reads' HO_5.out).2.2 x13_2 p627 q627; cases e627; replace p627 := eq_true p627; replace q627 := eq_true q627))
                                                          go_meet
                                                          case rel => exact ⟨_, (((rd t607 x13_2) == 0)), (by first | rfl | (simp; done) | (simp [*]; done)), H', ⟨by have := HK1.out; have := HK2.out; have := HJ37.out; first | omega | exact Nat.le_refl _⟩, ⟨by (with_reducible repeat (first | apply Kd.S_alloc | apply Kd.S_drewN | apply Kd.S_drew)); exact HO_4.out⟩, ⟨by (with_reducible repeat (first | apply Kd.R_alloc | apply Kd.R_drewN | apply Kd.R_drew)); exact HO_5.out⟩, ⟨by (with_reducible repeat (first | apply Kd.R_alloc | apply Kd.R_drewN | apply Kd.R_drew)); exact HO_6.out⟩, ⟨by (with_reducible repeat (first | apply Kd.R_alloc | apply Kd.R_drewN | apply Kd.R_drew)); exact HO_14.out⟩, ⟨by repeat (first | (with_reducible first | exact HB.out | apply below_alloc | apply pw_below_drewN | apply below_drew1) | exact HB.out)⟩⟩
                                                      · rw [if_neg c58] at H
                                                        exact absurd H (by simp)
                                                    · rw [if_neg c57] at H
                                                      exact absurd H (by simp)
                                                  · rw [if_neg c56] at H
                                                    have c56b0 : decide (0 < (t604.length : Int)) = false := decide_eq_false c56
                                                    have c56b1 : decide (0 < t604.length) = false := decide_eq_false (by omega)
                                                    clear c56
                                                    as_aux_lemma =>
                                                      have H' := Aside0.mk H
                                                      clear H
                                                      obtain ⟨Ao61, co61, eo61⟩ := Kd.R_slice HO_14.out
                                                      subst eo61
                                                      go_wp2_with (first | (go_at_call 20; (with_reducible refine (impl_IsStroke.calls kj37 t603 _ _ t604 x13_2 _ _ t620 true _ ?side1 ?side2 ?side3 ?side4 A44.out).mono ?_); (case side1 => repeat (first | exact (Kd.S_reads' HO_4.out).2.2 | (with_reducible refine Kd.C_alloc ?_ _) | (with_reducible refine Kd.C_drewN ?_ _) | (with_reducible refine Kd.C_drew ?_))); (case side2 => exact (Kd.S_reads' HO_4.out).2.1); (case side3 => repeat (first | exact (Kd.R_reads' HO_14.out).2.2 | (with_reducible refine Kd.C_alloc ?_ _) | (with_reducible refine Kd.C_drewN ?_ _) | (with_reducible refine Kd.C_drew ?_))); (case side4 => exact (Kd.R_reads' HO_14.out).2.1); rintro e w62 ⟨rfl, hb⟩; have n0_ := Aside0.mk (Kd.S_below (by (with_reducible repeat (first | apply Kd.S_alloc | apply Kd.S_drewN | apply Kd.S_drew)); exact HO_4.out) hb); have n1_ := Aside0.mk (Kd.R_below (by (with_reducible repeat (first | apply Kd.R_alloc | apply Kd.R_drewN | apply Kd.R_drew)); exact HO_5.out) hb); have n2_ := Aside0.mk (Kd.R_below (by (with_reducible repeat (first | apply Kd.R_alloc | apply Kd.R_drewN | apply Kd.R_drew)); exact HO_6.out) hb); have n3_ := Aside0.mk (Kd.R_below (by (with_reducible repeat (first | apply Kd.R_alloc | apply Kd.R_drewN | apply Kd.R_drew)); exact HO_14.out) hb); have n4_ := Aside0.mk (below_step (by repeat (first | (with_reducible first | exact HB.out | apply below_alloc | apply pw_below_drewN | apply below_drew1) | exact HB.out)) hb); clear HO_4; clear HO_5; clear HO_6; clear HO_14; clear HB; have HO_4 := n0_; have HO_5 := n1_; have HO_6 := n2_; have HO_14 := n3_; have HB := n4_; clear n0_ n1_ n2_ n3_ n4_; (try clear hb); (try clear hb2); (try clear hk); (try clear hi)))
                                                      go_meet
                                                      case rel => exact ⟨_, (false), (by first | rfl | (simp; done) | (simp [*]; done)), H', ⟨by have := HK1.out; have := HK2.out; have := HJ37.out; first | omega | exact Nat.le_refl _⟩, ⟨by (with_reducible repeat (first | apply Kd.S_alloc | apply Kd.S_drewN | apply Kd.S_drew)); exact HO_4.out⟩, ⟨by (with_reducible repeat (first | apply Kd.R_alloc | apply Kd.R_drewN | apply Kd.R_drew)); exact HO_5.out⟩, ⟨by (with_reducible repeat (first | apply Kd.R_alloc | apply Kd.R_drewN | apply Kd.R_drew)); exact HO_6.out⟩, ⟨by (with_reducible repeat (first | apply Kd.R_alloc | apply Kd.R_drewN | apply Kd.R_drew)); exact HO_14.out⟩, ⟨by repeat (first | (with_reducible first | exact HB.out | apply below_alloc | apply pw_below_drewN | apply below_drew1) | exact HB.out)⟩⟩
                                              · replace c45 := Bool.eq_false_iff.mpr c45
                                                subst c45
                                                have H1 : (none) = some r := by rw [if_neg (show ¬ (false = true) by decide)] at H; exact H
                                                clear H
                                                have H := H1
                                                clear H1
                                                exact absurd H (by simp)
                                            · rw [if_neg c43] at H
                                              exact absurd H (by simp)
                                          case rest =>
                                            clear HC42
                                            try clear c1
                                            try clear c2
                                            try clear c2b0
                                            try clear c2b1
                                            try clear p2
                                            try clear c3
                                            try clear c4
                                            try clear c5
                                            try clear p6
                                            try clear q6
                                            try clear hx6
                                            try clear c10
                                            try clear c11
                                            try clear c11b0
                                            try clear c11b1
                                            try clear c12
                                            try clear c13
                                            try clear c13b0
                                            try clear c13b1
                                            try clear c14
                                            try clear c14b0
                                            try clear c14b1
                                            try clear c15
                                            try clear c15b0
                                            try clear c16
                                            try clear c16b0
                                            try clear c17
                                            try clear c17b0
                                            try clear c18
                                            try clear c18b0
                                            try clear c19
                                            try clear c19b0
                                            try clear c19b1
                                            try clear c19b2
                                            try clear c20
                                            try clear c20b0
                                            try clear c20b1
                                            try clear c20b2
                                            try clear c23
                                            try clear c28
                                            try clear c31
                                            try clear c31b0
                                            try clear c32
                                            try clear c32b0
                                            try clear c33
                                            try clear c33b0
                                            try clear c35
                                            try clear c35b0
                                            try clear c35b1
                                            try clear c35b2
                                            try clear c36
                                            try clear c36b0
                                            try clear c37
                                            try clear c39
                                            try clear c40
                                            try clear c41
                                            try clear c42
                                            try clear c43
                                            try clear c43b0
                                            try clear c43b1
                                            try clear c43b2
                                            try clear c45
                                            try clear c46
                                            try clear c46b0
                                            try clear c46b1
                                            try clear c48
                                            try clear c49
                                            try clear c49b0
                                            try clear c49b1
                                            try clear c50
                                            try clear c50b0
                                            try clear c51
                                            try clear c51b0
                                            try clear c56
                                            try clear c56b0
                                            try clear c56b1
                                            try clear c57
                                            try clear c57b0
                                            try clear c58
                                            try clear c58b0
                                            try clear p61
                                            try clear q61
                                            try clear hx61
                                            try clear p62
                                            try clear q62
                                            try clear hx62
                                            try clear hx618_0
                                            try clear hx626_0
                                            try clear hx627_0
                                            try clear p2
                                            try clear p6
                                            try clear p618
                                            try clear p626
                                            try clear p627
                                            try clear q6
                                            try clear q618
                                            try clear q626
                                            try clear q627
                                            obtain ⟨kq, x172_41, rfl, HA, HJ41, HO_4, HO_5, HO_6, HO_14, HB⟩ := hcut
                                            cases kq with
                                            | zero => exact absurd HA.out (by simp [laws_FnStrokes.j3])
                                            | succ kj41 =>
                                              have H := HA.out
                                              clear HA
                                              simp only [laws_FnStrokes.j3] at H
                                              by_cases c63 : x172_41 = true
                                              · subst c63
                                                have H1 : (none) = some r := by rw [if_pos rfl] at H; exact H
                                                clear H
                                                have H := H1
                                                clear H1
                                                exact absurd H (by simp)
                                              · replace c63 := Bool.eq_false_iff.mpr c63
                                                subst c63
                                                have H1 : ((STROKEX.f kj41 t603 t604 x13_2 t620).bind fun t628 => (if t628 = true then (none) else (laws_FnStrokes.l1 kj41 t603 t604 t607 t610 t613 t615 x12_37 (wrap64 (x13_2 + 1))))) = some r := by rw [if_neg (show ¬ (false = true) by decide)] at H; exact H
                                                clear H
                                                have H := H1
                                                clear H1
                                                replace H := Option.bind_eq_some_iff.mp H
                                                obtain ⟨t628, A640, H⟩ := H
                                                replace H : (if t628 = true then (none) else (laws_FnStrokes.l1 kj41 t603 t604 t607 t610 t613 t615 x12_37 (wrap64 (x13_2 + 1)))) = some r := H
                                                have A64 := Aside0.mk A640
                                                clear A640
                                                by_cases c65 : t628 = true
                                                · subst c65
                                                  have H1 : (none) = some r := by rw [if_pos rfl] at H; exact H
                                                  clear H
                                                  have H := H1
                                                  clear H1
                                                  exact absurd H (by simp)
                                                · replace c65 := Bool.eq_false_iff.mpr c65
                                                  subst c65
                                                  have H1 : (laws_FnStrokes.l1 kj41 t603 t604 t607 t610 t613 t615 x12_37 (wrap64 (x13_2 + 1))) = some r := by rw [if_neg (show ¬ (false = true) by decide)] at H; exact H
                                                  clear H
                                                  have H := H1
                                                  clear H1
                                                  as_aux_lemma =>
                                                    have H' := Aside0.mk H
                                                    clear H
                                                    obtain ⟨Ao66, co66, eo66⟩ := Kd.R_slice HO_14.out
                                                    subst eo66
                                                    have hx := strokex_inv A64.out
                                                    go_upto_region 26 with (fail)
                                                    go_cut [201] (fun v201 wd => v201 = .bool false ∧ Aside0 (Below wc.heap.size wc wd))
                                                    case first =>
                                                      rcases hx with ⟨hz, hlt, h1, h2⟩ | hz
                                                      · obtain ⟨g, cap, eA, _⟩ := Kd.R_form HO_14.out hz
                                                        injection eA with eA _ eC
                                                        subst eA eC
                                                        have hc : wc.cell? ⟨g, 0, none⟩ = some (.int .i64 (rd t620 0)) := (Kd.R_celln 0 HO_14.out 0 (by omega) (by omega)).1
                                                        have H1 := Aside0.mk h1
                                                        have H2 := Aside0.mk h2
                                                        have HLT := Aside0.mk hlt
                                                        have HSC := Aside0.mk (Kd.S_reads' HO_4.out).2.2
                                                        have HSL := Aside0.mk (Kd.S_reads' HO_4.out).2.1
                                                        have HCS := Aside0.mk (Kd.R_reads' HO_14.out).2.2
                                                        have hcc := (Kd.R_reads' HO_14.out).2.1
                                                        have hlt2 : (t620.take (t620.length - 1)).length = t620.length - 1 := by rw [List.length_take]; omega
                                                        have ht := Kd.R_take HO_14.out (m := (t620.take (t620.length - 1)).length) (by omega)
                                                        rw [show t620.take (t620.take (t620.length - 1)).length = t620.take (t620.length - 1) by rw [hlt2]] at ht
                                                        have HCT := Aside0.mk (Kd.R_reads' ht).2.2
                                                        have HCL := Aside0.mk (Kd.R_reads' ht).2.1
                                                        have HC1 : Aside0 (∀ W, Below wc.heap.size wc W → Calls Try.prog 20 #[.int .i64 t603, .slice Ao22 t604.length co22, .int .i64 x13_2, .slice (some ⟨g, 0, none⟩) (t620.length - 1) co66] W fun e w' => e = .returned (.bool true) ∧ Below W.heap.size W w') := ⟨fun W hb => by
                                                          have hq_ := impl_IsStroke.calls kj41 t603 Ao22 co22 t604 x13_2 _ co66 (t620.take (t620.length - 1)) true W (Kd.C_below HSC.out hb) HSL.out (Kd.C_below HCT.out hb) HCL.out H1.out
                                                          rw [hlt2] at hq_
                                                          exact hq_⟩
                                                        obtain ⟨i0, hi0, _, hsz, _⟩ := info_parts info3
                                                        have hcut := cut_to (P := Try.prog) 27 3 .i64 Try.underlying27 hi0 (some ⟨g, 0, none⟩) t620.length co66 ((t620.length : Int) - 1) (by omega) (by omega) hcc
                                                        rw [show ((t620.length : Int) - 1).toNat = (t620.take (t620.length - 1)).length by omega] at hcut
                                                        have hw1 : IntKind.i64.wrap ((t620.length : Int) - 1) = (t620.length : Int) - 1 := by rw [IntKind.wrap_i64]; omega
                                                        have p1 : (0 < (t620.length : Int)) = True := eq_true (by omega)
                                                        have p2 : (0 < t620.length) = True := eq_true hz
                                                        have p3 : decide (0 < (t620.length : Int)) = true := decide_eq_true (by omega)
                                                        have HBW : Aside0 (Below wc.heap.size wc wc.drew) := ⟨below_drew (Below.refl _ _)⟩
                                                        clear ht hcc hi0 hsz hlt2 h1 h2 hlt
                                                        go_region_held3 (fun w' => w'.cell? ⟨g, 0, none⟩ = some (.int .i64 (rd t620 0)))
                                                          (first | exact hc | exact (HBW.out.cell (World.block_lt_of_cell? wc _ hc)).trans hc | exact ((HBW.out.alloc HBW.out.size _).cell (World.block_lt_of_cell? wc _ hc)).trans hc | exact (((HBW.out.alloc HBW.out.size _).alloc (HBW.out.alloc HBW.out.size _).size _).cell (World.block_lt_of_cell? wc _ hc)).trans hc)
                                                          (first
                                                            | (have h198_ := H198.out; go_simp; go_at_call 20; have hq_ := impl_IsStroke.calls kj41 t603 Ao22 co22 t604 x13_2 A8 c8 (t620 ++ [rd t620 0]) false w5 (Kd.C_below HSC.out HBW.out) HSL.out (Kd.R_reads' h198_).2.2 (by have := (Kd.R_reads' h198_).2.1; simpa using this) H2.out; rw [show (t620 ++ [rd t620 0]).length = t620.length + 1 by simp] at hq_; refine hq_.mono ?_; rintro e w9 ⟨rfl, hb9⟩; replace HBW := Aside0.mk (below_then HBW.out HBW.out.size hb9); clear hb9 hq_ h198_)
                                                            | (go_simp; go_at_call 20; refine (HC1.out _ HBW.out).mono ?_; rintro e w1 ⟨rfl, hb1⟩; replace HBW := Aside0.mk (below_then HBW.out HBW.out.size hb1); clear hb1)
                                                            | (refine Kd.R_append_rows_step (Kd.int .i64) (w0 := wc) wc.heap.size (by rfl) (.tmp 191) (.tmp 192) 27 3 (.int .i64 0) 8 (by rfl) Try.underlying27 info3 (by rfl) (by decide) (by omega) _ ([] : List Int) t620 _ _ _ (fun _ => True) (fun _ => False) (by rfl) (by rfl) ?aO ?aR (fun _ _ h => h) (fun _ h => h.elim) (fun _ _ => trivial) ?aB ?aS ?aL ?_; (case aO => first | exact sx_row0 (sx_new w1 _) HBW.out.size | exact sx_row0 (blk_alloc (sx_new w1 _) _) HBW.out.size | exact sx_row0 (sx_new1 w1 _ _) (Nat.le_succ_of_le HBW.out.size)); (case aR => first | exact Kd.C_below HCS.out (HBW.out.alloc HBW.out.size _) | exact Kd.C_below HCS.out ((HBW.out.alloc HBW.out.size _).alloc (HBW.out.alloc HBW.out.size _).size _)); (case aB => first | exact HBW.out.alloc HBW.out.size _ | exact (HBW.out.alloc HBW.out.size _).alloc (HBW.out.alloc HBW.out.size _).size _); (case aS => first | exact (HBW.out.alloc HBW.out.size _).size | exact ((HBW.out.alloc HBW.out.size _).alloc (HBW.out.alloc HBW.out.size _).size _).size); (case aL => have := HLT.out; simp; omega); intro v193 w4 ho4 hb4 hg4 hat4; (first | (have B197 : w4.heap[w1.heap.size + 1]? = some (.cells #[.int .i64 (rd t620 0)] 3 (0, 0)) := blk_grown (row := some w1.heap.size) (sx_new1 w1 _ _) hg4 (by simp)) | (have B197 : w4.heap[w1.heap.size]? = some (.cells #[.int .i64 (rd t620 0)] 3 (0, 0)) := blk_grown (row := some (w1.heap.size + 1)) (blk_alloc (sx_new w1 _) _) hg4 (by simp)) | skip); have H193 := Aside0.mk ho4; replace HBW := Aside0.mk hb4; clear ho4 hb4 hg4 hat4)
                                                            | (refine Kd.R_append_rows_step (Kd.int .i64) (w0 := wc) wc.heap.size (by rfl) (.tmp 193) (.tmp 197) 27 3 (.int .i64 0) 8 (by rfl) Try.underlying27 info3 (by rfl) (by decide) (by omega) v193 ([] ++ t620) [rd t620 0] _ _ _ (fun _ => True) (fun _ => False) (by rfl) (by rfl) ?aO ?aR (fun _ _ h => h) (fun _ h => h.elim) (fun _ _ => trivial) ?aB ?aS ?aL ?_; (case aO => first | exact H193.out | exact Kd.R_alloc H193.out _); (case aR => first | exact sx_one B197 | exact sx_one (sx_new w4 _)); (case aB => first | exact HBW.out | exact HBW.out.alloc HBW.out.size _); (case aS => first | exact HBW.out.size | exact (HBW.out.alloc HBW.out.size _).size); (case aL => have := HLT.out; simp; omega); intro v198 w5 ho5 hb5 hg5 hat5; rw [List.nil_append] at ho5; obtain ⟨A8, c8, rfl⟩ := Kd.R_slice ho5; rw [show (t620 ++ [rd t620 0]).length = t620.length + 1 by simp] at ho5 ⊢; have H198 := Aside0.mk ho5; replace HBW := Aside0.mk hb5; clear ho5 hb5 hg5 hat5))
                                                        all_goals
                                                          (try go_wp2)
                                                          go_meet
                                                          case rel => exact ⟨rfl, HBW⟩
                                                      · have p1 : decide (0 < (t620.length : Int)) = false := decide_eq_false (by omega)
                                                        have p2 : decide (0 < t620.length) = false := decide_eq_false (by omega)
                                                        clear hz
                                                        go_quiet (fail)
                                                        (try go_wp2)
                                                        go_meet
                                                        case rel => exact ⟨rfl, ⟨pw_below_drewN (Below.refl _ _) _⟩⟩
                                                    case rest =>
                                                      obtain ⟨rfl, HX⟩ := hcut
                                                      have hb := HX.out
                                                      clear HX hx
                                                      (have n0_ := Aside0.mk (Kd.S_below (by (with_reducible repeat (first | apply Kd.S_alloc | apply Kd.S_drewN | apply Kd.S_drew)); exact HO_4.out) hb); have n1_ := Aside0.mk (Kd.R_below (by (with_reducible repeat (first | apply Kd.R_alloc | apply Kd.R_drewN | apply Kd.R_drew)); exact HO_5.out) hb); have n2_ := Aside0.mk (Kd.R_below (by (with_reducible repeat (first | apply Kd.R_alloc | apply Kd.R_drewN | apply Kd.R_drew)); exact HO_6.out) hb); have n3_ := Aside0.mk (Kd.R_below (by (with_reducible repeat (first | apply Kd.R_alloc | apply Kd.R_drewN | apply Kd.R_drew)); exact HO_14.out) hb); have n4_ := Aside0.mk (below_step (by repeat (first | (with_reducible first | exact HB.out | apply below_alloc | apply pw_below_drewN | apply below_drew1) | exact HB.out)) hb); clear HO_4; clear HO_5; clear HO_6; clear HO_14; clear HB; have HO_4 := n0_; have HO_5 := n1_; have HO_6 := n2_; have HO_14 := n3_; have HB := n4_; clear n0_ n1_ n2_ n3_ n4_; (try clear hb); (try clear hb2); (try clear hk); (try clear hi))
                                                      go_wp2
                                                      go_roundg kj41
                                                      case measure => have := HK1.out; have := HK2.out; have := HJ37.out; have := HJ41.out; omega
                                                      case rel => exact ⟨(x12_37), (wrap64 (x13_2 + 1)), (by first | rfl | (simp; done) | (simp [*]; done)), (by first | rfl | (simp; done) | (simp [*]; done)), H', ⟨by have := HK1.out; have := HK2.out; have := HJ37.out; have := HJ41.out; omega⟩, ⟨by (with_reducible repeat (first | apply Kd.S_alloc | apply Kd.S_drewN | apply Kd.S_drew)); exact Kd.S_mono HO_4.out (fun _ hk => ⟨hk.1, hk.2.1⟩)⟩, ⟨by (with_reducible repeat (first | apply Kd.R_alloc | apply Kd.R_drewN | apply Kd.R_drew)); exact Kd.R_mono HO_5.out (fun _ hk => hk.1)⟩, ⟨by (with_reducible repeat (first | apply Kd.R_alloc | apply Kd.R_drewN | apply Kd.R_drew)); exact Kd.R_mono HO_6.out (fun _ hk => hk.1)⟩, ⟨by repeat (first | (with_reducible first | exact HB.out | apply below_alloc | apply pw_below_drewN | apply below_drew1) | exact HB.out)⟩⟩
                                        · replace c41 := Bool.eq_false_iff.mpr c41
                                          subst c41
                                          have H1 : (laws_FnStrokes.l1 kj37 t603 t604 t607 t610 t613 t615 x12_37 (wrap64 (x13_2 + 1))) = some r := by rw [if_neg (show ¬ (false = true) by decide)] at H; exact H
                                          clear H
                                          have H := H1
                                          clear H1
                                          as_aux_lemma =>
                                            have H' := Aside0.mk H
                                            clear H
                                            go_wp2
                                            go_roundg kj37
                                            case measure => have := HK1.out; have := HK2.out; have := HJ37.out; omega
                                            case rel => exact ⟨(x12_37), (wrap64 (x13_2 + 1)), (by first | rfl | (simp; done) | (simp [*]; done)), (by first | rfl | (simp; done) | (simp [*]; done)), H', ⟨by have := HK1.out; have := HK2.out; have := HJ37.out; omega⟩, ⟨by (with_reducible repeat (first | apply Kd.S_alloc | apply Kd.S_drewN | apply Kd.S_drew)); exact Kd.S_mono HO_4.out (fun _ hk => ⟨hk.1, hk.2.1⟩)⟩, ⟨by (with_reducible repeat (first | apply Kd.R_alloc | apply Kd.R_drewN | apply Kd.R_drew)); exact Kd.R_mono HO_5.out (fun _ hk => hk.1)⟩, ⟨by (with_reducible repeat (first | apply Kd.R_alloc | apply Kd.R_drewN | apply Kd.R_drew)); exact Kd.R_mono HO_6.out (fun _ hk => hk.1)⟩, ⟨by repeat (first | (with_reducible first | exact HB.out | apply below_alloc | apply pw_below_drewN | apply below_drew1) | exact HB.out)⟩⟩
                                  · rw [if_neg c36] at H
                                    have c36b0 : decide (x13_2 < t603) = false := decide_eq_false c36
                                    clear c36
                                    by_cases c68 : (x12_2 != t615) = true
                                    · rw [if_pos c68] at H
                                      exact absurd H (by simp)
                                    · rw [if_neg c68] at H
                                      have c68b0 : (x12_2 != t615) = false := by simpa using c68
                                      (try (have c68b1 : decide (x12_2 = t615) = true := by simpa using c68))
                                      (try (have c68b2 : (x12_2 == t615) = true := by simpa using c68))
                                      clear c68
                                      have HC69 := Aside0.mk H
                                      clear H
                                      go_upto_region 30 with (fail)
                                      go_cut [212] (fun v212 wc => ∃ (kq : Nat) (x212_68 : Bool), v212 = .bool x212_68 ∧ Aside0 (laws_FnStrokes.j4 kq t603 t604 t610 t613 x212_68 = some r) ∧ Aside0 (kq ≤ k2) ∧ Aside0 (Kd.S (Kd.slice 3 (Kd.int .i64)) 27 wc w.heap.size (fun k_ => some k_ ≠ ((.slice Ao30 t610.length co30) : Value).ownBlock) (.slice Ao22 t604.length co22) t604) ∧ Aside0 (Kd.R (Kd.int .i64) 3 wc w.heap.size (fun _ => True) (.slice Ao30 t610.length co30) t610) ∧ Aside0 (Below w.heap.size w wc))
                                      case first =>
                                        have H := HC69.out
                                        clear HC69
                                        by_cases c70 : (t610.length : Int) < 2
                                        · rw [if_pos c70] at H
                                          have c70b0 : decide ((t610.length : Int) < 2) = true := decide_eq_true c70
                                          have c70b1 : decide (t610.length < 2) = true := decide_eq_true (by omega)
                                          clear c70
                                          (first | rw [c70b0] | (simp only [i64_w, i32_w]; rw [c70b0]) | skip)
                                          as_aux_lemma =>
                                            have H' := Aside0.mk H
                                            clear H
                                            go_wp2
                                            go_meet
                                            case rel => exact ⟨_, (true), (by first | rfl | (simp; done) | (simp [*]; done)), H', ⟨by have := HK1.out; have := HK2.out; first | omega | exact Nat.le_refl _⟩, ⟨by (with_reducible repeat (first | apply Kd.S_alloc | apply Kd.S_drewN | apply Kd.S_drew)); exact Kd.S_mono HO_4.out (fun _ hk => hk.2)⟩, ⟨by (with_reducible repeat (first | apply Kd.R_alloc | apply Kd.R_drewN | apply Kd.R_drew)); exact Kd.R_mono HO_6.out (fun _ hk => trivial)⟩, ⟨by repeat (first | (with_reducible first | exact HB.out | apply below_alloc | apply pw_below_drewN | apply below_drew1) | exact HB.out)⟩⟩
                                        · rw [if_neg c70] at H
                                          have c70b0 : decide ((t610.length : Int) < 2) = false := decide_eq_false c70
                                          have c70b1 : decide (t610.length < 2) = false := decide_eq_false (by omega)
                                          clear c70
                                          (first | rw [c70b0] | (simp only [i64_w, i32_w]; rw [c70b0]) | skip)
                                          as_aux_lemma =>
                                            have H' := Aside0.mk H
                                            clear H
                                            go_wp2
                                            go_meet
                                            case rel => exact ⟨_, (((t604.length : Int) == 12)), (by first | rfl | (simp; done) | (simp [*]; done)), H', ⟨by have := HK1.out; have := HK2.out; first | omega | exact Nat.le_refl _⟩, ⟨by (with_reducible repeat (first | apply Kd.S_alloc | apply Kd.S_drewN | apply Kd.S_drew)); exact Kd.S_mono HO_4.out (fun _ hk => hk.2)⟩, ⟨by (with_reducible repeat (first | apply Kd.R_alloc | apply Kd.R_drewN | apply Kd.R_drew)); exact Kd.R_mono HO_6.out (fun _ hk => trivial)⟩, ⟨by repeat (first | (with_reducible first | exact HB.out | apply below_alloc | apply pw_below_drewN | apply below_drew1) | exact HB.out)⟩⟩
                                      case rest =>
                                        clear HC69
                                        try clear c1
                                        try clear c2
                                        try clear c2b0
                                        try clear c2b1
                                        try clear p2
                                        try clear c3
                                        try clear c4
                                        try clear c5
                                        try clear c6
                                        try clear p6
                                        try clear q6
                                        try clear hx6
                                        try clear c7
                                        try clear c9
                                        try clear c10
                                        try clear c11
                                        try clear c11b0
                                        try clear c11b1
                                        try clear c12
                                        try clear c13
                                        try clear c13b0
                                        try clear c13b1
                                        try clear c14
                                        try clear c14b0
                                        try clear c14b1
                                        try clear c15
                                        try clear c15b0
                                        try clear c16
                                        try clear c16b0
                                        try clear c17
                                        try clear c17b0
                                        try clear c18
                                        try clear c18b0
                                        try clear c19
                                        try clear c19b0
                                        try clear c19b1
                                        try clear c19b2
                                        try clear c20
                                        try clear c20b0
                                        try clear c20b1
                                        try clear c20b2
                                        try clear c23
                                        try clear c28
                                        try clear c31
                                        try clear c31b0
                                        try clear c32
                                        try clear c32b0
                                        try clear c33
                                        try clear c33b0
                                        try clear c35
                                        try clear c35b0
                                        try clear c35b1
                                        try clear c35b2
                                        try clear c36
                                        try clear c36b0
                                        try clear c37
                                        try clear c39
                                        try clear c40
                                        try clear c41
                                        try clear c42
                                        try clear c43
                                        try clear c43b0
                                        try clear c43b1
                                        try clear c43b2
                                        try clear c45
                                        try clear c46
                                        try clear c46b0
                                        try clear c46b1
                                        try clear c48
                                        try clear c49
                                        try clear c49b0
                                        try clear c49b1
                                        try clear c50
                                        try clear c50b0
                                        try clear c51
                                        try clear c51b0
                                        try clear c56
                                        try clear c56b0
                                        try clear c56b1
                                        try clear c57
                                        try clear c57b0
                                        try clear c58
                                        try clear c58b0
                                        try clear p61
                                        try clear q61
                                        try clear hx61
                                        try clear p62
                                        try clear q62
                                        try clear hx62
                                        try clear c63
                                        try clear p64
                                        try clear c65
                                        try clear c68
                                        try clear c68b0
                                        try clear c68b1
                                        try clear c68b2
                                        try clear c70
                                        try clear c70b0
                                        try clear c70b1
                                        try clear hx618_0
                                        try clear hx626_0
                                        try clear hx627_0
                                        try clear p2
                                        try clear p6
                                        try clear p61
                                        try clear p618
                                        try clear p62
                                        try clear p626
                                        try clear p627
                                        try clear q6
                                        try clear q61
                                        try clear q618
                                        try clear q62
                                        try clear q626
                                        try clear q627
                                        obtain ⟨kq, x212_68, rfl, HA, HJ68, HO_4, HO_6, HB⟩ := hcut
                                        cases kq with
                                        | zero => exact absurd HA.out (by simp [laws_FnStrokes.j4])
                                        | succ kj68 =>
                                          have H := HA.out
                                          clear HA
                                          simp only [laws_FnStrokes.j4] at H
                                          by_cases c71 : x212_68 = true
                                          · subst c71
                                            have H1 : (some true) = some r := by rw [if_pos rfl] at H; exact H
                                            clear H
                                            have H := H1
                                            clear H1
                                            as_aux_lemma =>
                                              obtain rfl := Option.some.inj H
                                              go_wp2
                                              go_ret
                                              exact ⟨by first | rfl | (simp [errW_none, errW_some] <;> rfl) | (simp [*, errW_none, errW_some] <;> rfl), by repeat (first | (with_reducible first | exact HB.out | apply below_alloc | apply pw_below_drewN | apply below_drew1) | exact HB.out)⟩
                                          · replace c71 := Bool.eq_false_iff.mpr c71
                                            subst c71
                                            have H1 : (if 0 < (t610.length : Int) then (if 1 < (t610.length : Int) then ((impl_WithLine.f kj68 t603 t604 (rd t610 0) (rd t610 1)).bind fun bt631 => (if bt631.2 = true then (if (bt631.1.length : Int) = (wrap64 ((t604.length : Int) + 1)) then ((impl_OddPoints.f kj68 t603 bt631.1).bind fun t635 => (if (t635.length : Int) = (wrap64 ((t610.length : Int) - 2)) then ((impl_StrokesNeeded.f kj68 t603 bt631.1).bind fun t638 => (some (decide (t638 ≤ t613)))) else (none))) else (none)) else (none))) else (none)) else (none)) = some r := by rw [if_neg (show ¬ (false = true) by decide)] at H; exact H
                                            clear H
                                            have H := H1
                                            clear H1
                                            by_cases c72 : 0 < (t610.length : Int)
                                            · rw [if_pos c72] at H
                                              have c72b0 : decide (0 < (t610.length : Int)) = true := decide_eq_true c72
                                              have c72b1 : decide (0 < t610.length) = true := decide_eq_true (by omega)
                                              clear c72
                                              by_cases c73 : 1 < (t610.length : Int)
                                              · rw [if_pos c73] at H
                                                have c73b0 : decide (1 < (t610.length : Int)) = true := decide_eq_true c73
                                                have c73b1 : decide (1 < t610.length) = true := decide_eq_true (by omega)
                                                clear c73
                                                replace H := Option.bind_eq_some_iff.mp H
                                                obtain ⟨⟨t631, t632⟩, A740, H⟩ := H
                                                replace H : (if t632 = true then (if (t631.length : Int) = (wrap64 ((t604.length : Int) + 1)) then ((impl_OddPoints.f kj68 t603 t631).bind fun t635 => (if (t635.length : Int) = (wrap64 ((t610.length : Int) - 2)) then ((impl_StrokesNeeded.f kj68 t603 t631).bind fun t638 => (some (decide (t638 ≤ t613)))) else (none))) else (none)) else (none)) = some r := H
                                                have A74 := Aside0.mk A740
                                                clear A740
                                                by_cases c75 : t632 = true
                                                · subst c75
                                                  have H1 : (if (t631.length : Int) = (wrap64 ((t604.length : Int) + 1)) then ((impl_OddPoints.f kj68 t603 t631).bind fun t635 => (if (t635.length : Int) = (wrap64 ((t610.length : Int) - 2)) then ((impl_StrokesNeeded.f kj68 t603 t631).bind fun t638 => (some (decide (t638 ≤ t613)))) else (none))) else (none)) = some r := by rw [if_pos rfl] at H; exact H
                                                  clear H
                                                  have H := H1
                                                  clear H1
                                                  by_cases c76 : (t631.length : Int) = (wrap64 ((t604.length : Int) + 1))
                                                  · rw [if_pos c76] at H
                                                    have c76b0 : ((t631.length : Int) == (wrap64 ((t604.length : Int) + 1))) = true := beq_iff_eq.mpr c76
                                                    have c76b1 : ((t631.length : Int) != (wrap64 ((t604.length : Int) + 1))) = false := bne_eq_false_iff_eq.mpr c76
                                                    clear c76
                                                    replace H := Option.bind_eq_some_iff.mp H
                                                    obtain ⟨t635, A770, H⟩ := H
                                                    replace H : (if (t635.length : Int) = (wrap64 ((t610.length : Int) - 2)) then ((impl_StrokesNeeded.f kj68 t603 t631).bind fun t638 => (some (decide (t638 ≤ t613)))) else (none)) = some r := H
                                                    have A77 := Aside0.mk A770
                                                    clear A770
                                                    by_cases c78 : (t635.length : Int) = (wrap64 ((t610.length : Int) - 2))
                                                    · rw [if_pos c78] at H
                                                      have c78b0 : ((t635.length : Int) == (wrap64 ((t610.length : Int) - 2))) = true := beq_iff_eq.mpr c78
                                                      have c78b1 : ((t635.length : Int) != (wrap64 ((t610.length : Int) - 2))) = false := bne_eq_false_iff_eq.mpr c78
                                                      clear c78
                                                      replace H := Option.bind_eq_some_iff.mp H
                                                      obtain ⟨t638, A790, H⟩ := H
                                                      replace H : (some (decide (t638 ≤ t613))) = some r := H
                                                      have A79 := Aside0.mk A790
                                                      clear A790
                                                      as_aux_lemma =>
                                                        obtain rfl := Option.some.inj H
                                                        try go_wp2
                                                        have n0_ := Aside0.mk (Kd.S_drew HO_4.out)
                                                        have n1_ := Aside0.mk (Kd.R_drew HO_6.out)
                                                        have n2_ := Aside0.mk (below_drew1 HB.out)
                                                        clear HO_4
                                                        clear HO_6
                                                        clear HB
                                                        have HO_4 := n0_
                                                        have HO_6 := n1_
                                                        have HB := n2_
                                                        clear n0_ n1_ n2_
                                                        have p629 : 0 ≤ (0 : Int) := (by omega)
                                                        have q629 : 0 < (t610.length : Int) := of_decide_eq_true (by first | (with_reducible assumption) | assumption)
                                                        obtain ⟨ad629, e629, hx629_0⟩ := Kd.at_int (Kd.R_reads' HO_6.out).2.2 0 p629 q629
                                                        cases e629
                                                        have qi629 : (0 < t610.length) = True := eq_true (by omega)
                                                        (try rw [show ((0 : Int)).toNat = 0 from rfl] at hx629_0)
                                                        (try rw [Addr.add_zero'] at hx629_0)
                                                        replace p629 := eq_true p629
                                                        replace q629 := eq_true q629
                                                        have p630 : 0 ≤ (1 : Int) := (by omega)
                                                        have q630 : 1 < (t610.length : Int) := of_decide_eq_true (by first | (with_reducible assumption) | assumption)
                                                        obtain ⟨ad630, e630, hx630_0⟩ := Kd.at_int (Kd.R_reads' HO_6.out).2.2 1 p630 q630
                                                        obtain rfl : ad629 = ad630 := (by injection e630)
                                                        (try simp only [show (1 : Int).toNat = 1 from rfl, Nat.reduceMul, Nat.reduceEqDiff, Go.Addr.add, ↓reduceIte] at hx630_0)
                                                        have qi630 : (1 < t610.length) = True := eq_true (by omega)
                                                        (try rw [show ((1 : Int)).toNat = 1 from rfl] at hx630_0)
                                                        replace p630 := eq_true p630
                                                        replace q630 := eq_true q630
                                                        refine start_ (n := 14) (S := fun w' => w'.cell? ad629 = some (.int .i64 (rd t610 0)) ∧ w'.cell? ⟨ad629.block, ad629.off + 1, none⟩ = some (.int .i64 (rd t610 1))) (ds := []) #[false, false, false, false, false, false, false, false, false, false, false, false, false, false] (by kernel_rfl) rfl rfl ⟨hx629_0, hx630_0⟩ (fun hHeld => ?_); refine with_tabW laws_FnStrokes.tab32 laws_FnStrokes.bits32 (fun HT_ HW_ => ?_)
                                                        generalize wc.drew = w80 at HO_4 HO_6 HB hx629_0 hx630_0 hHeld ⊢
                                                        refine pure_ (i := 0) (N := some 214) (v := ?_) (a' := ?_) #[true, false, false, false, false, false, false, false, false, false, false, false, false, false] rfl rfl (any_of HT_.out (by kernel_rfl)) (fun _ _ _ h => h) (Or.inl ⟨by rfl, ?_⟩) ?_ ?_
                                                        rotate_left
                                                        · intro w'
                                                          go_simp
                                                          with_reducible rfl
                                                        rotate_left
                                                        · simp only [Act.put, List.setIfInBounds_toArray, List.set_cons_zero, List.set_cons_succ, i64_w, i32_w]
                                                          rfl
                                                        refine pure_ (i := 1) (N := some 215) (v := ?_) (a' := ?_) #[true, true, false, false, false, false, false, false, false, false, false, false, false, false] rfl rfl (any_of HT_.out (by kernel_rfl)) (fun _ _ _ h => h) (Or.inl ⟨by rfl, ?_⟩) ?_ ?_
                                                        rotate_left
                                                        · intro w'
                                                          go_simp
                                                          with_reducible rfl
                                                        rotate_left
                                                        · simp only [Act.put, List.setIfInBounds_toArray, List.set_cons_zero, List.set_cons_succ, i64_w, i32_w]
                                                          rfl
                                                        refine pure_ (i := 2) (N := some 216) (v := ?_) (a' := ?_) #[true, true, true, false, false, false, false, false, false, false, false, false, false, false] rfl rfl (any_of HT_.out (by kernel_rfl)) (fun _ _ _ h => h) (Or.inl ⟨by rfl, ?_⟩) ?_ ?_
                                                        rotate_left
                                                        · intro w'
                                                          go_simp
                                                          with_reducible rfl
                                                        rotate_left
                                                        · simp only [Act.put, List.setIfInBounds_toArray, List.set_cons_zero, List.set_cons_succ, i64_w, i32_w]
                                                          rfl
                                                        refine pure_ (i := 3) (N := some 217) (v := ?_) (a' := ?_) #[true, true, true, true, false, false, false, false, false, false, false, false, false, false] rfl rfl (any_of HT_.out (by kernel_rfl)) (fun _ _ _ h => h) (Or.inl ⟨by rfl, ?_⟩) ?_ ?_
                                                        rotate_left
                                                        · intro w'
                                                          go_simp
                                                          with_reducible rfl
                                                        rotate_left
                                                        · simp only [Act.put, List.setIfInBounds_toArray, List.set_cons_zero, List.set_cons_succ, i64_w, i32_w]
                                                          rfl
                                                        refine pure_ (i := 5) (N := some 219) (v := ?_) (a' := ?_) #[true, true, true, true, false, true, false, false, false, false, false, false, false, false] rfl rfl (any_of HT_.out (by kernel_rfl)) (fun _ _ _ h => h) (Or.inl ⟨by rfl, ?_⟩) ?_ ?_
                                                        rotate_left
                                                        · intro w'
                                                          go_simp
                                                          with_reducible rfl
                                                        rotate_left
                                                        · simp only [Act.put, List.setIfInBounds_toArray, List.set_cons_zero, List.set_cons_succ, i64_w, i32_w]
                                                          rfl
                                                        refine pure_ (i := 6) (N := some 220) (v := ?_) (a' := ?_) #[true, true, true, true, false, true, true, false, false, false, false, false, false, false] rfl rfl (any_of HT_.out (by kernel_rfl)) (fun _ _ _ h => h) (Or.inl ⟨by rfl, ?_⟩) ?_ ?_
                                                        rotate_left
                                                        · intro w'
                                                          go_simp
                                                          with_reducible rfl
                                                        rotate_left
                                                        · simp only [Act.put, List.setIfInBounds_toArray, List.set_cons_zero, List.set_cons_succ, i64_w, i32_w]
                                                          rfl
                                                        refine take_ (i := 4) (N := some 218) (v := ?_) (a' := ?_) #[true, true, true, true, true, true, true, false, false, false, false, false, false, false] rfl rfl (take_ofW HT_.out HW_.out (by kernel_rfl)) (fun _ _ _ h => h) (Or.inl ⟨by rfl, ?_⟩) hHeld ?_ ?_
                                                        rotate_left
                                                        · rintro w' ⟨s0, s1⟩
                                                          go_simp
                                                          with_reducible rfl
                                                        rotate_left
                                                        · simp only [Act.put, List.setIfInBounds_toArray, List.set_cons_zero, List.set_cons_succ, i64_w, i32_w]
                                                          rfl
                                                        refine take_ (i := 7) (N := some 221) (v := ?_) (a' := ?_) #[true, true, true, true, true, true, true, true, false, false, false, false, false, false] rfl rfl (take_ofW HT_.out HW_.out (by kernel_rfl)) (fun _ _ _ h => h) (Or.inl ⟨by rfl, ?_⟩) hHeld ?_ ?_
                                                        rotate_left
                                                        · rintro w' ⟨s0, s1⟩
                                                          go_simp
                                                          with_reducible rfl
                                                        rotate_left
                                                        · simp only [Act.put, List.setIfInBounds_toArray, List.set_cons_zero, List.set_cons_succ, i64_w, i32_w]
                                                          rfl
                                                        refine one_ (i := 8) (N := some 222) #[true, true, true, true, true, true, true, true, true, false, false, false, false, false] rfl rfl (one_of HT_.out (by kernel_rfl)) (by decide) (fun K hK => ?_)
                                                        refine goes_ Try.func30 (by kernel_rfl) rfl #[.int .i64 t603, .slice Ao22 t604.length co22, .int .i64 (rd t610 0), .int .i64 (rd t610 1)] (by rfl) rfl rfl (by (try simp only [List.map_toArray, List.map_cons, List.map_nil]); first | done | rfl | (simp only [List.length_drop, List.length_take]; rfl)) ?_
                                                        with_reducible refine (impl_WithLine.calls kj68 t603 _ _ t604 (rd t610 0) (rd t610 1) t631 true _ ?side1 ?side2 A74.out).mono ?_
                                                        (case side1 => repeat (first | exact (Kd.S_reads' HO_4.out).2.2 | (with_reducible refine Kd.C_alloc ?_ _) | (with_reducible refine Kd.C_drewN ?_ _) | (with_reducible refine Kd.C_drew ?_)))
                                                        (case side2 => exact (Kd.S_reads' HO_4.out).2.1)
                                                        rintro e w81 ⟨v633, rfl, ho0, hb⟩
                                                        have HS0_ := (hb.cell (World.block_lt_of_cell? _ _ (hHeld.1))).trans (hHeld.1)
                                                        have HS1_ := (hb.cell (World.block_lt_of_cell? _ _ (hHeld.2))).trans (hHeld.2)
                                                        refine ⟨_, rfl, ?_⟩
                                                        have n0_ := Aside0.mk (Kd.S_elder' (by (with_reducible repeat (first | apply Kd.S_alloc | apply Kd.S_drewN | apply Kd.S_drew)); exact HO_4.out) (Kd.S_base ho0) hb)
                                                        have n1_ := Aside0.mk (Kd.R_below (by (with_reducible repeat (first | apply Kd.R_alloc | apply Kd.R_drewN | apply Kd.R_drew)); exact HO_6.out) hb)
                                                        have n2_ := Aside0.mk (Kd.S_lower (Kd.S_new' (Kd.S_new' ho0 (Kd.S_lt (by (with_reducible repeat (first | apply Kd.S_alloc | apply Kd.S_drewN | apply Kd.S_drew)); exact HO_4.out))) (Kd.R_lt (by (with_reducible repeat (first | apply Kd.R_alloc | apply Kd.R_drewN | apply Kd.R_drew)); exact HO_6.out))) (below_size (by repeat (first | (with_reducible first | exact HB.out | apply below_alloc | apply pw_below_drewN | apply below_drew1) | exact HB.out))))
                                                        have n3_ := Aside0.mk (below_step (by repeat (first | (with_reducible first | exact HB.out | apply below_alloc | apply pw_below_drewN | apply below_drew1) | exact HB.out)) hb)
                                                        clear HO_4
                                                        clear HO_6
                                                        clear HB
                                                        have HO_4 := n0_
                                                        have HO_6 := n1_
                                                        have HO634 := n2_
                                                        have HB := n3_
                                                        clear n0_ n1_ n2_ n3_
                                                        (try clear hb)
                                                        (try clear hb2)
                                                        (try clear hk)
                                                        (try clear hi)
                                                        (try clear ho0)
                                                        refine hK.out _ _ ⟨HS0_, HS1_⟩ (fun hHeld => ?_)
                                                        clear hK K
                                                        refine norm_ (a' := ?_) ?_ ?_
                                                        rotate_left
                                                        · show Act.put _ (some 222) _ = _
                                                          simp only [Act.put, List.setIfInBounds_toArray, List.set_cons_zero, List.set_cons_succ, i64_w, i32_w]
                                                          rfl
                                                        refine pure_ (i := 9) (N := some 213) (v := ?_) (a' := ?_) #[true, true, true, true, true, true, true, true, true, true, false, false, false, false] rfl rfl (any_of HT_.out (by kernel_rfl)) (fun _ _ _ h => h) (Or.inl ⟨by rfl, ?_⟩) ?_ ?_
                                                        rotate_left
                                                        · intro w'
                                                          go_simp
                                                          with_reducible rfl
                                                        rotate_left
                                                        · simp only [Act.put, List.setIfInBounds_toArray, List.set_cons_zero, List.set_cons_succ, i64_w, i32_w]
                                                          rfl
                                                        refine pure_ (i := 10) (N := some 223) (v := ?_) (a' := ?_) #[true, true, true, true, true, true, true, true, true, true, true, false, false, false] rfl rfl (any_of HT_.out (by kernel_rfl)) (fun _ _ _ h => h) (Or.inl ⟨by rfl, ?_⟩) ?_ ?_
                                                        rotate_left
                                                        · intro w'
                                                          go_simp
                                                          with_reducible rfl
                                                        rotate_left
                                                        · simp only [Act.put, List.setIfInBounds_toArray, List.set_cons_zero, List.set_cons_succ, i64_w, i32_w]
                                                          rfl
                                                        refine pure_ (i := 11) (N := some 224) (v := ?_) (a' := ?_) #[true, true, true, true, true, true, true, true, true, true, true, true, false, false] rfl rfl (any_of HT_.out (by kernel_rfl)) (fun _ _ _ h => h) (Or.inl ⟨by rfl, ?_⟩) ?_ ?_
                                                        rotate_left
                                                        · intro w'
                                                          go_simp
                                                          with_reducible rfl
                                                        rotate_left
                                                        · simp only [Act.put, List.setIfInBounds_toArray, List.set_cons_zero, List.set_cons_succ, i64_w, i32_w]
                                                          rfl
                                                        refine pure_ (i := 12) (N := some 16) (v := ?_) (a' := ?_) #[true, true, true, true, true, true, true, true, true, true, true, true, true, false] rfl rfl (any_of HT_.out (by kernel_rfl)) (fun _ _ _ h => h) (Or.inl ⟨by rfl, ?_⟩) ?_ ?_
                                                        rotate_left
                                                        · intro w'
                                                          go_simp
                                                          with_reducible rfl
                                                        rotate_left
                                                        · simp only [Act.put, List.setIfInBounds_toArray, List.set_cons_zero, List.set_cons_succ, i64_w, i32_w]
                                                          rfl
                                                        refine pure_ (i := 13) (N := some 17) (v := ?_) (a' := ?_) #[true, true, true, true, true, true, true, true, true, true, true, true, true, true] rfl rfl (any_of HT_.out (by kernel_rfl)) (fun _ _ _ h => h) (Or.inl ⟨by rfl, ?_⟩) ?_ ?_
                                                        rotate_left
                                                        · intro w'
                                                          go_simp
                                                          with_reducible rfl
                                                        rotate_left
                                                        · simp only [Act.put, List.setIfInBounds_toArray, List.set_cons_zero, List.set_cons_succ, i64_w, i32_w]
                                                          rfl
                                                        refine done_ (done_of HT_.out (by kernel_rfl)) ?_
                                                        obtain ⟨Ao82, co82, eo82⟩ := Kd.S_slice HO634.out
                                                        subst eo82
                                                        try go_wp2_with (first | (go_at_call 28; (with_reducible refine (impl_OddPoints.calls kj68 t603 _ _ t631 t635 _ ?side1 ?side2 A77.out).mono ?_); (case side1 => repeat (first | exact (Kd.S_reads' HO634.out).2.2 | (with_reducible refine Kd.C_alloc ?_ _) | (with_reducible refine Kd.C_drewN ?_ _) | (with_reducible refine Kd.C_drew ?_))); (case side2 => exact (Kd.S_reads' HO634.out).2.1); rintro e w83 ⟨v636, rfl, ho0, hb⟩; have n0_ := Aside0.mk (Kd.S_elder' (by (with_reducible repeat (first | apply Kd.S_alloc | apply Kd.S_drewN | apply Kd.S_drew)); exact HO_4.out) (Kd.R_base ho0) hb); have n1_ := Aside0.mk (Kd.R_elder' (by (with_reducible repeat (first | apply Kd.R_alloc | apply Kd.R_drewN | apply Kd.R_drew)); exact HO_6.out) (Kd.R_base ho0) hb); have n2_ := Aside0.mk (Kd.S_elder' (by (with_reducible repeat (first | apply Kd.S_alloc | apply Kd.S_drewN | apply Kd.S_drew)); exact HO634.out) (Kd.R_base ho0) hb); have n3_ := Aside0.mk (Kd.R_lower (Kd.R_new' ho0 (Kd.R_lt (by (with_reducible repeat (first | apply Kd.R_alloc | apply Kd.R_drewN | apply Kd.R_drew)); exact HO_6.out))) (below_size (by repeat (first | (with_reducible first | exact HB.out | apply below_alloc | apply pw_below_drewN | apply below_drew1) | exact HB.out)))); have n4_ := Aside0.mk (below_step (by repeat (first | (with_reducible first | exact HB.out | apply below_alloc | apply pw_below_drewN | apply below_drew1) | exact HB.out)) hb); clear HO_4; clear HO_6; clear HO634; clear HB; have HO_4 := n0_; have HO_6 := n1_; have HO634 := n2_; have HO637 := n3_; have HB := n4_; clear n0_ n1_ n2_ n3_ n4_; (try clear hb); (try clear hb2); (try clear hk); (try clear hi); (try clear ho0); obtain ⟨Ao84, co84, eo84⟩ := Kd.R_slice HO637.out; subst eo84) | (go_at_call 37; (with_reducible refine (impl_StrokesNeeded.calls kj68 t603 _ _ t631 t638 _ ?side1 ?side2 A79.out).mono ?_); (case side1 => repeat (first | exact (Kd.S_reads' HO634.out).2.2 | (with_reducible refine Kd.C_alloc ?_ _) | (with_reducible refine Kd.C_drewN ?_ _) | (with_reducible refine Kd.C_drew ?_))); (case side2 => exact (Kd.S_reads' HO634.out).2.1); rintro e w85 ⟨rfl, hb⟩; have n0_ := Aside0.mk (Kd.S_below (by (with_reducible repeat (first | apply Kd.S_alloc | apply Kd.S_drewN | apply Kd.S_drew)); exact HO_4.out) hb); have n1_ := Aside0.mk (Kd.R_below (by (with_reducible repeat (first | apply Kd.R_alloc | apply Kd.R_drewN | apply Kd.R_drew)); exact HO_6.out) hb); have n2_ := Aside0.mk (Kd.S_below (by (with_reducible repeat (first | apply Kd.S_alloc | apply Kd.S_drewN | apply Kd.S_drew)); exact HO634.out) hb); have n3_ := Aside0.mk (Kd.R_below (by (with_reducible repeat (first | apply Kd.R_alloc | apply Kd.R_drewN | apply Kd.R_drew)); exact HO637.out) hb); have n4_ := Aside0.mk (below_step (by repeat (first | (with_reducible first | exact HB.out | apply below_alloc | apply pw_below_drewN | apply below_drew1) | exact HB.out)) hb); clear HO_4; clear HO_6; clear HO634; clear HO637; clear HB; have HO_4 := n0_; have HO_6 := n1_; have HO634 := n2_; have HO637 := n3_; have HB := n4_; clear n0_ n1_ n2_ n3_ n4_; (try clear hb); (try clear hb2); (try clear hk); (try clear hi)))
                                                        go_ret
                                                        exact ⟨by first | rfl | (simp [errW_none, errW_some] <;> rfl) | (simp [*, errW_none, errW_some] <;> rfl), by repeat (first | (with_reducible first | exact HB.out | apply below_alloc | apply pw_below_drewN | apply below_drew1) | exact HB.out)⟩
                                                    · rw [if_neg c78] at H
                                                      exact absurd H (by simp)
                                                  · rw [if_neg c76] at H
                                                    exact absurd H (by simp)
                                                · replace c75 := Bool.eq_false_iff.mpr c75
                                                  subst c75
                                                  have H1 : (none) = some r := by rw [if_neg (show ¬ (false = true) by decide)] at H; exact H
                                                  clear H
                                                  have H := H1
                                                  clear H1
                                                  exact absurd H (by simp)
                                              · rw [if_neg c73] at H
                                                exact absurd H (by simp)
                                            · rw [if_neg c72] at H
                                              exact absurd H (by simp)
          · rw [if_neg c14] at H
            exact absurd H (by simp)
        · rw [if_neg c13] at H
          exact absurd H (by simp)
      · rw [if_neg c11] at H
        exact absurd H (by simp)
    · replace c10 := Bool.eq_false_iff.mpr c10
      subst c10
      have H1 : (none) = some r := by rw [if_neg (show ¬ (false = true) by decide)] at H; exact H
      clear H
      have H := H1
      clear H1
      exact absurd H (by simp)
/-- THE ONE PURE STATEMENT of laws_FnStrokes: yours. -/
def laws_FnStrokes.Pure : Prop := ∀ (l0 : List Int), l0.length ≤ maxLen → l0.length * 1 ≤ 140737488351232 → (∀ x ∈ l0, (Lit.int .u8 x).wf = true) → ∃ k, laws_FnStrokes.f k l0 = some true
theorem laws_FnStrokes.walk (P : laws_FnStrokes.Pure) (a0 : Option Addr) (len0 cap0 : Nat) (z0 : List Int) (w : World) (w0 : (a0 = none ∧ len0 = 0 ∧ cap0 = 0 ∧ z0 = []) ∨ ∃ x, a0 = some x ∧ len0 ≤ cap0 ∧ cap0 ≤ maxLen ∧ z0.length = cap0 ∧ (∀ i, i < z0.length → w.cell? (x.add i) = some (.int .u8 (z0.getD i 0))) ∧ ∀ n ∈ z0, (Lit.int .u8 n).wf = true) (y0 : len0 * 1 ≤ 140737488351232) :
    Calls Try.prog 12 #[.slice a0 len0 cap0] w fun e w' => e = .returned (.bool true) ∧ Below w.heap.size w w' := by
  obtain ⟨l0, rfl, hr0, hm0, hw0, hc0⟩ := ReadsInt.ofRowC w0
  obtain ⟨k, h⟩ := P l0 hm0 y0 hw0
  refine (laws_FnStrokes.calls k _ _ l0 true w (Kd.C_of_reads (d := (0 : Int)) (h1 := fun _ => rfl) hr0) hc0 h).mono ?_
  rintro e w' ⟨rfl, hd⟩
  exact ⟨rfl, hd⟩
end Go.Proofs.Ytcdajmbnijmdfaa.PA
