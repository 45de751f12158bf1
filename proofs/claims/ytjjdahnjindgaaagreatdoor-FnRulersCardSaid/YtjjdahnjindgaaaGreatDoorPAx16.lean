-- Written for this claim by a program of this session's (ownprint.py), by way of the kit's print and hand-proved texts. Lean checks it.
import Derived.Test.YtjjdahnjindgaaaGreatDoorPAx0
import Derived.Test.YtjjdahnjindgaaaGreatDoorPAx3
import Derived.Test.YtjjdahnjindgaaaGreatDoorPAx4
import Derived.Test.YtjjdahnjindgaaaGreatDoorPAx7
import Derived.Test.YtjjdahnjindgaaaGreatDoorPAx8
import Derived.Test.YtjjdahnjindgaaaGreatDoorPAx10
import Derived.Test.YtjjdahnjindgaaaGreatDoorPAx11
import Derived.Test.YtjjdahnjindgaaaGreatDoorPAx12
import Derived.Test.YtjjdahnjindgaaaGreatDoorPAx13
import Derived.Test.YtjjdahnjindgaaaGreatDoorPAx14
import Derived.Test.YtjjdahnjindgaaaGreatDoorPAx15
namespace Go.Proofs.YtjjdahnjindgaaaGreatDoor.PA
open Go.RowKit Go.Proofs.YtjjdahnjindgaaaGreatDoorW.PrintWords Go.Proofs.YtjjdahnjindgaaaGreatDoorW.PrintLast Go.Proofs.YtjjdahnjindgaaaGreatDoorW.PrintMore
attribute [local go_sem] max2_int min2_int max_two min_two max_three min_three max_four min_four   -- for this text's walks alone
set_option linter.unusedVariables false
set_option linter.unusedSimpArgs false

theorem fnr_less : ∀ (x y : List UInt8), Op.bytesLess y x = false → (Op.bytesLess x y || x == y) = true
  | [], [], _ => rfl
  | [], _ :: _, _ => rfl
  | _ :: _, [], h => by cases h
  | a :: x, b :: y, h => by
    simp only [Op.bytesLess, Bool.or_eq_false_iff, decide_eq_false_iff_not, Bool.and_eq_false_iff, beq_eq_false_iff_ne] at h
    by_cases c : a = b
    · subst c
      have h2 : Op.bytesLess y x = false := by
        rcases h.2 with z | z
        · exact absurd rfl z
        · exact z
      have := fnr_less x y h2
      simp only [Op.bytesLess, Bool.or_eq_true, Bool.and_eq_true, beq_iff_eq, decide_eq_true_eq] at this ⊢
      rcases this with z | z
      · exact .inl (.inr ⟨trivial, z⟩)
      · exact .inr (by rw [z])
    · have hlt : a < b := by
        rcases UInt8.lt_or_lt_of_ne c with z | z
        · exact z
        · exact absurd z h.1
      simp [Op.bytesLess, hlt]
theorem fnr_gtr {P : Program} (t : TypeId) {a b : ByteArray} (h : Op.bytesLess b.toList a.toList = false) (W : World) : (binOp .gtr t (.string a) (.string b)).run P W = .ok (.bool false) W := by
  rw [show binOp .gtr t (.string a) (.string b) = pure (.bool !(Op.bytesLess a.toList b.toList || a.toList == b.toList)) by simp [binOp, Op.stringOp], fnr_less _ _ h]
  rfl

/-! ### laws_FnRulers: function 3 -/
mutual
def laws_FnRulers.l0 : Nat → List Int → Int → ByteArray → ByteArray → ByteArray → Int → List Int → Int → Int → Option (Bool)
  | 0, _, _, _, _, _, _, _, _, _ => none
  | k + 1, x3, x4, x5, x6, x7, x8, x31, x32, x33 => if x33 < x32 then (if 0 ≤ x33 then (if x33 < (x31.length : Int) then (laws_FnRulers.l0 k x3 x4 x5 x6 x7 (mx x8 (rd x31 x33)) x31 x32 (wrap64 (x33 + 1))) else (none)) else (none)) else ((impl_EndsOf.f k x3 x5).bind fun t187 => ((impl_RulerOk.f x3).bind fun t190 => (if t190 = true then (if x4 < x8 then (none) else (if x4 ≥ (wrap64 (2 * x8)) then (none) else ((impl_RoomOf.f k x3 x5).bind fun t191 => (if t191 = x4 then ((impl_RoomOf.f k x3 x7).bind fun t192 => (if t192 = x4 then ((impl_RoomOf.f k x3 x6).bind fun t193 => (if t193 < x4 then (none) else ((impl_RoomOf.f k x3 x6).bind fun t194 => (if t194 ≥ (wrap64 (2 * x8)) then (none) else (if (t187.length : Int) = (wrap64 ((x3.length : Int) + 1)) then (if 0 < (t187.length : Int) then (if (rd t187 0) = 0 then (if (Op.bytesLess x7.toList x5.toList) = true then (none) else ((impl_MirrorLaying.f x7).bind fun t196 => (if t196.toList = x5.toList then (laws_FnRulers.l1 k x3 x4 x8 t187 x3 (x3.length : Int) 0) else (none)))) else (none)) else (none)) else (none)))))) else (none))) else (none))))) else (none))))
def laws_FnRulers.l1 : Nat → List Int → Int → Int → List Int → List Int → Int → Int → Option (Bool)
  | 0, _, _, _, _, _, _, _ => none
  | k + 1, x3, x4, x8, x11, x112, x113, x114 => if x114 < x113 then (if 0 ≤ x114 then (if x114 < (x112.length : Int) then (if 0 ≤ (wrap64 (x114 + 1)) then (if (wrap64 (x114 + 1)) < (x11.length : Int) then (if x114 < (x11.length : Int) then ((laws_mag.f (wrap64 ((rd x11 (wrap64 (x114 + 1))) - (rd x11 x114)))).bind fun t200 => (if t200 = (rd x112 x114) then (laws_FnRulers.l1 k x3 x4 x8 x11 x112 x113 (wrap64 (x114 + 1))) else (none))) else (none)) else (none)) else (none)) else (none)) else (none)) else ((impl_CountLayings.f k x3 (wrap64 (x4 - 1))).bind fun t201 => (if t201 = 0 then ((impl_CountLayings.f k x3 x4).bind fun t202 => (if t202 < 2 then (none) else ((impl_CountLayings.f k x3 x4).bind fun t203 => (if (Int.tmod t203 2) = 0 then ((laws_sum.f k x3).bind fun t204 => ((impl_CountLayings.f k x3 t204).bind fun t205 => (if t205 = (shl .i64 1 (x3.length : Int)) then ((laws_sum.f k x3).bind fun t206 => ((impl_CountLayings.f k x3 (wrap64 (t206 - 1))).bind fun t207 => (if t207 > (wrap64 ((shl .i64 1 (x3.length : Int)) - 2)) then (none) else ((impl_ReachOf.f k x3).bind fun t208 => (if (t208.length : Int) = 0 then (none) else (if 0 ≤ (wrap64 ((t208.length : Int) - 1)) then (if (wrap64 ((t208.length : Int) - 1)) < (t208.length : Int) then ((laws_sum.f k x3).bind fun t212 => (if (rd t208 (wrap64 ((t208.length : Int) - 1))) = t212 then (if 0 ≤ (x3.length : Int) then (if (x3.length : Int) < (x11.length : Int) then ((laws_mag.f (rd x11 (x3.length : Int))).bind fun t214 => ((laws_has.f k t208 t214).bind fun t215 => (if t215 = true then (if 0 < (t208.length : Int) then (if (rd t208 0) < 0 then (none) else (laws_FnRulers.l2 k x3 x8 t208 t208 (t208.length : Int) 0)) else (none)) else (none)))) else (none)) else (none)) else (none))) else (none)) else (none))))))) else (none)))) else (none))))) else (none)))
def laws_FnRulers.l2 : Nat → List Int → Int → List Int → List Int → Int → Int → Option (Bool)
  | 0, _, _, _, _, _, _ => none
  | k + 1, x3, x8, x15, x205, x206, x207 => if x207 < x206 then (if 0 ≤ x207 then (if x207 < (x205.length : Int) then ((laws_sum.f k x3).bind fun t218 => (if (Int.tmod (wrap64 ((rd x205 x207) - t218)) 2) = 0 then (if x207 > 0 then (if 0 ≤ (wrap64 (x207 - 1)) then (if (wrap64 (x207 - 1)) < (x15.length : Int) then (if (rd x205 x207) ≤ (rd x15 (wrap64 (x207 - 1))) then (none) else (laws_FnRulers.l2 k x3 x8 x15 x205 x206 (wrap64 (x207 + 1)))) else (none)) else (none)) else (laws_FnRulers.l2 k x3 x8 x15 x205 x206 (wrap64 (x207 + 1)))) else (none))) else (none)) else (none)) else ((impl_LeastRoom.f k (([x8, x8, x8] : List Int))).bind fun t223 => (some (t223 == x8)))
end
def laws_FnRulers.f (k : Nat) (l0 : List Int) : Option (Bool) := if (l0.length : Int) > 1048576 then (some true) else ((spec_MakeRuler.f k l0 0).bind fun t179 => ((impl_LeastRoom.f k t179).bind fun t182 => ((impl_BestLaying.f k t179).bind fun t183 => ((impl_GreedyLaying.f k t179).bind fun t184 => ((impl_MirrorLaying.f t183).bind fun t185 => (laws_FnRulers.l0 k t179 t182 t183 t184 t185 0 t179 (t179.length : Int) 0))))))
theorem laws_FnRulers.mono_l : ∀ k, (∀ y0 y1 y2 y3 y4 y5 y6 y7 y8, LeO (laws_FnRulers.l0 k y0 y1 y2 y3 y4 y5 y6 y7 y8) (laws_FnRulers.l0 (k + 1) y0 y1 y2 y3 y4 y5 y6 y7 y8)) ∧ (∀ y0 y1 y2 y3 y4 y5 y6, LeO (laws_FnRulers.l1 k y0 y1 y2 y3 y4 y5 y6) (laws_FnRulers.l1 (k + 1) y0 y1 y2 y3 y4 y5 y6)) ∧ (∀ y0 y1 y2 y3 y4 y5, LeO (laws_FnRulers.l2 k y0 y1 y2 y3 y4 y5) (laws_FnRulers.l2 (k + 1) y0 y1 y2 y3 y4 y5))
  | 0 => ⟨fun _ _ _ _ _ _ _ _ _ r h => by simp [laws_FnRulers.l0] at h, fun _ _ _ _ _ _ _ r h => by simp [laws_FnRulers.l1] at h, fun _ _ _ _ _ _ r h => by simp [laws_FnRulers.l2] at h⟩
  | k + 1 => by
    obtain ⟨ih0, ih1, ih2⟩ := laws_FnRulers.mono_l k
    refine ⟨?_, ?_, ?_⟩
    · intro y0 y1 y2 y3 y4 y5 y6 y7 y8
      unfold laws_FnRulers.l0
      repeat' first
      | (with_reducible exact ih0 _ _ _ _ _ _ _ _ _)
      | (with_reducible exact ih1 _ _ _ _ _ _ _)
      | (with_reducible exact ih2 _ _ _ _ _ _)
      | (with_reducible exact impl_BestLaying.mono _ _)
      | (with_reducible exact impl_CountLayings.mono _ _ _)
      | (with_reducible exact impl_EndsOf.mono _ _ _)
      | (with_reducible exact impl_GreedyLaying.mono _ _)
      | (with_reducible exact impl_LeastRoom.mono _ _)
      | (with_reducible exact impl_ReachOf.mono _ _)
      | (with_reducible exact impl_RoomOf.mono _ _ _)
      | (with_reducible exact laws_has.mono _ _ _)
      | (with_reducible exact laws_sum.mono _ _)
      | (with_reducible exact spec_MakeRuler.mono _ _ _)
      | (with_reducible exact LeO.refl _)
      | (with_reducible exact LeO.none _)
      | (with_reducible refine LeO.ite ?_ ?_)
      | (with_reducible refine LeO.bind ?_ (fun _ => ?_))
      | exact ih0 _ _ _ _ _ _ _ _ _
      | exact ih1 _ _ _ _ _ _ _
      | exact ih2 _ _ _ _ _ _
      | exact impl_BestLaying.mono _ _
      | exact impl_CountLayings.mono _ _ _
      | exact impl_EndsOf.mono _ _ _
      | exact impl_GreedyLaying.mono _ _
      | exact impl_LeastRoom.mono _ _
      | exact impl_ReachOf.mono _ _
      | exact impl_RoomOf.mono _ _ _
      | exact laws_has.mono _ _ _
      | exact laws_sum.mono _ _
      | exact spec_MakeRuler.mono _ _ _
      | exact LeO.none _
      | refine LeO.ite ?_ ?_
      | refine LeO.bind ?_ (fun _ => ?_)
    · intro y0 y1 y2 y3 y4 y5 y6
      unfold laws_FnRulers.l1
      repeat' first
      | (with_reducible exact ih0 _ _ _ _ _ _ _ _ _)
      | (with_reducible exact ih1 _ _ _ _ _ _ _)
      | (with_reducible exact ih2 _ _ _ _ _ _)
      | (with_reducible exact impl_BestLaying.mono _ _)
      | (with_reducible exact impl_CountLayings.mono _ _ _)
      | (with_reducible exact impl_EndsOf.mono _ _ _)
      | (with_reducible exact impl_GreedyLaying.mono _ _)
      | (with_reducible exact impl_LeastRoom.mono _ _)
      | (with_reducible exact impl_ReachOf.mono _ _)
      | (with_reducible exact impl_RoomOf.mono _ _ _)
      | (with_reducible exact laws_has.mono _ _ _)
      | (with_reducible exact laws_sum.mono _ _)
      | (with_reducible exact spec_MakeRuler.mono _ _ _)
      | (with_reducible exact LeO.refl _)
      | (with_reducible exact LeO.none _)
      | (with_reducible refine LeO.ite ?_ ?_)
      | (with_reducible refine LeO.bind ?_ (fun _ => ?_))
      | exact ih0 _ _ _ _ _ _ _ _ _
      | exact ih1 _ _ _ _ _ _ _
      | exact ih2 _ _ _ _ _ _
      | exact impl_BestLaying.mono _ _
      | exact impl_CountLayings.mono _ _ _
      | exact impl_EndsOf.mono _ _ _
      | exact impl_GreedyLaying.mono _ _
      | exact impl_LeastRoom.mono _ _
      | exact impl_ReachOf.mono _ _
      | exact impl_RoomOf.mono _ _ _
      | exact laws_has.mono _ _ _
      | exact laws_sum.mono _ _
      | exact spec_MakeRuler.mono _ _ _
      | exact LeO.none _
      | refine LeO.ite ?_ ?_
      | refine LeO.bind ?_ (fun _ => ?_)
    · intro y0 y1 y2 y3 y4 y5
      unfold laws_FnRulers.l2
      repeat' first
      | (with_reducible exact ih0 _ _ _ _ _ _ _ _ _)
      | (with_reducible exact ih1 _ _ _ _ _ _ _)
      | (with_reducible exact ih2 _ _ _ _ _ _)
      | (with_reducible exact impl_BestLaying.mono _ _)
      | (with_reducible exact impl_CountLayings.mono _ _ _)
      | (with_reducible exact impl_EndsOf.mono _ _ _)
      | (with_reducible exact impl_GreedyLaying.mono _ _)
      | (with_reducible exact impl_LeastRoom.mono _ _)
      | (with_reducible exact impl_ReachOf.mono _ _)
      | (with_reducible exact impl_RoomOf.mono _ _ _)
      | (with_reducible exact laws_has.mono _ _ _)
      | (with_reducible exact laws_sum.mono _ _)
      | (with_reducible exact spec_MakeRuler.mono _ _ _)
      | (with_reducible exact LeO.refl _)
      | (with_reducible exact LeO.none _)
      | (with_reducible refine LeO.ite ?_ ?_)
      | (with_reducible refine LeO.bind ?_ (fun _ => ?_))
      | exact ih0 _ _ _ _ _ _ _ _ _
      | exact ih1 _ _ _ _ _ _ _
      | exact ih2 _ _ _ _ _ _
      | exact impl_BestLaying.mono _ _
      | exact impl_CountLayings.mono _ _ _
      | exact impl_EndsOf.mono _ _ _
      | exact impl_GreedyLaying.mono _ _
      | exact impl_LeastRoom.mono _ _
      | exact impl_ReachOf.mono _ _
      | exact impl_RoomOf.mono _ _ _
      | exact laws_has.mono _ _ _
      | exact laws_sum.mono _ _
      | exact spec_MakeRuler.mono _ _ _
      | exact LeO.none _
      | refine LeO.ite ?_ ?_
      | refine LeO.bind ?_ (fun _ => ?_)
theorem laws_FnRulers.mono : ∀ a0 k, LeO (laws_FnRulers.f k a0) (laws_FnRulers.f (k + 1) a0) := by
  intro a0 k
  obtain ⟨ih0, ih1, ih2⟩ := laws_FnRulers.mono_l k
  unfold laws_FnRulers.f
  repeat' first
      | (with_reducible exact ih0 _ _ _ _ _ _ _ _ _)
      | (with_reducible exact ih1 _ _ _ _ _ _ _)
      | (with_reducible exact ih2 _ _ _ _ _ _)
      | (with_reducible exact impl_BestLaying.mono _ _)
      | (with_reducible exact impl_CountLayings.mono _ _ _)
      | (with_reducible exact impl_EndsOf.mono _ _ _)
      | (with_reducible exact impl_GreedyLaying.mono _ _)
      | (with_reducible exact impl_LeastRoom.mono _ _)
      | (with_reducible exact impl_ReachOf.mono _ _)
      | (with_reducible exact impl_RoomOf.mono _ _ _)
      | (with_reducible exact laws_has.mono _ _ _)
      | (with_reducible exact laws_sum.mono _ _)
      | (with_reducible exact spec_MakeRuler.mono _ _ _)
      | (with_reducible exact LeO.refl _)
      | (with_reducible exact LeO.none _)
      | (with_reducible refine LeO.ite ?_ ?_)
      | (with_reducible refine LeO.bind ?_ (fun _ => ?_))
      | exact ih0 _ _ _ _ _ _ _ _ _
      | exact ih1 _ _ _ _ _ _ _
      | exact ih2 _ _ _ _ _ _
      | exact impl_BestLaying.mono _ _
      | exact impl_CountLayings.mono _ _ _
      | exact impl_EndsOf.mono _ _ _
      | exact impl_GreedyLaying.mono _ _
      | exact impl_LeastRoom.mono _ _
      | exact impl_ReachOf.mono _ _
      | exact impl_RoomOf.mono _ _ _
      | exact laws_has.mono _ _ _
      | exact laws_sum.mono _ _
      | exact spec_MakeRuler.mono _ _ _
      | exact LeO.none _
      | refine LeO.ite ?_ ?_
      | refine LeO.bind ?_ (fun _ => ?_)
def laws_FnRulers.T20 : Bool × List (List Nat × List Nat) := (true, [([], []), ([], []), ([1], [1]), ([0, 2], [0, 2]), ([3], [3]), ([], []), ([], []), ([5, 6], [5, 6]), ([7], [7]), ([4, 8], [4, 8]), ([9], [9]), ([], []), ([10, 11], [10, 11])])
def laws_FnRulers.B20 : List Nat := [0, 0, 2, 7, 15, 0, 0, 96, 224, 511, 1023, 0, 4095]
theorem laws_FnRulers.tab20 : rtab .any (opsOf Tryz.f3 20) = laws_FnRulers.T20 := by kernel_rfl
theorem laws_FnRulers.bits20 : waitsOk laws_FnRulers.T20.2 laws_FnRulers.B20 = true := by kernel_rfl
def laws_FnRulers.T27 : Bool × List (List Nat × List Nat) := (true, [([], []), ([0], [0]), ([1], [1]), ([2], [2]), ([3], [3]), ([3], [3]), ([5, 3], [3, 5]), ([6, 3], [3, 6]), ([4, 7, 3], [3, 4, 7]), ([8, 3], [3, 8]), ([3], [3]), ([10, 3, 3], [3, 10]), ([9, 11, 3], [3, 9, 11]), ([3, 12], [3, 12]), ([13, 11], [13]), ([14], [14]), ([14], [14]), ([14], [14]), ([17, 14], [14, 17]), ([16, 18, 14], [14, 16, 18]), ([19, 14], [14, 19]), ([20, 14, 14], [14, 20]), ([15, 21, 21, 14], [14, 15, 21]), ([22, 14], [14, 22]), ([14, 23], [14, 23]), ([24, 22], [24]), ([25], [25]), ([26, 25], [25, 26]), ([27, 25], [25, 27]), ([28, 25], [25, 28]), ([25, 29], [25, 29])])
def laws_FnRulers.B27 : List Nat := [0, 1, 3, 7, 15, 15, 47, 111, 255, 511, 15, 1039, 4095, 8191, 16383, 32767, 32767, 32767, 163839, 491519, 1015807, 2064383, 4194303, 8388607, 16777215, 33554431, 67108863, 134217727, 268435455, 536870911, 1073741823]
theorem laws_FnRulers.tab27 : rtab .any (opsOf Tryz.f3 27) = laws_FnRulers.T27 := by kernel_rfl
theorem laws_FnRulers.bits27 : waitsOk laws_FnRulers.T27.2 laws_FnRulers.B27 = true := by kernel_rfl
set_option maxHeartbeats 8000000 in
set_option maxRecDepth 100000 in
theorem laws_FnRulers.calls (k : Nat) (A0 : Option Addr) (c0 : Nat) (l0 : List Int) (r : Bool) (w : World) (hr0 : Kd.C (Kd.int .u8) w A0 l0.length l0) (hc0 : l0.length ≤ c0) (h : laws_FnRulers.f k l0 = some r) :
    Calls Tryz.prog 3 #[.slice A0 l0.length c0] w fun e w' => e = .returned (.bool r) ∧ Below w.heap.size w w' := by
  have HR0 := Aside0.mk hr0
  have HC0 := Aside0.mk hc0
  clear hr0 hc0
  have HB := Aside0.mk (Below.refl w.heap.size w)
  have H : (if (l0.length : Int) > 1048576 then (some true) else ((spec_MakeRuler.f k l0 0).bind fun t179 => ((impl_LeastRoom.f k t179).bind fun t182 => ((impl_BestLaying.f k t179).bind fun t183 => ((impl_GreedyLaying.f k t179).bind fun t184 => ((impl_MirrorLaying.f t183).bind fun t185 => (laws_FnRulers.l0 k t179 t182 t183 t184 t185 0 t179 (t179.length : Int) 0))))))) = some r := h
  clear h
  by_cases c2 : (l0.length : Int) > 1048576
  · rw [if_pos c2] at H
    have c2b0 : decide (1048576 < (l0.length : Int)) = true := decide_eq_true c2
    have c2b1 : decide (1048576 < l0.length) = true := decide_eq_true (by omega)
    clear c2
    as_aux_lemma =>
      obtain rfl := Option.some.inj H
      go_enter Tryz.func3, Tryz.ntmps3
      go_wp2
      go_ret
      exact ⟨by first | rfl | (simp [errW_none, errW_some] <;> rfl) | (simp [*, errW_none, errW_some] <;> rfl), by repeat (first | (with_reducible first | exact HB.out | apply below_alloc | apply pw_below_drewN | apply below_drew1) | exact HB.out)⟩
  · rw [if_neg c2] at H
    have c2b0 : decide (1048576 < (l0.length : Int)) = false := decide_eq_false c2
    have c2b1 : decide (1048576 < l0.length) = false := decide_eq_false (by omega)
    clear c2
    replace H := Option.bind_eq_some_iff.mp H
    obtain ⟨t179, A30, H⟩ := H
    replace H : ((impl_LeastRoom.f k t179).bind fun t182 => ((impl_BestLaying.f k t179).bind fun t183 => ((impl_GreedyLaying.f k t179).bind fun t184 => ((impl_MirrorLaying.f t183).bind fun t185 => (laws_FnRulers.l0 k t179 t182 t183 t184 t185 0 t179 (t179.length : Int) 0))))) = some r := H
    have A3 := Aside0.mk A30
    clear A30
    replace H := Option.bind_eq_some_iff.mp H
    obtain ⟨t182, A40, H⟩ := H
    replace H : ((impl_BestLaying.f k t179).bind fun t183 => ((impl_GreedyLaying.f k t179).bind fun t184 => ((impl_MirrorLaying.f t183).bind fun t185 => (laws_FnRulers.l0 k t179 t182 t183 t184 t185 0 t179 (t179.length : Int) 0)))) = some r := H
    have A4 := Aside0.mk A40
    clear A40
    replace H := Option.bind_eq_some_iff.mp H
    obtain ⟨t183, A50, H⟩ := H
    replace H : ((impl_GreedyLaying.f k t179).bind fun t184 => ((impl_MirrorLaying.f t183).bind fun t185 => (laws_FnRulers.l0 k t179 t182 t183 t184 t185 0 t179 (t179.length : Int) 0))) = some r := H
    have A5 := Aside0.mk A50
    clear A50
    replace H := Option.bind_eq_some_iff.mp H
    obtain ⟨t184, A60, H⟩ := H
    replace H : ((impl_MirrorLaying.f t183).bind fun t185 => (laws_FnRulers.l0 k t179 t182 t183 t184 t185 0 t179 (t179.length : Int) 0)) = some r := H
    have A6 := Aside0.mk A60
    clear A60
    replace H := Option.bind_eq_some_iff.mp H
    obtain ⟨t185, A70, H⟩ := H
    replace H : (laws_FnRulers.l0 k t179 t182 t183 t184 t185 0 t179 (t179.length : Int) 0) = some r := H
    have A7 := Aside0.mk A70
    clear A70
    have H' := Aside0.mk H
    clear H
    go_enter Tryz.func3, Tryz.ntmps3
    go_wp2_with (first | ((with_reducible refine gate_callee (f := 4) rfl ?_); refine goesL_ (some 22) rfl rfl Tryz.func4 (by kernel_rfl) rfl #[.slice A0 l0.length c0, .int .i64 0] rfl (by (try simp only [List.map_toArray, List.map_cons, List.map_nil]); first | done | rfl | (simp only [List.length_drop, List.length_take]; rfl)) ?_; (with_reducible refine (spec_MakeRuler.calls k _ _ l0 0 t179 _ ?side1 ?side2 A3.out).mono ?_); (case side1 => repeat (first | exact HR0.out | (with_reducible refine Kd.C_alloc ?_ _) | (with_reducible refine Kd.C_drewN ?_ _) | (with_reducible refine Kd.C_drew ?_))); (case side2 => exact HC0.out); rintro e w8 ⟨v180, rfl, ho0, hb⟩; refine ⟨_, rfl, ?_⟩; have n0_ := Aside0.mk (Kd.R_lower ho0 (below_size (by repeat (first | (with_reducible first | exact HB.out | apply below_alloc | apply pw_below_drewN | apply below_drew1) | exact HB.out)))); have n1_ := Aside0.mk (below_step (by repeat (first | (with_reducible first | exact HB.out | apply below_alloc | apply pw_below_drewN | apply below_drew1) | exact HB.out)) hb); clear HB; have HO181 := n0_; have HB := n1_; clear n0_ n1_; (try clear hb); (try clear hb2); (try clear hk); (try clear hi); (try clear ho0); obtain ⟨Ao9, co9, eo9⟩ := Kd.R_slice HO181.out; subst eo9) | ((with_reducible refine gate_callee (f := 5) rfl ?_); refine goesL_ (some 24) rfl rfl Tryz.func5 (by kernel_rfl) rfl #[.slice Ao9 t179.length co9] rfl (by (try simp only [List.map_toArray, List.map_cons, List.map_nil]); first | done | rfl | (simp only [List.length_drop, List.length_take]; rfl)) ?_; (with_reducible refine (impl_LeastRoom.calls k _ _ t179 t182 _ ?side1 ?side2 A4.out).mono ?_); (case side1 => repeat (first | exact (Kd.R_reads' HO181.out).2.2 | (with_reducible refine Kd.C_alloc ?_ _) | (with_reducible refine Kd.C_drewN ?_ _) | (with_reducible refine Kd.C_drew ?_))); (case side2 => exact (Kd.R_reads' HO181.out).2.1); rintro e w10 ⟨rfl, hb⟩; refine ⟨_, rfl, ?_⟩; have n0_ := Aside0.mk (Kd.R_below (by (with_reducible repeat (first | apply Kd.R_alloc | apply Kd.R_drewN | apply Kd.R_drew)); exact HO181.out) hb); have n1_ := Aside0.mk (below_step (by repeat (first | (with_reducible first | exact HB.out | apply below_alloc | apply pw_below_drewN | apply below_drew1) | exact HB.out)) hb); clear HO181; clear HB; have HO181 := n0_; have HB := n1_; clear n0_ n1_; (try clear hb); (try clear hb2); (try clear hk); (try clear hi)) | ((with_reducible refine gate_callee (f := 6) rfl ?_); refine goesL_ (some 26) rfl rfl Tryz.func6 (by kernel_rfl) rfl #[.slice Ao9 t179.length co9] rfl (by (try simp only [List.map_toArray, List.map_cons, List.map_nil]); first | done | rfl | (simp only [List.length_drop, List.length_take]; rfl)) ?_; (with_reducible refine (impl_BestLaying.calls k _ _ t179 t183 _ ?side1 ?side2 A5.out).mono ?_); (case side1 => repeat (first | exact (Kd.R_reads' HO181.out).2.2 | (with_reducible refine Kd.C_alloc ?_ _) | (with_reducible refine Kd.C_drewN ?_ _) | (with_reducible refine Kd.C_drew ?_))); (case side2 => exact (Kd.R_reads' HO181.out).2.1); rintro e w11 ⟨rfl, hb⟩; refine ⟨_, rfl, ?_⟩; have n0_ := Aside0.mk (Kd.R_below (by (with_reducible repeat (first | apply Kd.R_alloc | apply Kd.R_drewN | apply Kd.R_drew)); exact HO181.out) hb); have n1_ := Aside0.mk (below_step (by repeat (first | (with_reducible first | exact HB.out | apply below_alloc | apply pw_below_drewN | apply below_drew1) | exact HB.out)) hb); clear HO181; clear HB; have HO181 := n0_; have HB := n1_; clear n0_ n1_; (try clear hb); (try clear hb2); (try clear hk); (try clear hi)) | ((with_reducible refine gate_callee (f := 7) rfl ?_); refine goesL_ (some 28) rfl rfl Tryz.func7 (by kernel_rfl) rfl #[.slice Ao9 t179.length co9] rfl (by (try simp only [List.map_toArray, List.map_cons, List.map_nil]); first | done | rfl | (simp only [List.length_drop, List.length_take]; rfl)) ?_; (with_reducible refine (impl_GreedyLaying.calls k _ _ t179 t184 _ ?side1 ?side2 A6.out).mono ?_); (case side1 => repeat (first | exact (Kd.R_reads' HO181.out).2.2 | (with_reducible refine Kd.C_alloc ?_ _) | (with_reducible refine Kd.C_drewN ?_ _) | (with_reducible refine Kd.C_drew ?_))); (case side2 => exact (Kd.R_reads' HO181.out).2.1); rintro e w12 ⟨rfl, hb⟩; refine ⟨_, rfl, ?_⟩; have n0_ := Aside0.mk (Kd.R_below (by (with_reducible repeat (first | apply Kd.R_alloc | apply Kd.R_drewN | apply Kd.R_drew)); exact HO181.out) hb); have n1_ := Aside0.mk (below_step (by repeat (first | (with_reducible first | exact HB.out | apply below_alloc | apply pw_below_drewN | apply below_drew1) | exact HB.out)) hb); clear HO181; clear HB; have HO181 := n0_; have HB := n1_; clear n0_ n1_; (try clear hb); (try clear hb2); (try clear hk); (try clear hi)) | ((with_reducible refine gate_callee (f := 8) rfl ?_); refine goesL_ (some 30) rfl rfl Tryz.func8 (by kernel_rfl) rfl #[.string t183] rfl (by (try simp only [List.map_toArray, List.map_cons, List.map_nil]); first | done | rfl | (simp only [List.length_drop, List.length_take]; rfl)) ?_; (with_reducible refine (impl_MirrorLaying.calls t183 t185 _ A7.out).mono ?_); rintro e w13 ⟨rfl, hb⟩; refine ⟨_, rfl, ?_⟩; have n0_ := Aside0.mk (Kd.R_below (by (with_reducible repeat (first | apply Kd.R_alloc | apply Kd.R_drewN | apply Kd.R_drew)); exact HO181.out) hb); have n1_ := Aside0.mk (below_step (by repeat (first | (with_reducible first | exact HB.out | apply below_alloc | apply pw_below_drewN | apply below_drew1) | exact HB.out)) hb); clear HO181; clear HB; have HO181 := n0_; have HB := n1_; clear n0_ n1_; (try clear hb); (try clear hb2); (try clear hk); (try clear hi)))
    go_loopg [8, 33] k (fun kq v8 v33 w' => ∃ (x8_1 : Int) (x33_1 : Int), v8 = .int .i64 x8_1 ∧ v33 = .int .i64 x33_1 ∧ Aside0 (laws_FnRulers.l0 kq t179 t182 t183 t184 t185 x8_1 t179 (t179.length : Int) x33_1 = some r) ∧ Aside0 (kq ≤ k) ∧ Aside0 (Kd.R (Kd.int .i64) 3 w' w.heap.size (fun _ => True) (.slice Ao9 t179.length co9) t179) ∧ Aside0 (Kd.R (Kd.int .i64) 3 w' w.heap.size (fun _ => True) (.slice Ao9 t179.length co9) t179) ∧ Aside0 (Below w.heap.size w w'))
    case atStart => exact ⟨(0), (0), (by first | rfl | (simp; done) | (simp [*]; done)), (by first | rfl | (simp; done) | (simp [*]; done)), H', ⟨Nat.le_refl _⟩, ⟨by (with_reducible repeat (first | apply Kd.R_alloc | apply Kd.R_drewN | apply Kd.R_drew)); exact HO181.out⟩, ⟨by (with_reducible repeat (first | apply Kd.R_alloc | apply Kd.R_drewN | apply Kd.R_drew)); exact HO181.out⟩, ⟨by repeat (first | (with_reducible first | exact HB.out | apply below_alloc | apply pw_below_drewN | apply below_drew1) | exact HB.out)⟩⟩
    case round =>
      clear H'
      try clear c2
      try clear c2b0
      try clear c2b1
      try clear p2
      try clear c3
      try clear c4
      try clear c5
      try clear c6
      try clear c7
      try clear c8
      obtain ⟨x8_1, x33_1, rfl, rfl, HA, HK1, HO_3, HO_31, HB⟩ := hrel
      cases gk with
      | zero => exact absurd HA.out (by simp [laws_FnRulers.l0])
      | succ k1 =>
        have H := HA.out
        clear HA
        simp only [laws_FnRulers.l0] at H
        by_cases c14 : x33_1 < (t179.length : Int)
        · rw [if_pos c14] at H
          have c14b0 : decide (x33_1 < (t179.length : Int)) = true := decide_eq_true c14
          clear c14
          by_cases c15 : 0 ≤ x33_1
          · rw [if_pos c15] at H
            have c15b0 : decide (0 ≤ x33_1) = true := decide_eq_true c15
            clear c15
            by_cases c16 : x33_1 < (t179.length : Int)
            · rw [if_pos c16] at H
              have c16b0 : decide (x33_1 < (t179.length : Int)) = true := decide_eq_true c16
              clear c16
              obtain ⟨ji17, hji17⟩ : ∃ j_ : Int, (mx x8_1 (rd t179 x33_1)) = j_ := ⟨_, rfl⟩
              replace H : (laws_FnRulers.l0 k1 t179 t182 t183 t184 t185 ji17 t179 (t179.length : Int) (wrap64 (x33_1 + 1))) = some r := by first | (rw [hji17] at H; exact H) | (simp only [hji17] at H ⊢; exact H)
              have hji17_ : (if x8_1 < (rd t179 x33_1) then (rd t179 x33_1) else x8_1) = ji17 := hji17
              as_aux_lemma =>
                have H' := Aside0.mk H
                clear H
                have p186 : 0 ≤ (x33_1 : Int) := of_decide_eq_true (by first | (with_reducible assumption) | assumption)
                have q186 : x33_1 < (t179.length : Int) := of_decide_eq_true (by first | (with_reducible assumption) | assumption)
                obtain ⟨ad186, e186, hx186_0⟩ := Kd.at_int (Kd.R_reads' HO_31.out).2.2 x33_1 p186 q186
                cases e186
                replace p186 := eq_true p186
                replace q186 := eq_true q186
                go_wp2
                go_roundg k1
                case measure => have := HK1.out; omega
                case rel => exact ⟨(ji17), (wrap64 (x33_1 + 1)), (by first | rfl | (simp; done) | (simp only [← hji17] <;> (first | rfl | simp)) | (simp [*]; done)), (by first | rfl | (simp; done) | (simp [*]; done)), H', ⟨by have := HK1.out; omega⟩, ⟨by (with_reducible repeat (first | apply Kd.R_alloc | apply Kd.R_drewN | apply Kd.R_drew)); exact HO_3.out⟩, ⟨by (with_reducible repeat (first | apply Kd.R_alloc | apply Kd.R_drewN | apply Kd.R_drew)); exact HO_31.out⟩, ⟨by repeat (first | (with_reducible first | exact HB.out | apply below_alloc | apply pw_below_drewN | apply below_drew1) | exact HB.out)⟩⟩
            · rw [if_neg c16] at H
              exact absurd H (by simp)
          · rw [if_neg c15] at H
            exact absurd H (by simp)
        · rw [if_neg c14] at H
          have c14b0 : decide (x33_1 < (t179.length : Int)) = false := decide_eq_false c14
          clear c14
          replace H := Option.bind_eq_some_iff.mp H
          obtain ⟨t187, A180, H⟩ := H
          replace H : ((impl_RulerOk.f t179).bind fun t190 => (if t190 = true then (if t182 < x8_1 then (none) else (if t182 ≥ (wrap64 (2 * x8_1)) then (none) else ((impl_RoomOf.f k1 t179 t183).bind fun t191 => (if t191 = t182 then ((impl_RoomOf.f k1 t179 t185).bind fun t192 => (if t192 = t182 then ((impl_RoomOf.f k1 t179 t184).bind fun t193 => (if t193 < t182 then (none) else ((impl_RoomOf.f k1 t179 t184).bind fun t194 => (if t194 ≥ (wrap64 (2 * x8_1)) then (none) else (if (t187.length : Int) = (wrap64 ((t179.length : Int) + 1)) then (if 0 < (t187.length : Int) then (if (rd t187 0) = 0 then (if (Op.bytesLess t185.toList t183.toList) = true then (none) else ((impl_MirrorLaying.f t185).bind fun t196 => (if t196.toList = t183.toList then (laws_FnRulers.l1 k1 t179 t182 x8_1 t187 t179 (t179.length : Int) 0) else (none)))) else (none)) else (none)) else (none)))))) else (none))) else (none))))) else (none))) = some r := H
          have A18 := Aside0.mk A180
          clear A180
          replace H := Option.bind_eq_some_iff.mp H
          obtain ⟨t190, A190, H⟩ := H
          replace H : (if t190 = true then (if t182 < x8_1 then (none) else (if t182 ≥ (wrap64 (2 * x8_1)) then (none) else ((impl_RoomOf.f k1 t179 t183).bind fun t191 => (if t191 = t182 then ((impl_RoomOf.f k1 t179 t185).bind fun t192 => (if t192 = t182 then ((impl_RoomOf.f k1 t179 t184).bind fun t193 => (if t193 < t182 then (none) else ((impl_RoomOf.f k1 t179 t184).bind fun t194 => (if t194 ≥ (wrap64 (2 * x8_1)) then (none) else (if (t187.length : Int) = (wrap64 ((t179.length : Int) + 1)) then (if 0 < (t187.length : Int) then (if (rd t187 0) = 0 then (if (Op.bytesLess t185.toList t183.toList) = true then (none) else ((impl_MirrorLaying.f t185).bind fun t196 => (if t196.toList = t183.toList then (laws_FnRulers.l1 k1 t179 t182 x8_1 t187 t179 (t179.length : Int) 0) else (none)))) else (none)) else (none)) else (none)))))) else (none))) else (none))))) else (none)) = some r := H
          have A19 := Aside0.mk A190
          clear A190
          by_cases c20 : t190 = true
          · subst c20
            have H1 : (if t182 < x8_1 then (none) else (if t182 ≥ (wrap64 (2 * x8_1)) then (none) else ((impl_RoomOf.f k1 t179 t183).bind fun t191 => (if t191 = t182 then ((impl_RoomOf.f k1 t179 t185).bind fun t192 => (if t192 = t182 then ((impl_RoomOf.f k1 t179 t184).bind fun t193 => (if t193 < t182 then (none) else ((impl_RoomOf.f k1 t179 t184).bind fun t194 => (if t194 ≥ (wrap64 (2 * x8_1)) then (none) else (if (t187.length : Int) = (wrap64 ((t179.length : Int) + 1)) then (if 0 < (t187.length : Int) then (if (rd t187 0) = 0 then (if (Op.bytesLess t185.toList t183.toList) = true then (none) else ((impl_MirrorLaying.f t185).bind fun t196 => (if t196.toList = t183.toList then (laws_FnRulers.l1 k1 t179 t182 x8_1 t187 t179 (t179.length : Int) 0) else (none)))) else (none)) else (none)) else (none)))))) else (none))) else (none))))) = some r := by rw [if_pos rfl] at H; exact H
            clear H
            have H := H1
            clear H1
            by_cases c21 : t182 < x8_1
            · rw [if_pos c21] at H
              exact absurd H (by simp)
            · rw [if_neg c21] at H
              have c21b0 : decide (t182 < x8_1) = false := decide_eq_false c21
              clear c21
              by_cases c22 : t182 ≥ (wrap64 (2 * x8_1))
              · rw [if_pos c22] at H
                exact absurd H (by simp)
              · rw [if_neg c22] at H
                have c22b0 : decide ((wrap64 (2 * x8_1)) ≤ t182) = false := decide_eq_false c22
                clear c22
                replace H := Option.bind_eq_some_iff.mp H
                obtain ⟨t191, A230, H⟩ := H
                replace H : (if t191 = t182 then ((impl_RoomOf.f k1 t179 t185).bind fun t192 => (if t192 = t182 then ((impl_RoomOf.f k1 t179 t184).bind fun t193 => (if t193 < t182 then (none) else ((impl_RoomOf.f k1 t179 t184).bind fun t194 => (if t194 ≥ (wrap64 (2 * x8_1)) then (none) else (if (t187.length : Int) = (wrap64 ((t179.length : Int) + 1)) then (if 0 < (t187.length : Int) then (if (rd t187 0) = 0 then (if (Op.bytesLess t185.toList t183.toList) = true then (none) else ((impl_MirrorLaying.f t185).bind fun t196 => (if t196.toList = t183.toList then (laws_FnRulers.l1 k1 t179 t182 x8_1 t187 t179 (t179.length : Int) 0) else (none)))) else (none)) else (none)) else (none)))))) else (none))) else (none)) = some r := H
                have A23 := Aside0.mk A230
                clear A230
                by_cases c24 : t191 = t182
                · rw [if_pos c24] at H
                  have c24b0 : (t191 == t182) = true := beq_iff_eq.mpr c24
                  have c24b1 : (t191 != t182) = false := bne_eq_false_iff_eq.mpr c24
                  clear c24
                  replace H := Option.bind_eq_some_iff.mp H
                  obtain ⟨t192, A250, H⟩ := H
                  replace H : (if t192 = t182 then ((impl_RoomOf.f k1 t179 t184).bind fun t193 => (if t193 < t182 then (none) else ((impl_RoomOf.f k1 t179 t184).bind fun t194 => (if t194 ≥ (wrap64 (2 * x8_1)) then (none) else (if (t187.length : Int) = (wrap64 ((t179.length : Int) + 1)) then (if 0 < (t187.length : Int) then (if (rd t187 0) = 0 then (if (Op.bytesLess t185.toList t183.toList) = true then (none) else ((impl_MirrorLaying.f t185).bind fun t196 => (if t196.toList = t183.toList then (laws_FnRulers.l1 k1 t179 t182 x8_1 t187 t179 (t179.length : Int) 0) else (none)))) else (none)) else (none)) else (none)))))) else (none)) = some r := H
                  have A25 := Aside0.mk A250
                  clear A250
                  by_cases c26 : t192 = t182
                  · rw [if_pos c26] at H
                    have c26b0 : (t192 == t182) = true := beq_iff_eq.mpr c26
                    have c26b1 : (t192 != t182) = false := bne_eq_false_iff_eq.mpr c26
                    clear c26
                    replace H := Option.bind_eq_some_iff.mp H
                    obtain ⟨t193, A270, H⟩ := H
                    replace H : (if t193 < t182 then (none) else ((impl_RoomOf.f k1 t179 t184).bind fun t194 => (if t194 ≥ (wrap64 (2 * x8_1)) then (none) else (if (t187.length : Int) = (wrap64 ((t179.length : Int) + 1)) then (if 0 < (t187.length : Int) then (if (rd t187 0) = 0 then (if (Op.bytesLess t185.toList t183.toList) = true then (none) else ((impl_MirrorLaying.f t185).bind fun t196 => (if t196.toList = t183.toList then (laws_FnRulers.l1 k1 t179 t182 x8_1 t187 t179 (t179.length : Int) 0) else (none)))) else (none)) else (none)) else (none))))) = some r := H
                    have A27 := Aside0.mk A270
                    clear A270
                    by_cases c28 : t193 < t182
                    · rw [if_pos c28] at H
                      exact absurd H (by simp)
                    · rw [if_neg c28] at H
                      have c28b0 : decide (t193 < t182) = false := decide_eq_false c28
                      clear c28
                      replace H := Option.bind_eq_some_iff.mp H
                      obtain ⟨t194, A290, H⟩ := H
                      replace H : (if t194 ≥ (wrap64 (2 * x8_1)) then (none) else (if (t187.length : Int) = (wrap64 ((t179.length : Int) + 1)) then (if 0 < (t187.length : Int) then (if (rd t187 0) = 0 then (if (Op.bytesLess t185.toList t183.toList) = true then (none) else ((impl_MirrorLaying.f t185).bind fun t196 => (if t196.toList = t183.toList then (laws_FnRulers.l1 k1 t179 t182 x8_1 t187 t179 (t179.length : Int) 0) else (none)))) else (none)) else (none)) else (none))) = some r := H
                      have A29 := Aside0.mk A290
                      obtain rfl : t194 = t193 := Option.some.inj (A29.out.symm.trans A27.out)
                      clear A290
                      by_cases c30 : t194 ≥ (wrap64 (2 * x8_1))
                      · rw [if_pos c30] at H
                        exact absurd H (by simp)
                      · rw [if_neg c30] at H
                        have c30b0 : decide ((wrap64 (2 * x8_1)) ≤ t194) = false := decide_eq_false c30
                        clear c30
                        by_cases c31 : (t187.length : Int) = (wrap64 ((t179.length : Int) + 1))
                        · rw [if_pos c31] at H
                          have c31b0 : ((t187.length : Int) == (wrap64 ((t179.length : Int) + 1))) = true := beq_iff_eq.mpr c31
                          have c31b1 : ((t187.length : Int) != (wrap64 ((t179.length : Int) + 1))) = false := bne_eq_false_iff_eq.mpr c31
                          clear c31
                          by_cases c32 : 0 < (t187.length : Int)
                          · rw [if_pos c32] at H
                            have c32b0 : decide (0 < (t187.length : Int)) = true := decide_eq_true c32
                            have c32b1 : decide (0 < t187.length) = true := decide_eq_true (by omega)
                            clear c32
                            by_cases c33 : (rd t187 0) = 0
                            · rw [if_pos c33] at H
                              have c33b0 : ((rd t187 0) == 0) = true := beq_iff_eq.mpr c33
                              have c33b1 : ((rd t187 0) != 0) = false := bne_eq_false_iff_eq.mpr c33
                              clear c33
                              by_cases c34 : (Op.bytesLess t185.toList t183.toList) = true
                              · rw [if_pos c34] at H
                                exact absurd H (by simp)
                              · rw [if_neg c34] at H
                                have c34b0 : (Op.bytesLess t185.toList t183.toList) = false := by simpa using c34
                                have hgt_ : ∀ W : World, (binOp .gtr 9 (.string t183) (.string t185)).run Tryz.prog W = .ok (.bool false) W := fun W => fnr_gtr (P := Tryz.prog) _ c34b0 W
                                clear c34
                                replace H := Option.bind_eq_some_iff.mp H
                                obtain ⟨t196, A350, H⟩ := H
                                replace H : (if t196.toList = t183.toList then (laws_FnRulers.l1 k1 t179 t182 x8_1 t187 t179 (t179.length : Int) 0) else (none)) = some r := H
                                have A35 := Aside0.mk A350
                                clear A350
                                by_cases c36 : t196.toList = t183.toList
                                · rw [if_pos c36] at H
                                  have c36b0 : (t196.toList == t183.toList) = true := beq_iff_eq.mpr c36
                                  have c36b1 : (t196.toList != t183.toList) = false := bne_eq_false_iff_eq.mpr c36
                                  clear c36
                                  have H' := Aside0.mk H
                                  clear H
                                  go_wp2_with (first | ((with_reducible refine gate_callee (f := 9) rfl ?_); refine goesL_ (some 43) rfl rfl Tryz.func9 (by kernel_rfl) rfl #[.slice Ao9 t179.length co9, .string t183] rfl (by (try simp only [List.map_toArray, List.map_cons, List.map_nil]); first | done | rfl | (simp only [List.length_drop, List.length_take]; rfl)) ?_; (with_reducible refine (impl_EndsOf.calls k1 _ _ t179 t183 t187 _ ?side1 ?side2 A18.out).mono ?_); (case side1 => repeat (first | exact (Kd.R_reads' HO_3.out).2.2 | (with_reducible refine Kd.C_alloc ?_ _) | (with_reducible refine Kd.C_drewN ?_ _) | (with_reducible refine Kd.C_drew ?_))); (case side2 => exact (Kd.R_reads' HO_3.out).2.1); rintro e w37 ⟨v188, rfl, ho0, hb⟩; refine ⟨_, rfl, ?_⟩; have n0_ := Aside0.mk (Kd.R_elder' (by (with_reducible repeat (first | apply Kd.R_alloc | apply Kd.R_drewN | apply Kd.R_drew)); exact HO_3.out) (Kd.R_base ho0) hb); have n1_ := Aside0.mk (Kd.R_elder' (by (with_reducible repeat (first | apply Kd.R_alloc | apply Kd.R_drewN | apply Kd.R_drew)); exact HO_31.out) (Kd.R_base ho0) hb); have n2_ := Aside0.mk (Kd.R_lower (Kd.R_new' (Kd.R_new' ho0 (Kd.R_lt (by (with_reducible repeat (first | apply Kd.R_alloc | apply Kd.R_drewN | apply Kd.R_drew)); exact HO_3.out))) (Kd.R_lt (by (with_reducible repeat (first | apply Kd.R_alloc | apply Kd.R_drewN | apply Kd.R_drew)); exact HO_31.out))) (below_size (by repeat (first | (with_reducible first | exact HB.out | apply below_alloc | apply pw_below_drewN | apply below_drew1) | exact HB.out)))); have n3_ := Aside0.mk (below_step (by repeat (first | (with_reducible first | exact HB.out | apply below_alloc | apply pw_below_drewN | apply below_drew1) | exact HB.out)) hb); clear HO_3; clear HO_31; clear HB; have HO_3 := n0_; have HO_31 := n1_; have HO189 := n2_; have HB := n3_; clear n0_ n1_ n2_ n3_; (try clear hb); (try clear hb2); (try clear hk); (try clear hi); (try clear ho0)) | (go_at_call 10; (with_reducible refine (impl_RulerOk.calls _ _ t179 true _ ?side1 ?side2 A19.out).mono ?_); (case side1 => repeat (first | exact (Kd.R_reads' HO_3.out).2.2 | (with_reducible refine Kd.C_alloc ?_ _) | (with_reducible refine Kd.C_drewN ?_ _) | (with_reducible refine Kd.C_drew ?_))); (case side2 => exact (Kd.R_reads' HO_3.out).2.1); rintro e w38 ⟨rfl, hb⟩; have n0_ := Aside0.mk (Kd.R_below (by (with_reducible repeat (first | apply Kd.R_alloc | apply Kd.R_drewN | apply Kd.R_drew)); exact HO_3.out) hb); have n1_ := Aside0.mk (Kd.R_below (by (with_reducible repeat (first | apply Kd.R_alloc | apply Kd.R_drewN | apply Kd.R_drew)); exact HO_31.out) hb); have n2_ := Aside0.mk (Kd.R_below (by (with_reducible repeat (first | apply Kd.R_alloc | apply Kd.R_drewN | apply Kd.R_drew)); exact HO189.out) hb); have n3_ := Aside0.mk (below_step (by repeat (first | (with_reducible first | exact HB.out | apply below_alloc | apply pw_below_drewN | apply below_drew1) | exact HB.out)) hb); clear HO_3; clear HO_31; clear HO189; clear HB; have HO_3 := n0_; have HO_31 := n1_; have HO189 := n2_; have HB := n3_; clear n0_ n1_ n2_ n3_; (try clear hb); (try clear hb2); (try clear hk); (try clear hi)) | (go_at_call 11; (with_reducible refine (impl_RoomOf.calls k1 _ _ t179 t183 t191 _ ?side1 ?side2 A23.out).mono ?_); (case side1 => repeat (first | exact (Kd.R_reads' HO_3.out).2.2 | (with_reducible refine Kd.C_alloc ?_ _) | (with_reducible refine Kd.C_drewN ?_ _) | (with_reducible refine Kd.C_drew ?_))); (case side2 => exact (Kd.R_reads' HO_3.out).2.1); rintro e w39 ⟨rfl, hb⟩; have n0_ := Aside0.mk (Kd.R_below (by (with_reducible repeat (first | apply Kd.R_alloc | apply Kd.R_drewN | apply Kd.R_drew)); exact HO_3.out) hb); have n1_ := Aside0.mk (Kd.R_below (by (with_reducible repeat (first | apply Kd.R_alloc | apply Kd.R_drewN | apply Kd.R_drew)); exact HO_31.out) hb); have n2_ := Aside0.mk (Kd.R_below (by (with_reducible repeat (first | apply Kd.R_alloc | apply Kd.R_drewN | apply Kd.R_drew)); exact HO189.out) hb); have n3_ := Aside0.mk (below_step (by repeat (first | (with_reducible first | exact HB.out | apply below_alloc | apply pw_below_drewN | apply below_drew1) | exact HB.out)) hb); clear HO_3; clear HO_31; clear HO189; clear HB; have HO_3 := n0_; have HO_31 := n1_; have HO189 := n2_; have HB := n3_; clear n0_ n1_ n2_ n3_; (try clear hb); (try clear hb2); (try clear hk); (try clear hi); (try clear A23)) | (go_at_call 11; (with_reducible refine (impl_RoomOf.calls k1 _ _ t179 t185 t192 _ ?side1 ?side2 A25.out).mono ?_); (case side1 => repeat (first | exact (Kd.R_reads' HO_3.out).2.2 | (with_reducible refine Kd.C_alloc ?_ _) | (with_reducible refine Kd.C_drewN ?_ _) | (with_reducible refine Kd.C_drew ?_))); (case side2 => exact (Kd.R_reads' HO_3.out).2.1); rintro e w40 ⟨rfl, hb⟩; have n0_ := Aside0.mk (Kd.R_below (by (with_reducible repeat (first | apply Kd.R_alloc | apply Kd.R_drewN | apply Kd.R_drew)); exact HO_3.out) hb); have n1_ := Aside0.mk (Kd.R_below (by (with_reducible repeat (first | apply Kd.R_alloc | apply Kd.R_drewN | apply Kd.R_drew)); exact HO_31.out) hb); have n2_ := Aside0.mk (Kd.R_below (by (with_reducible repeat (first | apply Kd.R_alloc | apply Kd.R_drewN | apply Kd.R_drew)); exact HO189.out) hb); have n3_ := Aside0.mk (below_step (by repeat (first | (with_reducible first | exact HB.out | apply below_alloc | apply pw_below_drewN | apply below_drew1) | exact HB.out)) hb); clear HO_3; clear HO_31; clear HO189; clear HB; have HO_3 := n0_; have HO_31 := n1_; have HO189 := n2_; have HB := n3_; clear n0_ n1_ n2_ n3_; (try clear hb); (try clear hb2); (try clear hk); (try clear hi); (try clear A25)) | (go_at_call 11; (with_reducible refine (impl_RoomOf.calls k1 _ _ t179 t184 t194 _ ?side1 ?side2 A27.out).mono ?_); (case side1 => repeat (first | exact (Kd.R_reads' HO_3.out).2.2 | (with_reducible refine Kd.C_alloc ?_ _) | (with_reducible refine Kd.C_drewN ?_ _) | (with_reducible refine Kd.C_drew ?_))); (case side2 => exact (Kd.R_reads' HO_3.out).2.1); rintro e w41 ⟨rfl, hb⟩; have n0_ := Aside0.mk (Kd.R_below (by (with_reducible repeat (first | apply Kd.R_alloc | apply Kd.R_drewN | apply Kd.R_drew)); exact HO_3.out) hb); have n1_ := Aside0.mk (Kd.R_below (by (with_reducible repeat (first | apply Kd.R_alloc | apply Kd.R_drewN | apply Kd.R_drew)); exact HO_31.out) hb); have n2_ := Aside0.mk (Kd.R_below (by (with_reducible repeat (first | apply Kd.R_alloc | apply Kd.R_drewN | apply Kd.R_drew)); exact HO189.out) hb); have n3_ := Aside0.mk (below_step (by repeat (first | (with_reducible first | exact HB.out | apply below_alloc | apply pw_below_drewN | apply below_drew1) | exact HB.out)) hb); clear HO_3; clear HO_31; clear HO189; clear HB; have HO_3 := n0_; have HO_31 := n1_; have HO189 := n2_; have HB := n3_; clear n0_ n1_ n2_ n3_; (try clear hb); (try clear hb2); (try clear hk); (try clear hi); (try clear A27)) | (go_at_call 11; (with_reducible refine (impl_RoomOf.calls k1 _ _ t179 t184 t194 _ ?side1 ?side2 A29.out).mono ?_); (case side1 => repeat (first | exact (Kd.R_reads' HO_3.out).2.2 | (with_reducible refine Kd.C_alloc ?_ _) | (with_reducible refine Kd.C_drewN ?_ _) | (with_reducible refine Kd.C_drew ?_))); (case side2 => exact (Kd.R_reads' HO_3.out).2.1); rintro e w42 ⟨rfl, hb⟩; have n0_ := Aside0.mk (Kd.R_below (by (with_reducible repeat (first | apply Kd.R_alloc | apply Kd.R_drewN | apply Kd.R_drew)); exact HO_3.out) hb); have n1_ := Aside0.mk (Kd.R_below (by (with_reducible repeat (first | apply Kd.R_alloc | apply Kd.R_drewN | apply Kd.R_drew)); exact HO_31.out) hb); have n2_ := Aside0.mk (Kd.R_below (by (with_reducible repeat (first | apply Kd.R_alloc | apply Kd.R_drewN | apply Kd.R_drew)); exact HO189.out) hb); have n3_ := Aside0.mk (below_step (by repeat (first | (with_reducible first | exact HB.out | apply below_alloc | apply pw_below_drewN | apply below_drew1) | exact HB.out)) hb); clear HO_3; clear HO_31; clear HO189; clear HB; have HO_3 := n0_; have HO_31 := n1_; have HO189 := n2_; have HB := n3_; clear n0_ n1_ n2_ n3_; (try clear hb); (try clear hb2); (try clear hk); (try clear hi); obtain ⟨Ao43, co43, eo43⟩ := Kd.R_slice HO189.out; subst eo43; have p195 : 0 ≤ (0 : Int) := (by omega); have q195 : 0 < (t187.length : Int) := of_decide_eq_true (by first | (with_reducible assumption) | assumption); obtain ⟨ad195, e195, hx195_0⟩ := Kd.at_int (Kd.R_reads' HO189.out).2.2 0 p195 q195; cases e195; have qi195 : (0 < t187.length) = True := eq_true (by omega); (try rw [show ((0 : Int)).toNat = 0 from rfl] at hx195_0); (try rw [Addr.add_zero'] at hx195_0); replace p195 := eq_true p195; replace q195 := eq_true q195) | (go_at_call 8; (with_reducible refine (impl_MirrorLaying.calls t185 t196 _ A35.out).mono ?_); rintro e w44 ⟨rfl, hb⟩; have n0_ := Aside0.mk (Kd.R_below (by (with_reducible repeat (first | apply Kd.R_alloc | apply Kd.R_drewN | apply Kd.R_drew)); exact HO_3.out) hb); have n1_ := Aside0.mk (Kd.R_below (by (with_reducible repeat (first | apply Kd.R_alloc | apply Kd.R_drewN | apply Kd.R_drew)); exact HO_31.out) hb); have n2_ := Aside0.mk (Kd.R_below (by (with_reducible repeat (first | apply Kd.R_alloc | apply Kd.R_drewN | apply Kd.R_drew)); exact HO189.out) hb); have n3_ := Aside0.mk (below_step (by repeat (first | (with_reducible first | exact HB.out | apply below_alloc | apply pw_below_drewN | apply below_drew1) | exact HB.out)) hb); clear HO_3; clear HO_31; clear HO189; clear HB; have HO_3 := n0_; have HO_31 := n1_; have HO189 := n2_; have HB := n3_; clear n0_ n1_ n2_ n3_; (try clear hb); (try clear hb2); (try clear hk); (try clear hi)))
                                  go_loopg [114] k1 (fun kq v114 w' => ∃ (x114_2 : Int), v114 = .int .i64 x114_2 ∧ Aside0 (laws_FnRulers.l1 kq t179 t182 x8_1 t187 t179 (t179.length : Int) x114_2 = some r) ∧ Aside0 (kq ≤ k1) ∧ Aside0 (Kd.R (Kd.int .i64) 3 w' w.heap.size (fun k_ => some k_ ≠ ((.slice (some ad195) t187.length co43) : Value).ownBlock) (.slice Ao9 t179.length co9) t179) ∧ Aside0 (Kd.R (Kd.int .i64) 3 w' w.heap.size (fun k_ => some k_ ≠ ((.slice Ao9 t179.length co9) : Value).ownBlock ∧ some k_ ≠ ((.slice Ao9 t179.length co9) : Value).ownBlock) (.slice (some ad195) t187.length co43) t187) ∧ Aside0 (Kd.R (Kd.int .i64) 3 w' w.heap.size (fun k_ => some k_ ≠ ((.slice (some ad195) t187.length co43) : Value).ownBlock) (.slice Ao9 t179.length co9) t179) ∧ Aside0 (Below w.heap.size w w'))
                                  case atStart => exact ⟨(0), (by first | rfl | (simp; done) | (simp [*]; done)), H', ⟨Nat.le_refl _⟩, ⟨by (with_reducible repeat (first | apply Kd.R_alloc | apply Kd.R_drewN | apply Kd.R_drew)); exact Kd.R_mono HO_3.out (fun _ hk => hk.2)⟩, ⟨by (with_reducible repeat (first | apply Kd.R_alloc | apply Kd.R_drewN | apply Kd.R_drew)); exact Kd.R_mono HO189.out (fun _ hk => ⟨hk.1.2, hk.1.2⟩)⟩, ⟨by (with_reducible repeat (first | apply Kd.R_alloc | apply Kd.R_drewN | apply Kd.R_drew)); exact Kd.R_mono HO_3.out (fun _ hk => hk.2)⟩, ⟨by repeat (first | (with_reducible first | exact HB.out | apply below_alloc | apply pw_below_drewN | apply below_drew1) | exact HB.out)⟩⟩
                                  case round =>
                                    clear H'
                                    try clear c1
                                    try clear p1
                                    try clear q1
                                    try clear hx1
                                    try clear qi1
                                    try clear c2
                                    try clear c2b0
                                    try clear c2b1
                                    try clear p2
                                    try clear c3
                                    try clear c4
                                    try clear c5
                                    try clear c6
                                    try clear p6
                                    try clear c7
                                    try clear c8
                                    try clear c9
                                    try clear c10
                                    try clear c14
                                    try clear c14b0
                                    try clear c15
                                    try clear c15b0
                                    try clear c16
                                    try clear c16b0
                                    try clear p18
                                    try clear q18
                                    try clear hx18
                                    try clear p19
                                    try clear q19
                                    try clear hx19
                                    try clear qi19
                                    try clear c20
                                    try clear c21
                                    try clear c21b0
                                    try clear c22
                                    try clear c22b0
                                    try clear c24
                                    try clear c24b0
                                    try clear c24b1
                                    try clear c26
                                    try clear c26b0
                                    try clear c26b1
                                    try clear c28
                                    try clear c28b0
                                    try clear c30
                                    try clear c30b0
                                    try clear c31
                                    try clear c31b0
                                    try clear c31b1
                                    try clear c32
                                    try clear c32b0
                                    try clear c32b1
                                    try clear c33
                                    try clear c33b0
                                    try clear c33b1
                                    try clear c34
                                    try clear c34b0
                                    try clear c36
                                    try clear c36b0
                                    try clear c36b1
                                    try clear hx186_0
                                    try clear hx195_0
                                    try clear p186
                                    try clear p195
                                    try clear p2
                                    try clear q186
                                    try clear q195
                                    obtain ⟨x114_2, rfl, HA, HK2, HO_3, HO_11, HO_112, HB⟩ := hrel
                                    cases gk with
                                    | zero => exact absurd HA.out (by simp [laws_FnRulers.l1])
                                    | succ k2 =>
                                      have H := HA.out
                                      clear HA
                                      simp only [laws_FnRulers.l1] at H
                                      by_cases c45 : x114_2 < (t179.length : Int)
                                      · rw [if_pos c45] at H
                                        have c45b0 : decide (x114_2 < (t179.length : Int)) = true := decide_eq_true c45
                                        clear c45
                                        by_cases c46 : 0 ≤ x114_2
                                        · rw [if_pos c46] at H
                                          have c46b0 : decide (0 ≤ x114_2) = true := decide_eq_true c46
                                          clear c46
                                          by_cases c47 : x114_2 < (t179.length : Int)
                                          · rw [if_pos c47] at H
                                            have c47b0 : decide (x114_2 < (t179.length : Int)) = true := decide_eq_true c47
                                            clear c47
                                            obtain ⟨ji48, hji48⟩ : ∃ j_ : Int, (wrap64 (x114_2 + 1)) = j_ := ⟨_, rfl⟩
                                            replace H : (if 0 ≤ (ji48) then (if (ji48) < (t187.length : Int) then (if x114_2 < (t187.length : Int) then ((laws_mag.f (wrap64 ((rd t187 (ji48)) - (rd t187 x114_2)))).bind fun t200 => (if t200 = (rd t179 x114_2) then (laws_FnRulers.l1 k2 t179 t182 x8_1 t187 t179 (t179.length : Int) ji48) else (none))) else (none)) else (none)) else (none)) = some r := by first | (rw [hji48] at H; exact H) | (simp only [hji48] at H ⊢; exact H)
                                            have hji48w : (IntKind.i64.wrap (x114_2 + 1)) = ji48 := (i64_w _).trans hji48
                                            by_cases c49 : 0 ≤ (ji48)
                                            · rw [if_pos c49] at H
                                              have c49b0 : decide (0 ≤ (ji48)) = true := decide_eq_true c49
                                              clear c49
                                              by_cases c50 : (ji48) < (t187.length : Int)
                                              · rw [if_pos c50] at H
                                                have c50b0 : decide ((ji48) < (t187.length : Int)) = true := decide_eq_true c50
                                                clear c50
                                                by_cases c51 : x114_2 < (t187.length : Int)
                                                · rw [if_pos c51] at H
                                                  have c51b0 : decide (x114_2 < (t187.length : Int)) = true := decide_eq_true c51
                                                  clear c51
                                                  replace H := Option.bind_eq_some_iff.mp H
                                                  obtain ⟨t200, A520, H⟩ := H
                                                  replace H : (if t200 = (rd t179 x114_2) then (laws_FnRulers.l1 k2 t179 t182 x8_1 t187 t179 (t179.length : Int) ji48) else (none)) = some r := H
                                                  have A52 := Aside0.mk A520
                                                  clear A520
                                                  by_cases c53 : t200 = (rd t179 x114_2)
                                                  · rw [if_pos c53] at H
                                                    have c53b0 : (t200 == (rd t179 x114_2)) = true := beq_iff_eq.mpr c53
                                                    have c53b1 : (t200 != (rd t179 x114_2)) = false := bne_eq_false_iff_eq.mpr c53
                                                    clear c53
                                                    as_aux_lemma =>
                                                      have H' := Aside0.mk H
                                                      clear H
                                                      have p197 : 0 ≤ (x114_2 : Int) := of_decide_eq_true (by first | (with_reducible assumption) | assumption)
                                                      have q197 : x114_2 < (t179.length : Int) := of_decide_eq_true (by first | (with_reducible assumption) | assumption)
                                                      obtain ⟨ad197, e197, hx197_0⟩ := Kd.at_int (Kd.R_reads' HO_112.out).2.2 x114_2 p197 q197
                                                      cases e197
                                                      replace p197 := eq_true p197
                                                      replace q197 := eq_true q197
                                                      try go_wp2
                                                      have n0_ := Aside0.mk (Kd.R_drew HO_3.out)
                                                      have n1_ := Aside0.mk (Kd.R_drew HO_11.out)
                                                      have n2_ := Aside0.mk (Kd.R_drew HO_112.out)
                                                      have n3_ := Aside0.mk (below_drew1 HB.out)
                                                      clear HO_3
                                                      clear HO_11
                                                      clear HO_112
                                                      clear HB
                                                      have HO_3 := n0_
                                                      have HO_11 := n1_
                                                      have HO_112 := n2_
                                                      have HB := n3_
                                                      clear n0_ n1_ n2_ n3_
                                                      have p198 : 0 ≤ ((ji48) : Int) := of_decide_eq_true (by first | (with_reducible assumption) | assumption)
                                                      have q198 : (ji48) < (t187.length : Int) := of_decide_eq_true (by first | (with_reducible assumption) | assumption)
                                                      obtain ⟨ad198, e198, hx198_0⟩ := Kd.at_int (Kd.R_reads' HO_11.out).2.2 (ji48) p198 q198
                                                      obtain rfl : ad195 = ad198 := (by injection e198)
                                                      replace p198 := eq_true p198
                                                      replace q198 := eq_true q198
                                                      have p199 : 0 ≤ (x114_2 : Int) := of_decide_eq_true (by first | (with_reducible assumption) | assumption)
                                                      have q199 : x114_2 < (t187.length : Int) := of_decide_eq_true (by first | (with_reducible assumption) | assumption)
                                                      obtain ⟨ad199, e199, hx199_0⟩ := Kd.at_int (Kd.R_reads' HO_11.out).2.2 x114_2 p199 q199
                                                      obtain rfl : ad195 = ad199 := (by injection e199)
                                                      replace p199 := eq_true p199
                                                      replace q199 := eq_true q199
                                                      refine start_ (n := 13) (S := fun w' => w'.cell? (ad195.add ((ji48)).toNat) = some (.int .i64 (rd t187 (ji48))) ∧ w'.cell? (ad195.add (x114_2).toNat) = some (.int .i64 (rd t187 x114_2))) (ds := []) #[false, false, false, false, false, false, false, false, false, false, false, false, false] (by kernel_rfl) rfl rfl ⟨hx198_0, hx199_0⟩ (fun hHeld => ?_); refine with_tabW laws_FnRulers.tab20 laws_FnRulers.bits20 (fun HT_ HW_ => ?_)
                                                      generalize wr.drew = w54 at HO_3 HO_11 HO_112 HB hx198_0 hx199_0 hHeld ⊢
                                                      refine pure_ (i := 0) (N := some 119) (v := ?_) (a' := ?_) #[true, false, false, false, false, false, false, false, false, false, false, false, false] rfl rfl (any_of HT_.out (by kernel_rfl)) (fun _ _ _ h => h) (Or.inl ⟨by rfl, ?_⟩) ?_ ?_
                                                      rotate_left
                                                      · intro w'
                                                        go_simp
                                                        with_reducible rfl
                                                      rotate_left
                                                      · simp only [Act.put, List.setIfInBounds_toArray, List.set_cons_zero, List.set_cons_succ, i64_w, i32_w]
                                                        rfl
                                                      refine pure_ (i := 1) (N := some 120) (v := ?_) (a' := ?_) #[true, true, false, false, false, false, false, false, false, false, false, false, false] rfl rfl (any_of HT_.out (by kernel_rfl)) (fun _ _ _ h => h) (Or.inl ⟨by rfl, ?_⟩) ?_ ?_
                                                      rotate_left
                                                      · intro w'
                                                        go_simp
                                                        with_reducible rfl
                                                      rotate_left
                                                      · simp only [Act.put, List.setIfInBounds_toArray, List.set_cons_zero, List.set_cons_succ, i64_w, i32_w]
                                                        rfl
                                                      refine pure_ (i := 2) (N := some 121) (v := ?_) (a' := ?_) #[true, true, true, false, false, false, false, false, false, false, false, false, false] rfl rfl (any_of HT_.out (by kernel_rfl)) (fun _ _ _ h => h) (Or.inl ⟨by rfl, ?_⟩) ?_ ?_
                                                      rotate_left
                                                      · intro w'
                                                        go_simp
                                                        with_reducible rfl
                                                      rotate_left
                                                      · simp only [Act.put, List.setIfInBounds_toArray, List.set_cons_zero, List.set_cons_succ, i64_w, i32_w]
                                                        rfl
                                                      refine pure_ (i := 3) (N := some 122) (v := ?_) (a' := ?_) #[true, true, true, true, false, false, false, false, false, false, false, false, false] rfl rfl (any_of HT_.out (by kernel_rfl)) (fun _ _ _ h => h) (Or.inl ⟨by rfl, ?_⟩) ?_ ?_
                                                      rotate_left
                                                      · intro w'
                                                        go_simp
                                                        with_reducible rfl
                                                      rotate_left
                                                      · simp only [Act.put, List.setIfInBounds_toArray, List.set_cons_zero, List.set_cons_succ, i64_w, i32_w]
                                                        rfl
                                                      refine pure_ (i := 5) (N := some 124) (v := ?_) (a' := ?_) #[true, true, true, true, false, true, false, false, false, false, false, false, false] rfl rfl (any_of HT_.out (by kernel_rfl)) (fun _ _ _ h => h) (Or.inl ⟨by rfl, ?_⟩) ?_ ?_
                                                      rotate_left
                                                      · intro w'
                                                        go_simp
                                                        with_reducible rfl
                                                      rotate_left
                                                      · simp only [Act.put, List.setIfInBounds_toArray, List.set_cons_zero, List.set_cons_succ, i64_w, i32_w]
                                                        rfl
                                                      refine pure_ (i := 6) (N := some 125) (v := ?_) (a' := ?_) #[true, true, true, true, false, true, true, false, false, false, false, false, false] rfl rfl (any_of HT_.out (by kernel_rfl)) (fun _ _ _ h => h) (Or.inl ⟨by rfl, ?_⟩) ?_ ?_
                                                      rotate_left
                                                      · intro w'
                                                        go_simp
                                                        with_reducible rfl
                                                      rotate_left
                                                      · simp only [Act.put, List.setIfInBounds_toArray, List.set_cons_zero, List.set_cons_succ, i64_w, i32_w]
                                                        rfl
                                                      refine pure_ (i := 7) (N := some 126) (v := ?_) (a' := ?_) #[true, true, true, true, false, true, true, true, false, false, false, false, false] rfl rfl (any_of HT_.out (by kernel_rfl)) (fun _ _ _ h => h) (Or.inl ⟨by rfl, ?_⟩) ?_ ?_
                                                      rotate_left
                                                      · intro w'
                                                        go_simp
                                                        with_reducible rfl
                                                      rotate_left
                                                      · simp only [Act.put, List.setIfInBounds_toArray, List.set_cons_zero, List.set_cons_succ, i64_w, i32_w]
                                                        rfl
                                                      refine pure_ (i := 11) (N := some 130) (v := ?_) (a' := ?_) #[true, true, true, true, false, true, true, true, false, false, false, true, false] rfl rfl (any_of HT_.out (by kernel_rfl)) (fun _ _ _ h => h) (Or.inl ⟨by rfl, ?_⟩) ?_ ?_
                                                      rotate_left
                                                      · intro w'
                                                        go_simp
                                                        with_reducible rfl
                                                      rotate_left
                                                      · simp only [Act.put, List.setIfInBounds_toArray, List.set_cons_zero, List.set_cons_succ, i64_w, i32_w]
                                                        rfl
                                                      refine take_ (i := 4) (N := some 123) (v := ?_) (a' := ?_) #[true, true, true, true, true, true, true, true, false, false, false, true, false] rfl rfl (take_ofW HT_.out HW_.out (by kernel_rfl)) (fun _ _ _ h => h) (Or.inl ⟨by rfl, ?_⟩) hHeld ?_ ?_
                                                      rotate_left
                                                      · rintro w' ⟨s0, s1⟩
                                                        try simp only [Int.toNat_natCast] at s0 s1
                                                        go_simp
                                                        with_reducible rfl
                                                      rotate_left
                                                      · simp only [Act.put, List.setIfInBounds_toArray, List.set_cons_zero, List.set_cons_succ, i64_w, i32_w]
                                                        rfl
                                                      refine take_ (i := 8) (N := some 127) (v := ?_) (a' := ?_) #[true, true, true, true, true, true, true, true, true, false, false, true, false] rfl rfl (take_ofW HT_.out HW_.out (by kernel_rfl)) (fun _ _ _ h => h) (Or.inl ⟨by rfl, ?_⟩) hHeld ?_ ?_
                                                      rotate_left
                                                      · rintro w' ⟨s0, s1⟩
                                                        try simp only [Int.toNat_natCast] at s0 s1
                                                        go_simp
                                                        with_reducible rfl
                                                      rotate_left
                                                      · simp only [Act.put, List.setIfInBounds_toArray, List.set_cons_zero, List.set_cons_succ, i64_w, i32_w]
                                                        rfl
                                                      refine pure_ (i := 9) (N := some 128) (v := ?_) (a' := ?_) #[true, true, true, true, true, true, true, true, true, true, false, true, false] rfl rfl (any_of HT_.out (by kernel_rfl)) (fun _ _ _ h => h) (Or.inl ⟨by rfl, ?_⟩) ?_ ?_
                                                      rotate_left
                                                      · intro w'
                                                        go_simp
                                                        with_reducible rfl
                                                      rotate_left
                                                      · simp only [Act.put, List.setIfInBounds_toArray, List.set_cons_zero, List.set_cons_succ, i64_w, i32_w]
                                                        rfl
                                                      refine one_ (i := 10) (N := some 129) #[true, true, true, true, true, true, true, true, true, true, true, true, false] rfl rfl (one_of HT_.out (by kernel_rfl)) (by decide) (fun K hK => ?_)
                                                      refine goes_ Tryz.func12 (by kernel_rfl) rfl #[.int .i64 (wrap64 ((rd t187 (ji48)) - (rd t187 x114_2)))] (by rfl) rfl rfl (by (try simp only [List.map_toArray, List.map_cons, List.map_nil]); first | done | (simp only [hji48]; rfl) | rfl | (simp only [List.length_drop, List.length_take]; rfl)) ?_
                                                      with_reducible refine (laws_mag.calls (wrap64 ((rd t187 (ji48)) - (rd t187 x114_2))) t200 _ A52.out).mono ?_
                                                      rintro e w' ⟨rfl, ⟨nd, rfl⟩⟩
                                                      refine ⟨_, rfl, ?_⟩
                                                      refine hK.out _ _ ⟨hHeld.1, hHeld.2⟩ (fun hHeld => ?_)
                                                      clear hK K
                                                      refine norm_ (a' := ?_) ?_ ?_
                                                      rotate_left
                                                      · show Act.put _ (some 129) _ = _
                                                        simp only [Act.put, List.setIfInBounds_toArray, List.set_cons_zero, List.set_cons_succ, i64_w, i32_w]
                                                        rfl
                                                      refine pure_ (i := 12) (N := some 131) (v := ?_) (a' := ?_) #[true, true, true, true, true, true, true, true, true, true, true, true, true] rfl rfl (any_of HT_.out (by kernel_rfl)) (fun _ _ _ h => h) (Or.inl ⟨by rfl, ?_⟩) ?_ ?_
                                                      rotate_left
                                                      · intro w'
                                                        go_simp
                                                        with_reducible rfl
                                                      rotate_left
                                                      · simp only [Act.put, List.setIfInBounds_toArray, List.set_cons_zero, List.set_cons_succ, i64_w, i32_w]
                                                        rfl
                                                      refine done_ (done_of HT_.out (by kernel_rfl)) ?_
                                                      try go_wp2
                                                      go_roundg k2
                                                      case measure => have := HK1.out; have := HK2.out; omega
                                                      case rel => exact ⟨(ji48), (by first | rfl | (simp; done) | (simp only [← hji48] <;> (first | rfl | simp)) | (simp [*]; done)), H', ⟨by have := HK1.out; have := HK2.out; omega⟩, ⟨by (with_reducible repeat (first | apply Kd.R_alloc | apply Kd.R_drewN | apply Kd.R_drew)); exact HO_3.out⟩, ⟨by (with_reducible repeat (first | apply Kd.R_alloc | apply Kd.R_drewN | apply Kd.R_drew)); exact HO_11.out⟩, ⟨by (with_reducible repeat (first | apply Kd.R_alloc | apply Kd.R_drewN | apply Kd.R_drew)); exact HO_112.out⟩, ⟨by repeat (first | (with_reducible first | exact HB.out | apply below_alloc | apply pw_below_drewN | apply below_drew1) | exact HB.out)⟩⟩
                                                  · rw [if_neg c53] at H
                                                    exact absurd H (by simp)
                                                · rw [if_neg c51] at H
                                                  exact absurd H (by simp)
                                              · rw [if_neg c50] at H
                                                exact absurd H (by simp)
                                            · rw [if_neg c49] at H
                                              exact absurd H (by simp)
                                          · rw [if_neg c47] at H
                                            exact absurd H (by simp)
                                        · rw [if_neg c46] at H
                                          exact absurd H (by simp)
                                      · rw [if_neg c45] at H
                                        have c45b0 : decide (x114_2 < (t179.length : Int)) = false := decide_eq_false c45
                                        clear c45
                                        obtain ⟨ji55, hji55⟩ : ∃ j_ : Int, (shl .i64 1 (t179.length : Int)) = j_ := ⟨_, rfl⟩
                                        replace H : ((impl_CountLayings.f k2 t179 (wrap64 (t182 - 1))).bind fun t201 => (if t201 = 0 then ((impl_CountLayings.f k2 t179 t182).bind fun t202 => (if t202 < 2 then (none) else ((impl_CountLayings.f k2 t179 t182).bind fun t203 => (if (Int.tmod t203 2) = 0 then ((laws_sum.f k2 t179).bind fun t204 => ((impl_CountLayings.f k2 t179 t204).bind fun t205 => (if t205 = (ji55) then ((laws_sum.f k2 t179).bind fun t206 => ((impl_CountLayings.f k2 t179 (wrap64 (t206 - 1))).bind fun t207 => (if t207 > (wrap64 ((ji55) - 2)) then (none) else ((impl_ReachOf.f k2 t179).bind fun t208 => (if (t208.length : Int) = 0 then (none) else (if 0 ≤ (wrap64 ((t208.length : Int) - 1)) then (if (wrap64 ((t208.length : Int) - 1)) < (t208.length : Int) then ((laws_sum.f k2 t179).bind fun t212 => (if (rd t208 (wrap64 ((t208.length : Int) - 1))) = t212 then (if 0 ≤ (t179.length : Int) then (if (t179.length : Int) < (t187.length : Int) then ((laws_mag.f (rd t187 (t179.length : Int))).bind fun t214 => ((laws_has.f k2 t208 t214).bind fun t215 => (if t215 = true then (if 0 < (t208.length : Int) then (if (rd t208 0) < 0 then (none) else (laws_FnRulers.l2 k2 t179 x8_1 t208 t208 (t208.length : Int) 0)) else (none)) else (none)))) else (none)) else (none)) else (none))) else (none)) else (none))))))) else (none)))) else (none))))) else (none))) = some r := by first | (rw [hji55] at H; exact H) | (simp only [hji55] at H ⊢; exact H)
                                        have hji55_ : (IntKind.i64.wrap (1 * 2 ^ min (t179.length : Int).toNat 64)) = ji55 := hji55
                                        have hji55z : (t179.length : Int) ≤ 64 → (IntKind.i64.wrap (1 * 2 ^ (t179.length : Int).toNat)) = ji55 := shl_small hji55
                                        have hji55p : (IntKind.i64.wrap (1 * 2 ^ min t179.length 64)) = ji55 := hji55_
                                        have hji55q : (t179.length : Int) ≤ 64 → (IntKind.i64.wrap (1 * 2 ^ t179.length)) = ji55 := hji55z
                                        have hji55r : (IntKind.i64.wrap (2 ^ min t179.length 64)) = ji55 := by have h_ := hji55p; rw [Int.one_mul] at h_; exact h_
                                        have hji55s : (t179.length : Int) ≤ 64 → (IntKind.i64.wrap (2 ^ t179.length)) = ji55 := fun hle_ => by have h_ := hji55q hle_; rw [Int.one_mul] at h_; exact h_
                                        have hji55u : (IntKind.i64.wrap (2 ^ min (t179.length : Int).toNat 64)) = ji55 := by have h_ := hji55_; rw [Int.one_mul] at h_; exact h_
                                        have hji55v : (t179.length : Int) ≤ 64 → (IntKind.i64.wrap (2 ^ (t179.length : Int).toNat)) = ji55 := fun hle_ => by have h_ := hji55z hle_; rw [Int.one_mul] at h_; exact h_
                                        have hji55y : (wrap64 (1 * 2 ^ min (t179.length : Int).toNat 64)) = ji55 := (i64_w _).symm.trans hji55_
                                        have hji55x : (t179.length : Int) ≤ 64 → (wrap64 (1 * 2 ^ (t179.length : Int).toNat)) = ji55 := fun h_ => (i64_w _).symm.trans (hji55z h_)
                                        replace H := Option.bind_eq_some_iff.mp H
                                        obtain ⟨t201, A560, H⟩ := H
                                        replace H : (if t201 = 0 then ((impl_CountLayings.f k2 t179 t182).bind fun t202 => (if t202 < 2 then (none) else ((impl_CountLayings.f k2 t179 t182).bind fun t203 => (if (Int.tmod t203 2) = 0 then ((laws_sum.f k2 t179).bind fun t204 => ((impl_CountLayings.f k2 t179 t204).bind fun t205 => (if t205 = (ji55) then ((laws_sum.f k2 t179).bind fun t206 => ((impl_CountLayings.f k2 t179 (wrap64 (t206 - 1))).bind fun t207 => (if t207 > (wrap64 ((ji55) - 2)) then (none) else ((impl_ReachOf.f k2 t179).bind fun t208 => (if (t208.length : Int) = 0 then (none) else (if 0 ≤ (wrap64 ((t208.length : Int) - 1)) then (if (wrap64 ((t208.length : Int) - 1)) < (t208.length : Int) then ((laws_sum.f k2 t179).bind fun t212 => (if (rd t208 (wrap64 ((t208.length : Int) - 1))) = t212 then (if 0 ≤ (t179.length : Int) then (if (t179.length : Int) < (t187.length : Int) then ((laws_mag.f (rd t187 (t179.length : Int))).bind fun t214 => ((laws_has.f k2 t208 t214).bind fun t215 => (if t215 = true then (if 0 < (t208.length : Int) then (if (rd t208 0) < 0 then (none) else (laws_FnRulers.l2 k2 t179 x8_1 t208 t208 (t208.length : Int) 0)) else (none)) else (none)))) else (none)) else (none)) else (none))) else (none)) else (none))))))) else (none)))) else (none))))) else (none)) = some r := H
                                        have A56 := Aside0.mk A560
                                        clear A560
                                        by_cases c57 : t201 = 0
                                        · rw [if_pos c57] at H
                                          have c57b0 : (t201 == 0) = true := beq_iff_eq.mpr c57
                                          have c57b1 : (t201 != 0) = false := bne_eq_false_iff_eq.mpr c57
                                          clear c57
                                          replace H := Option.bind_eq_some_iff.mp H
                                          obtain ⟨t202, A580, H⟩ := H
                                          replace H : (if t202 < 2 then (none) else ((impl_CountLayings.f k2 t179 t182).bind fun t203 => (if (Int.tmod t203 2) = 0 then ((laws_sum.f k2 t179).bind fun t204 => ((impl_CountLayings.f k2 t179 t204).bind fun t205 => (if t205 = (ji55) then ((laws_sum.f k2 t179).bind fun t206 => ((impl_CountLayings.f k2 t179 (wrap64 (t206 - 1))).bind fun t207 => (if t207 > (wrap64 ((ji55) - 2)) then (none) else ((impl_ReachOf.f k2 t179).bind fun t208 => (if (t208.length : Int) = 0 then (none) else (if 0 ≤ (wrap64 ((t208.length : Int) - 1)) then (if (wrap64 ((t208.length : Int) - 1)) < (t208.length : Int) then ((laws_sum.f k2 t179).bind fun t212 => (if (rd t208 (wrap64 ((t208.length : Int) - 1))) = t212 then (if 0 ≤ (t179.length : Int) then (if (t179.length : Int) < (t187.length : Int) then ((laws_mag.f (rd t187 (t179.length : Int))).bind fun t214 => ((laws_has.f k2 t208 t214).bind fun t215 => (if t215 = true then (if 0 < (t208.length : Int) then (if (rd t208 0) < 0 then (none) else (laws_FnRulers.l2 k2 t179 x8_1 t208 t208 (t208.length : Int) 0)) else (none)) else (none)))) else (none)) else (none)) else (none))) else (none)) else (none))))))) else (none)))) else (none)))) = some r := H
                                          have A58 := Aside0.mk A580
                                          clear A580
                                          by_cases c59 : t202 < 2
                                          · rw [if_pos c59] at H
                                            exact absurd H (by simp)
                                          · rw [if_neg c59] at H
                                            have c59b0 : decide (t202 < 2) = false := decide_eq_false c59
                                            clear c59
                                            replace H := Option.bind_eq_some_iff.mp H
                                            obtain ⟨t203, A600, H⟩ := H
                                            replace H : (if (Int.tmod t203 2) = 0 then ((laws_sum.f k2 t179).bind fun t204 => ((impl_CountLayings.f k2 t179 t204).bind fun t205 => (if t205 = (ji55) then ((laws_sum.f k2 t179).bind fun t206 => ((impl_CountLayings.f k2 t179 (wrap64 (t206 - 1))).bind fun t207 => (if t207 > (wrap64 ((ji55) - 2)) then (none) else ((impl_ReachOf.f k2 t179).bind fun t208 => (if (t208.length : Int) = 0 then (none) else (if 0 ≤ (wrap64 ((t208.length : Int) - 1)) then (if (wrap64 ((t208.length : Int) - 1)) < (t208.length : Int) then ((laws_sum.f k2 t179).bind fun t212 => (if (rd t208 (wrap64 ((t208.length : Int) - 1))) = t212 then (if 0 ≤ (t179.length : Int) then (if (t179.length : Int) < (t187.length : Int) then ((laws_mag.f (rd t187 (t179.length : Int))).bind fun t214 => ((laws_has.f k2 t208 t214).bind fun t215 => (if t215 = true then (if 0 < (t208.length : Int) then (if (rd t208 0) < 0 then (none) else (laws_FnRulers.l2 k2 t179 x8_1 t208 t208 (t208.length : Int) 0)) else (none)) else (none)))) else (none)) else (none)) else (none))) else (none)) else (none))))))) else (none)))) else (none)) = some r := H
                                            have A60 := Aside0.mk A600
                                            obtain rfl : t203 = t202 := Option.some.inj (A60.out.symm.trans A58.out)
                                            clear A600
                                            by_cases c61 : (Int.tmod t203 2) = 0
                                            · rw [if_pos c61] at H
                                              have c61b0 : ((Int.tmod t203 2) == 0) = true := beq_iff_eq.mpr c61
                                              have c61b1 : ((Int.tmod t203 2) != 0) = false := bne_eq_false_iff_eq.mpr c61
                                              clear c61
                                              replace H := Option.bind_eq_some_iff.mp H
                                              obtain ⟨t204, A620, H⟩ := H
                                              replace H : ((impl_CountLayings.f k2 t179 t204).bind fun t205 => (if t205 = (ji55) then ((laws_sum.f k2 t179).bind fun t206 => ((impl_CountLayings.f k2 t179 (wrap64 (t206 - 1))).bind fun t207 => (if t207 > (wrap64 ((ji55) - 2)) then (none) else ((impl_ReachOf.f k2 t179).bind fun t208 => (if (t208.length : Int) = 0 then (none) else (if 0 ≤ (wrap64 ((t208.length : Int) - 1)) then (if (wrap64 ((t208.length : Int) - 1)) < (t208.length : Int) then ((laws_sum.f k2 t179).bind fun t212 => (if (rd t208 (wrap64 ((t208.length : Int) - 1))) = t212 then (if 0 ≤ (t179.length : Int) then (if (t179.length : Int) < (t187.length : Int) then ((laws_mag.f (rd t187 (t179.length : Int))).bind fun t214 => ((laws_has.f k2 t208 t214).bind fun t215 => (if t215 = true then (if 0 < (t208.length : Int) then (if (rd t208 0) < 0 then (none) else (laws_FnRulers.l2 k2 t179 x8_1 t208 t208 (t208.length : Int) 0)) else (none)) else (none)))) else (none)) else (none)) else (none))) else (none)) else (none))))))) else (none))) = some r := H
                                              have A62 := Aside0.mk A620
                                              clear A620
                                              replace H := Option.bind_eq_some_iff.mp H
                                              obtain ⟨t205, A630, H⟩ := H
                                              replace H : (if t205 = (ji55) then ((laws_sum.f k2 t179).bind fun t206 => ((impl_CountLayings.f k2 t179 (wrap64 (t206 - 1))).bind fun t207 => (if t207 > (wrap64 ((ji55) - 2)) then (none) else ((impl_ReachOf.f k2 t179).bind fun t208 => (if (t208.length : Int) = 0 then (none) else (if 0 ≤ (wrap64 ((t208.length : Int) - 1)) then (if (wrap64 ((t208.length : Int) - 1)) < (t208.length : Int) then ((laws_sum.f k2 t179).bind fun t212 => (if (rd t208 (wrap64 ((t208.length : Int) - 1))) = t212 then (if 0 ≤ (t179.length : Int) then (if (t179.length : Int) < (t187.length : Int) then ((laws_mag.f (rd t187 (t179.length : Int))).bind fun t214 => ((laws_has.f k2 t208 t214).bind fun t215 => (if t215 = true then (if 0 < (t208.length : Int) then (if (rd t208 0) < 0 then (none) else (laws_FnRulers.l2 k2 t179 x8_1 t208 t208 (t208.length : Int) 0)) else (none)) else (none)))) else (none)) else (none)) else (none))) else (none)) else (none))))))) else (none)) = some r := H
                                              have A63 := Aside0.mk A630
                                              clear A630
                                              by_cases c64 : t205 = (ji55)
                                              · rw [if_pos c64] at H
                                                have c64b0 : (t205 == (ji55)) = true := beq_iff_eq.mpr c64
                                                have c64b1 : (t205 != (ji55)) = false := bne_eq_false_iff_eq.mpr c64
                                                clear c64
                                                replace H := Option.bind_eq_some_iff.mp H
                                                obtain ⟨t206, A650, H⟩ := H
                                                replace H : ((impl_CountLayings.f k2 t179 (wrap64 (t206 - 1))).bind fun t207 => (if t207 > (wrap64 ((ji55) - 2)) then (none) else ((impl_ReachOf.f k2 t179).bind fun t208 => (if (t208.length : Int) = 0 then (none) else (if 0 ≤ (wrap64 ((t208.length : Int) - 1)) then (if (wrap64 ((t208.length : Int) - 1)) < (t208.length : Int) then ((laws_sum.f k2 t179).bind fun t212 => (if (rd t208 (wrap64 ((t208.length : Int) - 1))) = t212 then (if 0 ≤ (t179.length : Int) then (if (t179.length : Int) < (t187.length : Int) then ((laws_mag.f (rd t187 (t179.length : Int))).bind fun t214 => ((laws_has.f k2 t208 t214).bind fun t215 => (if t215 = true then (if 0 < (t208.length : Int) then (if (rd t208 0) < 0 then (none) else (laws_FnRulers.l2 k2 t179 x8_1 t208 t208 (t208.length : Int) 0)) else (none)) else (none)))) else (none)) else (none)) else (none))) else (none)) else (none)))))) = some r := H
                                                have A65 := Aside0.mk A650
                                                obtain rfl : t206 = t204 := Option.some.inj (A65.out.symm.trans A62.out)
                                                clear A650
                                                replace H := Option.bind_eq_some_iff.mp H
                                                obtain ⟨t207, A660, H⟩ := H
                                                replace H : (if t207 > (wrap64 ((ji55) - 2)) then (none) else ((impl_ReachOf.f k2 t179).bind fun t208 => (if (t208.length : Int) = 0 then (none) else (if 0 ≤ (wrap64 ((t208.length : Int) - 1)) then (if (wrap64 ((t208.length : Int) - 1)) < (t208.length : Int) then ((laws_sum.f k2 t179).bind fun t212 => (if (rd t208 (wrap64 ((t208.length : Int) - 1))) = t212 then (if 0 ≤ (t179.length : Int) then (if (t179.length : Int) < (t187.length : Int) then ((laws_mag.f (rd t187 (t179.length : Int))).bind fun t214 => ((laws_has.f k2 t208 t214).bind fun t215 => (if t215 = true then (if 0 < (t208.length : Int) then (if (rd t208 0) < 0 then (none) else (laws_FnRulers.l2 k2 t179 x8_1 t208 t208 (t208.length : Int) 0)) else (none)) else (none)))) else (none)) else (none)) else (none))) else (none)) else (none))))) = some r := H
                                                have A66 := Aside0.mk A660
                                                clear A660
                                                by_cases c67 : t207 > (wrap64 ((ji55) - 2))
                                                · rw [if_pos c67] at H
                                                  exact absurd H (by simp)
                                                · rw [if_neg c67] at H
                                                  have c67b0 : decide ((wrap64 ((ji55) - 2)) < t207) = false := decide_eq_false c67
                                                  clear c67
                                                  replace H := Option.bind_eq_some_iff.mp H
                                                  obtain ⟨t208, A680, H⟩ := H
                                                  replace H : (if (t208.length : Int) = 0 then (none) else (if 0 ≤ (wrap64 ((t208.length : Int) - 1)) then (if (wrap64 ((t208.length : Int) - 1)) < (t208.length : Int) then ((laws_sum.f k2 t179).bind fun t212 => (if (rd t208 (wrap64 ((t208.length : Int) - 1))) = t212 then (if 0 ≤ (t179.length : Int) then (if (t179.length : Int) < (t187.length : Int) then ((laws_mag.f (rd t187 (t179.length : Int))).bind fun t214 => ((laws_has.f k2 t208 t214).bind fun t215 => (if t215 = true then (if 0 < (t208.length : Int) then (if (rd t208 0) < 0 then (none) else (laws_FnRulers.l2 k2 t179 x8_1 t208 t208 (t208.length : Int) 0)) else (none)) else (none)))) else (none)) else (none)) else (none))) else (none)) else (none))) = some r := H
                                                  have A68 := Aside0.mk A680
                                                  clear A680
                                                  by_cases c69 : (t208.length : Int) = 0
                                                  · rw [if_pos c69] at H
                                                    have c69b0 : ((t208.length : Int) == 0) = true := beq_iff_eq.mpr c69
                                                    have c69b1 : ((t208.length : Int) != 0) = false := bne_eq_false_iff_eq.mpr c69
                                                    clear c69
                                                    exact absurd H (by simp)
                                                  · rw [if_neg c69] at H
                                                    have c69b0 : ((t208.length : Int) == 0) = false := beq_eq_false_iff_ne.mpr c69
                                                    have c69b1 : ((t208.length : Int) != 0) = true := bne_iff_ne.mpr c69
                                                    have c69b2 : ¬ (t208 = []) := fun h_ => c69 (by rw [h_]; rfl)
                                                    obtain ⟨ji70, hji70⟩ : ∃ j_ : Int, (wrap64 ((t208.length : Int) - 1)) = j_ := ⟨_, rfl⟩
                                                    replace H : (if 0 ≤ (ji70) then (if (ji70) < (t208.length : Int) then ((laws_sum.f k2 t179).bind fun t212 => (if (rd t208 (ji70)) = t212 then (if 0 ≤ (t179.length : Int) then (if (t179.length : Int) < (t187.length : Int) then ((laws_mag.f (rd t187 (t179.length : Int))).bind fun t214 => ((laws_has.f k2 t208 t214).bind fun t215 => (if t215 = true then (if 0 < (t208.length : Int) then (if (rd t208 0) < 0 then (none) else (laws_FnRulers.l2 k2 t179 x8_1 t208 t208 (t208.length : Int) 0)) else (none)) else (none)))) else (none)) else (none)) else (none))) else (none)) else (none)) = some r := by first | (rw [hji70] at H; exact H) | (simp only [hji70] at H ⊢; exact H)
                                                    (try rw [hji70] at A56)
                                                    (try rw [hji70] at A58)
                                                    (try rw [hji70] at A60)
                                                    (try rw [hji70] at A62)
                                                    (try rw [hji70] at A63)
                                                    (try rw [hji70] at A65)
                                                    (try rw [hji70] at A66)
                                                    (try rw [hji70] at A68)
                                                    have hji70w : (IntKind.i64.wrap ((t208.length : Int) - 1)) = ji70 := (i64_w _).trans hji70
                                                    by_cases c71 : 0 ≤ (ji70)
                                                    · rw [if_pos c71] at H
                                                      have c71b0 : decide (0 ≤ (ji70)) = true := decide_eq_true c71
                                                      clear c71
                                                      by_cases c72 : (ji70) < (t208.length : Int)
                                                      · rw [if_pos c72] at H
                                                        have c72b0 : decide ((ji70) < (t208.length : Int)) = true := decide_eq_true c72
                                                        clear c72
                                                        replace H := Option.bind_eq_some_iff.mp H
                                                        obtain ⟨t212, A730, H⟩ := H
                                                        replace H : (if (rd t208 (ji70)) = t212 then (if 0 ≤ (t179.length : Int) then (if (t179.length : Int) < (t187.length : Int) then ((laws_mag.f (rd t187 (t179.length : Int))).bind fun t214 => ((laws_has.f k2 t208 t214).bind fun t215 => (if t215 = true then (if 0 < (t208.length : Int) then (if (rd t208 0) < 0 then (none) else (laws_FnRulers.l2 k2 t179 x8_1 t208 t208 (t208.length : Int) 0)) else (none)) else (none)))) else (none)) else (none)) else (none)) = some r := H
                                                        have A73 := Aside0.mk A730
                                                        obtain rfl : t212 = t206 := Option.some.inj (A73.out.symm.trans A65.out)
                                                        clear A730
                                                        by_cases c74 : (rd t208 (ji70)) = t212
                                                        · rw [if_pos c74] at H
                                                          have c74b0 : ((rd t208 (ji70)) == t212) = true := beq_iff_eq.mpr c74
                                                          have c74b1 : ((rd t208 (ji70)) != t212) = false := bne_eq_false_iff_eq.mpr c74
                                                          clear c74
                                                          by_cases c75 : 0 ≤ (t179.length : Int)
                                                          · rw [if_pos c75] at H
                                                            have c75b0 : decide (0 ≤ (t179.length : Int)) = true := decide_eq_true c75
                                                            have c75b1 : decide (0 ≤ t179.length) = true := decide_eq_true (by omega)
                                                            clear c75
                                                            by_cases c76 : (t179.length : Int) < (t187.length : Int)
                                                            · rw [if_pos c76] at H
                                                              have c76b0 : decide ((t179.length : Int) < (t187.length : Int)) = true := decide_eq_true c76
                                                              have c76b1 : decide (t179.length < t187.length) = true := decide_eq_true (Int.ofNat_lt.mp c76)
                                                              clear c76
                                                              replace H := Option.bind_eq_some_iff.mp H
                                                              obtain ⟨t214, A770, H⟩ := H
                                                              replace H : ((laws_has.f k2 t208 t214).bind fun t215 => (if t215 = true then (if 0 < (t208.length : Int) then (if (rd t208 0) < 0 then (none) else (laws_FnRulers.l2 k2 t179 x8_1 t208 t208 (t208.length : Int) 0)) else (none)) else (none))) = some r := H
                                                              have A77 := Aside0.mk A770
                                                              clear A770
                                                              replace H := Option.bind_eq_some_iff.mp H
                                                              obtain ⟨t215, A780, H⟩ := H
                                                              replace H : (if t215 = true then (if 0 < (t208.length : Int) then (if (rd t208 0) < 0 then (none) else (laws_FnRulers.l2 k2 t179 x8_1 t208 t208 (t208.length : Int) 0)) else (none)) else (none)) = some r := H
                                                              have A78 := Aside0.mk A780
                                                              clear A780
                                                              by_cases c79 : t215 = true
                                                              · subst c79
                                                                have H1 : (if 0 < (t208.length : Int) then (if (rd t208 0) < 0 then (none) else (laws_FnRulers.l2 k2 t179 x8_1 t208 t208 (t208.length : Int) 0)) else (none)) = some r := by rw [if_pos rfl] at H; exact H
                                                                clear H
                                                                have H := H1
                                                                clear H1
                                                                by_cases c80 : 0 < (t208.length : Int)
                                                                · rw [if_pos c80] at H
                                                                  have c80b0 : decide (0 < (t208.length : Int)) = true := decide_eq_true c80
                                                                  have c80b1 : decide (0 < t208.length) = true := decide_eq_true (by omega)
                                                                  clear c80
                                                                  by_cases c81 : (rd t208 0) < 0
                                                                  · rw [if_pos c81] at H
                                                                    exact absurd H (by simp)
                                                                  · rw [if_neg c81] at H
                                                                    have c81b0 : decide ((rd t208 0) < 0) = false := decide_eq_false c81
                                                                    clear c81
                                                                    have H' := Aside0.mk H
                                                                    clear H
                                                                    try go_wp2_with (first | ((with_reducible refine gate_callee (f := 13) rfl ?_); refine goesL_ (some 139) rfl rfl Tryz.func13 (by kernel_rfl) rfl #[.slice Ao9 t179.length co9, .int .i64 (wrap64 (t182 - 1))] rfl (by (try simp only [List.map_toArray, List.map_cons, List.map_nil]); first | done | rfl | (simp only [List.length_drop, List.length_take]; rfl)) ?_; (with_reducible refine (impl_CountLayings.calls k2 _ _ t179 (wrap64 (t182 - 1)) t201 _ ?side1 ?side2 A56.out).mono ?_); (case side1 => repeat (first | exact (Kd.R_reads' HO_3.out).2.2 | (with_reducible refine Kd.C_alloc ?_ _) | (with_reducible refine Kd.C_drewN ?_ _) | (with_reducible refine Kd.C_drew ?_))); (case side2 => exact (Kd.R_reads' HO_3.out).2.1); rintro e w82 ⟨rfl, hb⟩; refine ⟨_, rfl, ?_⟩; have n0_ := Aside0.mk (Kd.R_below (by (with_reducible repeat (first | apply Kd.R_alloc | apply Kd.R_drewN | apply Kd.R_drew)); exact HO_3.out) hb); have n1_ := Aside0.mk (Kd.R_below (by (with_reducible repeat (first | apply Kd.R_alloc | apply Kd.R_drewN | apply Kd.R_drew)); exact HO_11.out) hb); have n2_ := Aside0.mk (Kd.R_below (by (with_reducible repeat (first | apply Kd.R_alloc | apply Kd.R_drewN | apply Kd.R_drew)); exact HO_112.out) hb); have n3_ := Aside0.mk (below_step (by repeat (first | (with_reducible first | exact HB.out | apply below_alloc | apply pw_below_drewN | apply below_drew1) | exact HB.out)) hb); clear HO_3; clear HO_11; clear HO_112; clear HB; have HO_3 := n0_; have HO_11 := n1_; have HO_112 := n2_; have HB := n3_; clear n0_ n1_ n2_ n3_; (try clear hb); (try clear hb2); (try clear hk); (try clear hi)) | (go_at_call 13; (with_reducible refine (impl_CountLayings.calls k2 _ _ t179 t182 t203 _ ?side1 ?side2 A58.out).mono ?_); (case side1 => repeat (first | exact (Kd.R_reads' HO_3.out).2.2 | (with_reducible refine Kd.C_alloc ?_ _) | (with_reducible refine Kd.C_drewN ?_ _) | (with_reducible refine Kd.C_drew ?_))); (case side2 => exact (Kd.R_reads' HO_3.out).2.1); rintro e w83 ⟨rfl, hb⟩; have n0_ := Aside0.mk (Kd.R_below (by (with_reducible repeat (first | apply Kd.R_alloc | apply Kd.R_drewN | apply Kd.R_drew)); exact HO_3.out) hb); have n1_ := Aside0.mk (Kd.R_below (by (with_reducible repeat (first | apply Kd.R_alloc | apply Kd.R_drewN | apply Kd.R_drew)); exact HO_11.out) hb); have n2_ := Aside0.mk (Kd.R_below (by (with_reducible repeat (first | apply Kd.R_alloc | apply Kd.R_drewN | apply Kd.R_drew)); exact HO_112.out) hb); have n3_ := Aside0.mk (below_step (by repeat (first | (with_reducible first | exact HB.out | apply below_alloc | apply pw_below_drewN | apply below_drew1) | exact HB.out)) hb); clear HO_3; clear HO_11; clear HO_112; clear HB; have HO_3 := n0_; have HO_11 := n1_; have HO_112 := n2_; have HB := n3_; clear n0_ n1_ n2_ n3_; (try clear hb); (try clear hb2); (try clear hk); (try clear hi)) | (go_at_call 13; (with_reducible refine (impl_CountLayings.calls k2 _ _ t179 t182 t203 _ ?side1 ?side2 A60.out).mono ?_); (case side1 => repeat (first | exact (Kd.R_reads' HO_3.out).2.2 | (with_reducible refine Kd.C_alloc ?_ _) | (with_reducible refine Kd.C_drewN ?_ _) | (with_reducible refine Kd.C_drew ?_))); (case side2 => exact (Kd.R_reads' HO_3.out).2.1); rintro e w84 ⟨rfl, hb⟩; have n0_ := Aside0.mk (Kd.R_below (by (with_reducible repeat (first | apply Kd.R_alloc | apply Kd.R_drewN | apply Kd.R_drew)); exact HO_3.out) hb); have n1_ := Aside0.mk (Kd.R_below (by (with_reducible repeat (first | apply Kd.R_alloc | apply Kd.R_drewN | apply Kd.R_drew)); exact HO_11.out) hb); have n2_ := Aside0.mk (Kd.R_below (by (with_reducible repeat (first | apply Kd.R_alloc | apply Kd.R_drewN | apply Kd.R_drew)); exact HO_112.out) hb); have n3_ := Aside0.mk (below_step (by repeat (first | (with_reducible first | exact HB.out | apply below_alloc | apply pw_below_drewN | apply below_drew1) | exact HB.out)) hb); clear HO_3; clear HO_11; clear HO_112; clear HB; have HO_3 := n0_; have HO_11 := n1_; have HO_112 := n2_; have HB := n3_; clear n0_ n1_ n2_ n3_; (try clear hb); (try clear hb2); (try clear hk); (try clear hi)) | (go_at_call 14; (with_reducible refine (laws_sum.calls k2 _ _ t179 t212 _ ?side1 ?side2 A62.out).mono ?_); (case side1 => repeat (first | exact (Kd.R_reads' HO_3.out).2.2 | (with_reducible refine Kd.C_alloc ?_ _) | (with_reducible refine Kd.C_drewN ?_ _) | (with_reducible refine Kd.C_drew ?_))); (case side2 => exact (Kd.R_reads' HO_3.out).2.1); rintro e w' ⟨rfl, ⟨nd, rfl⟩⟩) | (go_at_call 13; (with_reducible refine (impl_CountLayings.calls k2 _ _ t179 t212 t205 _ ?side1 ?side2 A63.out).mono ?_); (case side1 => repeat (first | exact (Kd.R_reads' HO_3.out).2.2 | (with_reducible refine Kd.C_alloc ?_ _) | (with_reducible refine Kd.C_drewN ?_ _) | (with_reducible refine Kd.C_drew ?_))); (case side2 => exact (Kd.R_reads' HO_3.out).2.1); rintro e w85 ⟨rfl, hb⟩; have n0_ := Aside0.mk (Kd.R_below (by (with_reducible repeat (first | apply Kd.R_alloc | apply Kd.R_drewN | apply Kd.R_drew)); exact HO_3.out) hb); have n1_ := Aside0.mk (Kd.R_below (by (with_reducible repeat (first | apply Kd.R_alloc | apply Kd.R_drewN | apply Kd.R_drew)); exact HO_11.out) hb); have n2_ := Aside0.mk (Kd.R_below (by (with_reducible repeat (first | apply Kd.R_alloc | apply Kd.R_drewN | apply Kd.R_drew)); exact HO_112.out) hb); have n3_ := Aside0.mk (below_step (by repeat (first | (with_reducible first | exact HB.out | apply below_alloc | apply pw_below_drewN | apply below_drew1) | exact HB.out)) hb); clear HO_3; clear HO_11; clear HO_112; clear HB; have HO_3 := n0_; have HO_11 := n1_; have HO_112 := n2_; have HB := n3_; clear n0_ n1_ n2_ n3_; (try clear hb); (try clear hb2); (try clear hk); (try clear hi)) | (go_at_call 14; (with_reducible refine (laws_sum.calls k2 _ _ t179 t212 _ ?side1 ?side2 A65.out).mono ?_); (case side1 => repeat (first | exact (Kd.R_reads' HO_3.out).2.2 | (with_reducible refine Kd.C_alloc ?_ _) | (with_reducible refine Kd.C_drewN ?_ _) | (with_reducible refine Kd.C_drew ?_))); (case side2 => exact (Kd.R_reads' HO_3.out).2.1); rintro e w' ⟨rfl, ⟨nd, rfl⟩⟩) | (go_at_call 13; (with_reducible refine (impl_CountLayings.calls k2 _ _ t179 (wrap64 (t212 - 1)) t207 _ ?side1 ?side2 A66.out).mono ?_); (case side1 => repeat (first | exact (Kd.R_reads' HO_3.out).2.2 | (with_reducible refine Kd.C_alloc ?_ _) | (with_reducible refine Kd.C_drewN ?_ _) | (with_reducible refine Kd.C_drew ?_))); (case side2 => exact (Kd.R_reads' HO_3.out).2.1); rintro e w86 ⟨rfl, hb⟩; have n0_ := Aside0.mk (Kd.R_below (by (with_reducible repeat (first | apply Kd.R_alloc | apply Kd.R_drewN | apply Kd.R_drew)); exact HO_3.out) hb); have n1_ := Aside0.mk (Kd.R_below (by (with_reducible repeat (first | apply Kd.R_alloc | apply Kd.R_drewN | apply Kd.R_drew)); exact HO_11.out) hb); have n2_ := Aside0.mk (Kd.R_below (by (with_reducible repeat (first | apply Kd.R_alloc | apply Kd.R_drewN | apply Kd.R_drew)); exact HO_112.out) hb); have n3_ := Aside0.mk (below_step (by repeat (first | (with_reducible first | exact HB.out | apply below_alloc | apply pw_below_drewN | apply below_drew1) | exact HB.out)) hb); clear HO_3; clear HO_11; clear HO_112; clear HB; have HO_3 := n0_; have HO_11 := n1_; have HO_112 := n2_; have HB := n3_; clear n0_ n1_ n2_ n3_; (try clear hb); (try clear hb2); (try clear hk); (try clear hi)) | ((with_reducible refine gate_callee (f := 15) rfl ?_); refine goesL_ (some 173) rfl rfl Tryz.func15 (by kernel_rfl) rfl #[.slice Ao9 t179.length co9] rfl (by (try simp only [List.map_toArray, List.map_cons, List.map_nil]); first | done | rfl | (simp only [List.length_drop, List.length_take]; rfl)) ?_; (with_reducible refine (impl_ReachOf.calls k2 _ _ t179 t208 _ ?side1 ?side2 A68.out).mono ?_); (case side1 => repeat (first | exact (Kd.R_reads' HO_3.out).2.2 | (with_reducible refine Kd.C_alloc ?_ _) | (with_reducible refine Kd.C_drewN ?_ _) | (with_reducible refine Kd.C_drew ?_))); (case side2 => exact (Kd.R_reads' HO_3.out).2.1); rintro e w87 ⟨v209, rfl, ho0, hb⟩; refine ⟨_, rfl, ?_⟩; have n0_ := Aside0.mk (Kd.R_elder' (by (with_reducible repeat (first | apply Kd.R_alloc | apply Kd.R_drewN | apply Kd.R_drew)); exact HO_3.out) (Kd.R_base ho0) hb); have n1_ := Aside0.mk (Kd.R_elder' (by (with_reducible repeat (first | apply Kd.R_alloc | apply Kd.R_drewN | apply Kd.R_drew)); exact HO_11.out) (Kd.R_base ho0) hb); have n2_ := Aside0.mk (Kd.R_elder' (by (with_reducible repeat (first | apply Kd.R_alloc | apply Kd.R_drewN | apply Kd.R_drew)); exact HO_112.out) (Kd.R_base ho0) hb); have n3_ := Aside0.mk (Kd.R_lower (Kd.R_new' (Kd.R_new' (Kd.R_new' ho0 (Kd.R_lt (by (with_reducible repeat (first | apply Kd.R_alloc | apply Kd.R_drewN | apply Kd.R_drew)); exact HO_3.out))) (Kd.R_lt (by (with_reducible repeat (first | apply Kd.R_alloc | apply Kd.R_drewN | apply Kd.R_drew)); exact HO_11.out))) (Kd.R_lt (by (with_reducible repeat (first | apply Kd.R_alloc | apply Kd.R_drewN | apply Kd.R_drew)); exact HO_112.out))) (below_size (by repeat (first | (with_reducible first | exact HB.out | apply below_alloc | apply pw_below_drewN | apply below_drew1) | exact HB.out)))); have n4_ := Aside0.mk (below_step (by repeat (first | (with_reducible first | exact HB.out | apply below_alloc | apply pw_below_drewN | apply below_drew1) | exact HB.out)) hb); clear HO_3; clear HO_11; clear HO_112; clear HB; have HO_3 := n0_; have HO_11 := n1_; have HO_112 := n2_; have HO210 := n3_; have HB := n4_; clear n0_ n1_ n2_ n3_ n4_; (try clear hb); (try clear hb2); (try clear hk); (try clear hi); (try clear ho0)))
                                                                    have n0_ := Aside0.mk (Kd.R_drew HO_3.out)
                                                                    have n1_ := Aside0.mk (Kd.R_drew HO_11.out)
                                                                    have n2_ := Aside0.mk (Kd.R_drew HO_112.out)
                                                                    have n3_ := Aside0.mk (Kd.R_drew HO210.out)
                                                                    have n4_ := Aside0.mk (below_drew1 HB.out)
                                                                    clear HO_3
                                                                    clear HO_11
                                                                    clear HO_112
                                                                    clear HO210
                                                                    clear HB
                                                                    have HO_3 := n0_
                                                                    have HO_11 := n1_
                                                                    have HO_112 := n2_
                                                                    have HO210 := n3_
                                                                    have HB := n4_
                                                                    clear n0_ n1_ n2_ n3_ n4_
                                                                    obtain ⟨Ao89, co89, eo89⟩ := Kd.R_slice HO210.out
                                                                    (first | subst eo89 | (injection eo89 with f1_ f2_ f3_; have f4_ := f1_.symm; have f5_ := f3_.symm; clear f1_ f2_ f3_; subst f4_; subst f5_))
                                                                    have p211 : 0 ≤ ((ji70) : Int) := of_decide_eq_true (by first | (with_reducible assumption) | assumption)
                                                                    have q211 : (ji70) < (t208.length : Int) := of_decide_eq_true (by first | (with_reducible assumption) | assumption)
                                                                    obtain ⟨ad211, e211, hx211_0⟩ := Kd.at_int (Kd.R_reads' HO210.out).2.2 (ji70) p211 q211
                                                                    cases e211
                                                                    replace p211 := eq_true p211
                                                                    replace q211 := eq_true q211
                                                                    have p213 : 0 ≤ ((t179.length : Int) : Int) := of_decide_eq_true (by first | (with_reducible assumption) | assumption)
                                                                    have q213 : (t179.length : Int) < (t187.length : Int) := of_decide_eq_true (by first | (with_reducible assumption) | assumption)
                                                                    obtain ⟨ad213, e213, hx213_0⟩ := Kd.at_int (Kd.R_reads' HO_11.out).2.2 (t179.length : Int) p213 q213
                                                                    obtain rfl : ad195 = ad213 := (by injection e213)
                                                                    (try simp only [Go.IntWalk.toNatUp] at hx213_0)
                                                                    replace p213 := eq_true p213
                                                                    replace q213 := eq_true q213
                                                                    have p216 : 0 ≤ (0 : Int) := (by omega)
                                                                    have q216 : 0 < (t208.length : Int) := of_decide_eq_true (by first | (with_reducible assumption) | assumption)
                                                                    obtain ⟨ad216, e216, hx216_0⟩ := Kd.at_int (Kd.R_reads' HO210.out).2.2 0 p216 q216
                                                                    obtain rfl : ad211 = ad216 := (by injection e216)
                                                                    have qi216 : (0 < t208.length) = True := eq_true (by omega)
                                                                    (try rw [show ((0 : Int)).toNat = 0 from rfl] at hx216_0)
                                                                    (try rw [Addr.add_zero'] at hx216_0)
                                                                    replace p216 := eq_true p216
                                                                    replace q216 := eq_true q216
                                                                    refine start_ (n := 31) (S := fun w' => w'.cell? (ad211.add ((ji70)).toNat) = some (.int .i64 (rd t208 (ji70))) ∧ w'.cell? (ad195.add ((t179.length : Int)).toNat) = some (.int .i64 (rd t187 (t179.length : Int))) ∧ w'.cell? ad211 = some (.int .i64 (rd t208 0))) (ds := []) #[false, false, false, false, false, false, false, false, false, false, false, false, false, false, false, false, false, false, false, false, false, false, false, false, false, false, false, false, false, false, false] (by kernel_rfl) rfl rfl ⟨hx211_0, hx213_0, hx216_0⟩ (fun hHeld => ?_); refine with_tabW laws_FnRulers.tab27 laws_FnRulers.bits27 (fun HT_ HW_ => ?_)
                                                                    generalize w87.drew = w88 at HO_3 HO_11 HO_112 HO210 HB hx211_0 hx213_0 hx216_0 hHeld ⊢
                                                                    refine pure_ (i := 0) (N := some 174) (v := ?_) (a' := ?_) #[true, false, false, false, false, false, false, false, false, false, false, false, false, false, false, false, false, false, false, false, false, false, false, false, false, false, false, false, false, false, false] rfl rfl (any_of HT_.out (by kernel_rfl)) (fun _ _ _ h => h) (Or.inl ⟨by rfl, ?_⟩) ?_ ?_
                                                                    rotate_left
                                                                    · intro w'
                                                                      go_simp
                                                                      with_reducible rfl
                                                                    rotate_left
                                                                    · simp only [Act.put, List.setIfInBounds_toArray, List.set_cons_zero, List.set_cons_succ, i64_w, i32_w]
                                                                      rfl
                                                                    refine pure_ (i := 1) (N := some 175) (v := ?_) (a' := ?_) #[true, true, false, false, false, false, false, false, false, false, false, false, false, false, false, false, false, false, false, false, false, false, false, false, false, false, false, false, false, false, false] rfl rfl (any_of HT_.out (by kernel_rfl)) (fun _ _ _ h => h) (Or.inl ⟨by rfl, ?_⟩) ?_ ?_
                                                                    rotate_left
                                                                    · intro w'
                                                                      go_simp
                                                                      with_reducible rfl
                                                                    rotate_left
                                                                    · simp only [Act.put, List.setIfInBounds_toArray, List.set_cons_zero, List.set_cons_succ, i64_w, i32_w]
                                                                      rfl
                                                                    refine pure_ (i := 2) (N := some 176) (v := ?_) (a' := ?_) #[true, true, true, false, false, false, false, false, false, false, false, false, false, false, false, false, false, false, false, false, false, false, false, false, false, false, false, false, false, false, false] rfl rfl (any_of HT_.out (by kernel_rfl)) (fun _ _ _ h => h) (Or.inl ⟨by rfl, ?_⟩) ?_ ?_
                                                                    rotate_left
                                                                    · intro w'
                                                                      go_simp
                                                                      with_reducible rfl
                                                                    rotate_left
                                                                    · simp only [Act.put, List.setIfInBounds_toArray, List.set_cons_zero, List.set_cons_succ, i64_w, i32_w]
                                                                      rfl
                                                                    refine pure_ (i := 3) (N := some 177) (v := ?_) (a' := ?_) #[true, true, true, true, false, false, false, false, false, false, false, false, false, false, false, false, false, false, false, false, false, false, false, false, false, false, false, false, false, false, false] rfl rfl (any_of HT_.out (by kernel_rfl)) (fun _ _ _ h => h) (Or.inl ⟨by rfl, ?_⟩) ?_ ?_
                                                                    rotate_left
                                                                    · intro w'
                                                                      go_simp
                                                                      with_reducible rfl
                                                                    rotate_left
                                                                    · simp only [Act.put, List.setIfInBounds_toArray, List.set_cons_zero, List.set_cons_succ, i64_w, i32_w]
                                                                      rfl
                                                                    refine pure_ (i := 4) (N := some 178) (v := ?_) (a' := ?_) #[true, true, true, true, true, false, false, false, false, false, false, false, false, false, false, false, false, false, false, false, false, false, false, false, false, false, false, false, false, false, false] rfl rfl (any_of HT_.out (by kernel_rfl)) (fun _ _ _ h => h) (Or.inl ⟨by rfl, ?_⟩) ?_ ?_
                                                                    rotate_left
                                                                    · intro w'
                                                                      go_simp
                                                                      with_reducible rfl
                                                                    rotate_left
                                                                    · simp only [Act.put, List.setIfInBounds_toArray, List.set_cons_zero, List.set_cons_succ, i64_w, i32_w]
                                                                      rfl
                                                                    refine pure_ (i := 5) (N := some 179) (v := ?_) (a' := ?_) #[true, true, true, true, true, true, false, false, false, false, false, false, false, false, false, false, false, false, false, false, false, false, false, false, false, false, false, false, false, false, false] rfl rfl (any_of HT_.out (by kernel_rfl)) (fun _ _ _ h => h) (Or.inl ⟨by rfl, ?_⟩) ?_ ?_
                                                                    rotate_left
                                                                    · intro w'
                                                                      go_simp
                                                                      with_reducible rfl
                                                                    rotate_left
                                                                    · simp only [Act.put, List.setIfInBounds_toArray, List.set_cons_zero, List.set_cons_succ, i64_w, i32_w]
                                                                      rfl
                                                                    refine pure_ (i := 6) (N := some 180) (v := ?_) (a' := ?_) #[true, true, true, true, true, true, true, false, false, false, false, false, false, false, false, false, false, false, false, false, false, false, false, false, false, false, false, false, false, false, false] rfl rfl (any_of HT_.out (by kernel_rfl)) (fun _ _ _ h => h) (Or.inl ⟨by rfl, ?_⟩) ?_ ?_
                                                                    rotate_left
                                                                    · intro w'
                                                                      go_simp
                                                                      with_reducible rfl
                                                                    rotate_left
                                                                    · simp only [Act.put, List.setIfInBounds_toArray, List.set_cons_zero, List.set_cons_succ, i64_w, i32_w]
                                                                      rfl
                                                                    refine pure_ (i := 7) (N := some 181) (v := ?_) (a' := ?_) #[true, true, true, true, true, true, true, true, false, false, false, false, false, false, false, false, false, false, false, false, false, false, false, false, false, false, false, false, false, false, false] rfl rfl (any_of HT_.out (by kernel_rfl)) (fun _ _ _ h => h) (Or.inl ⟨by rfl, ?_⟩) ?_ ?_
                                                                    rotate_left
                                                                    · intro w'
                                                                      go_simp
                                                                      with_reducible rfl
                                                                    rotate_left
                                                                    · simp only [Act.put, List.setIfInBounds_toArray, List.set_cons_zero, List.set_cons_succ, i64_w, i32_w]
                                                                      rfl
                                                                    refine pure_ (i := 8) (N := some 182) (v := ?_) (a' := ?_) #[true, true, true, true, true, true, true, true, true, false, false, false, false, false, false, false, false, false, false, false, false, false, false, false, false, false, false, false, false, false, false] rfl rfl (any_of HT_.out (by kernel_rfl)) (fun _ _ _ h => h) (Or.inl ⟨by rfl, ?_⟩) ?_ ?_
                                                                    rotate_left
                                                                    · intro w'
                                                                      go_simp
                                                                      with_reducible rfl
                                                                    rotate_left
                                                                    · simp only [Act.put, List.setIfInBounds_toArray, List.set_cons_zero, List.set_cons_succ, i64_w, i32_w]
                                                                      rfl
                                                                    refine pure_ (i := 10) (N := some 184) (v := ?_) (a' := ?_) #[true, true, true, true, true, true, true, true, true, false, true, false, false, false, false, false, false, false, false, false, false, false, false, false, false, false, false, false, false, false, false] rfl rfl (any_of HT_.out (by kernel_rfl)) (fun _ _ _ h => h) (Or.inl ⟨by rfl, ?_⟩) ?_ ?_
                                                                    rotate_left
                                                                    · intro w'
                                                                      go_simp
                                                                      with_reducible rfl
                                                                    rotate_left
                                                                    · simp only [Act.put, List.setIfInBounds_toArray, List.set_cons_zero, List.set_cons_succ, i64_w, i32_w]
                                                                      rfl
                                                                    refine take_ (i := 9) (N := some 183) (v := ?_) (a' := ?_) #[true, true, true, true, true, true, true, true, true, true, true, false, false, false, false, false, false, false, false, false, false, false, false, false, false, false, false, false, false, false, false] rfl rfl (take_ofW HT_.out HW_.out (by kernel_rfl)) (fun _ _ _ h => h) (Or.inl ⟨by rfl, ?_⟩) hHeld ?_ ?_
                                                                    rotate_left
                                                                    · rintro w' ⟨s0, s1, s2⟩
                                                                      try simp only [Int.toNat_natCast] at s0 s1 s2
                                                                      go_simp
                                                                      with_reducible rfl
                                                                    rotate_left
                                                                    · simp only [Act.put, List.setIfInBounds_toArray, List.set_cons_zero, List.set_cons_succ, i64_w, i32_w]
                                                                      rfl
                                                                    refine one_ (i := 11) (N := some 185) #[true, true, true, true, true, true, true, true, true, true, true, true, false, false, false, false, false, false, false, false, false, false, false, false, false, false, false, false, false, false, false] rfl rfl (one_of HT_.out (by kernel_rfl)) (by decide) (fun K hK => ?_)
                                                                    refine goes_ Tryz.func14 (by kernel_rfl) rfl #[.slice Ao9 t179.length co9] (by rfl) rfl rfl (by (try simp only [List.map_toArray, List.map_cons, List.map_nil]); first | done | rfl | (simp only [List.length_drop, List.length_take]; rfl)) ?_
                                                                    with_reducible refine (laws_sum.calls k2 _ _ t179 t212 _ ?side1 ?side2 A73.out).mono ?_
                                                                    (case side1 => repeat (first | exact (Kd.R_reads' HO_3.out).2.2 | (with_reducible refine Kd.C_alloc ?_ _) | (with_reducible refine Kd.C_drewN ?_ _) | (with_reducible refine Kd.C_drew ?_)))
                                                                    (case side2 => exact (Kd.R_reads' HO_3.out).2.1)
                                                                    rintro e w' ⟨rfl, ⟨nd, rfl⟩⟩
                                                                    refine ⟨_, rfl, ?_⟩
                                                                    refine hK.out _ _ ⟨hHeld.1, hHeld.2.1, hHeld.2.2⟩ (fun hHeld => ?_)
                                                                    clear hK K
                                                                    refine norm_ (a' := ?_) ?_ ?_
                                                                    rotate_left
                                                                    · show Act.put _ (some 185) _ = _
                                                                      simp only [Act.put, List.setIfInBounds_toArray, List.set_cons_zero, List.set_cons_succ, i64_w, i32_w]
                                                                      rfl
                                                                    refine pure_ (i := 12) (N := some 186) (v := ?_) (a' := ?_) #[true, true, true, true, true, true, true, true, true, true, true, true, true, false, false, false, false, false, false, false, false, false, false, false, false, false, false, false, false, false, false] rfl rfl (any_of HT_.out (by kernel_rfl)) (fun _ _ _ h => h) (Or.inl ⟨by rfl, ?_⟩) ?_ ?_
                                                                    rotate_left
                                                                    · intro w'
                                                                      go_simp
                                                                      with_reducible rfl
                                                                    rotate_left
                                                                    · simp only [Act.put, List.setIfInBounds_toArray, List.set_cons_zero, List.set_cons_succ, i64_w, i32_w]
                                                                      rfl
                                                                    refine pure_ (i := 13) (N := some 187) (v := ?_) (a' := ?_) #[true, true, true, true, true, true, true, true, true, true, true, true, true, true, false, false, false, false, false, false, false, false, false, false, false, false, false, false, false, false, false] rfl rfl (any_of HT_.out (by kernel_rfl)) (fun _ _ _ h => h) (Or.inl ⟨by rfl, ?_⟩) ?_ ?_
                                                                    rotate_left
                                                                    · intro w'
                                                                      go_simp
                                                                      with_reducible rfl
                                                                    rotate_left
                                                                    · simp only [Act.put, List.setIfInBounds_toArray, List.set_cons_zero, List.set_cons_succ, i64_w, i32_w]
                                                                      rfl
                                                                    refine pure_ (i := 14) (N := some 188) (v := ?_) (a' := ?_) #[true, true, true, true, true, true, true, true, true, true, true, true, true, true, true, false, false, false, false, false, false, false, false, false, false, false, false, false, false, false, false] rfl rfl (any_of HT_.out (by kernel_rfl)) (fun _ _ _ h => h) (Or.inl ⟨by rfl, ?_⟩) ?_ ?_
                                                                    rotate_left
                                                                    · intro w'
                                                                      go_simp
                                                                      with_reducible rfl
                                                                    rotate_left
                                                                    · simp only [Act.put, List.setIfInBounds_toArray, List.set_cons_zero, List.set_cons_succ, i64_w, i32_w]
                                                                      rfl
                                                                    refine pure_ (i := 15) (N := some 189) (v := ?_) (a' := ?_) #[true, true, true, true, true, true, true, true, true, true, true, true, true, true, true, true, false, false, false, false, false, false, false, false, false, false, false, false, false, false, false] rfl rfl (any_of HT_.out (by kernel_rfl)) (fun _ _ _ h => h) (Or.inl ⟨by rfl, ?_⟩) ?_ ?_
                                                                    rotate_left
                                                                    · intro w'
                                                                      go_simp
                                                                      with_reducible rfl
                                                                    rotate_left
                                                                    · simp only [Act.put, List.setIfInBounds_toArray, List.set_cons_zero, List.set_cons_succ, i64_w, i32_w]
                                                                      rfl
                                                                    refine pure_ (i := 16) (N := some 190) (v := ?_) (a' := ?_) #[true, true, true, true, true, true, true, true, true, true, true, true, true, true, true, true, true, false, false, false, false, false, false, false, false, false, false, false, false, false, false] rfl rfl (any_of HT_.out (by kernel_rfl)) (fun _ _ _ h => h) (Or.inl ⟨by rfl, ?_⟩) ?_ ?_
                                                                    rotate_left
                                                                    · intro w'
                                                                      go_simp
                                                                      with_reducible rfl
                                                                    rotate_left
                                                                    · simp only [Act.put, List.setIfInBounds_toArray, List.set_cons_zero, List.set_cons_succ, i64_w, i32_w]
                                                                      rfl
                                                                    refine pure_ (i := 17) (N := some 191) (v := ?_) (a' := ?_) #[true, true, true, true, true, true, true, true, true, true, true, true, true, true, true, true, true, true, false, false, false, false, false, false, false, false, false, false, false, false, false] rfl rfl (any_of HT_.out (by kernel_rfl)) (fun _ _ _ h => h) (Or.inl ⟨by rfl, ?_⟩) ?_ ?_
                                                                    rotate_left
                                                                    · intro w'
                                                                      go_simp
                                                                      with_reducible rfl
                                                                    rotate_left
                                                                    · simp only [Act.put, List.setIfInBounds_toArray, List.set_cons_zero, List.set_cons_succ, i64_w, i32_w]
                                                                      rfl
                                                                    refine pure_ (i := 18) (N := some 192) (v := ?_) (a' := ?_) #[true, true, true, true, true, true, true, true, true, true, true, true, true, true, true, true, true, true, true, false, false, false, false, false, false, false, false, false, false, false, false] rfl rfl (any_of HT_.out (by kernel_rfl)) (fun _ _ _ h => h) (Or.inl ⟨by rfl, ?_⟩) ?_ ?_
                                                                    rotate_left
                                                                    · intro w'
                                                                      go_simp
                                                                      with_reducible rfl
                                                                    rotate_left
                                                                    · simp only [Act.put, List.setIfInBounds_toArray, List.set_cons_zero, List.set_cons_succ, i64_w, i32_w]
                                                                      rfl
                                                                    refine pure_ (i := 19) (N := some 193) (v := ?_) (a' := ?_) #[true, true, true, true, true, true, true, true, true, true, true, true, true, true, true, true, true, true, true, true, false, false, false, false, false, false, false, false, false, false, false] rfl rfl (any_of HT_.out (by kernel_rfl)) (fun _ _ _ h => h) (Or.inl ⟨by rfl, ?_⟩) ?_ ?_
                                                                    rotate_left
                                                                    · intro w'
                                                                      go_simp
                                                                      with_reducible rfl
                                                                    rotate_left
                                                                    · simp only [Act.put, List.setIfInBounds_toArray, List.set_cons_zero, List.set_cons_succ, i64_w, i32_w]
                                                                      rfl
                                                                    refine take_ (i := 20) (N := some 194) (v := ?_) (a' := ?_) #[true, true, true, true, true, true, true, true, true, true, true, true, true, true, true, true, true, true, true, true, true, false, false, false, false, false, false, false, false, false, false] rfl rfl (take_ofW HT_.out HW_.out (by kernel_rfl)) (fun _ _ _ h => h) (Or.inl ⟨by rfl, ?_⟩) hHeld ?_ ?_
                                                                    rotate_left
                                                                    · rintro w' ⟨s0, s1, s2⟩
                                                                      try simp only [Int.toNat_natCast] at s0 s1 s2
                                                                      go_simp
                                                                      with_reducible rfl
                                                                    rotate_left
                                                                    · simp only [Act.put, List.setIfInBounds_toArray, List.set_cons_zero, List.set_cons_succ, i64_w, i32_w]
                                                                      rfl
                                                                    refine one_ (i := 21) (N := some 195) #[true, true, true, true, true, true, true, true, true, true, true, true, true, true, true, true, true, true, true, true, true, true, false, false, false, false, false, false, false, false, false] rfl rfl (one_of HT_.out (by kernel_rfl)) (by decide) (fun K hK => ?_)
                                                                    refine goes_ Tryz.func12 (by kernel_rfl) rfl #[.int .i64 (rd t187 (t179.length : Int))] (by rfl) rfl rfl (by (try simp only [List.map_toArray, List.map_cons, List.map_nil]); first | done | rfl | (simp only [List.length_drop, List.length_take]; rfl)) ?_
                                                                    with_reducible refine (laws_mag.calls (rd t187 (t179.length : Int)) t214 _ A77.out).mono ?_
                                                                    rintro e w' ⟨rfl, ⟨nd, rfl⟩⟩
                                                                    refine ⟨_, rfl, ?_⟩
                                                                    refine hK.out _ _ ⟨hHeld.1, hHeld.2.1, hHeld.2.2⟩ (fun hHeld => ?_)
                                                                    clear hK K
                                                                    refine norm_ (a' := ?_) ?_ ?_
                                                                    rotate_left
                                                                    · show Act.put _ (some 195) _ = _
                                                                      simp only [Act.put, List.setIfInBounds_toArray, List.set_cons_zero, List.set_cons_succ, i64_w, i32_w]
                                                                      rfl
                                                                    refine one_ (i := 22) (N := some 196) #[true, true, true, true, true, true, true, true, true, true, true, true, true, true, true, true, true, true, true, true, true, true, true, false, false, false, false, false, false, false, false] rfl rfl (one_of HT_.out (by kernel_rfl)) (by decide) (fun K hK => ?_)
                                                                    refine goes_ Tryz.func16 (by kernel_rfl) rfl #[.slice (some ad211) t208.length co89, .int .i64 t214] (by rfl) rfl rfl (by (try simp only [List.map_toArray, List.map_cons, List.map_nil]); first | done | rfl | (simp only [List.length_drop, List.length_take]; rfl)) ?_
                                                                    with_reducible refine (laws_has.calls k2 _ _ t208 t214 true _ ?side1 ?side2 A78.out).mono ?_
                                                                    (case side1 => repeat (first | exact (Kd.R_reads' HO210.out).2.2 | (with_reducible refine Kd.C_alloc ?_ _) | (with_reducible refine Kd.C_drewN ?_ _) | (with_reducible refine Kd.C_drew ?_)))
                                                                    (case side2 => exact (Kd.R_reads' HO210.out).2.1)
                                                                    rintro e w' ⟨rfl, ⟨nd, rfl⟩⟩
                                                                    refine ⟨_, rfl, ?_⟩
                                                                    refine hK.out _ _ ⟨hHeld.1, hHeld.2.1, hHeld.2.2⟩ (fun hHeld => ?_)
                                                                    clear hK K
                                                                    refine norm_ (a' := ?_) ?_ ?_
                                                                    rotate_left
                                                                    · show Act.put _ (some 196) _ = _
                                                                      simp only [Act.put, List.setIfInBounds_toArray, List.set_cons_zero, List.set_cons_succ, i64_w, i32_w]
                                                                      rfl
                                                                    refine pure_ (i := 23) (N := some 197) (v := ?_) (a' := ?_) #[true, true, true, true, true, true, true, true, true, true, true, true, true, true, true, true, true, true, true, true, true, true, true, true, false, false, false, false, false, false, false] rfl rfl (any_of HT_.out (by kernel_rfl)) (fun _ _ _ h => h) (Or.inl ⟨by rfl, ?_⟩) ?_ ?_
                                                                    rotate_left
                                                                    · intro w'
                                                                      go_simp
                                                                      with_reducible rfl
                                                                    rotate_left
                                                                    · simp only [Act.put, List.setIfInBounds_toArray, List.set_cons_zero, List.set_cons_succ, i64_w, i32_w]
                                                                      rfl
                                                                    refine pure_ (i := 24) (N := some 198) (v := ?_) (a' := ?_) #[true, true, true, true, true, true, true, true, true, true, true, true, true, true, true, true, true, true, true, true, true, true, true, true, true, false, false, false, false, false, false] rfl rfl (any_of HT_.out (by kernel_rfl)) (fun _ _ _ h => h) (Or.inl ⟨by rfl, ?_⟩) ?_ ?_
                                                                    rotate_left
                                                                    · intro w'
                                                                      go_simp
                                                                      with_reducible rfl
                                                                    rotate_left
                                                                    · simp only [Act.put, List.setIfInBounds_toArray, List.set_cons_zero, List.set_cons_succ, i64_w, i32_w]
                                                                      rfl
                                                                    refine pure_ (i := 25) (N := some 199) (v := ?_) (a' := ?_) #[true, true, true, true, true, true, true, true, true, true, true, true, true, true, true, true, true, true, true, true, true, true, true, true, true, true, false, false, false, false, false] rfl rfl (any_of HT_.out (by kernel_rfl)) (fun _ _ _ h => h) (Or.inl ⟨by rfl, ?_⟩) ?_ ?_
                                                                    rotate_left
                                                                    · intro w'
                                                                      go_simp
                                                                      with_reducible rfl
                                                                    rotate_left
                                                                    · simp only [Act.put, List.setIfInBounds_toArray, List.set_cons_zero, List.set_cons_succ, i64_w, i32_w]
                                                                      rfl
                                                                    refine pure_ (i := 26) (N := some 200) (v := ?_) (a' := ?_) #[true, true, true, true, true, true, true, true, true, true, true, true, true, true, true, true, true, true, true, true, true, true, true, true, true, true, true, false, false, false, false] rfl rfl (any_of HT_.out (by kernel_rfl)) (fun _ _ _ h => h) (Or.inl ⟨by rfl, ?_⟩) ?_ ?_
                                                                    rotate_left
                                                                    · intro w'
                                                                      go_simp
                                                                      with_reducible rfl
                                                                    rotate_left
                                                                    · simp only [Act.put, List.setIfInBounds_toArray, List.set_cons_zero, List.set_cons_succ, i64_w, i32_w]
                                                                      rfl
                                                                    refine pure_ (i := 27) (N := some 201) (v := ?_) (a' := ?_) #[true, true, true, true, true, true, true, true, true, true, true, true, true, true, true, true, true, true, true, true, true, true, true, true, true, true, true, true, false, false, false] rfl rfl (any_of HT_.out (by kernel_rfl)) (fun _ _ _ h => h) (Or.inl ⟨by rfl, ?_⟩) ?_ ?_
                                                                    rotate_left
                                                                    · intro w'
                                                                      go_simp
                                                                      with_reducible rfl
                                                                    rotate_left
                                                                    · simp only [Act.put, List.setIfInBounds_toArray, List.set_cons_zero, List.set_cons_succ, i64_w, i32_w]
                                                                      rfl
                                                                    refine take_ (i := 28) (N := some 202) (v := ?_) (a' := ?_) #[true, true, true, true, true, true, true, true, true, true, true, true, true, true, true, true, true, true, true, true, true, true, true, true, true, true, true, true, true, false, false] rfl rfl (take_ofW HT_.out HW_.out (by kernel_rfl)) (fun _ _ _ h => h) (Or.inl ⟨by rfl, ?_⟩) hHeld ?_ ?_
                                                                    rotate_left
                                                                    · rintro w' ⟨s0, s1, s2⟩
                                                                      try simp only [Int.toNat_natCast] at s0 s1 s2
                                                                      go_simp
                                                                      with_reducible rfl
                                                                    rotate_left
                                                                    · simp only [Act.put, List.setIfInBounds_toArray, List.set_cons_zero, List.set_cons_succ, i64_w, i32_w]
                                                                      rfl
                                                                    refine pure_ (i := 29) (N := some 203) (v := ?_) (a' := ?_) #[true, true, true, true, true, true, true, true, true, true, true, true, true, true, true, true, true, true, true, true, true, true, true, true, true, true, true, true, true, true, false] rfl rfl (any_of HT_.out (by kernel_rfl)) (fun _ _ _ h => h) (Or.inl ⟨by rfl, ?_⟩) ?_ ?_
                                                                    rotate_left
                                                                    · intro w'
                                                                      go_simp
                                                                      with_reducible rfl
                                                                    rotate_left
                                                                    · simp only [Act.put, List.setIfInBounds_toArray, List.set_cons_zero, List.set_cons_succ, i64_w, i32_w]
                                                                      rfl
                                                                    refine pure_ (i := 30) (N := some 204) (v := ?_) (a' := ?_) #[true, true, true, true, true, true, true, true, true, true, true, true, true, true, true, true, true, true, true, true, true, true, true, true, true, true, true, true, true, true, true] rfl rfl (any_of HT_.out (by kernel_rfl)) (fun _ _ _ h => h) (Or.inl ⟨by rfl, ?_⟩) ?_ ?_
                                                                    rotate_left
                                                                    · intro w'
                                                                      go_simp
                                                                      with_reducible rfl
                                                                    rotate_left
                                                                    · simp only [Act.put, List.setIfInBounds_toArray, List.set_cons_zero, List.set_cons_succ, i64_w, i32_w]
                                                                      rfl
                                                                    refine done_ (done_of HT_.out (by kernel_rfl)) ?_
                                                                    try go_wp2
                                                                    go_loopg [207] k2 (fun kq v207 w' => ∃ (x207_3 : Int), v207 = .int .i64 x207_3 ∧ Aside0 (laws_FnRulers.l2 kq t179 x8_1 t208 t208 (t208.length : Int) x207_3 = some r) ∧ Aside0 (kq ≤ k2) ∧ Aside0 (Kd.R (Kd.int .i64) 3 w' w.heap.size (fun k_ => some k_ ≠ ((.slice (some ad211) t208.length co89) : Value).ownBlock ∧ some k_ ≠ ((.slice (some ad211) t208.length co89) : Value).ownBlock) (.slice Ao9 t179.length co9) t179) ∧ Aside0 (Kd.R (Kd.int .i64) 3 w' w.heap.size (fun k_ => some k_ ≠ ((.slice Ao9 t179.length co9) : Value).ownBlock) (.slice (some ad211) t208.length co89) t208) ∧ Aside0 (Kd.R (Kd.int .i64) 3 w' w.heap.size (fun k_ => some k_ ≠ ((.slice Ao9 t179.length co9) : Value).ownBlock) (.slice (some ad211) t208.length co89) t208) ∧ Aside0 (Below w.heap.size w w'))
                                                                    case atStart => exact ⟨(0), (by first | rfl | (simp; done) | (simp [*]; done)), H', ⟨Nat.le_refl _⟩, ⟨by (with_reducible repeat (first | apply Kd.R_alloc | apply Kd.R_drewN | apply Kd.R_drew)); exact Kd.R_mono HO_3.out (fun _ hk => ⟨hk.2, hk.2⟩)⟩, ⟨by (with_reducible repeat (first | apply Kd.R_alloc | apply Kd.R_drewN | apply Kd.R_drew)); exact Kd.R_mono HO210.out (fun _ hk => hk.1.1.2)⟩, ⟨by (with_reducible repeat (first | apply Kd.R_alloc | apply Kd.R_drewN | apply Kd.R_drew)); exact Kd.R_mono HO210.out (fun _ hk => hk.1.1.2)⟩, ⟨by repeat (first | (with_reducible first | exact HB.out | apply below_alloc | apply pw_below_drewN | apply below_drew1) | exact HB.out)⟩⟩
                                                                    case round =>
                                                                      clear H'
                                                                      try clear c1
                                                                      try clear hx1
                                                                      try clear p2
                                                                      try clear q2
                                                                      try clear hx2
                                                                      try clear qi2
                                                                      try clear c4
                                                                      try clear c5
                                                                      try clear c6
                                                                      try clear p6
                                                                      try clear c7
                                                                      try clear c8
                                                                      try clear c12
                                                                      try clear c13
                                                                      try clear c14
                                                                      try clear c15
                                                                      try clear c16
                                                                      try clear hx19
                                                                      try clear p21
                                                                      try clear q21
                                                                      try clear hx21
                                                                      try clear qi21
                                                                      try clear c45
                                                                      try clear c45b0
                                                                      try clear c46
                                                                      try clear c47
                                                                      try clear c49
                                                                      try clear c50
                                                                      try clear c51
                                                                      try clear c53
                                                                      try clear c57
                                                                      try clear c57b0
                                                                      try clear c57b1
                                                                      try clear c59
                                                                      try clear c59b0
                                                                      try clear c61
                                                                      try clear c61b0
                                                                      try clear c61b1
                                                                      try clear c64
                                                                      try clear c64b0
                                                                      try clear c64b1
                                                                      try clear p64
                                                                      try clear c67
                                                                      try clear c67b0
                                                                      try clear c69
                                                                      try clear c69b0
                                                                      try clear c69b1
                                                                      try clear c69b2
                                                                      try clear c71
                                                                      try clear c71b0
                                                                      try clear c72
                                                                      try clear c72b0
                                                                      try clear c74
                                                                      try clear c74b0
                                                                      try clear c74b1
                                                                      try clear c75
                                                                      try clear c75b0
                                                                      try clear c75b1
                                                                      try clear c76
                                                                      try clear c76b0
                                                                      try clear c76b1
                                                                      try clear c79
                                                                      try clear c80
                                                                      try clear c80b0
                                                                      try clear c80b1
                                                                      try clear c81
                                                                      try clear c81b0
                                                                      try clear hx198_0
                                                                      try clear hx199_0
                                                                      try clear hx211_0
                                                                      try clear hx213_0
                                                                      try clear hx216_0
                                                                      try clear p211
                                                                      try clear p213
                                                                      try clear p216
                                                                      try clear q211
                                                                      try clear q213
                                                                      try clear q216
                                                                      obtain ⟨x207_3, rfl, HA, HK3, HO_3, HO_15, HO_205, HB⟩ := hrel
                                                                      cases gk with
                                                                      | zero => exact absurd HA.out (by simp [laws_FnRulers.l2])
                                                                      | succ k3 =>
                                                                        have H := HA.out
                                                                        clear HA
                                                                        simp only [laws_FnRulers.l2] at H
                                                                        by_cases c90 : x207_3 < (t208.length : Int)
                                                                        · rw [if_pos c90] at H
                                                                          have c90b0 : decide (x207_3 < (t208.length : Int)) = true := decide_eq_true c90
                                                                          clear c90
                                                                          by_cases c91 : 0 ≤ x207_3
                                                                          · rw [if_pos c91] at H
                                                                            have c91b0 : decide (0 ≤ x207_3) = true := decide_eq_true c91
                                                                            clear c91
                                                                            by_cases c92 : x207_3 < (t208.length : Int)
                                                                            · rw [if_pos c92] at H
                                                                              have c92b0 : decide (x207_3 < (t208.length : Int)) = true := decide_eq_true c92
                                                                              clear c92
                                                                              replace H := Option.bind_eq_some_iff.mp H
                                                                              obtain ⟨t218, A930, H⟩ := H
                                                                              replace H : (if (Int.tmod (wrap64 ((rd t208 x207_3) - t218)) 2) = 0 then (if x207_3 > 0 then (if 0 ≤ (wrap64 (x207_3 - 1)) then (if (wrap64 (x207_3 - 1)) < (t208.length : Int) then (if (rd t208 x207_3) ≤ (rd t208 (wrap64 (x207_3 - 1))) then (none) else (laws_FnRulers.l2 k3 t179 x8_1 t208 t208 (t208.length : Int) (wrap64 (x207_3 + 1)))) else (none)) else (none)) else (laws_FnRulers.l2 k3 t179 x8_1 t208 t208 (t208.length : Int) (wrap64 (x207_3 + 1)))) else (none)) = some r := H
                                                                              have A93 := Aside0.mk A930
                                                                              clear A930
                                                                              by_cases c94 : (Int.tmod (wrap64 ((rd t208 x207_3) - t218)) 2) = 0
                                                                              · rw [if_pos c94] at H
                                                                                have c94b0 : ((Int.tmod (wrap64 ((rd t208 x207_3) - t218)) 2) == 0) = true := beq_iff_eq.mpr c94
                                                                                have c94b1 : ((Int.tmod (wrap64 ((rd t208 x207_3) - t218)) 2) != 0) = false := bne_eq_false_iff_eq.mpr c94
                                                                                clear c94
                                                                                by_cases c95 : x207_3 > 0
                                                                                · rw [if_pos c95] at H
                                                                                  have c95b0 : decide (0 < x207_3) = true := decide_eq_true c95
                                                                                  clear c95
                                                                                  obtain ⟨ji96, hji96⟩ : ∃ j_ : Int, (wrap64 (x207_3 - 1)) = j_ := ⟨_, rfl⟩
                                                                                  replace H : (if 0 ≤ (ji96) then (if (ji96) < (t208.length : Int) then (if (rd t208 x207_3) ≤ (rd t208 (ji96)) then (none) else (laws_FnRulers.l2 k3 t179 x8_1 t208 t208 (t208.length : Int) (wrap64 (x207_3 + 1)))) else (none)) else (none)) = some r := by first | (rw [hji96] at H; exact H) | (simp only [hji96] at H ⊢; exact H)
                                                                                  (try rw [hji96] at A93)
                                                                                  have hji96w : (IntKind.i64.wrap (x207_3 - 1)) = ji96 := (i64_w _).trans hji96
                                                                                  by_cases c97 : 0 ≤ (ji96)
                                                                                  · rw [if_pos c97] at H
                                                                                    have c97b0 : decide (0 ≤ (ji96)) = true := decide_eq_true c97
                                                                                    clear c97
                                                                                    by_cases c98 : (ji96) < (t208.length : Int)
                                                                                    · rw [if_pos c98] at H
                                                                                      have c98b0 : decide ((ji96) < (t208.length : Int)) = true := decide_eq_true c98
                                                                                      clear c98
                                                                                      by_cases c99 : (rd t208 x207_3) ≤ (rd t208 (ji96))
                                                                                      · rw [if_pos c99] at H
                                                                                        exact absurd H (by simp)
                                                                                      · rw [if_neg c99] at H
                                                                                        have c99b0 : decide ((rd t208 x207_3) ≤ (rd t208 (ji96))) = false := decide_eq_false c99
                                                                                        clear c99
                                                                                        as_aux_lemma =>
                                                                                          have H' := Aside0.mk H
                                                                                          clear H
                                                                                          have p217 : 0 ≤ (x207_3 : Int) := of_decide_eq_true (by first | (with_reducible assumption) | assumption)
                                                                                          have q217 : x207_3 < (t208.length : Int) := of_decide_eq_true (by first | (with_reducible assumption) | assumption)
                                                                                          obtain ⟨ad217, e217, hx217_0⟩ := Kd.at_int (Kd.R_reads' HO_205.out).2.2 x207_3 p217 q217
                                                                                          obtain rfl : ad211 = ad217 := (by injection e217)
                                                                                          replace p217 := eq_true p217
                                                                                          replace q217 := eq_true q217
                                                                                          go_wp2_with (first | ((with_reducible refine gate_callee (f := 14) rfl ?_); refine goesL_ (some 214) rfl rfl Tryz.func14 (by kernel_rfl) rfl #[.slice Ao9 t179.length co9] rfl (by (try simp only [List.map_toArray, List.map_cons, List.map_nil]); first | done | rfl | (simp only [List.length_drop, List.length_take]; rfl)) ?_; (with_reducible refine (laws_sum.calls k3 _ _ t179 t218 _ ?side1 ?side2 A93.out).mono ?_); (case side1 => repeat (first | exact (Kd.R_reads' HO_3.out).2.2 | (with_reducible refine Kd.C_alloc ?_ _) | (with_reducible refine Kd.C_drewN ?_ _) | (with_reducible refine Kd.C_drew ?_))); (case side2 => exact (Kd.R_reads' HO_3.out).2.1); rintro e w' ⟨rfl, ⟨nd, rfl⟩⟩; refine ⟨_, rfl, ?_⟩; have p219 : 0 ≤ ((ji96) : Int) := of_decide_eq_true (by first | (with_reducible assumption) | assumption); have q219 : (ji96) < (t208.length : Int) := of_decide_eq_true (by first | (with_reducible assumption) | assumption); obtain ⟨ad219, e219, hx219_0⟩ := Kd.at_int (Kd.R_reads' HO_15.out).2.2 (ji96) p219 q219; obtain rfl : ad211 = ad219 := (by injection e219); replace p219 := eq_true p219; replace q219 := eq_true q219))
                                                                                          go_roundg k3
                                                                                          case measure => have := HK1.out; have := HK2.out; have := HK3.out; omega
                                                                                          case rel => exact ⟨(wrap64 (x207_3 + 1)), (by first | rfl | (simp; done) | (simp [*]; done)), H', ⟨by have := HK1.out; have := HK2.out; have := HK3.out; omega⟩, ⟨by (with_reducible repeat (first | apply Kd.R_alloc | apply Kd.R_drewN | apply Kd.R_drew)); exact HO_3.out⟩, ⟨by (with_reducible repeat (first | apply Kd.R_alloc | apply Kd.R_drewN | apply Kd.R_drew)); exact HO_15.out⟩, ⟨by (with_reducible repeat (first | apply Kd.R_alloc | apply Kd.R_drewN | apply Kd.R_drew)); exact HO_205.out⟩, ⟨by repeat (first | (with_reducible first | exact HB.out | apply below_alloc | apply pw_below_drewN | apply below_drew1) | exact HB.out)⟩⟩
                                                                                    · rw [if_neg c98] at H
                                                                                      exact absurd H (by simp)
                                                                                  · rw [if_neg c97] at H
                                                                                    exact absurd H (by simp)
                                                                                · rw [if_neg c95] at H
                                                                                  have c95b0 : decide (0 < x207_3) = false := decide_eq_false c95
                                                                                  clear c95
                                                                                  as_aux_lemma =>
                                                                                    have H' := Aside0.mk H
                                                                                    clear H
                                                                                    have p217 : 0 ≤ (x207_3 : Int) := of_decide_eq_true (by first | (with_reducible assumption) | assumption)
                                                                                    have q217 : x207_3 < (t208.length : Int) := of_decide_eq_true (by first | (with_reducible assumption) | assumption)
                                                                                    obtain ⟨ad217, e217, hx217_0⟩ := Kd.at_int (Kd.R_reads' HO_205.out).2.2 x207_3 p217 q217
                                                                                    obtain rfl : ad211 = ad217 := (by injection e217)
                                                                                    replace p217 := eq_true p217
                                                                                    replace q217 := eq_true q217
                                                                                    go_wp2_with (first | ((with_reducible refine gate_callee (f := 14) rfl ?_); refine goesL_ (some 214) rfl rfl Tryz.func14 (by kernel_rfl) rfl #[.slice Ao9 t179.length co9] rfl (by (try simp only [List.map_toArray, List.map_cons, List.map_nil]); first | done | rfl | (simp only [List.length_drop, List.length_take]; rfl)) ?_; (with_reducible refine (laws_sum.calls k3 _ _ t179 t218 _ ?side1 ?side2 A93.out).mono ?_); (case side1 => repeat (first | exact (Kd.R_reads' HO_3.out).2.2 | (with_reducible refine Kd.C_alloc ?_ _) | (with_reducible refine Kd.C_drewN ?_ _) | (with_reducible refine Kd.C_drew ?_))); (case side2 => exact (Kd.R_reads' HO_3.out).2.1); rintro e w' ⟨rfl, ⟨nd, rfl⟩⟩; refine ⟨_, rfl, ?_⟩))
                                                                                    go_roundg k3
                                                                                    case measure => have := HK1.out; have := HK2.out; have := HK3.out; omega
                                                                                    case rel => exact ⟨(wrap64 (x207_3 + 1)), (by first | rfl | (simp; done) | (simp [*]; done)), H', ⟨by have := HK1.out; have := HK2.out; have := HK3.out; omega⟩, ⟨by (with_reducible repeat (first | apply Kd.R_alloc | apply Kd.R_drewN | apply Kd.R_drew)); exact HO_3.out⟩, ⟨by (with_reducible repeat (first | apply Kd.R_alloc | apply Kd.R_drewN | apply Kd.R_drew)); exact HO_15.out⟩, ⟨by (with_reducible repeat (first | apply Kd.R_alloc | apply Kd.R_drewN | apply Kd.R_drew)); exact HO_205.out⟩, ⟨by repeat (first | (with_reducible first | exact HB.out | apply below_alloc | apply pw_below_drewN | apply below_drew1) | exact HB.out)⟩⟩
                                                                              · rw [if_neg c94] at H
                                                                                exact absurd H (by simp)
                                                                            · rw [if_neg c92] at H
                                                                              exact absurd H (by simp)
                                                                          · rw [if_neg c91] at H
                                                                            exact absurd H (by simp)
                                                                        · rw [if_neg c90] at H
                                                                          have c90b0 : decide (x207_3 < (t208.length : Int)) = false := decide_eq_false c90
                                                                          clear c90
                                                                          obtain ⟨y220, hy220⟩ : ∃ y_ : List Int, y_ = (([x8_1, x8_1, x8_1] : List Int)) := ⟨_, rfl⟩
                                                                          replace H : ((impl_LeastRoom.f k3 y220).bind fun t223 => (some (t223 == x8_1))) = some r := by first | (rw [hy220]; with_reducible exact H) | (have H2_ := (Option.bind_some _ _).symm.trans H; rw [hy220]; with_reducible exact H2_) | (have H2_ := (Option.bind_some _ _).symm.trans H; with_reducible exact H2_) | with_reducible exact H | (rw [hy220]; exact H) | exact H
                                                                          have Ny220 := Aside0.mk hy220
                                                                          clear hy220
                                                                          replace H := Option.bind_eq_some_iff.mp H
                                                                          obtain ⟨t223, A1000, H⟩ := H
                                                                          replace H : (some (t223 == x8_1)) = some r := H
                                                                          have A100 := Aside0.mk A1000
                                                                          clear A1000
                                                                          as_aux_lemma =>
                                                                            obtain rfl := Option.some.inj H
                                                                            go_wp2_with (first | ((with_reducible refine gate_dst (N := 235) rfl ?_); (try (refine gate_guard (by rfl) ?_; dsimp only)); refine Kd.R_lit (Kd.int .i64) _ 3 ?hg (N := 235) ?hd (xs := ([x8_1, x8_1, x8_1] : List Int)) (inner := [.int .i64 x8_1, .int .i64 x8_1, .int .i64 x8_1]) (ok := fun _ => True) (okp := fun _ => True) ?hr ?hp (fun _ hk => hk) trivial (Below.refl _ _) (Nat.le_refl _) (by simp) ?_; (case hd => rfl); (case hg => rfl); (case hr => first | (go_simp; done) | (go_simp; rfl)); (case hp => exact (Reps.one (show Kd.M (Kd.int .i64) _ _ _ x8_1 [.int .i64 x8_1] from rfl) (Reps.one (show Kd.M (Kd.int .i64) _ _ _ x8_1 [.int .i64 x8_1] from rfl) (Reps.one (show Kd.M (Kd.int .i64) _ _ _ x8_1 [.int .i64 x8_1] from rfl) (Reps.none _ _))))); intro v221 w101 ho102 hb hg_ hnew_; clear hg_ hnew_; (first | rw [← Ny220.out] at ho102 | (simp only [Int.reduceToNat] at ho102; rw [← Ny220.out] at ho102)); have n0_ := Aside0.mk (Kd.R_elder' (by (with_reducible repeat (first | apply Kd.R_alloc | apply Kd.R_drewN | apply Kd.R_drew)); exact HO_3.out) (Kd.R_base ho102) hb); have n1_ := Aside0.mk (Kd.R_elder' (by (with_reducible repeat (first | apply Kd.R_alloc | apply Kd.R_drewN | apply Kd.R_drew)); exact HO_15.out) (Kd.R_base ho102) hb); have n2_ := Aside0.mk (Kd.R_elder' (by (with_reducible repeat (first | apply Kd.R_alloc | apply Kd.R_drewN | apply Kd.R_drew)); exact HO_205.out) (Kd.R_base ho102) hb); have n3_ := Aside0.mk (Kd.R_lower (Kd.R_new' (Kd.R_new' (Kd.R_new' ho102 (Kd.R_lt (by (with_reducible repeat (first | apply Kd.R_alloc | apply Kd.R_drewN | apply Kd.R_drew)); exact HO_3.out))) (Kd.R_lt (by (with_reducible repeat (first | apply Kd.R_alloc | apply Kd.R_drewN | apply Kd.R_drew)); exact HO_15.out))) (Kd.R_lt (by (with_reducible repeat (first | apply Kd.R_alloc | apply Kd.R_drewN | apply Kd.R_drew)); exact HO_205.out))) (below_size (by repeat (first | (with_reducible first | exact HB.out | apply below_alloc | apply pw_below_drewN | apply below_drew1) | exact HB.out)))); have n4_ := Aside0.mk (below_step (by repeat (first | (with_reducible first | exact HB.out | apply below_alloc | apply pw_below_drewN | apply below_drew1) | exact HB.out)) hb); clear HO_3; clear HO_15; clear HO_205; clear HB; have HO_3 := n0_; have HO_15 := n1_; have HO_205 := n2_; have HO222 := n3_; have HB := n4_; clear n0_ n1_ n2_ n3_ n4_; clear hb ho102; obtain ⟨Ao103, co103, eo103⟩ := Kd.R_slice HO222.out; subst eo103) | ((with_reducible refine gate_callee (f := 5) rfl ?_); refine goesL_ (some 236) rfl rfl Tryz.func5 (by kernel_rfl) rfl #[.slice Ao103 y220.length co103] rfl (by (try simp only [List.map_toArray, List.map_cons, List.map_nil]); first | done | rfl | (simp only [List.length_drop, List.length_take]; rfl)) ?_; (with_reducible refine (impl_LeastRoom.calls k3 _ _ y220 t223 _ ?side1 ?side2 A100.out).mono ?_); (case side1 => repeat (first | exact (Kd.R_reads' HO222.out).2.2 | (with_reducible refine Kd.C_alloc ?_ _) | (with_reducible refine Kd.C_drewN ?_ _) | (with_reducible refine Kd.C_drew ?_))); (case side2 => exact (Kd.R_reads' HO222.out).2.1); rintro e w104 ⟨rfl, hb⟩; refine ⟨_, rfl, ?_⟩; have n0_ := Aside0.mk (Kd.R_below (by (with_reducible repeat (first | apply Kd.R_alloc | apply Kd.R_drewN | apply Kd.R_drew)); exact HO_3.out) hb); have n1_ := Aside0.mk (Kd.R_below (by (with_reducible repeat (first | apply Kd.R_alloc | apply Kd.R_drewN | apply Kd.R_drew)); exact HO_15.out) hb); have n2_ := Aside0.mk (Kd.R_below (by (with_reducible repeat (first | apply Kd.R_alloc | apply Kd.R_drewN | apply Kd.R_drew)); exact HO_205.out) hb); have n3_ := Aside0.mk (Kd.R_below (by (with_reducible repeat (first | apply Kd.R_alloc | apply Kd.R_drewN | apply Kd.R_drew)); exact HO222.out) hb); have n4_ := Aside0.mk (below_step (by repeat (first | (with_reducible first | exact HB.out | apply below_alloc | apply pw_below_drewN | apply below_drew1) | exact HB.out)) hb); clear HO_3; clear HO_15; clear HO_205; clear HO222; clear HB; have HO_3 := n0_; have HO_15 := n1_; have HO_205 := n2_; have HO222 := n3_; have HB := n4_; clear n0_ n1_ n2_ n3_ n4_; (try clear hb); (try clear hb2); (try clear hk); (try clear hi)))
                                                                            go_ret
                                                                            exact ⟨by first | rfl | (simp [errW_none, errW_some] <;> rfl) | (simp only [← hji55, ← hji70]; first | rfl | (simp [errW_none, errW_some] <;> rfl)) | (simp [*, errW_none, errW_some] <;> rfl), by repeat (first | (with_reducible first | exact HB.out | apply below_alloc | apply pw_below_drewN | apply below_drew1) | exact HB.out)⟩
                                                                · rw [if_neg c80] at H
                                                                  exact absurd H (by simp)
                                                              · replace c79 := Bool.eq_false_iff.mpr c79
                                                                subst c79
                                                                have H1 : (none) = some r := by rw [if_neg (show ¬ (false = true) by decide)] at H; exact H
                                                                clear H
                                                                have H := H1
                                                                clear H1
                                                                exact absurd H (by simp)
                                                            · rw [if_neg c76] at H
                                                              exact absurd H (by simp)
                                                          · rw [if_neg c75] at H
                                                            exact absurd H (by simp)
                                                        · rw [if_neg c74] at H
                                                          have c74b0 : ((rd t208 (ji70)) == t212) = false := beq_eq_false_iff_ne.mpr c74
                                                          have c74b1 : ((rd t208 (ji70)) != t212) = true := bne_iff_ne.mpr c74
                                                          exact absurd H (by simp)
                                                      · rw [if_neg c72] at H
                                                        exact absurd H (by simp)
                                                    · rw [if_neg c71] at H
                                                      exact absurd H (by simp)
                                              · rw [if_neg c64] at H
                                                exact absurd H (by simp)
                                            · rw [if_neg c61] at H
                                              exact absurd H (by simp)
                                        · rw [if_neg c57] at H
                                          exact absurd H (by simp)
                                · rw [if_neg c36] at H
                                  exact absurd H (by simp)
                            · rw [if_neg c33] at H
                              exact absurd H (by simp)
                          · rw [if_neg c32] at H
                            exact absurd H (by simp)
                        · rw [if_neg c31] at H
                          exact absurd H (by simp)
                  · rw [if_neg c26] at H
                    exact absurd H (by simp)
                · rw [if_neg c24] at H
                  exact absurd H (by simp)
          · replace c20 := Bool.eq_false_iff.mpr c20
            subst c20
            have H1 : (none) = some r := by rw [if_neg (show ¬ (false = true) by decide)] at H; exact H
            clear H
            have H := H1
            clear H1
            exact absurd H (by simp)

/-- THE ONE PURE STATEMENT of laws_FnRulers: yours. -/
def laws_FnRulers.Pure : Prop := ∀ (l0 : List Int), l0.length ≤ maxLen → l0.length * 1 ≤ 140737488351232 → (∀ x ∈ l0, (Lit.int .u8 x).wf = true) → ∃ k, laws_FnRulers.f k l0 = some true
theorem laws_FnRulers.walk (P : laws_FnRulers.Pure) (a0 : Option Addr) (len0 cap0 : Nat) (z0 : List Int) (w : World) (w0 : (a0 = none ∧ len0 = 0 ∧ cap0 = 0 ∧ z0 = []) ∨ ∃ x, a0 = some x ∧ len0 ≤ cap0 ∧ cap0 ≤ maxLen ∧ z0.length = cap0 ∧ (∀ i, i < z0.length → w.cell? (x.add i) = some (.int .u8 (z0.getD i 0))) ∧ ∀ n ∈ z0, (Lit.int .u8 n).wf = true) (y0 : len0 * 1 ≤ 140737488351232) :
    Calls Tryz.prog 3 #[.slice a0 len0 cap0] w fun e w' => e = .returned (.bool true) ∧ Below w.heap.size w w' := by
  obtain ⟨l0, rfl, hr0, hm0, hw0, hc0⟩ := ReadsInt.ofRowC w0
  obtain ⟨k, h⟩ := P l0 hm0 y0 hw0
  refine (laws_FnRulers.calls k _ _ l0 true w (Kd.C_of_reads (d := (0 : Int)) (h1 := fun _ => rfl) hr0) hc0 h).mono ?_
  rintro e w' ⟨rfl, hd⟩
  exact ⟨rfl, hd⟩

end Go.Proofs.YtjjdahnjindgaaaGreatDoor.PA
