/- Texts of this claim put together in build order (FnFlaws). -/
import Derived.Test.YtoildabjnioafaaMFnFlaws0
import Derived.Test.YtoildabjnioafaaMFnFlaws1
import Derived.Test.YtoildabjnioafaaMFnFlaws2
-- Written for this claim by a program of this session's (ownprint.py), by way of the kit's print and hand-proved texts. Lean checks it.
namespace Go.Proofs.Ytoildabjnioafaa.PA
open Go.RowKit Go.Proofs.YtoildabjnioafaaW.PrintWords Go.Proofs.YtoildabjnioafaaW.PrintLast Go.Proofs.YtoildabjnioafaaW.PrintMore
attribute [local go_sem] max2_int min2_int max_two min_two max_three min_three max_four min_four   -- for this text's walks alone
set_option linter.unusedVariables false
set_option linter.unusedSimpArgs false
mutual
def laws_FnFlaws.j0 : Nat → List Int → Int → Int → Int → Int → List Int → Bool → Bool → Option (Bool)
  | 0, _, _, _, _, _, _, _, _ => none
  | k + 1, x0, x3, x4, x5, x6, x7, x8, x93 => if x93 = true then (none) else (laws_FnFlaws.l0 k x0 x3 x4 x5 x6 x7 x8 0 0)
def laws_FnFlaws.l0 : Nat → List Int → Int → Int → Int → Int → List Int → Bool → Int → Int → Option (Bool)
  | 0, _, _, _, _, _, _, _, _, _ => none
  | k + 1, x0, x3, x4, x5, x6, x7, x8, x9, x10 => if x10 < x3 then (laws_FnFlaws.l1 k x0 x3 x4 x5 x6 x7 x8 x9 x10 0) else ((spec_MakeSize.f k x0 30 0 (wrap64 (x3 - 1))).bind fun t416 => ((spec_MakeSize.f k x0 31 0 (wrap64 (x4 - 1))).bind fun t417 => ((impl_MarkFlaw.f x3 x4 x5 t416 t417).bind fun bt418 => (if x9 = x6 then ((impl_IsClear.f k x3 x4 x5 (([t416, t417, 1, 1] : List Int))).bind fun t423 => (if (bt418.2 != t423) = true then (none) else (if bt418.2 = true then ((impl_CountClear.f k x3 x4 bt418.1).bind fun t424 => (if t424 ≥ x6 then (none) else ((laws_cells.f k bt418.1).bind fun t425 => ((laws_cells.f k x5).bind fun t426 => (laws_FnFlaws.j5 k x3 x4 x5 x7 x8 (t425 != (wrap64 (t426 + 1)))))))) else (laws_FnFlaws.j5 k x3 x4 x5 x7 x8 false)))) else (none)))))
def laws_FnFlaws.l1 : Nat → List Int → Int → Int → Int → Int → List Int → Bool → Int → Int → Int → Option (Bool)
  | 0, _, _, _, _, _, _, _, _, _, _ => none
  | k + 1, x0, x3, x4, x5, x6, x7, x8, x9, x10, x11 => if x11 < x4 then (laws_FnFlaws.l2 k x0 x3 x4 x5 x6 x7 x8 x9 x10 x11 1) else (laws_FnFlaws.l0 k x0 x3 x4 x5 x6 x7 x8 x9 (wrap64 (x10 + 1)))
def laws_FnFlaws.l2 : Nat → List Int → Int → Int → Int → Int → List Int → Bool → Int → Int → Int → Int → Option (Bool)
  | 0, _, _, _, _, _, _, _, _, _, _, _ => none
  | k + 1, x0, x3, x4, x5, x6, x7, x8, x9, x10, x11, x12 => if (wrap64 (x10 + x12)) ≤ x3 then (laws_FnFlaws.l3 k x0 x3 x4 x5 x6 x7 x8 x9 x10 x11 x12 1) else (laws_FnFlaws.l1 k x0 x3 x4 x5 x6 x7 x8 x9 x10 (wrap64 (x11 + 1)))
def laws_FnFlaws.l3 : Nat → List Int → Int → Int → Int → Int → List Int → Bool → Int → Int → Int → Int → Int → Option (Bool)
  | 0, _, _, _, _, _, _, _, _, _, _, _, _ => none
  | k + 1, x0, x3, x4, x5, x6, x7, x8, x9, x10, x11, x12, x13 => if (wrap64 (x11 + x13)) ≤ x4 then ((some (([x10, x11, x12, x13] : List Int) : List Int)).bind fun y405 => ((impl_WindowOk.f x3 x4 y405).bind fun t408 => (if t408 = true then ((impl_WindowMask.f k x3 x4 y405).bind fun t409 => ((laws_cells.f k t409).bind fun t410 => (if t410 = (wrap64 (x12 * x13)) then ((impl_IsClear.f k x3 x4 x5 y405).bind fun t411 => ((impl_WindowMask.f k x3 x4 y405).bind fun t412 => (if (t411 != ((Go.bits .and .i64 t412 x5) == 0)) = true then (none) else ((impl_IsClear.f k x3 x4 x5 y405).bind fun t413 => (if t413 = true then (if x8 = true then (if 2 < (x7.length : Int) then (if 3 < (x7.length : Int) then (if (wrap64 (x12 * x13)) > (wrap64 ((rd x7 2) * (rd x7 3))) then (none) else (laws_FnFlaws.l3 k x0 x3 x4 x5 x6 x7 x8 (wrap64 (x9 + 1)) x10 x11 x12 (wrap64 (x13 + 1)))) else (none)) else (none)) else (none)) else (laws_FnFlaws.l3 k x0 x3 x4 x5 x6 x7 x8 x9 x10 x11 x12 (wrap64 (x13 + 1)))))))) else (none)))) else (none)))) else (laws_FnFlaws.l2 k x0 x3 x4 x5 x6 x7 x8 x9 x10 x11 (wrap64 (x12 + 1)))
def laws_FnFlaws.j5 : Nat → Int → Int → Int → List Int → Bool → Bool → Option (Bool)
  | 0, _, _, _, _, _, _ => none
  | k + 1, x3, x4, x5, x7, x8, x225 => if x225 = true then (none) else (if x8 = true then ((impl_WindowMask.f k x3 x4 x7).bind fun t427 => ((impl_CutCloth.f x3 x4 x7).bind fun t428 => (laws_FnFlaws.l4 k x3 x4 x5 x7 t427 t428 (t428.length : Int) 0))) else (some true))
def laws_FnFlaws.l4 : Nat → Int → Int → Int → List Int → Int → List (List Int) → Int → Int → Option (Bool)
  | 0, _, _, _, _, _, _, _, _ => none
  | k + 1, x3, x4, x5, x7, x19, x235, x236, x237 => if x237 < x236 then (if 0 ≤ x237 then (if x237 < (x235.length : Int) then ((impl_WindowMask.f k x3 x4 (rd_L1 x235 x237)).bind fun t432 => (if t432 ≤ 0 then (none) else (if (Go.bits .and .i64 x19 t432) = 0 then (laws_FnFlaws.l4 k x3 x4 x5 x7 (Go.bits .or .i64 x19 t432) x235 x236 (wrap64 (x237 + 1))) else (none)))) else (none)) else (none)) else (if 2 < (x7.length : Int) then (if 3 < (x7.length : Int) then ((impl_ClearFor.f k x3 x4 x5 (rd x7 2) (rd x7 3)).bind fun bt435 => (if bt435.2 = true then (if 0 ≤ (wrap64 (x3 * x4)) then (if x19 = (wrap64 ((shl .i64 1 (wrap64 (x3 * x4))) - 1)) then ((laws_same.f k bt435.1 x7).bind fun t439 => (some t439)) else (none)) else (none)) else (none))) else (none)) else (none))
end
def laws_FnFlaws.f (k : Nat) (l0 : List Int) : Option (Bool) := if (l0.length : Int) > 1048576 then (some true) else ((spec_MakeFlaws.f k l0 0).bind fun bt394 => ((impl_CountClear.f k bt394.1 bt394.2.1 bt394.2.2).bind fun t397 => ((impl_GreatestClear.f k bt394.1 bt394.2.1 bt394.2.2).bind fun bt398 => (if (bt398.2 != (decide (t397 > 0))) = true then (none) else ((laws_cells.f k bt394.2.2).bind fun t402 => (if (bt398.2 != (decide (t402 < (wrap64 (bt394.1 * bt394.2.1))))) = true then (none) else (if t397 < 0 then (none) else ((impl_CountClear.f k bt394.1 bt394.2.1 0).bind fun t403 => (if t403 = (wrap64 ((wrap64 (Int.tdiv (wrap64 (bt394.1 * (wrap64 (bt394.1 + 1)))) 2)) * (wrap64 (Int.tdiv (wrap64 (bt394.2.1 * (wrap64 (bt394.2.1 + 1)))) 2)))) then (if bt398.2 = true then ((impl_IsClear.f k bt394.1 bt394.2.1 bt394.2.2 bt398.1).bind fun t404 => (if t404 = true then (laws_FnFlaws.j0 k l0 bt394.1 bt394.2.1 bt394.2.2 t397 bt398.1 bt398.2 ((bt398.1.length : Int) != 4)) else (none))) else (laws_FnFlaws.j0 k l0 bt394.1 bt394.2.1 bt394.2.2 t397 bt398.1 bt398.2 false)) else (none))))))))))
def laws_FnFlaws.T28 : Bool × List (List Nat × List Nat) := (true, [([], []), ([0], [0]), ([1], [1]), ([2], [2]), ([2], [2]), ([3, 4, 2], [2, 3, 4]), ([2], [2]), ([6, 2], [2, 6]), ([7, 2], [2, 7]), ([2], [2]), ([9, 2], [2, 9]), ([10, 2], [2, 10]), ([8, 11, 2], [2, 8, 11]), ([5, 12, 2], [2, 5, 12]), ([2, 13], [2, 13])])
def laws_FnFlaws.B28 : List Nat := [0, 1, 3, 7, 7, 31, 7, 71, 199, 7, 519, 1543, 4039, 8191, 16383]
theorem laws_FnFlaws.tab28 : rtab .any (opsOf Try.f13 28) = laws_FnFlaws.T28 := by kernel_rfl
theorem laws_FnFlaws.bits28 : waitsOk laws_FnFlaws.T28.2 laws_FnFlaws.B28 = true := by kernel_rfl
def laws_FnFlaws.T46 : Bool × List (List Nat × List Nat) := (true, [([], []), ([], []), ([], []), ([], []), ([3], [3]), ([4], [4]), ([], []), ([6], [6]), ([7], [7]), ([0, 1, 2, 5, 8], [0, 1, 2, 5, 8]), ([9], [9]), ([10], [10]), ([10], [10]), ([11, 9, 0, 1, 2, 3, 4, 5, 6, 7, 8, 9, 10, 11], [11]), ([12, 13, 0, 1, 2, 3, 4, 5, 6, 7, 8, 9, 10, 11, 12, 13], [12])])
def laws_FnFlaws.B46 : List Nat := [0, 0, 0, 0, 8, 24, 0, 64, 192, 511, 1023, 2047, 2047, 4095, 16383]
theorem laws_FnFlaws.tab46 : rtab .any (opsOf Try.f13 46) = laws_FnFlaws.T46 := by kernel_rfl
theorem laws_FnFlaws.bits46 : waitsOk laws_FnFlaws.T46.2 laws_FnFlaws.B46 = true := by kernel_rfl
set_option maxHeartbeats 8000000 in
set_option maxRecDepth 100000 in
theorem laws_FnFlaws.calls (k : Nat) (A0 : Option Addr) (c0 : Nat) (l0 : List Int) (r : Bool) (w : World) (hr0 : Kd.C (Kd.int .u8) w A0 l0.length l0) (hc0 : l0.length ≤ c0) (h : laws_FnFlaws.f k l0 = some r) :
    Calls Try.prog 13 #[.slice A0 l0.length c0] w fun e w' => e = .returned (.bool r) ∧ Below w.heap.size w w' := by
  have HR0 := Aside0.mk hr0
  have HC0 := Aside0.mk hc0
  clear hr0 hc0
  have HB := Aside0.mk (Below.refl w.heap.size w)
  have H : (if (l0.length : Int) > 1048576 then (some true) else ((spec_MakeFlaws.f k l0 0).bind fun bt394 => ((impl_CountClear.f k bt394.1 bt394.2.1 bt394.2.2).bind fun t397 => ((impl_GreatestClear.f k bt394.1 bt394.2.1 bt394.2.2).bind fun bt398 => (if (bt398.2 != (decide (t397 > 0))) = true then (none) else ((laws_cells.f k bt394.2.2).bind fun t402 => (if (bt398.2 != (decide (t402 < (wrap64 (bt394.1 * bt394.2.1))))) = true then (none) else (if t397 < 0 then (none) else ((impl_CountClear.f k bt394.1 bt394.2.1 0).bind fun t403 => (if t403 = (wrap64 ((wrap64 (Int.tdiv (wrap64 (bt394.1 * (wrap64 (bt394.1 + 1)))) 2)) * (wrap64 (Int.tdiv (wrap64 (bt394.2.1 * (wrap64 (bt394.2.1 + 1)))) 2)))) then (if bt398.2 = true then ((impl_IsClear.f k bt394.1 bt394.2.1 bt394.2.2 bt398.1).bind fun t404 => (if t404 = true then (laws_FnFlaws.j0 k l0 bt394.1 bt394.2.1 bt394.2.2 t397 bt398.1 bt398.2 ((bt398.1.length : Int) != 4)) else (none))) else (laws_FnFlaws.j0 k l0 bt394.1 bt394.2.1 bt394.2.2 t397 bt398.1 bt398.2 false)) else (none))))))))))) = some r := h
  clear h
  by_cases c2 : (l0.length : Int) > 1048576
  · rw [if_pos c2] at H
    have c2b0 : decide (1048576 < (l0.length : Int)) = true := decide_eq_true c2
    have c2b1 : decide (1048576 < l0.length) = true := decide_eq_true (by omega)
    clear c2
    as_aux_lemma =>
      obtain rfl := Option.some.inj H
      go_enter Try.func13, Try.ntmps13
      go_wp2
      go_ret
      exact ⟨by first | rfl | (simp [errW_none, errW_some] <;> rfl) | (simp [*, errW_none, errW_some] <;> rfl), by repeat (first | (with_reducible first | exact HB.out | apply below_alloc | apply pw_below_drewN | apply below_drew1) | exact HB.out)⟩
  · rw [if_neg c2] at H
    have c2b0 : decide (1048576 < (l0.length : Int)) = false := decide_eq_false c2
    have c2b1 : decide (1048576 < l0.length) = false := decide_eq_false (by omega)
    clear c2
    replace H := Option.bind_eq_some_iff.mp H
    obtain ⟨⟨t394, t395, t396⟩, A30, H⟩ := H
    replace H : ((impl_CountClear.f k t394 t395 t396).bind fun t397 => ((impl_GreatestClear.f k t394 t395 t396).bind fun bt398 => (if (bt398.2 != (decide (t397 > 0))) = true then (none) else ((laws_cells.f k t396).bind fun t402 => (if (bt398.2 != (decide (t402 < (wrap64 (t394 * t395))))) = true then (none) else (if t397 < 0 then (none) else ((impl_CountClear.f k t394 t395 0).bind fun t403 => (if t403 = (wrap64 ((wrap64 (Int.tdiv (wrap64 (t394 * (wrap64 (t394 + 1)))) 2)) * (wrap64 (Int.tdiv (wrap64 (t395 * (wrap64 (t395 + 1)))) 2)))) then (if bt398.2 = true then ((impl_IsClear.f k t394 t395 t396 bt398.1).bind fun t404 => (if t404 = true then (laws_FnFlaws.j0 k l0 t394 t395 t396 t397 bt398.1 bt398.2 ((bt398.1.length : Int) != 4)) else (none))) else (laws_FnFlaws.j0 k l0 t394 t395 t396 t397 bt398.1 bt398.2 false)) else (none))))))))) = some r := H
    have A3 := Aside0.mk A30
    clear A30
    replace H := Option.bind_eq_some_iff.mp H
    obtain ⟨t397, A40, H⟩ := H
    replace H : ((impl_GreatestClear.f k t394 t395 t396).bind fun bt398 => (if (bt398.2 != (decide (t397 > 0))) = true then (none) else ((laws_cells.f k t396).bind fun t402 => (if (bt398.2 != (decide (t402 < (wrap64 (t394 * t395))))) = true then (none) else (if t397 < 0 then (none) else ((impl_CountClear.f k t394 t395 0).bind fun t403 => (if t403 = (wrap64 ((wrap64 (Int.tdiv (wrap64 (t394 * (wrap64 (t394 + 1)))) 2)) * (wrap64 (Int.tdiv (wrap64 (t395 * (wrap64 (t395 + 1)))) 2)))) then (if bt398.2 = true then ((impl_IsClear.f k t394 t395 t396 bt398.1).bind fun t404 => (if t404 = true then (laws_FnFlaws.j0 k l0 t394 t395 t396 t397 bt398.1 bt398.2 ((bt398.1.length : Int) != 4)) else (none))) else (laws_FnFlaws.j0 k l0 t394 t395 t396 t397 bt398.1 bt398.2 false)) else (none)))))))) = some r := H
    have A4 := Aside0.mk A40
    clear A40
    replace H := Option.bind_eq_some_iff.mp H
    obtain ⟨⟨t398, t399⟩, A50, H⟩ := H
    replace H : (if (t399 != (decide (t397 > 0))) = true then (none) else ((laws_cells.f k t396).bind fun t402 => (if (t399 != (decide (t402 < (wrap64 (t394 * t395))))) = true then (none) else (if t397 < 0 then (none) else ((impl_CountClear.f k t394 t395 0).bind fun t403 => (if t403 = (wrap64 ((wrap64 (Int.tdiv (wrap64 (t394 * (wrap64 (t394 + 1)))) 2)) * (wrap64 (Int.tdiv (wrap64 (t395 * (wrap64 (t395 + 1)))) 2)))) then (if t399 = true then ((impl_IsClear.f k t394 t395 t396 t398).bind fun t404 => (if t404 = true then (laws_FnFlaws.j0 k l0 t394 t395 t396 t397 t398 t399 ((t398.length : Int) != 4)) else (none))) else (laws_FnFlaws.j0 k l0 t394 t395 t396 t397 t398 t399 false)) else (none))))))) = some r := H
    have A5 := Aside0.mk A50
    clear A50
    by_cases c6 : (t399 != (decide (t397 > 0))) = true
    · rw [if_pos c6] at H
      exact absurd H (by simp)
    · rw [if_neg c6] at H
      have c6b0 : (t399 != (decide (t397 > 0))) = false := by simpa using c6
      (try (have c6b1 : decide (t399 = (decide (t397 > 0))) = true := by simpa using c6))
      (try (have c6b2 : (t399 == (decide (t397 > 0))) = true := by simpa using c6))
      clear c6
      replace H := Option.bind_eq_some_iff.mp H
      obtain ⟨t402, A70, H⟩ := H
      replace H : (if (t399 != (decide (t402 < (wrap64 (t394 * t395))))) = true then (none) else (if t397 < 0 then (none) else ((impl_CountClear.f k t394 t395 0).bind fun t403 => (if t403 = (wrap64 ((wrap64 (Int.tdiv (wrap64 (t394 * (wrap64 (t394 + 1)))) 2)) * (wrap64 (Int.tdiv (wrap64 (t395 * (wrap64 (t395 + 1)))) 2)))) then (if t399 = true then ((impl_IsClear.f k t394 t395 t396 t398).bind fun t404 => (if t404 = true then (laws_FnFlaws.j0 k l0 t394 t395 t396 t397 t398 t399 ((t398.length : Int) != 4)) else (none))) else (laws_FnFlaws.j0 k l0 t394 t395 t396 t397 t398 t399 false)) else (none))))) = some r := H
      have A7 := Aside0.mk A70
      clear A70
      by_cases c8 : (t399 != (decide (t402 < (wrap64 (t394 * t395))))) = true
      · rw [if_pos c8] at H
        exact absurd H (by simp)
      · rw [if_neg c8] at H
        have c8b0 : (t399 != (decide (t402 < (wrap64 (t394 * t395))))) = false := by simpa using c8
        (try (have c8b1 : decide (t399 = (decide (t402 < (wrap64 (t394 * t395))))) = true := by simpa using c8))
        (try (have c8b2 : (t399 == (decide (t402 < (wrap64 (t394 * t395))))) = true := by simpa using c8))
        clear c8
        by_cases c9 : t397 < 0
        · rw [if_pos c9] at H
          exact absurd H (by simp)
        · rw [if_neg c9] at H
          have c9b0 : decide (t397 < 0) = false := decide_eq_false c9
          clear c9
          replace H := Option.bind_eq_some_iff.mp H
          obtain ⟨t403, A100, H⟩ := H
          replace H : (if t403 = (wrap64 ((wrap64 (Int.tdiv (wrap64 (t394 * (wrap64 (t394 + 1)))) 2)) * (wrap64 (Int.tdiv (wrap64 (t395 * (wrap64 (t395 + 1)))) 2)))) then (if t399 = true then ((impl_IsClear.f k t394 t395 t396 t398).bind fun t404 => (if t404 = true then (laws_FnFlaws.j0 k l0 t394 t395 t396 t397 t398 t399 ((t398.length : Int) != 4)) else (none))) else (laws_FnFlaws.j0 k l0 t394 t395 t396 t397 t398 t399 false)) else (none)) = some r := H
          have A10 := Aside0.mk A100
          clear A100
          by_cases c11 : t403 = (wrap64 ((wrap64 (Int.tdiv (wrap64 (t394 * (wrap64 (t394 + 1)))) 2)) * (wrap64 (Int.tdiv (wrap64 (t395 * (wrap64 (t395 + 1)))) 2))))
          · rw [if_pos c11] at H
            have c11b0 : (t403 == (wrap64 ((wrap64 (Int.tdiv (wrap64 (t394 * (wrap64 (t394 + 1)))) 2)) * (wrap64 (Int.tdiv (wrap64 (t395 * (wrap64 (t395 + 1)))) 2))))) = true := beq_iff_eq.mpr c11
            have c11b1 : (t403 != (wrap64 ((wrap64 (Int.tdiv (wrap64 (t394 * (wrap64 (t394 + 1)))) 2)) * (wrap64 (Int.tdiv (wrap64 (t395 * (wrap64 (t395 + 1)))) 2))))) = false := bne_eq_false_iff_eq.mpr c11
            clear c11
            have HC12 := Aside0.mk H
            clear H
            go_enter Try.func13, Try.ntmps13
            go_upto_region 8 with (first | ((with_reducible refine gate_callee (f := 41) rfl ?_); refine goesL_ (some 30) rfl rfl Try.func41 (by kernel_rfl) rfl #[.slice A0 l0.length c0, .int .i64 0] rfl (by (try simp only [List.map_toArray, List.map_cons, List.map_nil]); first | done | rfl | (simp only [List.length_drop, List.length_take]; rfl)) ?_; (with_reducible refine (spec_MakeFlaws.calls k _ _ l0 0 t394 t395 t396 _ ?side1 ?side2 A3.out).mono ?_); (case side1 => repeat (first | exact HR0.out | (with_reducible refine Kd.C_alloc ?_ _) | (with_reducible refine Kd.C_drewN ?_ _) | (with_reducible refine Kd.C_drew ?_))); (case side2 => exact HC0.out); rintro e w13 ⟨rfl, hb⟩; refine ⟨_, rfl, ?_⟩; have n0_ := Aside0.mk (below_step (by repeat (first | (with_reducible first | exact HB.out | apply below_alloc | apply pw_below_drewN | apply below_drew1) | exact HB.out)) hb); clear HB; have HB := n0_; clear n0_; (try clear hb); (try clear hb2); (try clear hk); (try clear hi)) | ((with_reducible refine gate_callee (f := 29) rfl ?_); refine goesL_ (some 37) rfl rfl Try.func29 (by kernel_rfl) rfl #[.int .i64 t394, .int .i64 t395, .int .i64 t396] rfl (by (try simp only [List.map_toArray, List.map_cons, List.map_nil]); first | done | rfl | (simp only [List.length_drop, List.length_take]; rfl)) ?_; (with_reducible refine (impl_CountClear.calls k t394 t395 t396 t397 _ A4.out).mono ?_); rintro e w14 ⟨rfl, hb⟩; refine ⟨_, rfl, ?_⟩; have n0_ := Aside0.mk (below_step (by repeat (first | (with_reducible first | exact HB.out | apply below_alloc | apply pw_below_drewN | apply below_drew1) | exact HB.out)) hb); clear HB; have HB := n0_; clear n0_; (try clear hb); (try clear hb2); (try clear hk); (try clear hi)) | ((with_reducible refine gate_callee (f := 40) rfl ?_); refine goesL_ (some 42) rfl rfl Try.func40 (by kernel_rfl) rfl #[.int .i64 t394, .int .i64 t395, .int .i64 t396] rfl (by (try simp only [List.map_toArray, List.map_cons, List.map_nil]); first | done | rfl | (simp only [List.length_drop, List.length_take]; rfl)) ?_; (with_reducible refine (impl_GreatestClear.calls k t394 t395 t396 t398 t399 _ A5.out).mono ?_); rintro e w15 ⟨v400, rfl, ho0, hb⟩; refine ⟨_, rfl, ?_⟩; have n0_ := Aside0.mk (Kd.R_lower ho0 (below_size (by repeat (first | (with_reducible first | exact HB.out | apply below_alloc | apply pw_below_drewN | apply below_drew1) | exact HB.out)))); have n1_ := Aside0.mk (below_step (by repeat (first | (with_reducible first | exact HB.out | apply below_alloc | apply pw_below_drewN | apply below_drew1) | exact HB.out)) hb); clear HB; have HO401 := n0_; have HB := n1_; clear n0_ n1_; (try clear hb); (try clear hb2); (try clear hk); (try clear hi); (try clear ho0)) | (go_at_call 42; (with_reducible refine (laws_cells.calls k t396 t402 _ A7.out).mono ?_); rintro e w' ⟨rfl, ⟨nd, rfl⟩⟩) | (go_at_call 29; (with_reducible refine (impl_CountClear.calls k t394 t395 0 t403 _ A10.out).mono ?_); rintro e w16 ⟨rfl, hb⟩; have n0_ := Aside0.mk (Kd.R_below (by (with_reducible repeat (first | apply Kd.R_alloc | apply Kd.R_drewN | apply Kd.R_drew)); exact HO401.out) hb); have n1_ := Aside0.mk (below_step (by repeat (first | (with_reducible first | exact HB.out | apply below_alloc | apply pw_below_drewN | apply below_drew1) | exact HB.out)) hb); clear HO401; clear HB; have HO401 := n0_; have HB := n1_; clear n0_ n1_; (try clear hb); (try clear hb2); (try clear hk); (try clear hi)))
            (try simp only [Act.put, List.setIfInBounds_toArray, List.set_cons_zero, List.set_cons_succ])
            go_cut [93] (fun v93 wc => ∃ (kq : Nat) (x93_11 : Bool), v93 = .bool x93_11 ∧ Aside0 (laws_FnFlaws.j0 kq l0 t394 t395 t396 t397 t398 t399 x93_11 = some r) ∧ Aside0 (kq ≤ k) ∧ Aside0 (Kd.R (Kd.int .i64) 3 wc w.heap.size (fun _ => True) v400 t398) ∧ Aside0 (Below w.heap.size w wc))
            case first =>
              have H := HC12.out
              clear HC12
              by_cases c17 : t399 = true
              · subst c17
                have H1 : ((impl_IsClear.f k t394 t395 t396 t398).bind fun t404 => (if t404 = true then (laws_FnFlaws.j0 k l0 t394 t395 t396 t397 t398 true ((t398.length : Int) != 4)) else (none))) = some r := by rw [if_pos rfl] at H; exact H
                clear H
                have H := H1
                clear H1
                replace H := Option.bind_eq_some_iff.mp H
                obtain ⟨t404, A180, H⟩ := H
                replace H : (if t404 = true then (laws_FnFlaws.j0 k l0 t394 t395 t396 t397 t398 true ((t398.length : Int) != 4)) else (none)) = some r := H
                have A18 := Aside0.mk A180
                clear A180
                by_cases c19 : t404 = true
                · subst c19
                  have H1 : (laws_FnFlaws.j0 k l0 t394 t395 t396 t397 t398 true ((t398.length : Int) != 4)) = some r := by rw [if_pos rfl] at H; exact H
                  clear H
                  have H := H1
                  clear H1
                  as_aux_lemma =>
                    have H' := Aside0.mk H
                    clear H
                    obtain ⟨Ao20, co20, eo20⟩ := Kd.R_slice HO401.out
                    subst eo20
                    go_wp2_with (first | (go_at_call 27; (with_reducible refine (impl_IsClear.calls k t394 t395 t396 _ _ t398 true _ ?side1 ?side2 A18.out).mono ?_); (case side1 => repeat (first | exact (Kd.R_reads' HO401.out).2.2 | (with_reducible refine Kd.C_alloc ?_ _) | (with_reducible refine Kd.C_drewN ?_ _) | (with_reducible refine Kd.C_drew ?_))); (case side2 => exact (Kd.R_reads' HO401.out).2.1); rintro e w21 ⟨rfl, hb⟩; have n0_ := Aside0.mk (Kd.R_below (by (with_reducible repeat (first | apply Kd.R_alloc | apply Kd.R_drewN | apply Kd.R_drew)); exact HO401.out) hb); have n1_ := Aside0.mk (below_step (by repeat (first | (with_reducible first | exact HB.out | apply below_alloc | apply pw_below_drewN | apply below_drew1) | exact HB.out)) hb); clear HO401; clear HB; have HO401 := n0_; have HB := n1_; clear n0_ n1_; (try clear hb); (try clear hb2); (try clear hk); (try clear hi)))
                    go_meet
                    case rel => exact ⟨_, (((t398.length : Int) != 4)), (by first | rfl | (simp; done) | (simp [*]; done)), H', ⟨by first | omega | exact Nat.le_refl _⟩, ⟨by (with_reducible repeat (first | apply Kd.R_alloc | apply Kd.R_drewN | apply Kd.R_drew)); exact HO401.out⟩, ⟨by repeat (first | (with_reducible first | exact HB.out | apply below_alloc | apply pw_below_drewN | apply below_drew1) | exact HB.out)⟩⟩
                · replace c19 := Bool.eq_false_iff.mpr c19
                  subst c19
                  have H1 : (none) = some r := by rw [if_neg (show ¬ (false = true) by decide)] at H; exact H
                  clear H
                  have H := H1
                  clear H1
                  exact absurd H (by simp)
              · replace c17 := Bool.eq_false_iff.mpr c17
                subst c17
                have H1 : (laws_FnFlaws.j0 k l0 t394 t395 t396 t397 t398 false false) = some r := by rw [if_neg (show ¬ (false = true) by decide)] at H; exact H
                clear H
                have H := H1
                clear H1
                as_aux_lemma =>
                  have H' := Aside0.mk H
                  clear H
                  go_wp2
                  go_meet
                  case rel => exact ⟨_, (false), (by first | rfl | (simp; done) | (simp [*]; done)), H', ⟨by first | omega | exact Nat.le_refl _⟩, ⟨by (with_reducible repeat (first | apply Kd.R_alloc | apply Kd.R_drewN | apply Kd.R_drew)); exact HO401.out⟩, ⟨by repeat (first | (with_reducible first | exact HB.out | apply below_alloc | apply pw_below_drewN | apply below_drew1) | exact HB.out)⟩⟩
            case rest =>
              clear HC12
              try clear c1
              try clear c2
              try clear c2b0
              try clear c2b1
              try clear p2
              try clear c4
              try clear c6
              try clear c6b0
              try clear c6b1
              try clear c6b2
              try clear p6
              try clear c8
              try clear c8b0
              try clear c8b1
              try clear c8b2
              try clear c9
              try clear c9b0
              try clear c11
              try clear c11b0
              try clear c11b1
              try clear c13
              try clear c17
              try clear c19
              obtain ⟨kq, x93_11, rfl, HA, HJ11, HO_7, HB⟩ := hcut
              cases kq with
              | zero => exact absurd HA.out (by simp [laws_FnFlaws.j0])
              | succ kj11 =>
                have H := HA.out
                clear HA
                simp only [laws_FnFlaws.j0] at H
                by_cases c22 : x93_11 = true
                · subst c22
                  have H1 : (none) = some r := by rw [if_pos rfl] at H; exact H
                  clear H
                  have H := H1
                  clear H1
                  exact absurd H (by simp)
                · replace c22 := Bool.eq_false_iff.mpr c22
                  subst c22
                  have H1 : (laws_FnFlaws.l0 kj11 l0 t394 t395 t396 t397 t398 t399 0 0) = some r := by rw [if_neg (show ¬ (false = true) by decide)] at H; exact H
                  clear H
                  have H := H1
                  clear H1
                  have H' := Aside0.mk H
                  clear H
                  go_wp2
                  go_loopg [9, 10] kj11 (fun kq v9 v10 w' => ∃ (x9_2 : Int) (x10_2 : Int), v9 = .int .i64 x9_2 ∧ v10 = .int .i64 x10_2 ∧ Aside0 (laws_FnFlaws.l0 kq l0 t394 t395 t396 t397 t398 t399 x9_2 x10_2 = some r) ∧ Aside0 (kq ≤ kj11) ∧ Aside0 (Kd.R (Kd.int .i64) 3 w' w.heap.size (fun _ => True) v400 t398) ∧ Aside0 (Below w.heap.size w w'))
                  case atStart => exact ⟨(0), (0), (by first | rfl | (simp; done) | (simp [*]; done)), (by first | rfl | (simp; done) | (simp [*]; done)), H', ⟨Nat.le_refl _⟩, ⟨by (with_reducible repeat (first | apply Kd.R_alloc | apply Kd.R_drewN | apply Kd.R_drew)); exact HO_7.out⟩, ⟨by repeat (first | (with_reducible first | exact HB.out | apply below_alloc | apply pw_below_drewN | apply below_drew1) | exact HB.out)⟩⟩
                  case round =>
                    clear H'
                    try clear c1
                    try clear c2
                    try clear c2b0
                    try clear c2b1
                    try clear p2
                    try clear c4
                    try clear c6
                    try clear c6b0
                    try clear c6b1
                    try clear c6b2
                    try clear p6
                    try clear c8
                    try clear c8b0
                    try clear c8b1
                    try clear c8b2
                    try clear c9
                    try clear c9b0
                    try clear c11
                    try clear c11b0
                    try clear c11b1
                    try clear c13
                    try clear c17
                    try clear c19
                    try clear c22
                    try clear p2
                    try clear p6
                    obtain ⟨x9_2, x10_2, rfl, rfl, HA, HK2, HO_7, HB⟩ := hrel
                    cases gk with
                    | zero => exact absurd HA.out (by simp [laws_FnFlaws.l0])
                    | succ k2 =>
                      have H := HA.out
                      clear HA
                      simp only [laws_FnFlaws.l0] at H
                      by_cases c23 : x10_2 < t394
                      · rw [if_pos c23] at H
                        have c23b0 : decide (x10_2 < t394) = true := decide_eq_true c23
                        clear c23
                        have H' := Aside0.mk H
                        clear H
                        go_wp2
                        go_loopg [9, 11] k2 (fun kq v9 v11 w' => ∃ (x9_3 : Int) (x11_3 : Int), v9 = .int .i64 x9_3 ∧ v11 = .int .i64 x11_3 ∧ Aside0 (laws_FnFlaws.l1 kq l0 t394 t395 t396 t397 t398 t399 x9_3 x10_2 x11_3 = some r) ∧ Aside0 (kq ≤ k2) ∧ Aside0 (Kd.R (Kd.int .i64) 3 w' w.heap.size (fun _ => True) v400 t398) ∧ Aside0 (Below w.heap.size w w'))
                        case atStart => exact ⟨(x9_2), (0), (by first | rfl | (simp; done) | (simp [*]; done)), (by first | rfl | (simp; done) | (simp [*]; done)), H', ⟨Nat.le_refl _⟩, ⟨by (with_reducible repeat (first | apply Kd.R_alloc | apply Kd.R_drewN | apply Kd.R_drew)); exact HO_7.out⟩, ⟨by repeat (first | (with_reducible first | exact HB.out | apply below_alloc | apply pw_below_drewN | apply below_drew1) | exact HB.out)⟩⟩
                        case round =>
                          clear H'
                          try clear c1
                          try clear c2
                          try clear c2b0
                          try clear c2b1
                          try clear p2
                          try clear c4
                          try clear c6
                          try clear c6b0
                          try clear c6b1
                          try clear c6b2
                          try clear p6
                          try clear c8
                          try clear c8b0
                          try clear c8b1
                          try clear c8b2
                          try clear c9
                          try clear c9b0
                          try clear c11
                          try clear c11b0
                          try clear c11b1
                          try clear c13
                          try clear c17
                          try clear c19
                          try clear c22
                          try clear c23
                          try clear c23b0
                          try clear p2
                          try clear p6
                          obtain ⟨x9_3, x11_3, rfl, rfl, HA, HK3, HO_7, HB⟩ := hrel
                          cases gk with
                          | zero => exact absurd HA.out (by simp [laws_FnFlaws.l1])
                          | succ k3 =>
                            have H := HA.out
                            clear HA
                            simp only [laws_FnFlaws.l1] at H
                            by_cases c24 : x11_3 < t395
                            · rw [if_pos c24] at H
                              have c24b0 : decide (x11_3 < t395) = true := decide_eq_true c24
                              clear c24
                              have H' := Aside0.mk H
                              clear H
                              go_wp2
                              go_loopg [9, 12] k3 (fun kq v9 v12 w' => ∃ (x9_4 : Int) (x12_4 : Int), v9 = .int .i64 x9_4 ∧ v12 = .int .i64 x12_4 ∧ Aside0 (laws_FnFlaws.l2 kq l0 t394 t395 t396 t397 t398 t399 x9_4 x10_2 x11_3 x12_4 = some r) ∧ Aside0 (kq ≤ k3) ∧ Aside0 (Kd.R (Kd.int .i64) 3 w' w.heap.size (fun _ => True) v400 t398) ∧ Aside0 (Below w.heap.size w w'))
                              case atStart => exact ⟨(x9_3), (1), (by first | rfl | (simp; done) | (simp [*]; done)), (by first | rfl | (simp; done) | (simp [*]; done)), H', ⟨Nat.le_refl _⟩, ⟨by (with_reducible repeat (first | apply Kd.R_alloc | apply Kd.R_drewN | apply Kd.R_drew)); exact HO_7.out⟩, ⟨by repeat (first | (with_reducible first | exact HB.out | apply below_alloc | apply pw_below_drewN | apply below_drew1) | exact HB.out)⟩⟩
                              case round =>
                                clear H'
                                try clear c1
                                try clear c2
                                try clear c2b0
                                try clear c2b1
                                try clear p2
                                try clear c4
                                try clear c6
                                try clear c6b0
                                try clear c6b1
                                try clear c6b2
                                try clear p6
                                try clear c8
                                try clear c8b0
                                try clear c8b1
                                try clear c8b2
                                try clear c9
                                try clear c9b0
                                try clear c11
                                try clear c11b0
                                try clear c11b1
                                try clear c13
                                try clear c17
                                try clear c19
                                try clear c22
                                try clear c23
                                try clear c23b0
                                try clear c24
                                try clear c24b0
                                try clear p2
                                try clear p6
                                obtain ⟨x9_4, x12_4, rfl, rfl, HA, HK4, HO_7, HB⟩ := hrel
                                cases gk with
                                | zero => exact absurd HA.out (by simp [laws_FnFlaws.l2])
                                | succ k4 =>
                                  have H := HA.out
                                  clear HA
                                  simp only [laws_FnFlaws.l2] at H
                                  by_cases c25 : (wrap64 (x10_2 + x12_4)) ≤ t394
                                  · rw [if_pos c25] at H
                                    have c25b0 : decide ((wrap64 (x10_2 + x12_4)) ≤ t394) = true := decide_eq_true c25
                                    clear c25
                                    have H' := Aside0.mk H
                                    clear H
                                    go_wp2
                                    go_loopg [9, 13] k4 (fun kq v9 v13 w' => ∃ (x9_5 : Int) (x13_5 : Int), v9 = .int .i64 x9_5 ∧ v13 = .int .i64 x13_5 ∧ Aside0 (laws_FnFlaws.l3 kq l0 t394 t395 t396 t397 t398 t399 x9_5 x10_2 x11_3 x12_4 x13_5 = some r) ∧ Aside0 (kq ≤ k4) ∧ Aside0 (Kd.R (Kd.int .i64) 3 w' w.heap.size (fun _ => True) v400 t398) ∧ Aside0 (Below w.heap.size w w'))
                                    case atStart => exact ⟨(x9_4), (1), (by first | rfl | (simp; done) | (simp [*]; done)), (by first | rfl | (simp; done) | (simp [*]; done)), H', ⟨Nat.le_refl _⟩, ⟨by (with_reducible repeat (first | apply Kd.R_alloc | apply Kd.R_drewN | apply Kd.R_drew)); exact HO_7.out⟩, ⟨by repeat (first | (with_reducible first | exact HB.out | apply below_alloc | apply pw_below_drewN | apply below_drew1) | exact HB.out)⟩⟩
                                    case round =>
                                      clear H'
                                      try clear c1
                                      try clear c2
                                      try clear c2b0
                                      try clear c2b1
                                      try clear p2
                                      try clear c4
                                      try clear c6
                                      try clear c6b0
                                      try clear c6b1
                                      try clear c6b2
                                      try clear p6
                                      try clear c8
                                      try clear c8b0
                                      try clear c8b1
                                      try clear c8b2
                                      try clear c9
                                      try clear c9b0
                                      try clear c11
                                      try clear c11b0
                                      try clear c11b1
                                      try clear c13
                                      try clear c17
                                      try clear c19
                                      try clear c22
                                      try clear c23
                                      try clear c23b0
                                      try clear c24
                                      try clear c24b0
                                      try clear c25
                                      try clear c25b0
                                      try clear p2
                                      try clear p6
                                      obtain ⟨x9_5, x13_5, rfl, rfl, HA, HK5, HO_7, HB⟩ := hrel
                                      cases gk with
                                      | zero => exact absurd HA.out (by simp [laws_FnFlaws.l3])
                                      | succ k5 =>
                                        have H := HA.out
                                        clear HA
                                        simp only [laws_FnFlaws.l3] at H
                                        by_cases c26 : (wrap64 (x11_3 + x13_5)) ≤ t395
                                        · rw [if_pos c26] at H
                                          have c26b0 : decide ((wrap64 (x11_3 + x13_5)) ≤ t395) = true := decide_eq_true c26
                                          clear c26
                                          obtain ⟨y405, hy405⟩ : ∃ y_ : List Int, y_ = (([x10_2, x11_3, x12_4, x13_5] : List Int)) := ⟨_, rfl⟩
                                          replace H : ((impl_WindowOk.f t394 t395 y405).bind fun t408 => (if t408 = true then ((impl_WindowMask.f k5 t394 t395 y405).bind fun t409 => ((laws_cells.f k5 t409).bind fun t410 => (if t410 = (wrap64 (x12_4 * x13_5)) then ((impl_IsClear.f k5 t394 t395 t396 y405).bind fun t411 => ((impl_WindowMask.f k5 t394 t395 y405).bind fun t412 => (if (t411 != ((Go.bits .and .i64 t412 t396) == 0)) = true then (none) else ((impl_IsClear.f k5 t394 t395 t396 y405).bind fun t413 => (if t413 = true then (if t399 = true then (if 2 < (t398.length : Int) then (if 3 < (t398.length : Int) then (if (wrap64 (x12_4 * x13_5)) > (wrap64 ((rd t398 2) * (rd t398 3))) then (none) else (laws_FnFlaws.l3 k5 l0 t394 t395 t396 t397 t398 t399 (wrap64 (x9_5 + 1)) x10_2 x11_3 x12_4 (wrap64 (x13_5 + 1)))) else (none)) else (none)) else (none)) else (laws_FnFlaws.l3 k5 l0 t394 t395 t396 t397 t398 t399 x9_5 x10_2 x11_3 x12_4 (wrap64 (x13_5 + 1)))))))) else (none)))) else (none))) = some r := by first | (rw [hy405]; with_reducible exact H) | (have H2_ := (Option.bind_some _ _).symm.trans H; rw [hy405]; with_reducible exact H2_) | (have H2_ := (Option.bind_some _ _).symm.trans H; with_reducible exact H2_) | with_reducible exact H | (rw [hy405]; exact H) | exact H
                                          have Ny405 := Aside0.mk hy405
                                          clear hy405
                                          replace H := Option.bind_eq_some_iff.mp H
                                          obtain ⟨t408, A270, H⟩ := H
                                          replace H : (if t408 = true then ((impl_WindowMask.f k5 t394 t395 y405).bind fun t409 => ((laws_cells.f k5 t409).bind fun t410 => (if t410 = (wrap64 (x12_4 * x13_5)) then ((impl_IsClear.f k5 t394 t395 t396 y405).bind fun t411 => ((impl_WindowMask.f k5 t394 t395 y405).bind fun t412 => (if (t411 != ((Go.bits .and .i64 t412 t396) == 0)) = true then (none) else ((impl_IsClear.f k5 t394 t395 t396 y405).bind fun t413 => (if t413 = true then (if t399 = true then (if 2 < (t398.length : Int) then (if 3 < (t398.length : Int) then (if (wrap64 (x12_4 * x13_5)) > (wrap64 ((rd t398 2) * (rd t398 3))) then (none) else (laws_FnFlaws.l3 k5 l0 t394 t395 t396 t397 t398 t399 (wrap64 (x9_5 + 1)) x10_2 x11_3 x12_4 (wrap64 (x13_5 + 1)))) else (none)) else (none)) else (none)) else (laws_FnFlaws.l3 k5 l0 t394 t395 t396 t397 t398 t399 x9_5 x10_2 x11_3 x12_4 (wrap64 (x13_5 + 1)))))))) else (none)))) else (none)) = some r := H
                                          have A27 := Aside0.mk A270
                                          clear A270
                                          by_cases c28 : t408 = true
                                          · subst c28
                                            have H1 : ((impl_WindowMask.f k5 t394 t395 y405).bind fun t409 => ((laws_cells.f k5 t409).bind fun t410 => (if t410 = (wrap64 (x12_4 * x13_5)) then ((impl_IsClear.f k5 t394 t395 t396 y405).bind fun t411 => ((impl_WindowMask.f k5 t394 t395 y405).bind fun t412 => (if (t411 != ((Go.bits .and .i64 t412 t396) == 0)) = true then (none) else ((impl_IsClear.f k5 t394 t395 t396 y405).bind fun t413 => (if t413 = true then (if t399 = true then (if 2 < (t398.length : Int) then (if 3 < (t398.length : Int) then (if (wrap64 (x12_4 * x13_5)) > (wrap64 ((rd t398 2) * (rd t398 3))) then (none) else (laws_FnFlaws.l3 k5 l0 t394 t395 t396 t397 t398 t399 (wrap64 (x9_5 + 1)) x10_2 x11_3 x12_4 (wrap64 (x13_5 + 1)))) else (none)) else (none)) else (none)) else (laws_FnFlaws.l3 k5 l0 t394 t395 t396 t397 t398 t399 x9_5 x10_2 x11_3 x12_4 (wrap64 (x13_5 + 1)))))))) else (none)))) = some r := by rw [if_pos rfl] at H; exact H
                                            clear H
                                            have H := H1
                                            clear H1
                                            replace H := Option.bind_eq_some_iff.mp H
                                            obtain ⟨t409, A290, H⟩ := H
                                            replace H : ((laws_cells.f k5 t409).bind fun t410 => (if t410 = (wrap64 (x12_4 * x13_5)) then ((impl_IsClear.f k5 t394 t395 t396 y405).bind fun t411 => ((impl_WindowMask.f k5 t394 t395 y405).bind fun t412 => (if (t411 != ((Go.bits .and .i64 t412 t396) == 0)) = true then (none) else ((impl_IsClear.f k5 t394 t395 t396 y405).bind fun t413 => (if t413 = true then (if t399 = true then (if 2 < (t398.length : Int) then (if 3 < (t398.length : Int) then (if (wrap64 (x12_4 * x13_5)) > (wrap64 ((rd t398 2) * (rd t398 3))) then (none) else (laws_FnFlaws.l3 k5 l0 t394 t395 t396 t397 t398 t399 (wrap64 (x9_5 + 1)) x10_2 x11_3 x12_4 (wrap64 (x13_5 + 1)))) else (none)) else (none)) else (none)) else (laws_FnFlaws.l3 k5 l0 t394 t395 t396 t397 t398 t399 x9_5 x10_2 x11_3 x12_4 (wrap64 (x13_5 + 1)))))))) else (none))) = some r := H
                                            have A29 := Aside0.mk A290
                                            clear A290
                                            replace H := Option.bind_eq_some_iff.mp H
                                            obtain ⟨t410, A300, H⟩ := H
                                            replace H : (if t410 = (wrap64 (x12_4 * x13_5)) then ((impl_IsClear.f k5 t394 t395 t396 y405).bind fun t411 => ((impl_WindowMask.f k5 t394 t395 y405).bind fun t412 => (if (t411 != ((Go.bits .and .i64 t412 t396) == 0)) = true then (none) else ((impl_IsClear.f k5 t394 t395 t396 y405).bind fun t413 => (if t413 = true then (if t399 = true then (if 2 < (t398.length : Int) then (if 3 < (t398.length : Int) then (if (wrap64 (x12_4 * x13_5)) > (wrap64 ((rd t398 2) * (rd t398 3))) then (none) else (laws_FnFlaws.l3 k5 l0 t394 t395 t396 t397 t398 t399 (wrap64 (x9_5 + 1)) x10_2 x11_3 x12_4 (wrap64 (x13_5 + 1)))) else (none)) else (none)) else (none)) else (laws_FnFlaws.l3 k5 l0 t394 t395 t396 t397 t398 t399 x9_5 x10_2 x11_3 x12_4 (wrap64 (x13_5 + 1)))))))) else (none)) = some r := H
                                            have A30 := Aside0.mk A300
                                            clear A300
                                            by_cases c31 : t410 = (wrap64 (x12_4 * x13_5))
                                            · rw [if_pos c31] at H
                                              have c31b0 : (t410 == (wrap64 (x12_4 * x13_5))) = true := beq_iff_eq.mpr c31
                                              have c31b1 : (t410 != (wrap64 (x12_4 * x13_5))) = false := bne_eq_false_iff_eq.mpr c31
                                              clear c31
                                              replace H := Option.bind_eq_some_iff.mp H
                                              obtain ⟨t411, A320, H⟩ := H
                                              replace H : ((impl_WindowMask.f k5 t394 t395 y405).bind fun t412 => (if (t411 != ((Go.bits .and .i64 t412 t396) == 0)) = true then (none) else ((impl_IsClear.f k5 t394 t395 t396 y405).bind fun t413 => (if t413 = true then (if t399 = true then (if 2 < (t398.length : Int) then (if 3 < (t398.length : Int) then (if (wrap64 (x12_4 * x13_5)) > (wrap64 ((rd t398 2) * (rd t398 3))) then (none) else (laws_FnFlaws.l3 k5 l0 t394 t395 t396 t397 t398 t399 (wrap64 (x9_5 + 1)) x10_2 x11_3 x12_4 (wrap64 (x13_5 + 1)))) else (none)) else (none)) else (none)) else (laws_FnFlaws.l3 k5 l0 t394 t395 t396 t397 t398 t399 x9_5 x10_2 x11_3 x12_4 (wrap64 (x13_5 + 1))))))) = some r := H
                                              have A32 := Aside0.mk A320
                                              clear A320
                                              replace H := Option.bind_eq_some_iff.mp H
                                              obtain ⟨t412, A330, H⟩ := H
                                              replace H : (if (t411 != ((Go.bits .and .i64 t412 t396) == 0)) = true then (none) else ((impl_IsClear.f k5 t394 t395 t396 y405).bind fun t413 => (if t413 = true then (if t399 = true then (if 2 < (t398.length : Int) then (if 3 < (t398.length : Int) then (if (wrap64 (x12_4 * x13_5)) > (wrap64 ((rd t398 2) * (rd t398 3))) then (none) else (laws_FnFlaws.l3 k5 l0 t394 t395 t396 t397 t398 t399 (wrap64 (x9_5 + 1)) x10_2 x11_3 x12_4 (wrap64 (x13_5 + 1)))) else (none)) else (none)) else (none)) else (laws_FnFlaws.l3 k5 l0 t394 t395 t396 t397 t398 t399 x9_5 x10_2 x11_3 x12_4 (wrap64 (x13_5 + 1)))))) = some r := H
                                              have A33 := Aside0.mk A330
                                              obtain rfl : t412 = t409 := Option.some.inj (A33.out.symm.trans A29.out)
                                              clear A330
                                              by_cases c34 : (t411 != ((Go.bits .and .i64 t412 t396) == 0)) = true
                                              · rw [if_pos c34] at H
                                                exact absurd H (by simp)
                                              · rw [if_neg c34] at H
                                                have c34b0 : (t411 != ((Go.bits .and .i64 t412 t396) == 0)) = false := by simpa using c34
                                                have c34b3 : ((Go.bits .and .i64 t412 t396) == 0) = t411 := by by_cases hq_ : ((Go.bits .and .i64 t412 t396) == 0) = t411; exact hq_; exact absurd (by rw [bne_iff_ne]; exact fun z => hq_ z.symm) c34
                                                (try (have c34b1 : decide (t411 = ((Go.bits .and .i64 t412 t396) == 0)) = true := by simpa using c34))
                                                (try (have c34b2 : (t411 == ((Go.bits .and .i64 t412 t396) == 0)) = true := by simpa using c34))
                                                clear c34
                                                replace H := Option.bind_eq_some_iff.mp H
                                                obtain ⟨t413, A350, H⟩ := H
                                                replace H : (if t413 = true then (if t399 = true then (if 2 < (t398.length : Int) then (if 3 < (t398.length : Int) then (if (wrap64 (x12_4 * x13_5)) > (wrap64 ((rd t398 2) * (rd t398 3))) then (none) else (laws_FnFlaws.l3 k5 l0 t394 t395 t396 t397 t398 t399 (wrap64 (x9_5 + 1)) x10_2 x11_3 x12_4 (wrap64 (x13_5 + 1)))) else (none)) else (none)) else (none)) else (laws_FnFlaws.l3 k5 l0 t394 t395 t396 t397 t398 t399 x9_5 x10_2 x11_3 x12_4 (wrap64 (x13_5 + 1)))) = some r := H
                                                have A35 := Aside0.mk A350
                                                obtain rfl : t413 = t411 := Option.some.inj (A35.out.symm.trans A32.out)
                                                clear A350
                                                by_cases c36 : t413 = true
                                                · subst c36
                                                  have H1 : (if t399 = true then (if 2 < (t398.length : Int) then (if 3 < (t398.length : Int) then (if (wrap64 (x12_4 * x13_5)) > (wrap64 ((rd t398 2) * (rd t398 3))) then (none) else (laws_FnFlaws.l3 k5 l0 t394 t395 t396 t397 t398 t399 (wrap64 (x9_5 + 1)) x10_2 x11_3 x12_4 (wrap64 (x13_5 + 1)))) else (none)) else (none)) else (none)) = some r := by rw [if_pos rfl] at H; exact H
                                                  clear H
                                                  have H := H1
                                                  clear H1
                                                  by_cases c37 : t399 = true
                                                  · subst c37
                                                    have H1 : (if 2 < (t398.length : Int) then (if 3 < (t398.length : Int) then (if (wrap64 (x12_4 * x13_5)) > (wrap64 ((rd t398 2) * (rd t398 3))) then (none) else (laws_FnFlaws.l3 k5 l0 t394 t395 t396 t397 t398 true (wrap64 (x9_5 + 1)) x10_2 x11_3 x12_4 (wrap64 (x13_5 + 1)))) else (none)) else (none)) = some r := by rw [if_pos rfl] at H; exact H
                                                    clear H
                                                    have H := H1
                                                    clear H1
                                                    by_cases c38 : 2 < (t398.length : Int)
                                                    · rw [if_pos c38] at H
                                                      have c38b0 : decide (2 < (t398.length : Int)) = true := decide_eq_true c38
                                                      have c38b1 : decide (2 < t398.length) = true := decide_eq_true (by omega)
                                                      clear c38
                                                      by_cases c39 : 3 < (t398.length : Int)
                                                      · rw [if_pos c39] at H
                                                        have c39b0 : decide (3 < (t398.length : Int)) = true := decide_eq_true c39
                                                        have c39b1 : decide (3 < t398.length) = true := decide_eq_true (by omega)
                                                        clear c39
                                                        by_cases c40 : (wrap64 (x12_4 * x13_5)) > (wrap64 ((rd t398 2) * (rd t398 3)))
                                                        · rw [if_pos c40] at H
                                                          exact absurd H (by simp)
                                                        · rw [if_neg c40] at H
                                                          have c40b0 : decide ((wrap64 ((rd t398 2) * (rd t398 3))) < (wrap64 (x12_4 * x13_5))) = false := decide_eq_false c40
                                                          clear c40
                                                          as_aux_lemma =>
                                                            have H' := Aside0.mk H
                                                            clear H
                                                            try go_wp2_with (first | ((with_reducible refine gate_dst (N := 122) rfl ?_); (try (refine gate_guard (by rfl) ?_; dsimp only)); refine Kd.R_lit (Kd.int .i64) _ 3 ?hg (N := 122) ?hd (xs := ([x10_2, x11_3, x12_4, x13_5] : List Int)) (inner := [.int .i64 x10_2, .int .i64 x11_3, .int .i64 x12_4, .int .i64 x13_5]) (ok := fun _ => True) (okp := fun _ => True) ?hr ?hp (fun _ hk => hk) trivial (Below.refl _ _) (Nat.le_refl _) (by simp) ?_; (case hd => rfl); (case hg => rfl); (case hr => first | (go_simp; done) | (go_simp; rfl)); (case hp => exact (Reps.one (show Kd.M (Kd.int .i64) _ _ _ x10_2 [.int .i64 x10_2] from rfl) (Reps.one (show Kd.M (Kd.int .i64) _ _ _ x11_3 [.int .i64 x11_3] from rfl) (Reps.one (show Kd.M (Kd.int .i64) _ _ _ x12_4 [.int .i64 x12_4] from rfl) (Reps.one (show Kd.M (Kd.int .i64) _ _ _ x13_5 [.int .i64 x13_5] from rfl) (Reps.none _ _)))))); intro v406 w41 ho42 hb hg_ hnew_; clear hg_ hnew_; (first | rw [← Ny405.out] at ho42 | (simp only [Int.reduceToNat] at ho42; rw [← Ny405.out] at ho42)); have n0_ := Aside0.mk (Kd.R_elder' (by (with_reducible repeat (first | apply Kd.R_alloc | apply Kd.R_drewN | apply Kd.R_drew)); exact HO_7.out) (Kd.R_base ho42) hb); have n1_ := Aside0.mk (Kd.R_lower (Kd.R_new' ho42 (Kd.R_lt (by (with_reducible repeat (first | apply Kd.R_alloc | apply Kd.R_drewN | apply Kd.R_drew)); exact HO_7.out))) (below_size (by repeat (first | (with_reducible first | exact HB.out | apply below_alloc | apply pw_below_drewN | apply below_drew1) | exact HB.out)))); have n2_ := Aside0.mk (below_step (by repeat (first | (with_reducible first | exact HB.out | apply below_alloc | apply pw_below_drewN | apply below_drew1) | exact HB.out)) hb); clear HO_7; clear HB; have HO_7 := n0_; have HO407 := n1_; have HB := n2_; clear n0_ n1_ n2_; clear hb ho42; obtain ⟨Ao43, co43, eo43⟩ := Kd.R_slice HO407.out; subst eo43) | ((with_reducible refine gate_callee (f := 22) rfl ?_); refine goesL_ (some 126) rfl rfl Try.func22 (by kernel_rfl) rfl #[.int .i64 t394, .int .i64 t395, .slice Ao43 y405.length co43] rfl (by (try simp only [List.map_toArray, List.map_cons, List.map_nil]); first | done | rfl | (simp only [List.length_drop, List.length_take]; rfl)) ?_; (with_reducible refine (impl_WindowOk.calls t394 t395 _ _ y405 true _ ?side1 ?side2 A27.out).mono ?_); (case side1 => repeat (first | exact (Kd.R_reads' HO407.out).2.2 | (with_reducible refine Kd.C_alloc ?_ _) | (with_reducible refine Kd.C_drewN ?_ _) | (with_reducible refine Kd.C_drew ?_))); (case side2 => exact (Kd.R_reads' HO407.out).2.1); rintro e w44 ⟨rfl, hb⟩; refine ⟨_, rfl, ?_⟩; have n0_ := Aside0.mk (Kd.R_below (by (with_reducible repeat (first | apply Kd.R_alloc | apply Kd.R_drewN | apply Kd.R_drew)); exact HO_7.out) hb); have n1_ := Aside0.mk (Kd.R_below (by (with_reducible repeat (first | apply Kd.R_alloc | apply Kd.R_drewN | apply Kd.R_drew)); exact HO407.out) hb); have n2_ := Aside0.mk (below_step (by repeat (first | (with_reducible first | exact HB.out | apply below_alloc | apply pw_below_drewN | apply below_drew1) | exact HB.out)) hb); clear HO_7; clear HO407; clear HB; have HO_7 := n0_; have HO407 := n1_; have HB := n2_; clear n0_ n1_ n2_; (try clear hb); (try clear hb2); (try clear hk); (try clear hi)) | (go_at_call 25; (with_reducible refine (impl_WindowMask.calls k5 t394 t395 _ _ y405 t412 _ ?side1 ?side2 A29.out).mono ?_); (case side1 => repeat (first | exact (Kd.R_reads' HO407.out).2.2 | (with_reducible refine Kd.C_alloc ?_ _) | (with_reducible refine Kd.C_drewN ?_ _) | (with_reducible refine Kd.C_drew ?_))); (case side2 => exact (Kd.R_reads' HO407.out).2.1); rintro e w45 ⟨rfl, hb⟩; have n0_ := Aside0.mk (Kd.R_below (by (with_reducible repeat (first | apply Kd.R_alloc | apply Kd.R_drewN | apply Kd.R_drew)); exact HO_7.out) hb); have n1_ := Aside0.mk (Kd.R_below (by (with_reducible repeat (first | apply Kd.R_alloc | apply Kd.R_drewN | apply Kd.R_drew)); exact HO407.out) hb); have n2_ := Aside0.mk (below_step (by repeat (first | (with_reducible first | exact HB.out | apply below_alloc | apply pw_below_drewN | apply below_drew1) | exact HB.out)) hb); clear HO_7; clear HO407; clear HB; have HO_7 := n0_; have HO407 := n1_; have HB := n2_; clear n0_ n1_ n2_; (try clear hb); (try clear hb2); (try clear hk); (try clear hi)) | (go_at_call 42; (with_reducible refine (laws_cells.calls k5 t412 t410 _ A30.out).mono ?_); rintro e w' ⟨rfl, ⟨nd, rfl⟩⟩) | (go_at_call 27; (with_reducible refine (impl_IsClear.calls k5 t394 t395 t396 _ _ y405 true _ ?side1 ?side2 A32.out).mono ?_); (case side1 => repeat (first | exact (Kd.R_reads' HO407.out).2.2 | (with_reducible refine Kd.C_alloc ?_ _) | (with_reducible refine Kd.C_drewN ?_ _) | (with_reducible refine Kd.C_drew ?_))); (case side2 => exact (Kd.R_reads' HO407.out).2.1); rintro e w46 ⟨rfl, hb⟩; have n0_ := Aside0.mk (Kd.R_below (by (with_reducible repeat (first | apply Kd.R_alloc | apply Kd.R_drewN | apply Kd.R_drew)); exact HO_7.out) hb); have n1_ := Aside0.mk (Kd.R_below (by (with_reducible repeat (first | apply Kd.R_alloc | apply Kd.R_drewN | apply Kd.R_drew)); exact HO407.out) hb); have n2_ := Aside0.mk (below_step (by repeat (first | (with_reducible first | exact HB.out | apply below_alloc | apply pw_below_drewN | apply below_drew1) | exact HB.out)) hb); clear HO_7; clear HO407; clear HB; have HO_7 := n0_; have HO407 := n1_; have HB := n2_; clear n0_ n1_ n2_; (try clear hb); (try clear hb2); (try clear hk); (try clear hi)) | (go_at_call 25; (with_reducible refine (impl_WindowMask.calls k5 t394 t395 _ _ y405 t412 _ ?side1 ?side2 A33.out).mono ?_); (case side1 => repeat (first | exact (Kd.R_reads' HO407.out).2.2 | (with_reducible refine Kd.C_alloc ?_ _) | (with_reducible refine Kd.C_drewN ?_ _) | (with_reducible refine Kd.C_drew ?_))); (case side2 => exact (Kd.R_reads' HO407.out).2.1); rintro e w47 ⟨rfl, hb⟩; have n0_ := Aside0.mk (Kd.R_below (by (with_reducible repeat (first | apply Kd.R_alloc | apply Kd.R_drewN | apply Kd.R_drew)); exact HO_7.out) hb); have n1_ := Aside0.mk (Kd.R_below (by (with_reducible repeat (first | apply Kd.R_alloc | apply Kd.R_drewN | apply Kd.R_drew)); exact HO407.out) hb); have n2_ := Aside0.mk (below_step (by repeat (first | (with_reducible first | exact HB.out | apply below_alloc | apply pw_below_drewN | apply below_drew1) | exact HB.out)) hb); clear HO_7; clear HO407; clear HB; have HO_7 := n0_; have HO407 := n1_; have HB := n2_; clear n0_ n1_ n2_; (try clear hb); (try clear hb2); (try clear hk); (try clear hi)) | ((with_reducible refine gate_callee (f := 27) rfl ?_); refine goesL_ (some 158) rfl rfl Try.func27 (by kernel_rfl) rfl #[.int .i64 t394, .int .i64 t395, .int .i64 t396, .slice Ao43 y405.length co43] rfl (by (try simp only [List.map_toArray, List.map_cons, List.map_nil]); first | done | rfl | (simp only [List.length_drop, List.length_take]; rfl)) ?_; (with_reducible refine (impl_IsClear.calls k5 t394 t395 t396 _ _ y405 true _ ?side1 ?side2 A35.out).mono ?_); (case side1 => repeat (first | exact (Kd.R_reads' HO407.out).2.2 | (with_reducible refine Kd.C_alloc ?_ _) | (with_reducible refine Kd.C_drewN ?_ _) | (with_reducible refine Kd.C_drew ?_))); (case side2 => exact (Kd.R_reads' HO407.out).2.1); rintro e w48 ⟨rfl, hb⟩; refine ⟨_, rfl, ?_⟩; have n0_ := Aside0.mk (Kd.R_below (by (with_reducible repeat (first | apply Kd.R_alloc | apply Kd.R_drewN | apply Kd.R_drew)); exact HO_7.out) hb); have n1_ := Aside0.mk (Kd.R_below (by (with_reducible repeat (first | apply Kd.R_alloc | apply Kd.R_drewN | apply Kd.R_drew)); exact HO407.out) hb); have n2_ := Aside0.mk (below_step (by repeat (first | (with_reducible first | exact HB.out | apply below_alloc | apply pw_below_drewN | apply below_drew1) | exact HB.out)) hb); clear HO_7; clear HO407; clear HB; have HO_7 := n0_; have HO407 := n1_; have HB := n2_; clear n0_ n1_ n2_; (try clear hb); (try clear hb2); (try clear hk); (try clear hi)))
                                                            have n0_ := Aside0.mk (Kd.R_drew HO_7.out)
                                                            have n1_ := Aside0.mk (Kd.R_drew HO407.out)
                                                            have n2_ := Aside0.mk (below_drew1 HB.out)
                                                            clear HO_7
                                                            clear HO407
                                                            clear HB
                                                            have HO_7 := n0_
                                                            have HO407 := n1_
                                                            have HB := n2_
                                                            clear n0_ n1_ n2_
                                                            obtain ⟨Ao50, co50, eo50⟩ := Kd.R_slice HO_7.out
                                                            (first | subst eo50 | (injection eo50 with f1_ f2_ f3_; have f4_ := f1_.symm; have f5_ := f3_.symm; clear f1_ f2_ f3_; subst f4_; subst f5_))
                                                            have p414 : 0 ≤ (2 : Int) := (by omega)
                                                            have q414 : 2 < (t398.length : Int) := of_decide_eq_true (by first | (with_reducible assumption) | assumption)
                                                            obtain ⟨ad414, e414, hx414_0⟩ := Kd.at_int (Kd.R_reads' HO_7.out).2.2 2 p414 q414
                                                            cases e414
                                                            (try simp only [show (2 : Int).toNat = 2 from rfl, Nat.reduceMul, Nat.reduceEqDiff, Go.Addr.add, ↓reduceIte] at hx414_0)
                                                            have qi414 : (2 < t398.length) = True := eq_true (by omega)
                                                            (try rw [show ((2 : Int)).toNat = 2 from rfl] at hx414_0)
                                                            replace p414 := eq_true p414
                                                            replace q414 := eq_true q414
                                                            have p415 : 0 ≤ (3 : Int) := (by omega)
                                                            have q415 : 3 < (t398.length : Int) := of_decide_eq_true (by first | (with_reducible assumption) | assumption)
                                                            obtain ⟨ad415, e415, hx415_0⟩ := Kd.at_int (Kd.R_reads' HO_7.out).2.2 3 p415 q415
                                                            obtain rfl : ad414 = ad415 := (by injection e415)
                                                            (try simp only [show (3 : Int).toNat = 3 from rfl, Nat.reduceMul, Nat.reduceEqDiff, Go.Addr.add, ↓reduceIte] at hx415_0)
                                                            have qi415 : (3 < t398.length) = True := eq_true (by omega)
                                                            (try rw [show ((3 : Int)).toNat = 3 from rfl] at hx415_0)
                                                            replace p415 := eq_true p415
                                                            replace q415 := eq_true q415
                                                            refine start_ (n := 15) (S := fun w' => w'.cell? ⟨ad414.block, ad414.off + 2, none⟩ = some (.int .i64 (rd t398 2)) ∧ w'.cell? ⟨ad414.block, ad414.off + 3, none⟩ = some (.int .i64 (rd t398 3))) (ds := []) #[false, false, false, false, false, false, false, false, false, false, false, false, false, false, false] (by kernel_rfl) rfl rfl ⟨hx414_0, hx415_0⟩ (fun hHeld => ?_); refine with_tabW laws_FnFlaws.tab28 laws_FnFlaws.bits28 (fun HT_ HW_ => ?_)
                                                            generalize w48.drew = w49 at HO_7 HO407 HB hx414_0 hx415_0 hHeld ⊢
                                                            refine pure_ (i := 0) (N := some 161) (v := ?_) (a' := ?_) #[true, false, false, false, false, false, false, false, false, false, false, false, false, false, false] rfl rfl (any_of HT_.out (by kernel_rfl)) (fun _ _ _ h => h) (Or.inl ⟨by rfl, ?_⟩) ?_ ?_
                                                            rotate_left
                                                            · intro w'
                                                              go_simp
                                                              with_reducible rfl
                                                            rotate_left
                                                            · simp only [Act.put, List.setIfInBounds_toArray, List.set_cons_zero, List.set_cons_succ, i64_w, i32_w]
                                                              rfl
                                                            refine pure_ (i := 1) (N := some 162) (v := ?_) (a' := ?_) #[true, true, false, false, false, false, false, false, false, false, false, false, false, false, false] rfl rfl (any_of HT_.out (by kernel_rfl)) (fun _ _ _ h => h) (Or.inl ⟨by rfl, ?_⟩) ?_ ?_
                                                            rotate_left
                                                            · intro w'
                                                              go_simp
                                                              with_reducible rfl
                                                            rotate_left
                                                            · simp only [Act.put, List.setIfInBounds_toArray, List.set_cons_zero, List.set_cons_succ, i64_w, i32_w]
                                                              rfl
                                                            refine pure_ (i := 2) (N := some 163) (v := ?_) (a' := ?_) #[true, true, true, false, false, false, false, false, false, false, false, false, false, false, false] rfl rfl (any_of HT_.out (by kernel_rfl)) (fun _ _ _ h => h) (Or.inl ⟨by rfl, ?_⟩) ?_ ?_
                                                            rotate_left
                                                            · intro w'
                                                              go_simp
                                                              with_reducible rfl
                                                            rotate_left
                                                            · simp only [Act.put, List.setIfInBounds_toArray, List.set_cons_zero, List.set_cons_succ, i64_w, i32_w]
                                                              rfl
                                                            refine pure_ (i := 3) (N := some 164) (v := ?_) (a' := ?_) #[true, true, true, true, false, false, false, false, false, false, false, false, false, false, false] rfl rfl (any_of HT_.out (by kernel_rfl)) (fun _ _ _ h => h) (Or.inl ⟨by rfl, ?_⟩) ?_ ?_
                                                            rotate_left
                                                            · intro w'
                                                              go_simp
                                                              with_reducible rfl
                                                            rotate_left
                                                            · simp only [Act.put, List.setIfInBounds_toArray, List.set_cons_zero, List.set_cons_succ, i64_w, i32_w]
                                                              rfl
                                                            refine pure_ (i := 4) (N := some 165) (v := ?_) (a' := ?_) #[true, true, true, true, true, false, false, false, false, false, false, false, false, false, false] rfl rfl (any_of HT_.out (by kernel_rfl)) (fun _ _ _ h => h) (Or.inl ⟨by rfl, ?_⟩) ?_ ?_
                                                            rotate_left
                                                            · intro w'
                                                              go_simp
                                                              with_reducible rfl
                                                            rotate_left
                                                            · simp only [Act.put, List.setIfInBounds_toArray, List.set_cons_zero, List.set_cons_succ, i64_w, i32_w]
                                                              rfl
                                                            refine pure_ (i := 5) (N := some 166) (v := ?_) (a' := ?_) #[true, true, true, true, true, true, false, false, false, false, false, false, false, false, false] rfl rfl (any_of HT_.out (by kernel_rfl)) (fun _ _ _ h => h) (Or.inl ⟨by rfl, ?_⟩) ?_ ?_
                                                            rotate_left
                                                            · intro w'
                                                              go_simp
                                                              with_reducible rfl
                                                            rotate_left
                                                            · simp only [Act.put, List.setIfInBounds_toArray, List.set_cons_zero, List.set_cons_succ, i64_w, i32_w]
                                                              rfl
                                                            refine pure_ (i := 6) (N := some 167) (v := ?_) (a' := ?_) #[true, true, true, true, true, true, true, false, false, false, false, false, false, false, false] rfl rfl (any_of HT_.out (by kernel_rfl)) (fun _ _ _ h => h) (Or.inl ⟨by rfl, ?_⟩) ?_ ?_
                                                            rotate_left
                                                            · intro w'
                                                              go_simp
                                                              with_reducible rfl
                                                            rotate_left
                                                            · simp only [Act.put, List.setIfInBounds_toArray, List.set_cons_zero, List.set_cons_succ, i64_w, i32_w]
                                                              rfl
                                                            refine pure_ (i := 7) (N := some 168) (v := ?_) (a' := ?_) #[true, true, true, true, true, true, true, true, false, false, false, false, false, false, false] rfl rfl (any_of HT_.out (by kernel_rfl)) (fun _ _ _ h => h) (Or.inl ⟨by rfl, ?_⟩) ?_ ?_
                                                            rotate_left
                                                            · intro w'
                                                              go_simp
                                                              with_reducible rfl
                                                            rotate_left
                                                            · simp only [Act.put, List.setIfInBounds_toArray, List.set_cons_zero, List.set_cons_succ, i64_w, i32_w]
                                                              rfl
                                                            refine pure_ (i := 9) (N := some 170) (v := ?_) (a' := ?_) #[true, true, true, true, true, true, true, true, false, true, false, false, false, false, false] rfl rfl (any_of HT_.out (by kernel_rfl)) (fun _ _ _ h => h) (Or.inl ⟨by rfl, ?_⟩) ?_ ?_
                                                            rotate_left
                                                            · intro w'
                                                              go_simp
                                                              with_reducible rfl
                                                            rotate_left
                                                            · simp only [Act.put, List.setIfInBounds_toArray, List.set_cons_zero, List.set_cons_succ, i64_w, i32_w]
                                                              rfl
                                                            refine pure_ (i := 10) (N := some 171) (v := ?_) (a' := ?_) #[true, true, true, true, true, true, true, true, false, true, true, false, false, false, false] rfl rfl (any_of HT_.out (by kernel_rfl)) (fun _ _ _ h => h) (Or.inl ⟨by rfl, ?_⟩) ?_ ?_
                                                            rotate_left
                                                            · intro w'
                                                              go_simp
                                                              with_reducible rfl
                                                            rotate_left
                                                            · simp only [Act.put, List.setIfInBounds_toArray, List.set_cons_zero, List.set_cons_succ, i64_w, i32_w]
                                                              rfl
                                                            refine take_ (i := 8) (N := some 169) (v := ?_) (a' := ?_) #[true, true, true, true, true, true, true, true, true, true, true, false, false, false, false] rfl rfl (take_ofW HT_.out HW_.out (by kernel_rfl)) (fun _ _ _ h => h) (Or.inl ⟨by rfl, ?_⟩) hHeld ?_ ?_
                                                            rotate_left
                                                            · rintro w' ⟨s0, s1⟩
                                                              go_simp
                                                              with_reducible rfl
                                                            rotate_left
                                                            · simp only [Act.put, List.setIfInBounds_toArray, List.set_cons_zero, List.set_cons_succ, i64_w, i32_w]
                                                              rfl
                                                            refine take_ (i := 11) (N := some 172) (v := ?_) (a' := ?_) #[true, true, true, true, true, true, true, true, true, true, true, true, false, false, false] rfl rfl (take_ofW HT_.out HW_.out (by kernel_rfl)) (fun _ _ _ h => h) (Or.inl ⟨by rfl, ?_⟩) hHeld ?_ ?_
                                                            rotate_left
                                                            · rintro w' ⟨s0, s1⟩
                                                              go_simp
                                                              with_reducible rfl
                                                            rotate_left
                                                            · simp only [Act.put, List.setIfInBounds_toArray, List.set_cons_zero, List.set_cons_succ, i64_w, i32_w]
                                                              rfl
                                                            refine pure_ (i := 12) (N := some 173) (v := ?_) (a' := ?_) #[true, true, true, true, true, true, true, true, true, true, true, true, true, false, false] rfl rfl (any_of HT_.out (by kernel_rfl)) (fun _ _ _ h => h) (Or.inl ⟨by rfl, ?_⟩) ?_ ?_
                                                            rotate_left
                                                            · intro w'
                                                              go_simp
                                                              with_reducible rfl
                                                            rotate_left
                                                            · simp only [Act.put, List.setIfInBounds_toArray, List.set_cons_zero, List.set_cons_succ, i64_w, i32_w]
                                                              rfl
                                                            refine pure_ (i := 13) (N := some 174) (v := ?_) (a' := ?_) #[true, true, true, true, true, true, true, true, true, true, true, true, true, true, false] rfl rfl (any_of HT_.out (by kernel_rfl)) (fun _ _ _ h => h) (Or.inl ⟨by rfl, ?_⟩) ?_ ?_
                                                            rotate_left
                                                            · intro w'
                                                              go_simp
                                                              with_reducible rfl
                                                            rotate_left
                                                            · simp only [Act.put, List.setIfInBounds_toArray, List.set_cons_zero, List.set_cons_succ, i64_w, i32_w]
                                                              rfl
                                                            refine pure_ (i := 14) (N := some 175) (v := ?_) (a' := ?_) #[true, true, true, true, true, true, true, true, true, true, true, true, true, true, true] rfl rfl (any_of HT_.out (by kernel_rfl)) (fun _ _ _ h => h) (Or.inl ⟨by rfl, ?_⟩) ?_ ?_
                                                            rotate_left
                                                            · intro w'
                                                              go_simp
                                                              with_reducible rfl
                                                            rotate_left
                                                            · simp only [Act.put, List.setIfInBounds_toArray, List.set_cons_zero, List.set_cons_succ, i64_w, i32_w]
                                                              rfl
                                                            refine done_ (done_of HT_.out (by kernel_rfl)) ?_
                                                            try go_wp2
                                                            go_roundg k5
                                                            case measure => have := HJ11.out; have := HK2.out; have := HK3.out; have := HK4.out; have := HK5.out; omega
                                                            case rel => exact ⟨(wrap64 (x9_5 + 1)), (wrap64 (x13_5 + 1)), (by first | rfl | (simp; done) | (simp [*]; done)), (by first | rfl | (simp; done) | (simp [*]; done)), H', ⟨by have := HJ11.out; have := HK2.out; have := HK3.out; have := HK4.out; have := HK5.out; omega⟩, ⟨by (with_reducible repeat (first | apply Kd.R_alloc | apply Kd.R_drewN | apply Kd.R_drew)); exact Kd.R_mono HO_7.out (fun _ hk => trivial)⟩, ⟨by repeat (first | (with_reducible first | exact HB.out | apply below_alloc | apply pw_below_drewN | apply below_drew1) | exact HB.out)⟩⟩
                                                      · rw [if_neg c39] at H
                                                        exact absurd H (by simp)
                                                    · rw [if_neg c38] at H
                                                      exact absurd H (by simp)
                                                  · replace c37 := Bool.eq_false_iff.mpr c37
                                                    subst c37
                                                    have H1 : (none) = some r := by rw [if_neg (show ¬ (false = true) by decide)] at H; exact H
                                                    clear H
                                                    have H := H1
                                                    clear H1
                                                    exact absurd H (by simp)
                                                · replace c36 := Bool.eq_false_iff.mpr c36
                                                  subst c36
                                                  have H1 : (laws_FnFlaws.l3 k5 l0 t394 t395 t396 t397 t398 t399 x9_5 x10_2 x11_3 x12_4 (wrap64 (x13_5 + 1))) = some r := by rw [if_neg (show ¬ (false = true) by decide)] at H; exact H
                                                  clear H
                                                  have H := H1
                                                  clear H1
                                                  as_aux_lemma =>
                                                    have H' := Aside0.mk H
                                                    clear H
                                                    go_wp2_with (first | ((with_reducible refine gate_dst (N := 122) rfl ?_); (try (refine gate_guard (by rfl) ?_; dsimp only)); refine Kd.R_lit (Kd.int .i64) _ 3 ?hg (N := 122) ?hd (xs := ([x10_2, x11_3, x12_4, x13_5] : List Int)) (inner := [.int .i64 x10_2, .int .i64 x11_3, .int .i64 x12_4, .int .i64 x13_5]) (ok := fun _ => True) (okp := fun _ => True) ?hr ?hp (fun _ hk => hk) trivial (Below.refl _ _) (Nat.le_refl _) (by simp) ?_; (case hd => rfl); (case hg => rfl); (case hr => first | (go_simp; done) | (go_simp; rfl)); (case hp => exact (Reps.one (show Kd.M (Kd.int .i64) _ _ _ x10_2 [.int .i64 x10_2] from rfl) (Reps.one (show Kd.M (Kd.int .i64) _ _ _ x11_3 [.int .i64 x11_3] from rfl) (Reps.one (show Kd.M (Kd.int .i64) _ _ _ x12_4 [.int .i64 x12_4] from rfl) (Reps.one (show Kd.M (Kd.int .i64) _ _ _ x13_5 [.int .i64 x13_5] from rfl) (Reps.none _ _)))))); intro v406 w51 ho52 hb hg_ hnew_; clear hg_ hnew_; (first | rw [← Ny405.out] at ho52 | (simp only [Int.reduceToNat] at ho52; rw [← Ny405.out] at ho52)); have n0_ := Aside0.mk (Kd.R_elder' (by (with_reducible repeat (first | apply Kd.R_alloc | apply Kd.R_drewN | apply Kd.R_drew)); exact HO_7.out) (Kd.R_base ho52) hb); have n1_ := Aside0.mk (Kd.R_lower (Kd.R_new' ho52 (Kd.R_lt (by (with_reducible repeat (first | apply Kd.R_alloc | apply Kd.R_drewN | apply Kd.R_drew)); exact HO_7.out))) (below_size (by repeat (first | (with_reducible first | exact HB.out | apply below_alloc | apply pw_below_drewN | apply below_drew1) | exact HB.out)))); have n2_ := Aside0.mk (below_step (by repeat (first | (with_reducible first | exact HB.out | apply below_alloc | apply pw_below_drewN | apply below_drew1) | exact HB.out)) hb); clear HO_7; clear HB; have HO_7 := n0_; have HO407 := n1_; have HB := n2_; clear n0_ n1_ n2_; clear hb ho52; obtain ⟨Ao53, co53, eo53⟩ := Kd.R_slice HO407.out; subst eo53) | ((with_reducible refine gate_callee (f := 22) rfl ?_); refine goesL_ (some 126) rfl rfl Try.func22 (by kernel_rfl) rfl #[.int .i64 t394, .int .i64 t395, .slice Ao53 y405.length co53] rfl (by (try simp only [List.map_toArray, List.map_cons, List.map_nil]); first | done | rfl | (simp only [List.length_drop, List.length_take]; rfl)) ?_; (with_reducible refine (impl_WindowOk.calls t394 t395 _ _ y405 true _ ?side1 ?side2 A27.out).mono ?_); (case side1 => repeat (first | exact (Kd.R_reads' HO407.out).2.2 | (with_reducible refine Kd.C_alloc ?_ _) | (with_reducible refine Kd.C_drewN ?_ _) | (with_reducible refine Kd.C_drew ?_))); (case side2 => exact (Kd.R_reads' HO407.out).2.1); rintro e w54 ⟨rfl, hb⟩; refine ⟨_, rfl, ?_⟩; have n0_ := Aside0.mk (Kd.R_below (by (with_reducible repeat (first | apply Kd.R_alloc | apply Kd.R_drewN | apply Kd.R_drew)); exact HO_7.out) hb); have n1_ := Aside0.mk (Kd.R_below (by (with_reducible repeat (first | apply Kd.R_alloc | apply Kd.R_drewN | apply Kd.R_drew)); exact HO407.out) hb); have n2_ := Aside0.mk (below_step (by repeat (first | (with_reducible first | exact HB.out | apply below_alloc | apply pw_below_drewN | apply below_drew1) | exact HB.out)) hb); clear HO_7; clear HO407; clear HB; have HO_7 := n0_; have HO407 := n1_; have HB := n2_; clear n0_ n1_ n2_; (try clear hb); (try clear hb2); (try clear hk); (try clear hi)) | (go_at_call 25; (with_reducible refine (impl_WindowMask.calls k5 t394 t395 _ _ y405 t412 _ ?side1 ?side2 A29.out).mono ?_); (case side1 => repeat (first | exact (Kd.R_reads' HO407.out).2.2 | (with_reducible refine Kd.C_alloc ?_ _) | (with_reducible refine Kd.C_drewN ?_ _) | (with_reducible refine Kd.C_drew ?_))); (case side2 => exact (Kd.R_reads' HO407.out).2.1); rintro e w55 ⟨rfl, hb⟩; have n0_ := Aside0.mk (Kd.R_below (by (with_reducible repeat (first | apply Kd.R_alloc | apply Kd.R_drewN | apply Kd.R_drew)); exact HO_7.out) hb); have n1_ := Aside0.mk (Kd.R_below (by (with_reducible repeat (first | apply Kd.R_alloc | apply Kd.R_drewN | apply Kd.R_drew)); exact HO407.out) hb); have n2_ := Aside0.mk (below_step (by repeat (first | (with_reducible first | exact HB.out | apply below_alloc | apply pw_below_drewN | apply below_drew1) | exact HB.out)) hb); clear HO_7; clear HO407; clear HB; have HO_7 := n0_; have HO407 := n1_; have HB := n2_; clear n0_ n1_ n2_; (try clear hb); (try clear hb2); (try clear hk); (try clear hi)) | (go_at_call 42; (with_reducible refine (laws_cells.calls k5 t412 t410 _ A30.out).mono ?_); rintro e w' ⟨rfl, ⟨nd, rfl⟩⟩) | (go_at_call 27; (with_reducible refine (impl_IsClear.calls k5 t394 t395 t396 _ _ y405 false _ ?side1 ?side2 A32.out).mono ?_); (case side1 => repeat (first | exact (Kd.R_reads' HO407.out).2.2 | (with_reducible refine Kd.C_alloc ?_ _) | (with_reducible refine Kd.C_drewN ?_ _) | (with_reducible refine Kd.C_drew ?_))); (case side2 => exact (Kd.R_reads' HO407.out).2.1); rintro e w56 ⟨rfl, hb⟩; have n0_ := Aside0.mk (Kd.R_below (by (with_reducible repeat (first | apply Kd.R_alloc | apply Kd.R_drewN | apply Kd.R_drew)); exact HO_7.out) hb); have n1_ := Aside0.mk (Kd.R_below (by (with_reducible repeat (first | apply Kd.R_alloc | apply Kd.R_drewN | apply Kd.R_drew)); exact HO407.out) hb); have n2_ := Aside0.mk (below_step (by repeat (first | (with_reducible first | exact HB.out | apply below_alloc | apply pw_below_drewN | apply below_drew1) | exact HB.out)) hb); clear HO_7; clear HO407; clear HB; have HO_7 := n0_; have HO407 := n1_; have HB := n2_; clear n0_ n1_ n2_; (try clear hb); (try clear hb2); (try clear hk); (try clear hi)) | (go_at_call 25; (with_reducible refine (impl_WindowMask.calls k5 t394 t395 _ _ y405 t412 _ ?side1 ?side2 A33.out).mono ?_); (case side1 => repeat (first | exact (Kd.R_reads' HO407.out).2.2 | (with_reducible refine Kd.C_alloc ?_ _) | (with_reducible refine Kd.C_drewN ?_ _) | (with_reducible refine Kd.C_drew ?_))); (case side2 => exact (Kd.R_reads' HO407.out).2.1); rintro e w57 ⟨rfl, hb⟩; have n0_ := Aside0.mk (Kd.R_below (by (with_reducible repeat (first | apply Kd.R_alloc | apply Kd.R_drewN | apply Kd.R_drew)); exact HO_7.out) hb); have n1_ := Aside0.mk (Kd.R_below (by (with_reducible repeat (first | apply Kd.R_alloc | apply Kd.R_drewN | apply Kd.R_drew)); exact HO407.out) hb); have n2_ := Aside0.mk (below_step (by repeat (first | (with_reducible first | exact HB.out | apply below_alloc | apply pw_below_drewN | apply below_drew1) | exact HB.out)) hb); clear HO_7; clear HO407; clear HB; have HO_7 := n0_; have HO407 := n1_; have HB := n2_; clear n0_ n1_ n2_; (try clear hb); (try clear hb2); (try clear hk); (try clear hi)) | ((with_reducible refine gate_callee (f := 27) rfl ?_); refine goesL_ (some 158) rfl rfl Try.func27 (by kernel_rfl) rfl #[.int .i64 t394, .int .i64 t395, .int .i64 t396, .slice Ao53 y405.length co53] rfl (by (try simp only [List.map_toArray, List.map_cons, List.map_nil]); first | done | rfl | (simp only [List.length_drop, List.length_take]; rfl)) ?_; (with_reducible refine (impl_IsClear.calls k5 t394 t395 t396 _ _ y405 false _ ?side1 ?side2 A35.out).mono ?_); (case side1 => repeat (first | exact (Kd.R_reads' HO407.out).2.2 | (with_reducible refine Kd.C_alloc ?_ _) | (with_reducible refine Kd.C_drewN ?_ _) | (with_reducible refine Kd.C_drew ?_))); (case side2 => exact (Kd.R_reads' HO407.out).2.1); rintro e w58 ⟨rfl, hb⟩; refine ⟨_, rfl, ?_⟩; have n0_ := Aside0.mk (Kd.R_below (by (with_reducible repeat (first | apply Kd.R_alloc | apply Kd.R_drewN | apply Kd.R_drew)); exact HO_7.out) hb); have n1_ := Aside0.mk (Kd.R_below (by (with_reducible repeat (first | apply Kd.R_alloc | apply Kd.R_drewN | apply Kd.R_drew)); exact HO407.out) hb); have n2_ := Aside0.mk (below_step (by repeat (first | (with_reducible first | exact HB.out | apply below_alloc | apply pw_below_drewN | apply below_drew1) | exact HB.out)) hb); clear HO_7; clear HO407; clear HB; have HO_7 := n0_; have HO407 := n1_; have HB := n2_; clear n0_ n1_ n2_; (try clear hb); (try clear hb2); (try clear hk); (try clear hi)))
                                                    go_roundg k5
                                                    case measure => have := HJ11.out; have := HK2.out; have := HK3.out; have := HK4.out; have := HK5.out; omega
                                                    case rel => exact ⟨(x9_5), (wrap64 (x13_5 + 1)), (by first | rfl | (simp; done) | (simp [*]; done)), (by first | rfl | (simp; done) | (simp [*]; done)), H', ⟨by have := HJ11.out; have := HK2.out; have := HK3.out; have := HK4.out; have := HK5.out; omega⟩, ⟨by (with_reducible repeat (first | apply Kd.R_alloc | apply Kd.R_drewN | apply Kd.R_drew)); exact Kd.R_mono HO_7.out (fun _ hk => trivial)⟩, ⟨by repeat (first | (with_reducible first | exact HB.out | apply below_alloc | apply pw_below_drewN | apply below_drew1) | exact HB.out)⟩⟩
                                            · rw [if_neg c31] at H
                                              exact absurd H (by simp)
                                          · replace c28 := Bool.eq_false_iff.mpr c28
                                            subst c28
                                            have H1 : (none) = some r := by rw [if_neg (show ¬ (false = true) by decide)] at H; exact H
                                            clear H
                                            have H := H1
                                            clear H1
                                            exact absurd H (by simp)
                                        · rw [if_neg c26] at H
                                          have c26b0 : decide ((wrap64 (x11_3 + x13_5)) ≤ t395) = false := decide_eq_false c26
                                          clear c26
                                          as_aux_lemma =>
                                            have H' := Aside0.mk H
                                            clear H
                                            go_wp2
                                            go_roundg k5
                                            case measure => have := HJ11.out; have := HK2.out; have := HK3.out; have := HK4.out; have := HK5.out; omega
                                            case rel => exact ⟨(x9_5), (wrap64 (x12_4 + 1)), (by first | rfl | (simp; done) | (simp [*]; done)), (by first | rfl | (simp; done) | (simp [*]; done)), H', ⟨by have := HJ11.out; have := HK2.out; have := HK3.out; have := HK4.out; have := HK5.out; omega⟩, ⟨by (with_reducible repeat (first | apply Kd.R_alloc | apply Kd.R_drewN | apply Kd.R_drew)); exact HO_7.out⟩, ⟨by repeat (first | (with_reducible first | exact HB.out | apply below_alloc | apply pw_below_drewN | apply below_drew1) | exact HB.out)⟩⟩
                                  · rw [if_neg c25] at H
                                    have c25b0 : decide ((wrap64 (x10_2 + x12_4)) ≤ t394) = false := decide_eq_false c25
                                    clear c25
                                    as_aux_lemma =>
                                      have H' := Aside0.mk H
                                      clear H
                                      go_wp2
                                      go_roundg k4
                                      case measure => have := HJ11.out; have := HK2.out; have := HK3.out; have := HK4.out; omega
                                      case rel => exact ⟨(x9_4), (wrap64 (x11_3 + 1)), (by first | rfl | (simp; done) | (simp [*]; done)), (by first | rfl | (simp; done) | (simp [*]; done)), H', ⟨by have := HJ11.out; have := HK2.out; have := HK3.out; have := HK4.out; omega⟩, ⟨by (with_reducible repeat (first | apply Kd.R_alloc | apply Kd.R_drewN | apply Kd.R_drew)); exact HO_7.out⟩, ⟨by repeat (first | (with_reducible first | exact HB.out | apply below_alloc | apply pw_below_drewN | apply below_drew1) | exact HB.out)⟩⟩
                            · rw [if_neg c24] at H
                              have c24b0 : decide (x11_3 < t395) = false := decide_eq_false c24
                              clear c24
                              as_aux_lemma =>
                                have H' := Aside0.mk H
                                clear H
                                go_wp2
                                go_roundg k3
                                case measure => have := HJ11.out; have := HK2.out; have := HK3.out; omega
                                case rel => exact ⟨(x9_3), (wrap64 (x10_2 + 1)), (by first | rfl | (simp; done) | (simp [*]; done)), (by first | rfl | (simp; done) | (simp [*]; done)), H', ⟨by have := HJ11.out; have := HK2.out; have := HK3.out; omega⟩, ⟨by (with_reducible repeat (first | apply Kd.R_alloc | apply Kd.R_drewN | apply Kd.R_drew)); exact HO_7.out⟩, ⟨by repeat (first | (with_reducible first | exact HB.out | apply below_alloc | apply pw_below_drewN | apply below_drew1) | exact HB.out)⟩⟩
                      · rw [if_neg c23] at H
                        have c23b0 : decide (x10_2 < t394) = false := decide_eq_false c23
                        clear c23
                        replace H := Option.bind_eq_some_iff.mp H
                        obtain ⟨t416, A590, H⟩ := H
                        replace H : ((spec_MakeSize.f k2 l0 31 0 (wrap64 (t395 - 1))).bind fun t417 => ((impl_MarkFlaw.f t394 t395 t396 t416 t417).bind fun bt418 => (if x9_2 = t397 then ((impl_IsClear.f k2 t394 t395 t396 (([t416, t417, 1, 1] : List Int))).bind fun t423 => (if (bt418.2 != t423) = true then (none) else (if bt418.2 = true then ((impl_CountClear.f k2 t394 t395 bt418.1).bind fun t424 => (if t424 ≥ t397 then (none) else ((laws_cells.f k2 bt418.1).bind fun t425 => ((laws_cells.f k2 t396).bind fun t426 => (laws_FnFlaws.j5 k2 t394 t395 t396 t398 t399 (t425 != (wrap64 (t426 + 1)))))))) else (laws_FnFlaws.j5 k2 t394 t395 t396 t398 t399 false)))) else (none)))) = some r := H
                        have A59 := Aside0.mk A590
                        clear A590
                        replace H := Option.bind_eq_some_iff.mp H
                        obtain ⟨t417, A600, H⟩ := H
                        replace H : ((impl_MarkFlaw.f t394 t395 t396 t416 t417).bind fun bt418 => (if x9_2 = t397 then ((impl_IsClear.f k2 t394 t395 t396 (([t416, t417, 1, 1] : List Int))).bind fun t423 => (if (bt418.2 != t423) = true then (none) else (if bt418.2 = true then ((impl_CountClear.f k2 t394 t395 bt418.1).bind fun t424 => (if t424 ≥ t397 then (none) else ((laws_cells.f k2 bt418.1).bind fun t425 => ((laws_cells.f k2 t396).bind fun t426 => (laws_FnFlaws.j5 k2 t394 t395 t396 t398 t399 (t425 != (wrap64 (t426 + 1)))))))) else (laws_FnFlaws.j5 k2 t394 t395 t396 t398 t399 false)))) else (none))) = some r := H
                        have A60 := Aside0.mk A600
                        clear A600
                        replace H := Option.bind_eq_some_iff.mp H
                        obtain ⟨⟨t418, t419⟩, A610, H⟩ := H
                        replace H : (if x9_2 = t397 then ((impl_IsClear.f k2 t394 t395 t396 (([t416, t417, 1, 1] : List Int))).bind fun t423 => (if (t419 != t423) = true then (none) else (if t419 = true then ((impl_CountClear.f k2 t394 t395 t418).bind fun t424 => (if t424 ≥ t397 then (none) else ((laws_cells.f k2 t418).bind fun t425 => ((laws_cells.f k2 t396).bind fun t426 => (laws_FnFlaws.j5 k2 t394 t395 t396 t398 t399 (t425 != (wrap64 (t426 + 1)))))))) else (laws_FnFlaws.j5 k2 t394 t395 t396 t398 t399 false)))) else (none)) = some r := H
                        have A61 := Aside0.mk A610
                        clear A610
                        have HC62 := Aside0.mk H
                        clear H
                        go_upto_region 33 with (first | ((with_reducible refine gate_callee (f := 43) rfl ?_); refine goesL_ (some 179) rfl rfl Try.func43 (by kernel_rfl) rfl #[.slice A0 l0.length c0, .int .i64 30, .int .i64 0, .int .i64 (wrap64 (t394 - 1))] rfl (by (try simp only [List.map_toArray, List.map_cons, List.map_nil]); first | done | rfl | (simp only [List.length_drop, List.length_take]; rfl)) ?_; (with_reducible refine (spec_MakeSize.calls k2 _ _ l0 30 0 (wrap64 (t394 - 1)) t416 _ ?side1 ?side2 A59.out).mono ?_); (case side1 => repeat (first | exact (Kd.C_below HR0.out HB.out) | (with_reducible refine Kd.C_alloc ?_ _) | (with_reducible refine Kd.C_drewN ?_ _) | (with_reducible refine Kd.C_drew ?_))); (case side2 => exact HC0.out); rintro e w63 ⟨rfl, hb⟩; refine ⟨_, rfl, ?_⟩; have n0_ := Aside0.mk (Kd.R_below (by (with_reducible repeat (first | apply Kd.R_alloc | apply Kd.R_drewN | apply Kd.R_drew)); exact HO_7.out) hb); have n1_ := Aside0.mk (below_step (by repeat (first | (with_reducible first | exact HB.out | apply below_alloc | apply pw_below_drewN | apply below_drew1) | exact HB.out)) hb); clear HO_7; clear HB; have HO_7 := n0_; have HB := n1_; clear n0_ n1_; (try clear hb); (try clear hb2); (try clear hk); (try clear hi)) | ((with_reducible refine gate_callee (f := 43) rfl ?_); refine goesL_ (some 183) rfl rfl Try.func43 (by kernel_rfl) rfl #[.slice A0 l0.length c0, .int .i64 31, .int .i64 0, .int .i64 (wrap64 (t395 - 1))] rfl (by (try simp only [List.map_toArray, List.map_cons, List.map_nil]); first | done | rfl | (simp only [List.length_drop, List.length_take]; rfl)) ?_; (with_reducible refine (spec_MakeSize.calls k2 _ _ l0 31 0 (wrap64 (t395 - 1)) t417 _ ?side1 ?side2 A60.out).mono ?_); (case side1 => repeat (first | exact (Kd.C_below HR0.out HB.out) | (with_reducible refine Kd.C_alloc ?_ _) | (with_reducible refine Kd.C_drewN ?_ _) | (with_reducible refine Kd.C_drew ?_))); (case side2 => exact HC0.out); rintro e w64 ⟨rfl, hb⟩; refine ⟨_, rfl, ?_⟩; have n0_ := Aside0.mk (Kd.R_below (by (with_reducible repeat (first | apply Kd.R_alloc | apply Kd.R_drewN | apply Kd.R_drew)); exact HO_7.out) hb); have n1_ := Aside0.mk (below_step (by repeat (first | (with_reducible first | exact HB.out | apply below_alloc | apply pw_below_drewN | apply below_drew1) | exact HB.out)) hb); clear HO_7; clear HB; have HO_7 := n0_; have HB := n1_; clear n0_ n1_; (try clear hb); (try clear hb2); (try clear hk); (try clear hi)) | ((with_reducible refine gate_callee (f := 19) rfl ?_); refine goesL_ (some 190) rfl rfl Try.func19 (by kernel_rfl) rfl #[.int .i64 t394, .int .i64 t395, .int .i64 t396, .int .i64 t416, .int .i64 t417] rfl (by (try simp only [List.map_toArray, List.map_cons, List.map_nil]); first | done | rfl | (simp only [List.length_drop, List.length_take]; rfl)) ?_; (with_reducible refine (impl_MarkFlaw.calls t394 t395 t396 t416 t417 t418 t419 _ A61.out).mono ?_); rintro e w' ⟨rfl, ⟨nd, rfl⟩⟩; refine ⟨_, rfl, ?_⟩))
                        (try simp only [Act.put, List.setIfInBounds_toArray, List.set_cons_zero, List.set_cons_succ])
                        go_cut [225] (fun v225 wc => ∃ (kq : Nat) (x225_61 : Bool), v225 = .bool x225_61 ∧ Aside0 (laws_FnFlaws.j5 kq t394 t395 t396 t398 t399 x225_61 = some r) ∧ Aside0 (kq ≤ k2) ∧ Aside0 (Kd.R (Kd.int .i64) 3 wc w.heap.size (fun _ => True) v400 t398) ∧ Aside0 (Below w.heap.size w wc))
                        case first =>
                          have H := HC62.out
                          clear HC62
                          by_cases c65 : x9_2 = t397
                          · rw [if_pos c65] at H
                            have c65b0 : (x9_2 == t397) = true := beq_iff_eq.mpr c65
                            have c65b1 : (x9_2 != t397) = false := bne_eq_false_iff_eq.mpr c65
                            clear c65
                            (first | rw [c65b0] | (simp only [i64_w, i32_w]; rw [c65b0]) | skip)
                            obtain ⟨y420, hy420⟩ : ∃ y_ : List Int, y_ = (([t416, t417, 1, 1] : List Int)) := ⟨_, rfl⟩
                            replace H : ((impl_IsClear.f k2 t394 t395 t396 y420).bind fun t423 => (if (t419 != t423) = true then (none) else (if t419 = true then ((impl_CountClear.f k2 t394 t395 t418).bind fun t424 => (if t424 ≥ t397 then (none) else ((laws_cells.f k2 t418).bind fun t425 => ((laws_cells.f k2 t396).bind fun t426 => (laws_FnFlaws.j5 k2 t394 t395 t396 t398 t399 (t425 != (wrap64 (t426 + 1)))))))) else (laws_FnFlaws.j5 k2 t394 t395 t396 t398 t399 false)))) = some r := by first | (rw [hy420]; with_reducible exact H) | (have H2_ := (Option.bind_some _ _).symm.trans H; rw [hy420]; with_reducible exact H2_) | (have H2_ := (Option.bind_some _ _).symm.trans H; with_reducible exact H2_) | with_reducible exact H | (rw [hy420]; exact H) | exact H
                            have Ny420 := Aside0.mk hy420
                            clear hy420
                            replace H := Option.bind_eq_some_iff.mp H
                            obtain ⟨t423, A660, H⟩ := H
                            replace H : (if (t419 != t423) = true then (none) else (if t419 = true then ((impl_CountClear.f k2 t394 t395 t418).bind fun t424 => (if t424 ≥ t397 then (none) else ((laws_cells.f k2 t418).bind fun t425 => ((laws_cells.f k2 t396).bind fun t426 => (laws_FnFlaws.j5 k2 t394 t395 t396 t398 t399 (t425 != (wrap64 (t426 + 1)))))))) else (laws_FnFlaws.j5 k2 t394 t395 t396 t398 t399 false))) = some r := H
                            have A66 := Aside0.mk A660
                            clear A660
                            by_cases c67 : (t419 != t423) = true
                            · rw [if_pos c67] at H
                              exact absurd H (by simp)
                            · rw [if_neg c67] at H
                              have c67b0 : (t419 != t423) = false := by simpa using c67
                              (try (have c67b1 : decide (t419 = t423) = true := by simpa using c67))
                              (try (have c67b2 : (t419 == t423) = true := by simpa using c67))
                              clear c67
                              by_cases c68 : t419 = true
                              · subst c68
                                have H1 : ((impl_CountClear.f k2 t394 t395 t418).bind fun t424 => (if t424 ≥ t397 then (none) else ((laws_cells.f k2 t418).bind fun t425 => ((laws_cells.f k2 t396).bind fun t426 => (laws_FnFlaws.j5 k2 t394 t395 t396 t398 t399 (t425 != (wrap64 (t426 + 1)))))))) = some r := by rw [if_pos rfl] at H; exact H
                                clear H
                                have H := H1
                                clear H1
                                replace H := Option.bind_eq_some_iff.mp H
                                obtain ⟨t424, A690, H⟩ := H
                                replace H : (if t424 ≥ t397 then (none) else ((laws_cells.f k2 t418).bind fun t425 => ((laws_cells.f k2 t396).bind fun t426 => (laws_FnFlaws.j5 k2 t394 t395 t396 t398 t399 (t425 != (wrap64 (t426 + 1))))))) = some r := H
                                have A69 := Aside0.mk A690
                                clear A690
                                by_cases c70 : t424 ≥ t397
                                · rw [if_pos c70] at H
                                  exact absurd H (by simp)
                                · rw [if_neg c70] at H
                                  have c70b0 : decide (t397 ≤ t424) = false := decide_eq_false c70
                                  clear c70
                                  replace H := Option.bind_eq_some_iff.mp H
                                  obtain ⟨t425, A710, H⟩ := H
                                  replace H : ((laws_cells.f k2 t396).bind fun t426 => (laws_FnFlaws.j5 k2 t394 t395 t396 t398 t399 (t425 != (wrap64 (t426 + 1))))) = some r := H
                                  have A71 := Aside0.mk A710
                                  clear A710
                                  replace H := Option.bind_eq_some_iff.mp H
                                  obtain ⟨t426, A720, H⟩ := H
                                  replace H : (laws_FnFlaws.j5 k2 t394 t395 t396 t398 t399 (t425 != (wrap64 (t426 + 1)))) = some r := H
                                  have A72 := Aside0.mk A720
                                  clear A720
                                  as_aux_lemma =>
                                    have H' := Aside0.mk H
                                    clear H
                                    go_wp2_with (first | ((with_reducible refine gate_dst (N := 203) rfl ?_); (try (refine gate_guard (by rfl) ?_; dsimp only)); refine Kd.R_lit (Kd.int .i64) _ 3 ?hg (N := 203) ?hd (xs := ([t416, t417, 1, 1] : List Int)) (inner := [.int .i64 t416, .int .i64 t417, .int .i64 1, .int .i64 1]) (ok := fun _ => True) (okp := fun _ => True) ?hr ?hp (fun _ hk => hk) trivial (Below.refl _ _) (Nat.le_refl _) (by simp) ?_; (case hd => rfl); (case hg => rfl); (case hr => first | (go_simp; done) | (go_simp; rfl)); (case hp => exact (Reps.one (show Kd.M (Kd.int .i64) _ _ _ t416 [.int .i64 t416] from rfl) (Reps.one (show Kd.M (Kd.int .i64) _ _ _ t417 [.int .i64 t417] from rfl) (Reps.one (show Kd.M (Kd.int .i64) _ _ _ 1 [.int .i64 1] from rfl) (Reps.one (show Kd.M (Kd.int .i64) _ _ _ 1 [.int .i64 1] from rfl) (Reps.none _ _)))))); intro v421 w73 ho74 hb hg_ hnew_; clear hg_ hnew_; (first | rw [← Ny420.out] at ho74 | (simp only [Int.reduceToNat] at ho74; rw [← Ny420.out] at ho74)); have n0_ := Aside0.mk (Kd.R_elder' (by (with_reducible repeat (first | apply Kd.R_alloc | apply Kd.R_drewN | apply Kd.R_drew)); exact HO_7.out) (Kd.R_base ho74) hb); have n1_ := Aside0.mk (Kd.R_lower (Kd.R_new' ho74 (Kd.R_lt (by (with_reducible repeat (first | apply Kd.R_alloc | apply Kd.R_drewN | apply Kd.R_drew)); exact HO_7.out))) (below_size (by repeat (first | (with_reducible first | exact HB.out | apply below_alloc | apply pw_below_drewN | apply below_drew1) | exact HB.out)))); have n2_ := Aside0.mk (below_step (by repeat (first | (with_reducible first | exact HB.out | apply below_alloc | apply pw_below_drewN | apply below_drew1) | exact HB.out)) hb); clear HO_7; clear HB; have HO_7 := n0_; have HO422 := n1_; have HB := n2_; clear n0_ n1_ n2_; clear hb ho74; obtain ⟨Ao75, co75, eo75⟩ := Kd.R_slice HO422.out; subst eo75) | (go_at_call 27; (with_reducible refine (impl_IsClear.calls k2 t394 t395 t396 _ _ y420 t423 _ ?side1 ?side2 A66.out).mono ?_); (case side1 => repeat (first | exact (Kd.R_reads' HO422.out).2.2 | (with_reducible refine Kd.C_alloc ?_ _) | (with_reducible refine Kd.C_drewN ?_ _) | (with_reducible refine Kd.C_drew ?_))); (case side2 => exact (Kd.R_reads' HO422.out).2.1); rintro e w76 ⟨rfl, hb⟩; have n0_ := Aside0.mk (Kd.R_below (by (with_reducible repeat (first | apply Kd.R_alloc | apply Kd.R_drewN | apply Kd.R_drew)); exact HO_7.out) hb); have n1_ := Aside0.mk (Kd.R_below (by (with_reducible repeat (first | apply Kd.R_alloc | apply Kd.R_drewN | apply Kd.R_drew)); exact HO422.out) hb); have n2_ := Aside0.mk (below_step (by repeat (first | (with_reducible first | exact HB.out | apply below_alloc | apply pw_below_drewN | apply below_drew1) | exact HB.out)) hb); clear HO_7; clear HO422; clear HB; have HO_7 := n0_; have HO422 := n1_; have HB := n2_; clear n0_ n1_ n2_; (try clear hb); (try clear hb2); (try clear hk); (try clear hi)) | (go_at_call 29; (with_reducible refine (impl_CountClear.calls k2 t394 t395 t418 t424 _ A69.out).mono ?_); rintro e w77 ⟨rfl, hb⟩; have n0_ := Aside0.mk (Kd.R_below (by (with_reducible repeat (first | apply Kd.R_alloc | apply Kd.R_drewN | apply Kd.R_drew)); exact HO_7.out) hb); have n1_ := Aside0.mk (Kd.R_below (by (with_reducible repeat (first | apply Kd.R_alloc | apply Kd.R_drewN | apply Kd.R_drew)); exact HO422.out) hb); have n2_ := Aside0.mk (below_step (by repeat (first | (with_reducible first | exact HB.out | apply below_alloc | apply pw_below_drewN | apply below_drew1) | exact HB.out)) hb); clear HO_7; clear HO422; clear HB; have HO_7 := n0_; have HO422 := n1_; have HB := n2_; clear n0_ n1_ n2_; (try clear hb); (try clear hb2); (try clear hk); (try clear hi)) | (go_at_call 42; (with_reducible refine (laws_cells.calls k2 t418 t425 _ A71.out).mono ?_); rintro e w' ⟨rfl, ⟨nd, rfl⟩⟩) | (go_at_call 42; (with_reducible refine (laws_cells.calls k2 t396 t426 _ A72.out).mono ?_); rintro e w' ⟨rfl, ⟨nd, rfl⟩⟩))
                                    go_meet
                                    case rel => exact ⟨_, ((t425 != (wrap64 (t426 + 1)))), (by first | rfl | (simp; done) | (simp [*]; done)), H', ⟨by have := HJ11.out; have := HK2.out; first | omega | exact Nat.le_refl _⟩, ⟨by (with_reducible repeat (first | apply Kd.R_alloc | apply Kd.R_drewN | apply Kd.R_drew)); exact Kd.R_mono HO_7.out (fun _ hk => trivial)⟩, ⟨by repeat (first | (with_reducible first | exact HB.out | apply below_alloc | apply pw_below_drewN | apply below_drew1) | exact HB.out)⟩⟩
                              · replace c68 := Bool.eq_false_iff.mpr c68
                                subst c68
                                have H1 : (laws_FnFlaws.j5 k2 t394 t395 t396 t398 t399 false) = some r := by rw [if_neg (show ¬ (false = true) by decide)] at H; exact H
                                clear H
                                have H := H1
                                clear H1
                                as_aux_lemma =>
                                  have H' := Aside0.mk H
                                  clear H
                                  go_wp2_with (first | ((with_reducible refine gate_dst (N := 203) rfl ?_); (try (refine gate_guard (by rfl) ?_; dsimp only)); refine Kd.R_lit (Kd.int .i64) _ 3 ?hg (N := 203) ?hd (xs := ([t416, t417, 1, 1] : List Int)) (inner := [.int .i64 t416, .int .i64 t417, .int .i64 1, .int .i64 1]) (ok := fun _ => True) (okp := fun _ => True) ?hr ?hp (fun _ hk => hk) trivial (Below.refl _ _) (Nat.le_refl _) (by simp) ?_; (case hd => rfl); (case hg => rfl); (case hr => first | (go_simp; done) | (go_simp; rfl)); (case hp => exact (Reps.one (show Kd.M (Kd.int .i64) _ _ _ t416 [.int .i64 t416] from rfl) (Reps.one (show Kd.M (Kd.int .i64) _ _ _ t417 [.int .i64 t417] from rfl) (Reps.one (show Kd.M (Kd.int .i64) _ _ _ 1 [.int .i64 1] from rfl) (Reps.one (show Kd.M (Kd.int .i64) _ _ _ 1 [.int .i64 1] from rfl) (Reps.none _ _)))))); intro v421 w78 ho79 hb hg_ hnew_; clear hg_ hnew_; (first | rw [← Ny420.out] at ho79 | (simp only [Int.reduceToNat] at ho79; rw [← Ny420.out] at ho79)); have n0_ := Aside0.mk (Kd.R_elder' (by (with_reducible repeat (first | apply Kd.R_alloc | apply Kd.R_drewN | apply Kd.R_drew)); exact HO_7.out) (Kd.R_base ho79) hb); have n1_ := Aside0.mk (Kd.R_lower (Kd.R_new' ho79 (Kd.R_lt (by (with_reducible repeat (first | apply Kd.R_alloc | apply Kd.R_drewN | apply Kd.R_drew)); exact HO_7.out))) (below_size (by repeat (first | (with_reducible first | exact HB.out | apply below_alloc | apply pw_below_drewN | apply below_drew1) | exact HB.out)))); have n2_ := Aside0.mk (below_step (by repeat (first | (with_reducible first | exact HB.out | apply below_alloc | apply pw_below_drewN | apply below_drew1) | exact HB.out)) hb); clear HO_7; clear HB; have HO_7 := n0_; have HO422 := n1_; have HB := n2_; clear n0_ n1_ n2_; clear hb ho79; obtain ⟨Ao80, co80, eo80⟩ := Kd.R_slice HO422.out; subst eo80) | (go_at_call 27; (with_reducible refine (impl_IsClear.calls k2 t394 t395 t396 _ _ y420 t423 _ ?side1 ?side2 A66.out).mono ?_); (case side1 => repeat (first | exact (Kd.R_reads' HO422.out).2.2 | (with_reducible refine Kd.C_alloc ?_ _) | (with_reducible refine Kd.C_drewN ?_ _) | (with_reducible refine Kd.C_drew ?_))); (case side2 => exact (Kd.R_reads' HO422.out).2.1); rintro e w81 ⟨rfl, hb⟩; have n0_ := Aside0.mk (Kd.R_below (by (with_reducible repeat (first | apply Kd.R_alloc | apply Kd.R_drewN | apply Kd.R_drew)); exact HO_7.out) hb); have n1_ := Aside0.mk (Kd.R_below (by (with_reducible repeat (first | apply Kd.R_alloc | apply Kd.R_drewN | apply Kd.R_drew)); exact HO422.out) hb); have n2_ := Aside0.mk (below_step (by repeat (first | (with_reducible first | exact HB.out | apply below_alloc | apply pw_below_drewN | apply below_drew1) | exact HB.out)) hb); clear HO_7; clear HO422; clear HB; have HO_7 := n0_; have HO422 := n1_; have HB := n2_; clear n0_ n1_ n2_; (try clear hb); (try clear hb2); (try clear hk); (try clear hi)))
                                  go_meet
                                  case rel => exact ⟨_, (false), (by first | rfl | (simp; done) | (simp [*]; done)), H', ⟨by have := HJ11.out; have := HK2.out; first | omega | exact Nat.le_refl _⟩, ⟨by (with_reducible repeat (first | apply Kd.R_alloc | apply Kd.R_drewN | apply Kd.R_drew)); exact Kd.R_mono HO_7.out (fun _ hk => trivial)⟩, ⟨by repeat (first | (with_reducible first | exact HB.out | apply below_alloc | apply pw_below_drewN | apply below_drew1) | exact HB.out)⟩⟩
                          · rw [if_neg c65] at H
                            exact absurd H (by simp)
                        case rest =>
                          clear HC62
                          try clear c1
                          try clear c2
                          try clear c2b0
                          try clear c2b1
                          try clear p2
                          try clear c3
                          try clear c4
                          try clear p4
                          try clear q4
                          try clear hx4
                          try clear qi4
                          try clear c6
                          try clear c6b0
                          try clear c6b1
                          try clear c6b2
                          try clear p6
                          try clear c7
                          try clear c8
                          try clear c8b0
                          try clear c8b1
                          try clear c8b2
                          try clear c9
                          try clear c9b0
                          try clear c11
                          try clear c11b0
                          try clear c11b1
                          try clear c13
                          try clear c17
                          try clear c19
                          try clear c22
                          try clear c23
                          try clear c23b0
                          try clear c24
                          try clear c24b0
                          try clear c25
                          try clear c25b0
                          try clear c26
                          try clear c26b0
                          try clear c27
                          try clear c28
                          try clear c31
                          try clear c31b0
                          try clear c31b1
                          try clear c34
                          try clear c34b0
                          try clear c34b1
                          try clear c34b2
                          try clear c36
                          try clear c37
                          try clear c38
                          try clear c38b0
                          try clear c38b1
                          try clear c39
                          try clear c39b0
                          try clear c39b1
                          try clear c40
                          try clear c40b0
                          try clear p41
                          try clear q41
                          try clear hx41
                          try clear qi41
                          try clear c43
                          try clear p64
                          try clear c65
                          try clear c65b0
                          try clear c65b1
                          try clear c67
                          try clear c67b0
                          try clear c67b1
                          try clear c67b2
                          try clear c68
                          try clear c70
                          try clear c70b0
                          try clear hx414_0
                          try clear hx415_0
                          try clear p2
                          try clear p414
                          try clear p415
                          try clear p6
                          try clear q414
                          try clear q415
                          obtain ⟨kq, x225_61, rfl, HA, HJ61, HO_7, HB⟩ := hcut
                          cases kq with
                          | zero => exact absurd HA.out (by simp [laws_FnFlaws.j5])
                          | succ kj61 =>
                            have H := HA.out
                            clear HA
                            simp only [laws_FnFlaws.j5] at H
                            by_cases c82 : x225_61 = true
                            · subst c82
                              have H1 : (none) = some r := by rw [if_pos rfl] at H; exact H
                              clear H
                              have H := H1
                              clear H1
                              exact absurd H (by simp)
                            · replace c82 := Bool.eq_false_iff.mpr c82
                              subst c82
                              have H1 : (if t399 = true then ((impl_WindowMask.f kj61 t394 t395 t398).bind fun t427 => ((impl_CutCloth.f t394 t395 t398).bind fun t428 => (laws_FnFlaws.l4 kj61 t394 t395 t396 t398 t427 t428 (t428.length : Int) 0))) else (some true)) = some r := by rw [if_neg (show ¬ (false = true) by decide)] at H; exact H
                              clear H
                              have H := H1
                              clear H1
                              by_cases c83 : t399 = true
                              · subst c83
                                have H1 : ((impl_WindowMask.f kj61 t394 t395 t398).bind fun t427 => ((impl_CutCloth.f t394 t395 t398).bind fun t428 => (laws_FnFlaws.l4 kj61 t394 t395 t396 t398 t427 t428 (t428.length : Int) 0))) = some r := by rw [if_pos rfl] at H; exact H
                                clear H
                                have H := H1
                                clear H1
                                replace H := Option.bind_eq_some_iff.mp H
                                obtain ⟨t427, A840, H⟩ := H
                                replace H : ((impl_CutCloth.f t394 t395 t398).bind fun t428 => (laws_FnFlaws.l4 kj61 t394 t395 t396 t398 t427 t428 (t428.length : Int) 0)) = some r := H
                                have A84 := Aside0.mk A840
                                clear A840
                                replace H := Option.bind_eq_some_iff.mp H
                                obtain ⟨t428, A850, H⟩ := H
                                replace H : (laws_FnFlaws.l4 kj61 t394 t395 t396 t398 t427 t428 (t428.length : Int) 0) = some r := H
                                have A85 := Aside0.mk A850
                                clear A850
                                have H' := Aside0.mk H
                                clear H
                                obtain ⟨Ao86, co86, eo86⟩ := Kd.R_slice HO_7.out
                                subst eo86
                                go_wp2_with (first | ((with_reducible refine gate_callee (f := 25) rfl ?_); refine goesL_ (some 231) rfl rfl Try.func25 (by kernel_rfl) rfl #[.int .i64 t394, .int .i64 t395, .slice Ao86 t398.length co86] rfl (by (try simp only [List.map_toArray, List.map_cons, List.map_nil]); first | done | rfl | (simp only [List.length_drop, List.length_take]; rfl)) ?_; (with_reducible refine (impl_WindowMask.calls kj61 t394 t395 _ _ t398 t427 _ ?side1 ?side2 A84.out).mono ?_); (case side1 => repeat (first | exact (Kd.R_reads' HO_7.out).2.2 | (with_reducible refine Kd.C_alloc ?_ _) | (with_reducible refine Kd.C_drewN ?_ _) | (with_reducible refine Kd.C_drew ?_))); (case side2 => exact (Kd.R_reads' HO_7.out).2.1); rintro e w87 ⟨rfl, hb⟩; refine ⟨_, rfl, ?_⟩; have n0_ := Aside0.mk (Kd.R_below (by (with_reducible repeat (first | apply Kd.R_alloc | apply Kd.R_drewN | apply Kd.R_drew)); exact HO_7.out) hb); have n1_ := Aside0.mk (below_step (by repeat (first | (with_reducible first | exact HB.out | apply below_alloc | apply pw_below_drewN | apply below_drew1) | exact HB.out)) hb); clear HO_7; clear HB; have HO_7 := n0_; have HB := n1_; clear n0_ n1_; (try clear hb); (try clear hb2); (try clear hk); (try clear hi)) | ((with_reducible refine gate_callee (f := 31) rfl ?_); refine goesL_ (some 235) rfl rfl Try.func31 (by kernel_rfl) rfl #[.int .i64 t394, .int .i64 t395, .slice Ao86 t398.length co86] rfl (by (try simp only [List.map_toArray, List.map_cons, List.map_nil]); first | done | rfl | (simp only [List.length_drop, List.length_take]; rfl)) ?_; (with_reducible refine (impl_CutCloth.calls t394 t395 _ _ t398 t428 _ ?side1 ?side2 A85.out).mono ?_); (case side1 => repeat (first | exact (Kd.R_reads' HO_7.out).2.2 | (with_reducible refine Kd.C_alloc ?_ _) | (with_reducible refine Kd.C_drewN ?_ _) | (with_reducible refine Kd.C_drew ?_))); (case side2 => exact (Kd.R_reads' HO_7.out).2.1); rintro e w88 ⟨v429, rfl, ho0, hb⟩; refine ⟨_, rfl, ?_⟩; have n0_ := Aside0.mk (Kd.R_below (by (with_reducible repeat (first | apply Kd.R_alloc | apply Kd.R_drewN | apply Kd.R_drew)); exact HO_7.out) hb); have n1_ := Aside0.mk (Kd.S_lower (Kd.S_new' ho0 (Kd.R_lt (by (with_reducible repeat (first | apply Kd.R_alloc | apply Kd.R_drewN | apply Kd.R_drew)); exact HO_7.out))) (below_size (by repeat (first | (with_reducible first | exact HB.out | apply below_alloc | apply pw_below_drewN | apply below_drew1) | exact HB.out)))); have n2_ := Aside0.mk (below_step (by repeat (first | (with_reducible first | exact HB.out | apply below_alloc | apply pw_below_drewN | apply below_drew1) | exact HB.out)) hb); clear HO_7; clear HB; have HO_7 := n0_; have HO430 := n1_; have HB := n2_; clear n0_ n1_ n2_; (try clear hb); (try clear hb2); (try clear hk); (try clear hi); (try clear ho0); obtain ⟨Ao89, co89, eo89⟩ := Kd.S_slice HO430.out; subst eo89))
                                go_loopg [19, 237] kj61 (fun kq v19 v237 w' => ∃ (x19_4 : Int) (x237_4 : Int), v19 = .int .i64 x19_4 ∧ v237 = .int .i64 x237_4 ∧ Aside0 (laws_FnFlaws.l4 kq t394 t395 t396 t398 x19_4 t428 (t428.length : Int) x237_4 = some r) ∧ Aside0 (kq ≤ kj61) ∧ Aside0 (Kd.R (Kd.int .i64) 3 w' w.heap.size (fun _ => True) (.slice Ao86 t398.length co86) t398) ∧ Aside0 (Kd.S (Kd.slice 3 (Kd.int .i64)) 29 w' w.heap.size (fun k_ => some k_ ≠ ((.slice Ao86 t398.length co86) : Value).ownBlock) (.slice Ao89 t428.length co89) t428) ∧ Aside0 (Below w.heap.size w w'))
                                case atStart => exact ⟨(t427), (0), (by first | rfl | (simp; done) | (simp [*]; done)), (by first | rfl | (simp; done) | (simp [*]; done)), H', ⟨Nat.le_refl _⟩, ⟨by (with_reducible repeat (first | apply Kd.R_alloc | apply Kd.R_drewN | apply Kd.R_drew)); exact HO_7.out⟩, ⟨by (with_reducible repeat (first | apply Kd.S_alloc | apply Kd.S_drewN | apply Kd.S_drew)); exact Kd.S_mono HO430.out (fun _ hk => hk.2)⟩, ⟨by repeat (first | (with_reducible first | exact HB.out | apply below_alloc | apply pw_below_drewN | apply below_drew1) | exact HB.out)⟩⟩
                                case round =>
                                  clear H'
                                  try clear c1
                                  try clear c2
                                  try clear c2b0
                                  try clear c2b1
                                  try clear p2
                                  try clear c3
                                  try clear c4
                                  try clear p4
                                  try clear q4
                                  try clear hx4
                                  try clear qi4
                                  try clear c6
                                  try clear c6b0
                                  try clear c6b1
                                  try clear c6b2
                                  try clear p6
                                  try clear c7
                                  try clear c8
                                  try clear c8b0
                                  try clear c8b1
                                  try clear c8b2
                                  try clear c9
                                  try clear c9b0
                                  try clear c11
                                  try clear c11b0
                                  try clear c11b1
                                  try clear c13
                                  try clear c17
                                  try clear c19
                                  try clear c22
                                  try clear c23
                                  try clear c23b0
                                  try clear c24
                                  try clear c24b0
                                  try clear c25
                                  try clear c25b0
                                  try clear c26
                                  try clear c26b0
                                  try clear c27
                                  try clear c28
                                  try clear c31
                                  try clear c31b0
                                  try clear c31b1
                                  try clear c34
                                  try clear c34b0
                                  try clear c34b1
                                  try clear c34b2
                                  try clear c36
                                  try clear c37
                                  try clear c38
                                  try clear c38b0
                                  try clear c38b1
                                  try clear c39
                                  try clear c39b0
                                  try clear c39b1
                                  try clear c40
                                  try clear c40b0
                                  try clear p41
                                  try clear q41
                                  try clear hx41
                                  try clear qi41
                                  try clear c43
                                  try clear p64
                                  try clear c65
                                  try clear c65b0
                                  try clear c65b1
                                  try clear c67
                                  try clear c67b0
                                  try clear c67b1
                                  try clear c67b2
                                  try clear c68
                                  try clear c70
                                  try clear c70b0
                                  try clear c82
                                  try clear c83
                                  try clear hx414_0
                                  try clear hx415_0
                                  try clear p2
                                  try clear p4
                                  try clear p41
                                  try clear p414
                                  try clear p415
                                  try clear p6
                                  try clear p64
                                  try clear q4
                                  try clear q41
                                  try clear q414
                                  try clear q415
                                  obtain ⟨x19_4, x237_4, rfl, rfl, HA, HK4, HO_7, HO_235, HB⟩ := hrel
                                  cases gk with
                                  | zero => exact absurd HA.out (by simp [laws_FnFlaws.l4])
                                  | succ k4 =>
                                    have H := HA.out
                                    clear HA
                                    simp only [laws_FnFlaws.l4] at H
                                    by_cases c90 : x237_4 < (t428.length : Int)
                                    · rw [if_pos c90] at H
                                      have c90b0 : decide (x237_4 < (t428.length : Int)) = true := decide_eq_true c90
                                      clear c90
                                      by_cases c91 : 0 ≤ x237_4
                                      · rw [if_pos c91] at H
                                        have c91b0 : decide (0 ≤ x237_4) = true := decide_eq_true c91
                                        clear c91
                                        by_cases c92 : x237_4 < (t428.length : Int)
                                        · rw [if_pos c92] at H
                                          have c92b0 : decide (x237_4 < (t428.length : Int)) = true := decide_eq_true c92
                                          clear c92
                                          replace H := Option.bind_eq_some_iff.mp H
                                          obtain ⟨t432, A930, H⟩ := H
                                          replace H : (if t432 ≤ 0 then (none) else (if (Go.bits .and .i64 x19_4 t432) = 0 then (laws_FnFlaws.l4 k4 t394 t395 t396 t398 (Go.bits .or .i64 x19_4 t432) t428 (t428.length : Int) (wrap64 (x237_4 + 1))) else (none))) = some r := H
                                          have A93 := Aside0.mk A930
                                          clear A930
                                          by_cases c94 : t432 ≤ 0
                                          · rw [if_pos c94] at H
                                            exact absurd H (by simp)
                                          · rw [if_neg c94] at H
                                            have c94b0 : decide (t432 ≤ 0) = false := decide_eq_false c94
                                            clear c94
                                            by_cases c95 : (Go.bits .and .i64 x19_4 t432) = 0
                                            · rw [if_pos c95] at H
                                              have c95b0 : ((Go.bits .and .i64 x19_4 t432) == 0) = true := beq_iff_eq.mpr c95
                                              have c95b1 : ((Go.bits .and .i64 x19_4 t432) != 0) = false := bne_eq_false_iff_eq.mpr c95
                                              clear c95
                                              as_aux_lemma =>
                                                have H' := Aside0.mk H
                                                clear H
                                                have p431 : 0 ≤ (x237_4 : Int) := of_decide_eq_true (by first | (with_reducible assumption) | assumption)
                                                have q431 : x237_4 < (t428.length : Int) := of_decide_eq_true (by first | (with_reducible assumption) | assumption)
                                                obtain ⟨ad431, A431_0, c431_0, e431, hx431_0, hl431_0, hi431_0⟩ := at_L1 (Kd.S_reads' HO_235.out).2.2 x237_4 p431 q431
                                                cases e431
                                                obtain ⟨ce431, hce431, hMe431, hcc431⟩ := Kd.S_get HO_235.out [] x237_4 p431 (by first | exact q431 | exact of_decide_eq_true (by first | (with_reducible assumption) | assumption) | (have e_ := (Kd.S_reads' HO_235.out).1; omega))
                                                obtain ⟨ve431_0, rfl, ge431_0⟩ := hMe431
                                                have hv431_0 := hcc431 0 _ rfl
                                                rw [Nat.add_zero, show ((Kd.slice 3 (Kd.int .i64))).sz = 1 from rfl, Nat.mul_one] at hv431_0
                                                replace hv431_0 := Option.some.inj (hv431_0.symm.trans hx431_0)
                                                rw [hv431_0] at ge431_0
                                                have HL431_0 := Aside0.mk (show Kd.R (Kd.int .i64) 3 _ _ _ _ (rd_L1 t428 x237_4) from ge431_0)
                                                clear hv431_0 ge431_0
                                                clear hcc431 hce431
                                                have HR431_0 := Aside0.mk hi431_0
                                                have HC431_0 := Aside0.mk hl431_0
                                                clear hi431_0 hl431_0
                                                replace p431 := eq_true p431
                                                replace q431 := eq_true q431
                                                go_wp2_with (first | ((with_reducible refine gate_callee (f := 25) rfl ?_); refine goesL_ (some 244) rfl rfl Try.func25 (by kernel_rfl) rfl #[.int .i64 t394, .int .i64 t395, .slice A431_0 (rd_L1 t428 x237_4).length c431_0] rfl (by (try simp only [List.map_toArray, List.map_cons, List.map_nil]); first | done | rfl | (simp only [List.length_drop, List.length_take]; rfl)) ?_; (with_reducible refine (impl_WindowMask.calls k4 t394 t395 _ _ (rd_L1 t428 x237_4) t432 _ ?side1 ?side2 A93.out).mono ?_); (case side1 => repeat (first | exact (by repeat (first | (with_reducible exact HR431_0.out) | (with_reducible refine Kd.C_alloc ?_ _) | (with_reducible refine Kd.C_drewN ?_ _) | (with_reducible refine Kd.C_drew ?_) | exact HR431_0.out)) | (with_reducible refine Kd.C_alloc ?_ _) | (with_reducible refine Kd.C_drewN ?_ _) | (with_reducible refine Kd.C_drew ?_))); (case side2 => exact HC431_0.out); rintro e w96 ⟨rfl, hb⟩; refine ⟨_, rfl, ?_⟩; have n0_ := Aside0.mk (Kd.R_below (by (with_reducible repeat (first | apply Kd.R_alloc | apply Kd.R_drewN | apply Kd.R_drew)); exact HO_7.out) hb); have n1_ := Aside0.mk (Kd.S_below (by (with_reducible repeat (first | apply Kd.S_alloc | apply Kd.S_drewN | apply Kd.S_drew)); exact HO_235.out) hb); have n2_ := Aside0.mk (Kd.R_below (by (with_reducible repeat (first | apply Kd.R_alloc | apply Kd.R_drewN | apply Kd.R_drew)); exact HL431_0.out) hb); have n3_ := Aside0.mk (Kd.C_below (by repeat (first | (with_reducible exact HR431_0.out) | (with_reducible refine Kd.C_alloc ?_ _) | (with_reducible refine Kd.C_drewN ?_ _) | (with_reducible refine Kd.C_drew ?_) | exact HR431_0.out)) hb); have n4_ := Aside0.mk (below_step (by repeat (first | (with_reducible first | exact HB.out | apply below_alloc | apply pw_below_drewN | apply below_drew1) | exact HB.out)) hb); clear HO_7; clear HO_235; clear HL431_0; clear HR431_0; clear HB; have HO_7 := n0_; have HO_235 := n1_; have HL431_0 := n2_; have HR431_0 := n3_; have HB := n4_; clear n0_ n1_ n2_ n3_ n4_; (try clear hb); (try clear hb2); (try clear hk); (try clear hi)))
                                                go_roundg k4
                                                case measure => have := HJ11.out; have := HK2.out; have := HJ61.out; have := HK4.out; omega
                                                case rel => exact ⟨(Go.bits .or .i64 x19_4 t432), (wrap64 (x237_4 + 1)), (by first | rfl | (simp; done) | (simp [*]; done)), (by first | rfl | (simp; done) | (simp [*]; done)), H', ⟨by have := HJ11.out; have := HK2.out; have := HJ61.out; have := HK4.out; omega⟩, ⟨by (with_reducible repeat (first | apply Kd.R_alloc | apply Kd.R_drewN | apply Kd.R_drew)); exact HO_7.out⟩, ⟨by (with_reducible repeat (first | apply Kd.S_alloc | apply Kd.S_drewN | apply Kd.S_drew)); exact HO_235.out⟩, ⟨by repeat (first | (with_reducible first | exact HB.out | apply below_alloc | apply pw_below_drewN | apply below_drew1) | exact HB.out)⟩⟩
                                            · rw [if_neg c95] at H
                                              exact absurd H (by simp)
                                        · rw [if_neg c92] at H
                                          exact absurd H (by simp)
                                      · rw [if_neg c91] at H
                                        exact absurd H (by simp)
                                    · rw [if_neg c90] at H
                                      have c90b0 : decide (x237_4 < (t428.length : Int)) = false := decide_eq_false c90
                                      clear c90
                                      by_cases c97 : 2 < (t398.length : Int)
                                      · rw [if_pos c97] at H
                                        have c97b0 : decide (2 < (t398.length : Int)) = true := decide_eq_true c97
                                        have c97b1 : decide (2 < t398.length) = true := decide_eq_true (by omega)
                                        clear c97
                                        by_cases c98 : 3 < (t398.length : Int)
                                        · rw [if_pos c98] at H
                                          have c98b0 : decide (3 < (t398.length : Int)) = true := decide_eq_true c98
                                          have c98b1 : decide (3 < t398.length) = true := decide_eq_true (by omega)
                                          clear c98
                                          replace H := Option.bind_eq_some_iff.mp H
                                          obtain ⟨⟨t435, t436⟩, A990, H⟩ := H
                                          replace H : (if t436 = true then (if 0 ≤ (wrap64 (t394 * t395)) then (if x19_4 = (wrap64 ((shl .i64 1 (wrap64 (t394 * t395))) - 1)) then ((laws_same.f k4 t435 t398).bind fun t439 => (some t439)) else (none)) else (none)) else (none)) = some r := H
                                          have A99 := Aside0.mk A990
                                          clear A990
                                          by_cases c100 : t436 = true
                                          · subst c100
                                            have H1 : (if 0 ≤ (wrap64 (t394 * t395)) then (if x19_4 = (wrap64 ((shl .i64 1 (wrap64 (t394 * t395))) - 1)) then ((laws_same.f k4 t435 t398).bind fun t439 => (some t439)) else (none)) else (none)) = some r := by rw [if_pos rfl] at H; exact H
                                            clear H
                                            have H := H1
                                            clear H1
                                            obtain ⟨ji101, hji101⟩ : ∃ j_ : Int, (wrap64 (t394 * t395)) = j_ := ⟨_, rfl⟩
                                            replace H : (if 0 ≤ (ji101) then (if x19_4 = (wrap64 ((shl .i64 1 (ji101)) - 1)) then ((laws_same.f k4 t435 t398).bind fun t439 => (some t439)) else (none)) else (none)) = some r := by first | (rw [hji101] at H; exact H) | (simp only [hji101] at H ⊢; exact H)
                                            (try rw [hji101] at c8b0)
                                            (try rw [hji101] at c8b1)
                                            (try rw [hji101] at c8b2)
                                            (try rw [hji101] at A99)
                                            have hji101w : (IntKind.i64.wrap (t394 * t395)) = ji101 := (i64_w _).trans hji101
                                            by_cases c102 : 0 ≤ (ji101)
                                            · rw [if_pos c102] at H
                                              have c102b0 := eq_true c102
                                              have c102b1 : decide (0 ≤ (ji101)) = true := decide_eq_true c102
                                              clear c102
                                              obtain ⟨ji103, hji103⟩ : ∃ j_ : Int, (shl .i64 1 (ji101)) = j_ := ⟨_, rfl⟩
                                              replace H : (if x19_4 = (wrap64 ((ji103) - 1)) then ((laws_same.f k4 t435 t398).bind fun t439 => (some t439)) else (none)) = some r := by first | (rw [hji103] at H; exact H) | (simp only [hji103] at H ⊢; exact H)
                                              (try rw [hji103] at A99)
                                              have hji103_ : (IntKind.i64.wrap (1 * 2 ^ min (ji101).toNat 64)) = ji103 := hji103
                                              have hji103z : (ji101) ≤ 64 → (IntKind.i64.wrap (1 * 2 ^ (ji101).toNat)) = ji103 := shl_small hji103
                                              have hji103u : (IntKind.i64.wrap (2 ^ min (ji101).toNat 64)) = ji103 := by have h_ := hji103_; rw [Int.one_mul] at h_; exact h_
                                              have hji103v : (ji101) ≤ 64 → (IntKind.i64.wrap (2 ^ (ji101).toNat)) = ji103 := fun hle_ => by have h_ := hji103z hle_; rw [Int.one_mul] at h_; exact h_
                                              have hji103y : (wrap64 (1 * 2 ^ min (ji101).toNat 64)) = ji103 := (i64_w _).symm.trans hji103_
                                              have hji103x : (ji101) ≤ 64 → (wrap64 (1 * 2 ^ (ji101).toNat)) = ji103 := fun h_ => (i64_w _).symm.trans (hji103z h_)
                                              by_cases c104 : x19_4 = (wrap64 ((ji103) - 1))
                                              · rw [if_pos c104] at H
                                                have c104b0 : (x19_4 == (wrap64 ((ji103) - 1))) = true := beq_iff_eq.mpr c104
                                                have c104b1 : (x19_4 != (wrap64 ((ji103) - 1))) = false := bne_eq_false_iff_eq.mpr c104
                                                clear c104
                                                replace H := Option.bind_eq_some_iff.mp H
                                                obtain ⟨t439, A1050, H⟩ := H
                                                replace H : (some t439) = some r := H
                                                have A105 := Aside0.mk A1050
                                                clear A1050
                                                as_aux_lemma =>
                                                  obtain rfl := Option.some.inj H
                                                  try go_wp2
                                                  have n0_ := Aside0.mk (Kd.R_drew HO_7.out)
                                                  have n1_ := Aside0.mk (Kd.S_drew HO_235.out)
                                                  have n2_ := Aside0.mk (below_drew1 HB.out)
                                                  clear HO_7
                                                  clear HO_235
                                                  clear HB
                                                  have HO_7 := n0_
                                                  have HO_235 := n1_
                                                  have HB := n2_
                                                  clear n0_ n1_ n2_
                                                  have p433 : 0 ≤ (2 : Int) := (by omega)
                                                  have q433 : 2 < (t398.length : Int) := of_decide_eq_true (by first | (with_reducible assumption) | assumption)
                                                  obtain ⟨ad433, e433, hx433_0⟩ := Kd.at_int (Kd.R_reads' HO_7.out).2.2 2 p433 q433
                                                  cases e433
                                                  (try simp only [show (2 : Int).toNat = 2 from rfl, Nat.reduceMul, Nat.reduceEqDiff, Go.Addr.add, ↓reduceIte] at hx433_0)
                                                  have qi433 : (2 < t398.length) = True := eq_true (by omega)
                                                  (try rw [show ((2 : Int)).toNat = 2 from rfl] at hx433_0)
                                                  replace p433 := eq_true p433
                                                  replace q433 := eq_true q433
                                                  have p434 : 0 ≤ (3 : Int) := (by omega)
                                                  have q434 : 3 < (t398.length : Int) := of_decide_eq_true (by first | (with_reducible assumption) | assumption)
                                                  obtain ⟨ad434, e434, hx434_0⟩ := Kd.at_int (Kd.R_reads' HO_7.out).2.2 3 p434 q434
                                                  obtain rfl : ad433 = ad434 := (by injection e434)
                                                  (try simp only [show (3 : Int).toNat = 3 from rfl, Nat.reduceMul, Nat.reduceEqDiff, Go.Addr.add, ↓reduceIte] at hx434_0)
                                                  have qi434 : (3 < t398.length) = True := eq_true (by omega)
                                                  (try rw [show ((3 : Int)).toNat = 3 from rfl] at hx434_0)
                                                  replace p434 := eq_true p434
                                                  replace q434 := eq_true q434
                                                  refine start_ (n := 15) (S := fun w' => w'.cell? ⟨ad433.block, ad433.off + 2, none⟩ = some (.int .i64 (rd t398 2)) ∧ w'.cell? ⟨ad433.block, ad433.off + 3, none⟩ = some (.int .i64 (rd t398 3))) (ds := []) #[false, false, false, false, false, false, false, false, false, false, false, false, false, false, false] (by kernel_rfl) rfl rfl ⟨hx433_0, hx434_0⟩ (fun hHeld => ?_); refine with_tabW laws_FnFlaws.tab46 laws_FnFlaws.bits46 (fun HT_ HW_ => ?_)
                                                  generalize wr.drew = w106 at HO_7 HO_235 HB hx433_0 hx434_0 hHeld ⊢
                                                  refine pure_ (i := 0) (N := some 258) (v := ?_) (a' := ?_) #[true, false, false, false, false, false, false, false, false, false, false, false, false, false, false] rfl rfl (any_of HT_.out (by kernel_rfl)) (fun _ _ _ h => h) (Or.inl ⟨by rfl, ?_⟩) ?_ ?_
                                                  rotate_left
                                                  · intro w'
                                                    go_simp
                                                    with_reducible rfl
                                                  rotate_left
                                                  · simp only [Act.put, List.setIfInBounds_toArray, List.set_cons_zero, List.set_cons_succ, i64_w, i32_w]
                                                    rfl
                                                  refine pure_ (i := 1) (N := some 259) (v := ?_) (a' := ?_) #[true, true, false, false, false, false, false, false, false, false, false, false, false, false, false] rfl rfl (any_of HT_.out (by kernel_rfl)) (fun _ _ _ h => h) (Or.inl ⟨by rfl, ?_⟩) ?_ ?_
                                                  rotate_left
                                                  · intro w'
                                                    go_simp
                                                    with_reducible rfl
                                                  rotate_left
                                                  · simp only [Act.put, List.setIfInBounds_toArray, List.set_cons_zero, List.set_cons_succ, i64_w, i32_w]
                                                    rfl
                                                  refine pure_ (i := 2) (N := some 260) (v := ?_) (a' := ?_) #[true, true, true, false, false, false, false, false, false, false, false, false, false, false, false] rfl rfl (any_of HT_.out (by kernel_rfl)) (fun _ _ _ h => h) (Or.inl ⟨by rfl, ?_⟩) ?_ ?_
                                                  rotate_left
                                                  · intro w'
                                                    go_simp
                                                    with_reducible rfl
                                                  rotate_left
                                                  · simp only [Act.put, List.setIfInBounds_toArray, List.set_cons_zero, List.set_cons_succ, i64_w, i32_w]
                                                    rfl
                                                  refine pure_ (i := 3) (N := some 261) (v := ?_) (a' := ?_) #[true, true, true, true, false, false, false, false, false, false, false, false, false, false, false] rfl rfl (any_of HT_.out (by kernel_rfl)) (fun _ _ _ h => h) (Or.inl ⟨by rfl, ?_⟩) ?_ ?_
                                                  rotate_left
                                                  · intro w'
                                                    go_simp
                                                    with_reducible rfl
                                                  rotate_left
                                                  · simp only [Act.put, List.setIfInBounds_toArray, List.set_cons_zero, List.set_cons_succ, i64_w, i32_w]
                                                    rfl
                                                  refine pure_ (i := 4) (N := some 262) (v := ?_) (a' := ?_) #[true, true, true, true, true, false, false, false, false, false, false, false, false, false, false] rfl rfl (any_of HT_.out (by kernel_rfl)) (fun _ _ _ h => h) (Or.inl ⟨by rfl, ?_⟩) ?_ ?_
                                                  rotate_left
                                                  · intro w'
                                                    go_simp
                                                    with_reducible rfl
                                                  rotate_left
                                                  · simp only [Act.put, List.setIfInBounds_toArray, List.set_cons_zero, List.set_cons_succ, i64_w, i32_w]
                                                    rfl
                                                  refine pure_ (i := 6) (N := some 264) (v := ?_) (a' := ?_) #[true, true, true, true, true, false, true, false, false, false, false, false, false, false, false] rfl rfl (any_of HT_.out (by kernel_rfl)) (fun _ _ _ h => h) (Or.inl ⟨by rfl, ?_⟩) ?_ ?_
                                                  rotate_left
                                                  · intro w'
                                                    go_simp
                                                    with_reducible rfl
                                                  rotate_left
                                                  · simp only [Act.put, List.setIfInBounds_toArray, List.set_cons_zero, List.set_cons_succ, i64_w, i32_w]
                                                    rfl
                                                  refine pure_ (i := 7) (N := some 265) (v := ?_) (a' := ?_) #[true, true, true, true, true, false, true, true, false, false, false, false, false, false, false] rfl rfl (any_of HT_.out (by kernel_rfl)) (fun _ _ _ h => h) (Or.inl ⟨by rfl, ?_⟩) ?_ ?_
                                                  rotate_left
                                                  · intro w'
                                                    go_simp
                                                    with_reducible rfl
                                                  rotate_left
                                                  · simp only [Act.put, List.setIfInBounds_toArray, List.set_cons_zero, List.set_cons_succ, i64_w, i32_w]
                                                    rfl
                                                  refine take_ (i := 5) (N := some 263) (v := ?_) (a' := ?_) #[true, true, true, true, true, true, true, true, false, false, false, false, false, false, false] rfl rfl (take_ofW HT_.out HW_.out (by kernel_rfl)) (fun _ _ _ h => h) (Or.inl ⟨by rfl, ?_⟩) hHeld ?_ ?_
                                                  rotate_left
                                                  · rintro w' ⟨s0, s1⟩
                                                    go_simp
                                                    with_reducible rfl
                                                  rotate_left
                                                  · simp only [Act.put, List.setIfInBounds_toArray, List.set_cons_zero, List.set_cons_succ, i64_w, i32_w]
                                                    rfl
                                                  refine take_ (i := 8) (N := some 266) (v := ?_) (a' := ?_) #[true, true, true, true, true, true, true, true, true, false, false, false, false, false, false] rfl rfl (take_ofW HT_.out HW_.out (by kernel_rfl)) (fun _ _ _ h => h) (Or.inl ⟨by rfl, ?_⟩) hHeld ?_ ?_
                                                  rotate_left
                                                  · rintro w' ⟨s0, s1⟩
                                                    go_simp
                                                    with_reducible rfl
                                                  rotate_left
                                                  · simp only [Act.put, List.setIfInBounds_toArray, List.set_cons_zero, List.set_cons_succ, i64_w, i32_w]
                                                    rfl
                                                  refine one_ (i := 9) (N := some 267) #[true, true, true, true, true, true, true, true, true, true, false, false, false, false, false] rfl rfl (one_of HT_.out (by kernel_rfl)) (by decide) (fun K hK => ?_)
                                                  refine goes_ Try.func37 (by kernel_rfl) rfl #[.int .i64 t394, .int .i64 t395, .int .i64 t396, .int .i64 (rd t398 2), .int .i64 (rd t398 3)] (by rfl) rfl rfl (by (try simp only [List.map_toArray, List.map_cons, List.map_nil]); first | done | rfl | (simp only [List.length_drop, List.length_take]; rfl)) ?_
                                                  with_reducible refine (impl_ClearFor.calls k4 t394 t395 t396 (rd t398 2) (rd t398 3) t435 true _ A99.out).mono ?_
                                                  rintro e w107 ⟨v437, rfl, ho0, hb⟩
                                                  have HS0_ := (hb.cell (World.block_lt_of_cell? _ _ (hHeld.1))).trans (hHeld.1)
                                                  have HS1_ := (hb.cell (World.block_lt_of_cell? _ _ (hHeld.2))).trans (hHeld.2)
                                                  refine ⟨_, rfl, ?_⟩
                                                  have n0_ := Aside0.mk (Kd.R_elder' (by (with_reducible repeat (first | apply Kd.R_alloc | apply Kd.R_drewN | apply Kd.R_drew)); exact HO_7.out) (Kd.R_base ho0) hb)
                                                  have n1_ := Aside0.mk (Kd.S_elder' (by (with_reducible repeat (first | apply Kd.S_alloc | apply Kd.S_drewN | apply Kd.S_drew)); exact HO_235.out) (Kd.R_base ho0) hb)
                                                  have n2_ := Aside0.mk (Kd.R_lower (Kd.R_new' ho0 (Kd.R_lt (by (with_reducible repeat (first | apply Kd.R_alloc | apply Kd.R_drewN | apply Kd.R_drew)); exact HO_7.out))) (below_size (by repeat (first | (with_reducible first | exact HB.out | apply below_alloc | apply pw_below_drewN | apply below_drew1) | exact HB.out))))
                                                  have n3_ := Aside0.mk (below_step (by repeat (first | (with_reducible first | exact HB.out | apply below_alloc | apply pw_below_drewN | apply below_drew1) | exact HB.out)) hb)
                                                  clear HO_7
                                                  clear HO_235
                                                  clear HB
                                                  have HO_7 := n0_
                                                  have HO_235 := n1_
                                                  have HO438 := n2_
                                                  have HB := n3_
                                                  clear n0_ n1_ n2_ n3_
                                                  (try clear hb)
                                                  (try clear hb2)
                                                  (try clear hk)
                                                  (try clear hi)
                                                  (try clear ho0)
                                                  refine hK.out _ _ ⟨HS0_, HS1_⟩ (fun hHeld => ?_)
                                                  clear hK K
                                                  refine norm_ (a' := ?_) ?_ ?_
                                                  rotate_left
                                                  · show Act.put _ (some 267) _ = _
                                                    simp only [Act.put, List.setIfInBounds_toArray, List.set_cons_zero, List.set_cons_succ, i64_w, i32_w]
                                                    rfl
                                                  refine pure_ (i := 10) (N := some 257) (v := ?_) (a' := ?_) #[true, true, true, true, true, true, true, true, true, true, true, false, false, false, false] rfl rfl (any_of HT_.out (by kernel_rfl)) (fun _ _ _ h => h) (Or.inl ⟨by rfl, ?_⟩) ?_ ?_
                                                  rotate_left
                                                  · intro w'
                                                    go_simp
                                                    with_reducible rfl
                                                  rotate_left
                                                  · simp only [Act.put, List.setIfInBounds_toArray, List.set_cons_zero, List.set_cons_succ, i64_w, i32_w]
                                                    rfl
                                                  refine pure_ (i := 11) (N := some 268) (v := ?_) (a' := ?_) #[true, true, true, true, true, true, true, true, true, true, true, true, false, false, false] rfl rfl (any_of HT_.out (by kernel_rfl)) (fun _ _ _ h => h) (Or.inl ⟨by rfl, ?_⟩) ?_ ?_
                                                  rotate_left
                                                  · intro w'
                                                    go_simp
                                                    with_reducible rfl
                                                  rotate_left
                                                  · simp only [Act.put, List.setIfInBounds_toArray, List.set_cons_zero, List.set_cons_succ, i64_w, i32_w]
                                                    rfl
                                                  refine pure_ (i := 12) (N := some 269) (v := ?_) (a' := ?_) #[true, true, true, true, true, true, true, true, true, true, true, true, true, false, false] rfl rfl (any_of HT_.out (by kernel_rfl)) (fun _ _ _ h => h) (Or.inl ⟨by rfl, ?_⟩) ?_ ?_
                                                  rotate_left
                                                  · intro w'
                                                    go_simp
                                                    with_reducible rfl
                                                  rotate_left
                                                  · simp only [Act.put, List.setIfInBounds_toArray, List.set_cons_zero, List.set_cons_succ, i64_w, i32_w]
                                                    rfl
                                                  refine pure_ (i := 13) (N := some 23) (v := ?_) (a' := ?_) #[true, true, true, true, true, true, true, true, true, true, true, true, true, true, false] rfl rfl (any_of HT_.out (by kernel_rfl)) (fun _ _ _ h => h) (Or.inl ⟨by rfl, ?_⟩) ?_ ?_
                                                  rotate_left
                                                  · intro w'
                                                    go_simp
                                                    with_reducible rfl
                                                  rotate_left
                                                  · simp only [Act.put, List.setIfInBounds_toArray, List.set_cons_zero, List.set_cons_succ, i64_w, i32_w]
                                                    rfl
                                                  refine pure_ (i := 14) (N := some 24) (v := ?_) (a' := ?_) #[true, true, true, true, true, true, true, true, true, true, true, true, true, true, true] rfl rfl (any_of HT_.out (by kernel_rfl)) (fun _ _ _ h => h) (Or.inl ⟨by rfl, ?_⟩) ?_ ?_
                                                  rotate_left
                                                  · intro w'
                                                    go_simp
                                                    with_reducible rfl
                                                  rotate_left
                                                  · simp only [Act.put, List.setIfInBounds_toArray, List.set_cons_zero, List.set_cons_succ, i64_w, i32_w]
                                                    rfl
                                                  refine done_ (done_of HT_.out (by kernel_rfl)) ?_
                                                  obtain ⟨Ao108, co108, eo108⟩ := Kd.R_slice HO438.out
                                                  subst eo108
                                                  try go_wp2_with (first | (go_at_call 44; (with_reducible refine (laws_same.calls k4 _ _ t435 _ _ t398 t439 _ ?side1 ?side2 ?side3 ?side4 A105.out).mono ?_); (case side1 => repeat (first | exact (Kd.R_reads' HO438.out).2.2 | (with_reducible refine Kd.C_alloc ?_ _) | (with_reducible refine Kd.C_drewN ?_ _) | (with_reducible refine Kd.C_drew ?_))); (case side2 => exact (Kd.R_reads' HO438.out).2.1); (case side3 => repeat (first | exact (Kd.R_reads' HO_7.out).2.2 | (with_reducible refine Kd.C_alloc ?_ _) | (with_reducible refine Kd.C_drewN ?_ _) | (with_reducible refine Kd.C_drew ?_))); (case side4 => exact (Kd.R_reads' HO_7.out).2.1); rintro e w' ⟨rfl, ⟨nd, rfl⟩⟩))
                                                  go_ret
                                                  exact ⟨by first | rfl | (simp [errW_none, errW_some] <;> rfl) | (simp only [← hji101, ← hji103]; first | rfl | (simp [errW_none, errW_some] <;> rfl)) | (simp [*, errW_none, errW_some] <;> rfl), by repeat (first | (with_reducible first | exact HB.out | apply below_alloc | apply pw_below_drewN | apply below_drew1) | exact HB.out)⟩
                                              · rw [if_neg c104] at H
                                                exact absurd H (by simp)
                                            · rw [if_neg c102] at H
                                              exact absurd H (by simp)
                                          · replace c100 := Bool.eq_false_iff.mpr c100
                                            subst c100
                                            have H1 : (none) = some r := by rw [if_neg (show ¬ (false = true) by decide)] at H; exact H
                                            clear H
                                            have H := H1
                                            clear H1
                                            exact absurd H (by simp)
                                        · rw [if_neg c98] at H
                                          exact absurd H (by simp)
                                      · rw [if_neg c97] at H
                                        exact absurd H (by simp)
                              · replace c83 := Bool.eq_false_iff.mpr c83
                                subst c83
                                have H1 : (some true) = some r := by rw [if_neg (show ¬ (false = true) by decide)] at H; exact H
                                clear H
                                have H := H1
                                clear H1
                                as_aux_lemma =>
                                  obtain rfl := Option.some.inj H
                                  go_wp2
                                  go_ret
                                  exact ⟨by first | rfl | (simp [errW_none, errW_some] <;> rfl) | (simp [*, errW_none, errW_some] <;> rfl), by repeat (first | (with_reducible first | exact HB.out | apply below_alloc | apply pw_below_drewN | apply below_drew1) | exact HB.out)⟩
          · rw [if_neg c11] at H
            exact absurd H (by simp)
/-- THE ONE PURE STATEMENT of laws_FnFlaws: yours. -/
def laws_FnFlaws.Pure : Prop := ∀ (l0 : List Int), l0.length ≤ maxLen → l0.length * 1 ≤ 140737488351232 → (∀ x ∈ l0, (Lit.int .u8 x).wf = true) → ∃ k, laws_FnFlaws.f k l0 = some true
theorem laws_FnFlaws.walk (P : laws_FnFlaws.Pure) (a0 : Option Addr) (len0 cap0 : Nat) (z0 : List Int) (w : World) (w0 : (a0 = none ∧ len0 = 0 ∧ cap0 = 0 ∧ z0 = []) ∨ ∃ x, a0 = some x ∧ len0 ≤ cap0 ∧ cap0 ≤ maxLen ∧ z0.length = cap0 ∧ (∀ i, i < z0.length → w.cell? (x.add i) = some (.int .u8 (z0.getD i 0))) ∧ ∀ n ∈ z0, (Lit.int .u8 n).wf = true) (y0 : len0 * 1 ≤ 140737488351232) :
    Calls Try.prog 13 #[.slice a0 len0 cap0] w fun e w' => e = .returned (.bool true) ∧ Below w.heap.size w w' := by
  obtain ⟨l0, rfl, hr0, hm0, hw0, hc0⟩ := ReadsInt.ofRowC w0
  obtain ⟨k, h⟩ := P l0 hm0 y0 hw0
  refine (laws_FnFlaws.calls k _ _ l0 true w (Kd.C_of_reads (d := (0 : Int)) (h1 := fun _ => rfl) hr0) hc0 h).mono ?_
  rintro e w' ⟨rfl, hd⟩
  exact ⟨rfl, hd⟩
end Go.Proofs.Ytoildabjnioafaa.PA
