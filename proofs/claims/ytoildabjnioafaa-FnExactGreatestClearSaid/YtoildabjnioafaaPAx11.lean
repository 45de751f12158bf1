-- Written for this claim by a program of this session's (ownprint.py), by way of the kit's print and hand-proved texts. Lean checks it.
import Derived.Test.YtoildabjnioafaaPAx0
namespace Go.Proofs.Ytoildabjnioafaa.PA
open Go.RowKit Go.Proofs.YtoildabjnioafaaW.PrintWords Go.Proofs.YtoildabjnioafaaW.PrintLast Go.Proofs.YtoildabjnioafaaW.PrintMore
attribute [local go_sem] max2_int min2_int max_two min_two max_three min_three max_four min_four   -- for this text's walks alone
set_option linter.unusedVariables false
set_option linter.unusedSimpArgs false

/-! ### spec_l20Mask: function 52 -/
mutual
def spec_l20Mask.l0 : Nat → Int → List Int → Int → Int → Option (Int)
  | 0, _, _, _, _ => none
  | k + 1, x0, x1, x5, x6 => if 1 < (x1.length : Int) then (if 3 < (x1.length : Int) then (if x6 < (wrap64 ((rd x1 1) + (rd x1 3))) then (if 0 < (x1.length : Int) then (spec_l20Mask.l1 k x0 x1 x5 x6 (rd x1 0)) else (none)) else (some x5)) else (none)) else (none)
def spec_l20Mask.l1 : Nat → Int → List Int → Int → Int → Int → Option (Int)
  | 0, _, _, _, _, _ => none
  | k + 1, x0, x1, x5, x6, x7 => if 0 < (x1.length : Int) then (if 2 < (x1.length : Int) then (if x7 < (wrap64 ((rd x1 0) + (rd x1 2))) then (if 0 ≤ (wrap64 ((wrap64 (x6 * x0)) + x7)) then (spec_l20Mask.l1 k x0 x1 (wrap64 (x5 + (shl .i64 1 (wrap64 ((wrap64 (x6 * x0)) + x7))))) x6 (wrap64 (x7 + 1))) else (none)) else (spec_l20Mask.l0 k x0 x1 x5 (wrap64 (x6 + 1)))) else (none)) else (none)
end
def spec_l20Mask.f (k : Nat) (a0 : Int) (l1 : List Int) : Option (Int) := if 1 < (l1.length : Int) then (spec_l20Mask.l0 k a0 l1 0 (rd l1 1)) else (none)
theorem spec_l20Mask.mono_l : ∀ k, (∀ y0 y1 y2 y3, LeO (spec_l20Mask.l0 k y0 y1 y2 y3) (spec_l20Mask.l0 (k + 1) y0 y1 y2 y3)) ∧ (∀ y0 y1 y2 y3 y4, LeO (spec_l20Mask.l1 k y0 y1 y2 y3 y4) (spec_l20Mask.l1 (k + 1) y0 y1 y2 y3 y4))
  | 0 => ⟨fun _ _ _ _ r h => by simp [spec_l20Mask.l0] at h, fun _ _ _ _ _ r h => by simp [spec_l20Mask.l1] at h⟩
  | k + 1 => by
    obtain ⟨ih0, ih1⟩ := spec_l20Mask.mono_l k
    refine ⟨?_, ?_⟩
    · intro y0 y1 y2 y3
      unfold spec_l20Mask.l0
      repeat' first
      | (with_reducible exact ih0 _ _ _ _)
      | (with_reducible exact ih1 _ _ _ _ _)
      | (with_reducible exact LeO.refl _)
      | (with_reducible exact LeO.none _)
      | (with_reducible refine LeO.ite ?_ ?_)
      | (with_reducible refine LeO.bind ?_ (fun _ => ?_))
      | exact ih0 _ _ _ _
      | exact ih1 _ _ _ _ _
      | exact LeO.none _
      | refine LeO.ite ?_ ?_
      | refine LeO.bind ?_ (fun _ => ?_)
    · intro y0 y1 y2 y3 y4
      unfold spec_l20Mask.l1
      repeat' first
      | (with_reducible exact ih0 _ _ _ _)
      | (with_reducible exact ih1 _ _ _ _ _)
      | (with_reducible exact LeO.refl _)
      | (with_reducible exact LeO.none _)
      | (with_reducible refine LeO.ite ?_ ?_)
      | (with_reducible refine LeO.bind ?_ (fun _ => ?_))
      | exact ih0 _ _ _ _
      | exact ih1 _ _ _ _ _
      | exact LeO.none _
      | refine LeO.ite ?_ ?_
      | refine LeO.bind ?_ (fun _ => ?_)
theorem spec_l20Mask.mono : ∀ a0 a1 k, LeO (spec_l20Mask.f k a0 a1) (spec_l20Mask.f (k + 1) a0 a1) := by
  intro a0 a1 k
  obtain ⟨ih0, ih1⟩ := spec_l20Mask.mono_l k
  unfold spec_l20Mask.f
  repeat' first
      | (with_reducible exact ih0 _ _ _ _)
      | (with_reducible exact ih1 _ _ _ _ _)
      | (with_reducible exact LeO.refl _)
      | (with_reducible exact LeO.none _)
      | (with_reducible refine LeO.ite ?_ ?_)
      | (with_reducible refine LeO.bind ?_ (fun _ => ?_))
      | exact ih0 _ _ _ _
      | exact ih1 _ _ _ _ _
      | exact LeO.none _
      | refine LeO.ite ?_ ?_
      | refine LeO.bind ?_ (fun _ => ?_)
set_option maxHeartbeats 8000000 in
set_option maxRecDepth 100000 in
theorem spec_l20Mask.calls (k : Nat) (a0 : Int) (A1 : Option Addr) (c1 : Nat) (l1 : List Int) (r : Int) (w : World) (hr1 : Kd.C (Kd.int .i64) w A1 l1.length l1) (hc1 : l1.length ≤ c1) (h : spec_l20Mask.f k a0 l1 = some r) :
    Calls Try.prog 52 #[.int .i64 a0, .slice A1 l1.length c1] w fun e w' => e = .returned (.int .i64 r) ∧ Drawn0 w w' := by
  have HR1 := Aside0.mk hr1
  have HC1 := Aside0.mk hc1
  clear hr1 hc1
  have H : (if 1 < (l1.length : Int) then (spec_l20Mask.l0 k a0 l1 0 (rd l1 1)) else (none)) = some r := h
  clear h
  by_cases c3 : 1 < (l1.length : Int)
  · rw [if_pos c3] at H
    have c3b0 : decide (1 < (l1.length : Int)) = true := decide_eq_true c3
    have c3b1 : decide (1 < l1.length) = true := decide_eq_true (by omega)
    clear c3
    have H' := Aside0.mk H
    clear H
    have p171 : 0 ≤ (1 : Int) := (by omega)
    have q171 : 1 < (l1.length : Int) := of_decide_eq_true (by first | (with_reducible assumption) | assumption)
    obtain ⟨ad171, e171, hx171_0⟩ := Kd.at_int HR1.out 1 p171 q171
    cases e171
    (try simp only [show (1 : Int).toNat = 1 from rfl, Nat.reduceMul, Nat.reduceEqDiff, Go.Addr.add, ↓reduceIte] at hx171_0)
    have qi171 : (1 < l1.length) = True := eq_true (by omega)
    (try rw [show ((1 : Int)).toNat = 1 from rfl] at hx171_0)
    replace p171 := eq_true p171
    replace q171 := eq_true q171
    go_enter Try.func52, Try.ntmps52
    go_wp2
    repeat (go_quiet (fail); try go_wp2)
    go_loopg [5, 6] k (fun kq v5 v6 w' => ∃ (x5_1 : Int) (x6_1 : Int), v5 = .int .i64 x5_1 ∧ v6 = .int .i64 x6_1 ∧ Aside0 (spec_l20Mask.l0 kq a0 l1 x5_1 x6_1 = some r) ∧ Aside0 (kq ≤ k) ∧ Drawn0 w w')
    case atStart => exact ⟨(0), (rd l1 1), (by first | rfl | (simp; done) | (simp [*]; done)), (by first | rfl | (simp; done) | (simp [*]; done)), H', ⟨Nat.le_refl _⟩, by repeat (first | exact Drawn0.refl _ | apply Drawn0.step)⟩
    case round =>
      clear H'
      try clear c1
      try clear p1
      try clear q1
      try clear hx1
      try clear qi1
      try clear p2
      try clear c3
      try clear c3b0
      try clear c3b1
      try clear hx171_0
      try clear p171
      try clear q171
      obtain ⟨x5_1, x6_1, rfl, rfl, HA, HK1, ⟨m1, rfl⟩⟩ := hrel
      cases gk with
      | zero => exact absurd HA.out (by simp [spec_l20Mask.l0])
      | succ k1 =>
        have H := HA.out
        clear HA
        simp only [spec_l20Mask.l0] at H
        by_cases c4 : 1 < (l1.length : Int)
        · rw [if_pos c4] at H
          have c4b0 : decide (1 < (l1.length : Int)) = true := decide_eq_true c4
          have c4b1 : decide (1 < l1.length) = true := decide_eq_true (by omega)
          clear c4
          by_cases c5 : 3 < (l1.length : Int)
          · rw [if_pos c5] at H
            have c5b0 : decide (3 < (l1.length : Int)) = true := decide_eq_true c5
            have c5b1 : decide (3 < l1.length) = true := decide_eq_true (by omega)
            clear c5
            by_cases c6 : x6_1 < (wrap64 ((rd l1 1) + (rd l1 3)))
            · rw [if_pos c6] at H
              have c6b0 : decide (x6_1 < (wrap64 ((rd l1 1) + (rd l1 3)))) = true := decide_eq_true c6
              clear c6
              by_cases c7 : 0 < (l1.length : Int)
              · rw [if_pos c7] at H
                have c7b0 : decide (0 < (l1.length : Int)) = true := decide_eq_true c7
                have c7b1 : decide (0 < l1.length) = true := decide_eq_true (by omega)
                clear c7
                have H' := Aside0.mk H
                clear H
                have p172 : 0 ≤ (1 : Int) := (by omega)
                have q172 : 1 < (l1.length : Int) := of_decide_eq_true (by first | (with_reducible assumption) | assumption)
                obtain ⟨ad172, e172, hx172_0⟩ := Kd.at_int HR1.out 1 p172 q172
                obtain rfl : ad171 = ad172 := (by injection e172)
                (try simp only [show (1 : Int).toNat = 1 from rfl, Nat.reduceMul, Nat.reduceEqDiff, Go.Addr.add, ↓reduceIte] at hx172_0)
                have qi172 : (1 < l1.length) = True := eq_true (by omega)
                (try rw [show ((1 : Int)).toNat = 1 from rfl] at hx172_0)
                replace p172 := eq_true p172
                replace q172 := eq_true q172
                have p173 : 0 ≤ (3 : Int) := (by omega)
                have q173 : 3 < (l1.length : Int) := of_decide_eq_true (by first | (with_reducible assumption) | assumption)
                obtain ⟨ad173, e173, hx173_0⟩ := Kd.at_int HR1.out 3 p173 q173
                obtain rfl : ad171 = ad173 := (by injection e173)
                (try simp only [show (3 : Int).toNat = 3 from rfl, Nat.reduceMul, Nat.reduceEqDiff, Go.Addr.add, ↓reduceIte] at hx173_0)
                have qi173 : (3 < l1.length) = True := eq_true (by omega)
                (try rw [show ((3 : Int)).toNat = 3 from rfl] at hx173_0)
                replace p173 := eq_true p173
                replace q173 := eq_true q173
                have p174 : 0 ≤ (0 : Int) := (by omega)
                have q174 : 0 < (l1.length : Int) := of_decide_eq_true (by first | (with_reducible assumption) | assumption)
                obtain ⟨ad174, e174, hx174_0⟩ := Kd.at_int HR1.out 0 p174 q174
                obtain rfl : ad171 = ad174 := (by injection e174)
                have qi174 : (0 < l1.length) = True := eq_true (by omega)
                (try rw [show ((0 : Int)).toNat = 0 from rfl] at hx174_0)
                (try rw [Addr.add_zero'] at hx174_0)
                replace p174 := eq_true p174
                replace q174 := eq_true q174
                go_wp2
                repeat (go_quiet (fail); try go_wp2)
                go_loopg [5, 7] k1 (fun kq v5 v7 w' => ∃ (x5_2 : Int) (x7_2 : Int), v5 = .int .i64 x5_2 ∧ v7 = .int .i64 x7_2 ∧ Aside0 (spec_l20Mask.l1 kq a0 l1 x5_2 x6_1 x7_2 = some r) ∧ Aside0 (kq ≤ k1) ∧ Drawn0 w w')
                case atStart => exact ⟨(x5_1), (rd l1 0), (by first | rfl | (simp; done) | (simp [*]; done)), (by first | rfl | (simp; done) | (simp [*]; done)), H', ⟨Nat.le_refl _⟩, by repeat (first | exact Drawn0.refl _ | apply Drawn0.step)⟩
                case round =>
                  clear H'
                  try clear c1
                  try clear p1
                  try clear q1
                  try clear hx1
                  try clear qi1
                  try clear p2
                  try clear c3
                  try clear c3b0
                  try clear c3b1
                  try clear c4
                  try clear c4b0
                  try clear c4b1
                  try clear c5
                  try clear c5b0
                  try clear c5b1
                  try clear c6
                  try clear c6b0
                  try clear p6
                  try clear c7
                  try clear c7b0
                  try clear c7b1
                  try clear hx171_0
                  try clear hx172_0
                  try clear hx173_0
                  try clear hx174_0
                  try clear p1
                  try clear p171
                  try clear p172
                  try clear p173
                  try clear p174
                  try clear p2
                  try clear q1
                  try clear q171
                  try clear q172
                  try clear q173
                  try clear q174
                  obtain ⟨x5_2, x7_2, rfl, rfl, HA, HK2, ⟨m2, rfl⟩⟩ := hrel
                  cases gk with
                  | zero => exact absurd HA.out (by simp [spec_l20Mask.l1])
                  | succ k2 =>
                    have H := HA.out
                    clear HA
                    simp only [spec_l20Mask.l1] at H
                    by_cases c8 : 0 < (l1.length : Int)
                    · rw [if_pos c8] at H
                      have c8b0 : decide (0 < (l1.length : Int)) = true := decide_eq_true c8
                      have c8b1 : decide (0 < l1.length) = true := decide_eq_true (by omega)
                      clear c8
                      by_cases c9 : 2 < (l1.length : Int)
                      · rw [if_pos c9] at H
                        have c9b0 : decide (2 < (l1.length : Int)) = true := decide_eq_true c9
                        have c9b1 : decide (2 < l1.length) = true := decide_eq_true (by omega)
                        clear c9
                        by_cases c10 : x7_2 < (wrap64 ((rd l1 0) + (rd l1 2)))
                        · rw [if_pos c10] at H
                          have c10b0 : decide (x7_2 < (wrap64 ((rd l1 0) + (rd l1 2)))) = true := decide_eq_true c10
                          clear c10
                          obtain ⟨ji11, hji11⟩ : ∃ j_ : Int, (wrap64 ((wrap64 (x6_1 * a0)) + x7_2)) = j_ := ⟨_, rfl⟩
                          replace H : (if 0 ≤ (ji11) then (spec_l20Mask.l1 k2 a0 l1 (wrap64 (x5_2 + (shl .i64 1 (ji11)))) x6_1 (wrap64 (x7_2 + 1))) else (none)) = some r := by first | (rw [hji11] at H; exact H) | (simp only [hji11] at H ⊢; exact H)
                          have hji11w : (IntKind.i64.wrap ((wrap64 (x6_1 * a0)) + x7_2)) = ji11 := (i64_w _).trans hji11
                          by_cases c12 : 0 ≤ (ji11)
                          · rw [if_pos c12] at H
                            have c12b0 := eq_true c12
                            have c12b1 : decide (0 ≤ (ji11)) = true := decide_eq_true c12
                            clear c12
                            obtain ⟨ji13, hji13⟩ : ∃ j_ : Int, (shl .i64 1 (ji11)) = j_ := ⟨_, rfl⟩
                            replace H : (spec_l20Mask.l1 k2 a0 l1 (wrap64 (x5_2 + (ji13))) x6_1 (wrap64 (x7_2 + 1))) = some r := by first | (rw [hji13] at H; exact H) | (simp only [hji13] at H ⊢; exact H)
                            have hji13_ : (IntKind.i64.wrap (1 * 2 ^ min (ji11).toNat 64)) = ji13 := hji13
                            have hji13z : (ji11) ≤ 64 → (IntKind.i64.wrap (1 * 2 ^ (ji11).toNat)) = ji13 := shl_small hji13
                            have hji13u : (IntKind.i64.wrap (2 ^ min (ji11).toNat 64)) = ji13 := by have h_ := hji13_; rw [Int.one_mul] at h_; exact h_
                            have hji13v : (ji11) ≤ 64 → (IntKind.i64.wrap (2 ^ (ji11).toNat)) = ji13 := fun hle_ => by have h_ := hji13z hle_; rw [Int.one_mul] at h_; exact h_
                            have hji13y : (wrap64 (1 * 2 ^ min (ji11).toNat 64)) = ji13 := (i64_w _).symm.trans hji13_
                            have hji13x : (ji11) ≤ 64 → (wrap64 (1 * 2 ^ (ji11).toNat)) = ji13 := fun h_ => (i64_w _).symm.trans (hji13z h_)
                            have H' := Aside0.mk H
                            clear H
                            have p175 : 0 ≤ (0 : Int) := (by omega)
                            have q175 : 0 < (l1.length : Int) := of_decide_eq_true (by first | (with_reducible assumption) | assumption)
                            obtain ⟨ad175, e175, hx175_0⟩ := Kd.at_int HR1.out 0 p175 q175
                            obtain rfl : ad171 = ad175 := (by injection e175)
                            have qi175 : (0 < l1.length) = True := eq_true (by omega)
                            (try rw [show ((0 : Int)).toNat = 0 from rfl] at hx175_0)
                            (try rw [Addr.add_zero'] at hx175_0)
                            replace p175 := eq_true p175
                            replace q175 := eq_true q175
                            have p176 : 0 ≤ (2 : Int) := (by omega)
                            have q176 : 2 < (l1.length : Int) := of_decide_eq_true (by first | (with_reducible assumption) | assumption)
                            obtain ⟨ad176, e176, hx176_0⟩ := Kd.at_int HR1.out 2 p176 q176
                            obtain rfl : ad171 = ad176 := (by injection e176)
                            (try simp only [show (2 : Int).toNat = 2 from rfl, Nat.reduceMul, Nat.reduceEqDiff, Go.Addr.add, ↓reduceIte] at hx176_0)
                            have qi176 : (2 < l1.length) = True := eq_true (by omega)
                            (try rw [show ((2 : Int)).toNat = 2 from rfl] at hx176_0)
                            replace p176 := eq_true p176
                            replace q176 := eq_true q176
                            go_wp2
                            repeat (go_quiet (fail); try go_wp2)
                            go_roundg k2
                            case measure => have := HK1.out; have := HK2.out; omega
                            case rel => exact ⟨(wrap64 (x5_2 + (ji13))), (wrap64 (x7_2 + 1)), (by first | rfl | (simp; done) | (simp only [← hji13] <;> (first | rfl | simp)) | (simp [*]; done)), (by first | rfl | (simp; done) | (simp [*]; done)), H', ⟨by have := HK1.out; have := HK2.out; omega⟩, by repeat (first | exact Drawn0.refl _ | apply Drawn0.step)⟩
                          · rw [if_neg c12] at H
                            exact absurd H (by simp)
                        · rw [if_neg c10] at H
                          have c10b0 : decide (x7_2 < (wrap64 ((rd l1 0) + (rd l1 2)))) = false := decide_eq_false c10
                          clear c10
                          have H' := Aside0.mk H
                          clear H
                          have p175 : 0 ≤ (0 : Int) := (by omega)
                          have q175 : 0 < (l1.length : Int) := of_decide_eq_true (by first | (with_reducible assumption) | assumption)
                          obtain ⟨ad175, e175, hx175_0⟩ := Kd.at_int HR1.out 0 p175 q175
                          obtain rfl : ad171 = ad175 := (by injection e175)
                          have qi175 : (0 < l1.length) = True := eq_true (by omega)
                          (try rw [show ((0 : Int)).toNat = 0 from rfl] at hx175_0)
                          (try rw [Addr.add_zero'] at hx175_0)
                          replace p175 := eq_true p175
                          replace q175 := eq_true q175
                          have p176 : 0 ≤ (2 : Int) := (by omega)
                          have q176 : 2 < (l1.length : Int) := of_decide_eq_true (by first | (with_reducible assumption) | assumption)
                          obtain ⟨ad176, e176, hx176_0⟩ := Kd.at_int HR1.out 2 p176 q176
                          obtain rfl : ad171 = ad176 := (by injection e176)
                          (try simp only [show (2 : Int).toNat = 2 from rfl, Nat.reduceMul, Nat.reduceEqDiff, Go.Addr.add, ↓reduceIte] at hx176_0)
                          have qi176 : (2 < l1.length) = True := eq_true (by omega)
                          (try rw [show ((2 : Int)).toNat = 2 from rfl] at hx176_0)
                          replace p176 := eq_true p176
                          replace q176 := eq_true q176
                          go_wp2
                          repeat (go_quiet (fail); try go_wp2)
                          go_roundg k2
                          case measure => have := HK1.out; have := HK2.out; omega
                          case rel => exact ⟨(x5_2), (wrap64 (x6_1 + 1)), (by first | rfl | (simp; done) | (simp [*]; done)), (by first | rfl | (simp; done) | (simp [*]; done)), H', ⟨by have := HK1.out; have := HK2.out; omega⟩, by repeat (first | exact Drawn0.refl _ | apply Drawn0.step)⟩
                      · rw [if_neg c9] at H
                        exact absurd H (by simp)
                    · rw [if_neg c8] at H
                      exact absurd H (by simp)
              · rw [if_neg c7] at H
                exact absurd H (by simp)
            · rw [if_neg c6] at H
              have c6b0 : decide (x6_1 < (wrap64 ((rd l1 1) + (rd l1 3)))) = false := decide_eq_false c6
              clear c6
              obtain rfl := Option.some.inj H
              have p172 : 0 ≤ (1 : Int) := (by omega)
              have q172 : 1 < (l1.length : Int) := of_decide_eq_true (by first | (with_reducible assumption) | assumption)
              obtain ⟨ad172, e172, hx172_0⟩ := Kd.at_int HR1.out 1 p172 q172
              obtain rfl : ad171 = ad172 := (by injection e172)
              (try simp only [show (1 : Int).toNat = 1 from rfl, Nat.reduceMul, Nat.reduceEqDiff, Go.Addr.add, ↓reduceIte] at hx172_0)
              have qi172 : (1 < l1.length) = True := eq_true (by omega)
              (try rw [show ((1 : Int)).toNat = 1 from rfl] at hx172_0)
              replace p172 := eq_true p172
              replace q172 := eq_true q172
              have p173 : 0 ≤ (3 : Int) := (by omega)
              have q173 : 3 < (l1.length : Int) := of_decide_eq_true (by first | (with_reducible assumption) | assumption)
              obtain ⟨ad173, e173, hx173_0⟩ := Kd.at_int HR1.out 3 p173 q173
              obtain rfl : ad171 = ad173 := (by injection e173)
              (try simp only [show (3 : Int).toNat = 3 from rfl, Nat.reduceMul, Nat.reduceEqDiff, Go.Addr.add, ↓reduceIte] at hx173_0)
              have qi173 : (3 < l1.length) = True := eq_true (by omega)
              (try rw [show ((3 : Int)).toNat = 3 from rfl] at hx173_0)
              replace p173 := eq_true p173
              replace q173 := eq_true q173
              go_wp2
              repeat (go_quiet (fail); try go_wp2)
              go_ret
              exact ⟨by first | rfl | (simp; done) | (simp [*]; done), by repeat (first | exact Drawn0.refl _ | apply Drawn0.step)⟩
          · rw [if_neg c5] at H
            exact absurd H (by simp)
        · rw [if_neg c4] at H
          exact absurd H (by simp)
  · rw [if_neg c3] at H
    exact absurd H (by simp)

end Go.Proofs.Ytoildabjnioafaa.PA
