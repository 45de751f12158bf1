/- Texts of this claim put together in build order (FnFlaws). -/
import Derived.Test.YtoildabjnioafaaMFnFlaws0
-- Written for this claim by a program of this session's (ownprint.py), by way of the kit's print and hand-proved texts. Lean checks it.
namespace Go.Proofs.Ytoildabjnioafaa.PA
open Go.RowKit Go.Proofs.YtoildabjnioafaaW.PrintWords Go.Proofs.YtoildabjnioafaaW.PrintLast Go.Proofs.YtoildabjnioafaaW.PrintMore
attribute [local go_sem] max2_int min2_int max_two min_two max_three min_three max_four min_four   -- for this text's walks alone
set_option linter.unusedVariables false
set_option linter.unusedSimpArgs false
def impl_IsClear.f (k : Nat) (a0 : Int) (a1 : Int) (a2 : Int) (l3 : List Int) : Option (Bool) := (impl_ShapeOk.f a0 a1 a2).bind fun t199 => (if t199 = true then ((impl_WindowOk.f a0 a1 l3).bind fun t200 => (if t200 = true then ((impl_WindowMask.f k a0 a1 l3).bind fun t201 => (some ((Go.bits .and .i64 t201 a2) == 0))) else (some false))) else (some false))
set_option maxHeartbeats 8000000 in
set_option maxRecDepth 100000 in
theorem impl_IsClear.calls (k : Nat) (a0 : Int) (a1 : Int) (a2 : Int) (A3 : Option Addr) (c3 : Nat) (l3 : List Int) (r : Bool) (w : World) (hr3 : Kd.C (Kd.int .i64) w A3 l3.length l3) (hc3 : l3.length ≤ c3) (h : impl_IsClear.f k a0 a1 a2 l3 = some r) :
    Calls Try.prog 27 #[.int .i64 a0, .int .i64 a1, .int .i64 a2, .slice A3 l3.length c3] w fun e w' => e = .returned (.bool r) ∧ Below w.heap.size w w' := by
  have HR3 := Aside0.mk hr3
  have HC3 := Aside0.mk hc3
  clear hr3 hc3
  have HB := Aside0.mk (Below.refl w.heap.size w)
  have H : ((impl_ShapeOk.f a0 a1 a2).bind fun t199 => (if t199 = true then ((impl_WindowOk.f a0 a1 l3).bind fun t200 => (if t200 = true then ((impl_WindowMask.f k a0 a1 l3).bind fun t201 => (some ((Go.bits .and .i64 t201 a2) == 0))) else (some false))) else (some false))) = some r := h
  clear h
  replace H := Option.bind_eq_some_iff.mp H
  obtain ⟨t199, A50, H⟩ := H
  replace H : (if t199 = true then ((impl_WindowOk.f a0 a1 l3).bind fun t200 => (if t200 = true then ((impl_WindowMask.f k a0 a1 l3).bind fun t201 => (some ((Go.bits .and .i64 t201 a2) == 0))) else (some false))) else (some false)) = some r := H
  have A5 := Aside0.mk A50
  clear A50
  by_cases c6 : t199 = true
  · subst c6
    have H1 : ((impl_WindowOk.f a0 a1 l3).bind fun t200 => (if t200 = true then ((impl_WindowMask.f k a0 a1 l3).bind fun t201 => (some ((Go.bits .and .i64 t201 a2) == 0))) else (some false))) = some r := by rw [if_pos rfl] at H; exact H
    clear H
    have H := H1
    clear H1
    replace H := Option.bind_eq_some_iff.mp H
    obtain ⟨t200, A70, H⟩ := H
    replace H : (if t200 = true then ((impl_WindowMask.f k a0 a1 l3).bind fun t201 => (some ((Go.bits .and .i64 t201 a2) == 0))) else (some false)) = some r := H
    have A7 := Aside0.mk A70
    clear A70
    by_cases c8 : t200 = true
    · subst c8
      have H1 : ((impl_WindowMask.f k a0 a1 l3).bind fun t201 => (some ((Go.bits .and .i64 t201 a2) == 0))) = some r := by rw [if_pos rfl] at H; exact H
      clear H
      have H := H1
      clear H1
      replace H := Option.bind_eq_some_iff.mp H
      obtain ⟨t201, A90, H⟩ := H
      replace H : (some ((Go.bits .and .i64 t201 a2) == 0)) = some r := H
      have A9 := Aside0.mk A90
      clear A90
      obtain rfl := Option.some.inj H
      go_enter Try.func27, Try.ntmps27
      go_wp2_with (first | ((with_reducible refine gate_callee (f := 48) rfl ?_); refine goesL_ (some 12) rfl rfl Try.func48 (by kernel_rfl) rfl #[.int .i64 a0, .int .i64 a1, .int .i64 a2] rfl (by (try simp only [List.map_toArray, List.map_cons, List.map_nil]); first | done | rfl | (simp only [List.length_drop, List.length_take]; rfl)) ?_; (with_reducible refine (impl_ShapeOk.calls a0 a1 a2 true _ A5.out).mono ?_); rintro e w' ⟨rfl, ⟨nd, rfl⟩⟩; refine ⟨_, rfl, ?_⟩) | (go_at_call 22; (with_reducible refine (impl_WindowOk.calls a0 a1 _ _ l3 true _ ?side1 ?side2 A7.out).mono ?_); (case side1 => repeat (first | exact HR3.out | (with_reducible refine Kd.C_alloc ?_ _) | (with_reducible refine Kd.C_drewN ?_ _) | (with_reducible refine Kd.C_drew ?_))); (case side2 => exact HC3.out); rintro e w10 ⟨rfl, hb⟩; have n0_ := Aside0.mk (below_step (by repeat (first | (with_reducible first | exact HB.out | apply below_alloc | apply pw_below_drewN | apply below_drew1) | exact HB.out)) hb); clear HB; have HB := n0_; clear n0_; (try clear hb); (try clear hb2); (try clear hk); (try clear hi)) | (go_at_call 25; (with_reducible refine (impl_WindowMask.calls k a0 a1 _ _ l3 t201 _ ?side1 ?side2 A9.out).mono ?_); (case side1 => repeat (first | exact (Kd.C_below HR3.out HB.out) | (with_reducible refine Kd.C_alloc ?_ _) | (with_reducible refine Kd.C_drewN ?_ _) | (with_reducible refine Kd.C_drew ?_))); (case side2 => exact HC3.out); rintro e w11 ⟨rfl, hb⟩; have n0_ := Aside0.mk (below_step (by repeat (first | (with_reducible first | exact HB.out | apply below_alloc | apply pw_below_drewN | apply below_drew1) | exact HB.out)) hb); clear HB; have HB := n0_; clear n0_; (try clear hb); (try clear hb2); (try clear hk); (try clear hi)))
      go_ret
      exact ⟨by first | rfl | (simp [errW_none, errW_some] <;> rfl) | (simp [*, errW_none, errW_some] <;> rfl), by repeat (first | (with_reducible first | exact HB.out | apply below_alloc | apply pw_below_drewN | apply below_drew1) | exact HB.out)⟩
    · replace c8 := Bool.eq_false_iff.mpr c8
      subst c8
      have H1 : (some false) = some r := by rw [if_neg (show ¬ (false = true) by decide)] at H; exact H
      clear H
      have H := H1
      clear H1
      obtain rfl := Option.some.inj H
      go_enter Try.func27, Try.ntmps27
      go_wp2_with (first | ((with_reducible refine gate_callee (f := 48) rfl ?_); refine goesL_ (some 12) rfl rfl Try.func48 (by kernel_rfl) rfl #[.int .i64 a0, .int .i64 a1, .int .i64 a2] rfl (by (try simp only [List.map_toArray, List.map_cons, List.map_nil]); first | done | rfl | (simp only [List.length_drop, List.length_take]; rfl)) ?_; (with_reducible refine (impl_ShapeOk.calls a0 a1 a2 true _ A5.out).mono ?_); rintro e w' ⟨rfl, ⟨nd, rfl⟩⟩; refine ⟨_, rfl, ?_⟩) | (go_at_call 22; (with_reducible refine (impl_WindowOk.calls a0 a1 _ _ l3 false _ ?side1 ?side2 A7.out).mono ?_); (case side1 => repeat (first | exact HR3.out | (with_reducible refine Kd.C_alloc ?_ _) | (with_reducible refine Kd.C_drewN ?_ _) | (with_reducible refine Kd.C_drew ?_))); (case side2 => exact HC3.out); rintro e w12 ⟨rfl, hb⟩; have n0_ := Aside0.mk (below_step (by repeat (first | (with_reducible first | exact HB.out | apply below_alloc | apply pw_below_drewN | apply below_drew1) | exact HB.out)) hb); clear HB; have HB := n0_; clear n0_; (try clear hb); (try clear hb2); (try clear hk); (try clear hi)))
      go_ret
      exact ⟨by first | rfl | (simp [errW_none, errW_some] <;> rfl) | (simp [*, errW_none, errW_some] <;> rfl), by repeat (first | (with_reducible first | exact HB.out | apply below_alloc | apply pw_below_drewN | apply below_drew1) | exact HB.out)⟩
  · replace c6 := Bool.eq_false_iff.mpr c6
    subst c6
    have H1 : (some false) = some r := by rw [if_neg (show ¬ (false = true) by decide)] at H; exact H
    clear H
    have H := H1
    clear H1
    obtain rfl := Option.some.inj H
    go_enter Try.func27, Try.ntmps27
    go_wp2_with (first | ((with_reducible refine gate_callee (f := 48) rfl ?_); refine goesL_ (some 12) rfl rfl Try.func48 (by kernel_rfl) rfl #[.int .i64 a0, .int .i64 a1, .int .i64 a2] rfl (by (try simp only [List.map_toArray, List.map_cons, List.map_nil]); first | done | rfl | (simp only [List.length_drop, List.length_take]; rfl)) ?_; (with_reducible refine (impl_ShapeOk.calls a0 a1 a2 false _ A5.out).mono ?_); rintro e w' ⟨rfl, ⟨nd, rfl⟩⟩; refine ⟨_, rfl, ?_⟩))
    go_ret
    exact ⟨by first | rfl | (simp [errW_none, errW_some] <;> rfl) | (simp [*, errW_none, errW_some] <;> rfl), by repeat (first | (with_reducible first | exact HB.out | apply below_alloc | apply pw_below_drewN | apply below_drew1) | exact HB.out)⟩
end Go.Proofs.Ytoildabjnioafaa.PA
-- Written for this claim by a program of this session's (ownprint.py), by way of the kit's print and hand-proved texts. Lean checks it.
namespace Go.Proofs.Ytoildabjnioafaa.PA
open Go.RowKit Go.Proofs.YtoildabjnioafaaW.PrintWords Go.Proofs.YtoildabjnioafaaW.PrintLast Go.Proofs.YtoildabjnioafaaW.PrintMore
attribute [local go_sem] max2_int min2_int max_two min_two max_three min_three max_four min_four   -- for this text's walks alone
set_option linter.unusedVariables false
set_option linter.unusedSimpArgs false
mutual
def impl_clearWindows.l0 : Nat → Int → Int → Int → List (List Int) → Int → Int → Option ((List (List Int)))
  | 0, _, _, _, _, _, _ => none
  | k + 1, x0, x1, x2, x7, x14, x15 => if x15 < x14 then (impl_clearWindows.l1 k x0 x1 x2 x7 x15 x14 x15 x1 0) else (some x7)
def impl_clearWindows.l1 : Nat → Int → Int → Int → List (List Int) → Int → Int → Int → Int → Int → Option ((List (List Int)))
  | 0, _, _, _, _, _, _, _, _, _ => none
  | k + 1, x0, x1, x2, x7, x8, x14, x15, x18, x19 => if x19 < x18 then (impl_clearWindows.l2 k x0 x1 x2 x7 x8 x19 1 x14 x15 x18 x19) else (impl_clearWindows.l0 k x0 x1 x2 x7 x14 (wrap64 (x15 + 1)))
def impl_clearWindows.l2 : Nat → Int → Int → Int → List (List Int) → Int → Int → Int → Int → Int → Int → Int → Option ((List (List Int)))
  | 0, _, _, _, _, _, _, _, _, _, _, _ => none
  | k + 1, x0, x1, x2, x7, x8, x9, x10, x14, x15, x18, x19 => if (wrap64 (x8 + x10)) ≤ x0 then (impl_clearWindows.l3 k x0 x1 x2 x7 x8 x9 x10 1 x14 x15 x18 x19) else (impl_clearWindows.l1 k x0 x1 x2 x7 x8 x14 x15 x18 (wrap64 (x19 + 1)))
def impl_clearWindows.l3 : Nat → Int → Int → Int → List (List Int) → Int → Int → Int → Int → Int → Int → Int → Int → Option ((List (List Int)))
  | 0, _, _, _, _, _, _, _, _, _, _, _, _ => none
  | k + 1, x0, x1, x2, x7, x8, x9, x10, x11, x14, x15, x18, x19 => if (wrap64 (x9 + x11)) ≤ x1 then ((some (([x8, x9, x10, x11] : List Int) : List Int)).bind fun y234 => ((impl_WindowMask.f k x0 x1 y234).bind fun t237 => (if (Go.bits .and .i64 t237 x2) = 0 then (if x7.length < 5864062014805 then (impl_clearWindows.l3 k x0 x1 x2 (x7 ++ [y234]) x8 x9 x10 (wrap64 (x11 + 1)) x14 x15 x18 x19) else (none)) else (impl_clearWindows.l3 k x0 x1 x2 x7 x8 x9 x10 (wrap64 (x11 + 1)) x14 x15 x18 x19)))) else (impl_clearWindows.l2 k x0 x1 x2 x7 x8 x9 (wrap64 (x10 + 1)) x14 x15 x18 x19)
end
def impl_clearWindows.f (k : Nat) (a0 : Int) (a1 : Int) (a2 : Int) : Option ((List (List Int))) := impl_clearWindows.l0 k a0 a1 a2 (([] : List (List Int))) a0 0
set_option maxHeartbeats 8000000 in
set_option maxRecDepth 100000 in
theorem impl_clearWindows.calls (k : Nat) (a0 : Int) (a1 : Int) (a2 : Int) (r : List (List Int)) (w : World) (h : impl_clearWindows.f k a0 a1 a2 = some r) :
    Calls Try.prog 54 #[.int .i64 a0, .int .i64 a1, .int .i64 a2] w fun e w' => ∃ v0_ : Value, e = .returned (v0_) ∧ Kd.S (Kd.slice 3 (Kd.int .i64)) 29 w' w.heap.size (fun _ => True) v0_ r ∧ Below w.heap.size w w' := by
  have HB := Aside0.mk (Below.refl w.heap.size w)
  have H : (impl_clearWindows.l0 k a0 a1 a2 (([] : List (List Int))) a0 0) = some r := h
  clear h
  obtain ⟨y231, hy231⟩ : ∃ y_ : List (List Int), y_ = (([] : List (List Int))) := ⟨_, rfl⟩
  replace H : (impl_clearWindows.l0 k a0 a1 a2 y231 a0 0) = some r := by first | (rw [hy231]; with_reducible exact H) | (have H2_ := (Option.bind_some _ _).symm.trans H; rw [hy231]; with_reducible exact H2_) | (have H2_ := (Option.bind_some _ _).symm.trans H; with_reducible exact H2_) | with_reducible exact H | (rw [hy231]; exact H) | exact H
  have Ny231 := Aside0.mk hy231
  clear hy231
  have H' := Aside0.mk H
  clear H
  go_enter Try.func54, Try.ntmps54
  go_wp2_with (first | ((with_reducible refine gate_dst (N := 13) rfl ?_); refine Kd.S_lit (Kd.slice 3 (Kd.int .i64)) _ 29 ?hg (N := 13) ?hd (xs := ([] : List (List Int))) (inner := []) (ok := fun _ => True) (okp := fun _ => True) ?hr ?hp (fun _ hk => hk) trivial (Below.refl _ _) (Nat.le_refl _) (by simp) ?_; (case hd => rfl); (case hg => rfl); (case hr => first | (go_simp; done) | (go_simp; rfl)); (case hp => exact (Reps.none _ _)); intro v232 w4 ho5 hb hg_ hnew_; clear hg_ hnew_; (first | rw [← Ny231.out] at ho5 | (simp only [Int.reduceToNat] at ho5; rw [← Ny231.out] at ho5)); have n0_ := Aside0.mk (Kd.S_lower ho5 (below_size (by repeat (first | (with_reducible first | exact HB.out | apply below_alloc | apply pw_below_drewN | apply below_drew1) | exact HB.out)))); have n1_ := Aside0.mk (below_step (by repeat (first | (with_reducible first | exact HB.out | apply below_alloc | apply pw_below_drewN | apply below_drew1) | exact HB.out)) hb); clear HB; have HO233 := n0_; have HB := n1_; clear n0_ n1_; clear hb ho5))
  go_loopg [7, 15] k (fun kq v7 v15 w' => ∃ (x7_1 : List (List Int)) (x15_1 : Int), v15 = .int .i64 x15_1 ∧ Aside0 (impl_clearWindows.l0 kq a0 a1 a2 x7_1 a0 x15_1 = some r) ∧ Aside0 (kq ≤ k) ∧ Aside0 (Kd.S (Kd.slice 3 (Kd.int .i64)) 29 w' w.heap.size (fun _ => True) v7 x7_1) ∧ Aside0 (Below w.heap.size w w'))
  case atStart => exact ⟨(y231), (0), (by first | rfl | (simp; done) | (simp [*]; done)), H', ⟨Nat.le_refl _⟩, ⟨by (with_reducible repeat (first | apply Kd.S_alloc | apply Kd.S_drewN | apply Kd.S_drew)); exact HO233.out⟩, ⟨by repeat (first | (with_reducible first | exact HB.out | apply below_alloc | apply pw_below_drewN | apply below_drew1) | exact HB.out)⟩⟩
  case round =>
    clear H'
    try clear p2
    try clear c5
    obtain ⟨x7_1, x15_1, rfl, HA, HK1, HO_7, HB⟩ := hrel
    cases gk with
    | zero => exact absurd HA.out (by simp [impl_clearWindows.l0])
    | succ k1 =>
      have H := HA.out
      clear HA
      simp only [impl_clearWindows.l0] at H
      by_cases c6 : x15_1 < a0
      · rw [if_pos c6] at H
        have c6b0 : decide (x15_1 < a0) = true := decide_eq_true c6
        clear c6
        have H' := Aside0.mk H
        clear H
        go_wp2
        go_loopg [7, 19] k1 (fun kq v7 v19 w' => ∃ (x7_2 : List (List Int)) (x19_2 : Int), v19 = .int .i64 x19_2 ∧ Aside0 (impl_clearWindows.l1 kq a0 a1 a2 x7_2 x15_1 a0 x15_1 a1 x19_2 = some r) ∧ Aside0 (kq ≤ k1) ∧ Aside0 (Kd.S (Kd.slice 3 (Kd.int .i64)) 29 w' w.heap.size (fun _ => True) v7 x7_2) ∧ Aside0 (Below w.heap.size w w'))
        case atStart => exact ⟨(x7_1), (0), (by first | rfl | (simp; done) | (simp [*]; done)), H', ⟨Nat.le_refl _⟩, ⟨by (with_reducible repeat (first | apply Kd.S_alloc | apply Kd.S_drewN | apply Kd.S_drew)); exact HO_7.out⟩, ⟨by repeat (first | (with_reducible first | exact HB.out | apply below_alloc | apply pw_below_drewN | apply below_drew1) | exact HB.out)⟩⟩
        case round =>
          clear H'
          try clear p2
          try clear c5
          try clear c6
          try clear c6b0
          try clear p2
          obtain ⟨x7_2, x19_2, rfl, HA, HK2, HO_7, HB⟩ := hrel
          cases gk with
          | zero => exact absurd HA.out (by simp [impl_clearWindows.l1])
          | succ k2 =>
            have H := HA.out
            clear HA
            simp only [impl_clearWindows.l1] at H
            by_cases c7 : x19_2 < a1
            · rw [if_pos c7] at H
              have c7b0 : decide (x19_2 < a1) = true := decide_eq_true c7
              clear c7
              have H' := Aside0.mk H
              clear H
              go_wp2
              go_loopg [7, 10] k2 (fun kq v7 v10 w' => ∃ (x7_3 : List (List Int)) (x10_3 : Int), v10 = .int .i64 x10_3 ∧ Aside0 (impl_clearWindows.l2 kq a0 a1 a2 x7_3 x15_1 x19_2 x10_3 a0 x15_1 a1 x19_2 = some r) ∧ Aside0 (kq ≤ k2) ∧ Aside0 (Kd.S (Kd.slice 3 (Kd.int .i64)) 29 w' w.heap.size (fun _ => True) v7 x7_3) ∧ Aside0 (Below w.heap.size w w'))
              case atStart => exact ⟨(x7_2), (1), (by first | rfl | (simp; done) | (simp [*]; done)), H', ⟨Nat.le_refl _⟩, ⟨by (with_reducible repeat (first | apply Kd.S_alloc | apply Kd.S_drewN | apply Kd.S_drew)); exact HO_7.out⟩, ⟨by repeat (first | (with_reducible first | exact HB.out | apply below_alloc | apply pw_below_drewN | apply below_drew1) | exact HB.out)⟩⟩
              case round =>
                clear H'
                try clear p2
                try clear c5
                try clear c6
                try clear c6b0
                try clear c7
                try clear c7b0
                try clear p2
                obtain ⟨x7_3, x10_3, rfl, HA, HK3, HO_7, HB⟩ := hrel
                cases gk with
                | zero => exact absurd HA.out (by simp [impl_clearWindows.l2])
                | succ k3 =>
                  have H := HA.out
                  clear HA
                  simp only [impl_clearWindows.l2] at H
                  by_cases c8 : (wrap64 (x15_1 + x10_3)) ≤ a0
                  · rw [if_pos c8] at H
                    have c8b0 : decide ((wrap64 (x15_1 + x10_3)) ≤ a0) = true := decide_eq_true c8
                    clear c8
                    have H' := Aside0.mk H
                    clear H
                    go_wp2
                    go_loopg [7, 11] k3 (fun kq v7 v11 w' => ∃ (x7_4 : List (List Int)) (x11_4 : Int), v11 = .int .i64 x11_4 ∧ Aside0 (impl_clearWindows.l3 kq a0 a1 a2 x7_4 x15_1 x19_2 x10_3 x11_4 a0 x15_1 a1 x19_2 = some r) ∧ Aside0 (kq ≤ k3) ∧ Aside0 (Kd.S (Kd.slice 3 (Kd.int .i64)) 29 w' w.heap.size (fun _ => True) v7 x7_4) ∧ Aside0 (Below w.heap.size w w'))
                    case atStart => exact ⟨(x7_3), (1), (by first | rfl | (simp; done) | (simp [*]; done)), H', ⟨Nat.le_refl _⟩, ⟨by (with_reducible repeat (first | apply Kd.S_alloc | apply Kd.S_drewN | apply Kd.S_drew)); exact HO_7.out⟩, ⟨by repeat (first | (with_reducible first | exact HB.out | apply below_alloc | apply pw_below_drewN | apply below_drew1) | exact HB.out)⟩⟩
                    case round =>
                      clear H'
                      try clear p2
                      try clear c5
                      try clear c6
                      try clear c6b0
                      try clear p6
                      try clear c7
                      try clear c7b0
                      try clear c8
                      try clear c8b0
                      try clear p2
                      obtain ⟨x7_4, x11_4, rfl, HA, HK4, HO_7, HB⟩ := hrel
                      cases gk with
                      | zero => exact absurd HA.out (by simp [impl_clearWindows.l3])
                      | succ k4 =>
                        have H := HA.out
                        clear HA
                        simp only [impl_clearWindows.l3] at H
                        by_cases c9 : (wrap64 (x19_2 + x11_4)) ≤ a1
                        · rw [if_pos c9] at H
                          have c9b0 : decide ((wrap64 (x19_2 + x11_4)) ≤ a1) = true := decide_eq_true c9
                          clear c9
                          obtain ⟨y234, hy234⟩ : ∃ y_ : List Int, y_ = (([x15_1, x19_2, x10_3, x11_4] : List Int)) := ⟨_, rfl⟩
                          replace H : ((impl_WindowMask.f k4 a0 a1 y234).bind fun t237 => (if (Go.bits .and .i64 t237 a2) = 0 then (if x7_4.length < 5864062014805 then (impl_clearWindows.l3 k4 a0 a1 a2 (x7_4 ++ [y234]) x15_1 x19_2 x10_3 (wrap64 (x11_4 + 1)) a0 x15_1 a1 x19_2) else (none)) else (impl_clearWindows.l3 k4 a0 a1 a2 x7_4 x15_1 x19_2 x10_3 (wrap64 (x11_4 + 1)) a0 x15_1 a1 x19_2))) = some r := by first | (rw [hy234]; with_reducible exact H) | (have H2_ := (Option.bind_some _ _).symm.trans H; rw [hy234]; with_reducible exact H2_) | (have H2_ := (Option.bind_some _ _).symm.trans H; with_reducible exact H2_) | with_reducible exact H | (rw [hy234]; exact H) | exact H
                          have Ny234 := Aside0.mk hy234
                          clear hy234
                          replace H := Option.bind_eq_some_iff.mp H
                          obtain ⟨t237, A100, H⟩ := H
                          replace H : (if (Go.bits .and .i64 t237 a2) = 0 then (if x7_4.length < 5864062014805 then (impl_clearWindows.l3 k4 a0 a1 a2 (x7_4 ++ [y234]) x15_1 x19_2 x10_3 (wrap64 (x11_4 + 1)) a0 x15_1 a1 x19_2) else (none)) else (impl_clearWindows.l3 k4 a0 a1 a2 x7_4 x15_1 x19_2 x10_3 (wrap64 (x11_4 + 1)) a0 x15_1 a1 x19_2)) = some r := H
                          have A10 := Aside0.mk A100
                          clear A100
                          by_cases c11 : (Go.bits .and .i64 t237 a2) = 0
                          · rw [if_pos c11] at H
                            have c11b0 : ((Go.bits .and .i64 t237 a2) == 0) = true := beq_iff_eq.mpr c11
                            have c11b1 : ((Go.bits .and .i64 t237 a2) != 0) = false := bne_eq_false_iff_eq.mpr c11
                            clear c11
                            by_cases c12 : x7_4.length < 5864062014805
                            · rw [if_pos c12] at H
                              have LMc12 := Aside0.mk c12
                              clear c12
                              obtain ⟨y238, hy238⟩ : ∃ y_ : List (List Int), y_ = (x7_4 ++ [y234]) := ⟨_, rfl⟩
                              replace H : (impl_clearWindows.l3 k4 a0 a1 a2 y238 x15_1 x19_2 x10_3 (wrap64 (x11_4 + 1)) a0 x15_1 a1 x19_2) = some r := by first | (rw [hy238]; with_reducible exact H) | (have H2_ := (Option.bind_some _ _).symm.trans H; rw [hy238]; with_reducible exact H2_) | (have H2_ := (Option.bind_some _ _).symm.trans H; with_reducible exact H2_) | with_reducible exact H | (rw [hy238]; exact H) | exact H
                              have Ny238 := Aside0.mk hy238
                              clear hy238
                              have H' := Aside0.mk H
                              clear H
                              go_wp2_with (first | ((with_reducible refine gate_dst (N := 40) rfl ?_); refine Kd.R_lit (Kd.int .i64) _ 3 ?hg (N := 40) ?hd (xs := ([x15_1, x19_2, x10_3, x11_4] : List Int)) (inner := [.int .i64 x15_1, .int .i64 x19_2, .int .i64 x10_3, .int .i64 x11_4]) (ok := fun _ => True) (okp := fun _ => True) ?hr ?hp (fun _ hk => hk) trivial (Below.refl _ _) (Nat.le_refl _) (by simp) ?_; (case hd => rfl); (case hg => rfl); (case hr => first | (go_simp; done) | (go_simp; rfl)); (case hp => exact (Reps.one (show Kd.M (Kd.int .i64) _ _ _ x15_1 [.int .i64 x15_1] from rfl) (Reps.one (show Kd.M (Kd.int .i64) _ _ _ x19_2 [.int .i64 x19_2] from rfl) (Reps.one (show Kd.M (Kd.int .i64) _ _ _ x10_3 [.int .i64 x10_3] from rfl) (Reps.one (show Kd.M (Kd.int .i64) _ _ _ x11_4 [.int .i64 x11_4] from rfl) (Reps.none _ _)))))); intro v235 w13 ho14 hb hg_ hnew_; clear hg_ hnew_; (first | rw [← Ny234.out] at ho14 | (simp only [Int.reduceToNat] at ho14; rw [← Ny234.out] at ho14)); have n0_ := Aside0.mk (Kd.S_elder' (by (with_reducible repeat (first | apply Kd.S_alloc | apply Kd.S_drewN | apply Kd.S_drew)); exact HO_7.out) (Kd.R_base ho14) hb); have n1_ := Aside0.mk (Kd.R_lower ho14 (below_size (by repeat (first | (with_reducible first | exact HB.out | apply below_alloc | apply pw_below_drewN | apply below_drew1) | exact HB.out)))); have n2_ := Aside0.mk (below_step (by repeat (first | (with_reducible first | exact HB.out | apply below_alloc | apply pw_below_drewN | apply below_drew1) | exact HB.out)) hb); clear HO_7; clear HB; have HO_7 := n0_; have HO236 := n1_; have HB := n2_; clear n0_ n1_ n2_; clear hb ho14; obtain ⟨Ao15, co15, eo15⟩ := Kd.R_slice HO236.out; subst eo15) | ((with_reducible refine gate_callee (f := 25) rfl ?_); refine goesL_ (some 44) rfl rfl Try.func25 (by kernel_rfl) rfl #[.int .i64 a0, .int .i64 a1, .slice Ao15 y234.length co15] rfl (by (try simp only [List.map_toArray, List.map_cons, List.map_nil]); first | done | rfl | (simp only [List.length_drop, List.length_take]; rfl)) ?_; (with_reducible refine (impl_WindowMask.calls k4 a0 a1 _ _ y234 t237 _ ?side1 ?side2 A10.out).mono ?_); (case side1 => repeat (first | exact (Kd.R_reads' HO236.out).2.2 | (with_reducible refine Kd.C_alloc ?_ _) | (with_reducible refine Kd.C_drewN ?_ _) | (with_reducible refine Kd.C_drew ?_))); (case side2 => exact (Kd.R_reads' HO236.out).2.1); rintro e w16 ⟨rfl, hb⟩; refine ⟨_, rfl, ?_⟩; have n0_ := Aside0.mk (Kd.S_below (by (with_reducible repeat (first | apply Kd.S_alloc | apply Kd.S_drewN | apply Kd.S_drew)); exact HO_7.out) hb); have n1_ := Aside0.mk (Kd.R_below (by (with_reducible repeat (first | apply Kd.R_alloc | apply Kd.R_drewN | apply Kd.R_drew)); exact HO236.out) hb); have n2_ := Aside0.mk (below_step (by repeat (first | (with_reducible first | exact HB.out | apply below_alloc | apply pw_below_drewN | apply below_drew1) | exact HB.out)) hb); clear HO_7; clear HO236; clear HB; have HO_7 := n0_; have HO236 := n1_; have HB := n2_; clear n0_ n1_ n2_; (try clear hb); (try clear hb2); (try clear hk); (try clear hi)) | ((with_reducible refine gate_builtin (b := .append) (xs := #[.tmp 48, .tmp 50]) rfl ?_); at_builtin; refine Kd.S_append (Kd.slice 3 (Kd.int .i64)) (w0 := w) w.heap.size rfl (.tmp 48) (.tmp 50) 37 29 (.slice none 0 0) 24 rfl Try.underlying37 info29 rfl (by decide) (by omega) u7 x7_4 y234 [.slice Ao15 y234.length co15] (fun _ => True) (fun k_ => some k_ = (.slice Ao15 y234.length co15 : Value).ownBlock) rfl rfl ?aP (fun k_ hk_ => ((Kd.R_mono (ok' := fun k_ => ((fun _ => True)) k_ ∧ some k_ ≠ (u7 : Value).ownBlock) (Kd.R_apart' (HO236.out) (Kd.S_typed HO_7.out) (by decide)) (fun k_ hk => ⟨trivial, hk.2⟩))).1 k_ hk_.symm) ?aF ?aO ?aB ?aS ?aL ?_; (case aP => exact Kd.M_row (Kd.R_mono (Kd.R_tight rfl (Kd.R_mono (ok' := fun k_ => ((fun _ => True)) k_ ∧ some k_ ≠ (u7 : Value).ownBlock) (Kd.R_apart' (HO236.out) (Kd.S_typed HO_7.out) (by decide)) (fun k_ hk => ⟨trivial, hk.2⟩))) (fun _ h_ => h_))); (case aB => exact (by repeat (first | (with_reducible first | exact HB.out | apply below_alloc | apply pw_below_drewN | apply below_drew1) | exact HB.out))); (case aF => exact (fun _ _ => trivial)); (case aO => exact (by (with_reducible repeat (first | apply Kd.S_alloc | apply Kd.S_drewN | apply Kd.S_drew)); exact Kd.S_mono HO_7.out (fun k_ hk => ⟨trivial, fun e_ => hk.2 e_⟩))); (case aS => exact (below_size (by repeat (first | (with_reducible first | exact HB.out | apply below_alloc | apply pw_below_drewN | apply below_drew1) | exact HB.out)))); (case aL => have := LMc12.out; omega); intro v239 w17 ho hb hg hat; rw [← Ny238.out] at ho; have n0_ := Aside0.mk (hb); have n1_ := Aside0.mk (ho); clear HB; clear HO_7; clear HO236; have HB := n0_; have HO240 := n1_; clear n0_ n1_; clear ho hb hg hat))
                              go_roundg k4
                              case measure => have := HK1.out; have := HK2.out; have := HK3.out; have := HK4.out; omega
                              case rel => exact ⟨(y238), (wrap64 (x11_4 + 1)), (by first | rfl | (simp; done) | (simp [*]; done)), H', ⟨by have := HK1.out; have := HK2.out; have := HK3.out; have := HK4.out; omega⟩, ⟨by (with_reducible repeat (first | apply Kd.S_alloc | apply Kd.S_drewN | apply Kd.S_drew)); exact HO240.out⟩, ⟨by repeat (first | (with_reducible first | exact HB.out | apply below_alloc | apply pw_below_drewN | apply below_drew1) | exact HB.out)⟩⟩
                            · rw [if_neg c12] at H
                              exact absurd H (by simp)
                          · rw [if_neg c11] at H
                            have c11b0 : ((Go.bits .and .i64 t237 a2) == 0) = false := beq_eq_false_iff_ne.mpr c11
                            have c11b1 : ((Go.bits .and .i64 t237 a2) != 0) = true := bne_iff_ne.mpr c11
                            have H' := Aside0.mk H
                            clear H
                            go_wp2_with (first | ((with_reducible refine gate_dst (N := 40) rfl ?_); refine Kd.R_lit (Kd.int .i64) _ 3 ?hg (N := 40) ?hd (xs := ([x15_1, x19_2, x10_3, x11_4] : List Int)) (inner := [.int .i64 x15_1, .int .i64 x19_2, .int .i64 x10_3, .int .i64 x11_4]) (ok := fun _ => True) (okp := fun _ => True) ?hr ?hp (fun _ hk => hk) trivial (Below.refl _ _) (Nat.le_refl _) (by simp) ?_; (case hd => rfl); (case hg => rfl); (case hr => first | (go_simp; done) | (go_simp; rfl)); (case hp => exact (Reps.one (show Kd.M (Kd.int .i64) _ _ _ x15_1 [.int .i64 x15_1] from rfl) (Reps.one (show Kd.M (Kd.int .i64) _ _ _ x19_2 [.int .i64 x19_2] from rfl) (Reps.one (show Kd.M (Kd.int .i64) _ _ _ x10_3 [.int .i64 x10_3] from rfl) (Reps.one (show Kd.M (Kd.int .i64) _ _ _ x11_4 [.int .i64 x11_4] from rfl) (Reps.none _ _)))))); intro v235 w18 ho19 hb hg_ hnew_; clear hg_ hnew_; (first | rw [← Ny234.out] at ho19 | (simp only [Int.reduceToNat] at ho19; rw [← Ny234.out] at ho19)); have n0_ := Aside0.mk (Kd.S_elder' (by (with_reducible repeat (first | apply Kd.S_alloc | apply Kd.S_drewN | apply Kd.S_drew)); exact HO_7.out) (Kd.R_base ho19) hb); have n1_ := Aside0.mk (Kd.R_lower ho19 (below_size (by repeat (first | (with_reducible first | exact HB.out | apply below_alloc | apply pw_below_drewN | apply below_drew1) | exact HB.out)))); have n2_ := Aside0.mk (below_step (by repeat (first | (with_reducible first | exact HB.out | apply below_alloc | apply pw_below_drewN | apply below_drew1) | exact HB.out)) hb); clear HO_7; clear HB; have HO_7 := n0_; have HO236 := n1_; have HB := n2_; clear n0_ n1_ n2_; clear hb ho19; obtain ⟨Ao20, co20, eo20⟩ := Kd.R_slice HO236.out; subst eo20) | ((with_reducible refine gate_callee (f := 25) rfl ?_); refine goesL_ (some 44) rfl rfl Try.func25 (by kernel_rfl) rfl #[.int .i64 a0, .int .i64 a1, .slice Ao20 y234.length co20] rfl (by (try simp only [List.map_toArray, List.map_cons, List.map_nil]); first | done | rfl | (simp only [List.length_drop, List.length_take]; rfl)) ?_; (with_reducible refine (impl_WindowMask.calls k4 a0 a1 _ _ y234 t237 _ ?side1 ?side2 A10.out).mono ?_); (case side1 => repeat (first | exact (Kd.R_reads' HO236.out).2.2 | (with_reducible refine Kd.C_alloc ?_ _) | (with_reducible refine Kd.C_drewN ?_ _) | (with_reducible refine Kd.C_drew ?_))); (case side2 => exact (Kd.R_reads' HO236.out).2.1); rintro e w21 ⟨rfl, hb⟩; refine ⟨_, rfl, ?_⟩; have n0_ := Aside0.mk (Kd.S_below (by (with_reducible repeat (first | apply Kd.S_alloc | apply Kd.S_drewN | apply Kd.S_drew)); exact HO_7.out) hb); have n1_ := Aside0.mk (Kd.R_below (by (with_reducible repeat (first | apply Kd.R_alloc | apply Kd.R_drewN | apply Kd.R_drew)); exact HO236.out) hb); have n2_ := Aside0.mk (below_step (by repeat (first | (with_reducible first | exact HB.out | apply below_alloc | apply pw_below_drewN | apply below_drew1) | exact HB.out)) hb); clear HO_7; clear HO236; clear HB; have HO_7 := n0_; have HO236 := n1_; have HB := n2_; clear n0_ n1_ n2_; (try clear hb); (try clear hb2); (try clear hk); (try clear hi)))
                            go_roundg k4
                            case measure => have := HK1.out; have := HK2.out; have := HK3.out; have := HK4.out; omega
                            case rel => exact ⟨(x7_4), (wrap64 (x11_4 + 1)), (by first | rfl | (simp; done) | (simp [*]; done)), H', ⟨by have := HK1.out; have := HK2.out; have := HK3.out; have := HK4.out; omega⟩, ⟨by (with_reducible repeat (first | apply Kd.S_alloc | apply Kd.S_drewN | apply Kd.S_drew)); exact Kd.S_mono HO_7.out (fun _ hk => trivial)⟩, ⟨by repeat (first | (with_reducible first | exact HB.out | apply below_alloc | apply pw_below_drewN | apply below_drew1) | exact HB.out)⟩⟩
                        · rw [if_neg c9] at H
                          have c9b0 : decide ((wrap64 (x19_2 + x11_4)) ≤ a1) = false := decide_eq_false c9
                          clear c9
                          have H' := Aside0.mk H
                          clear H
                          go_wp2
                          go_roundg k4
                          case measure => have := HK1.out; have := HK2.out; have := HK3.out; have := HK4.out; omega
                          case rel => exact ⟨(x7_4), (wrap64 (x10_3 + 1)), (by first | rfl | (simp; done) | (simp [*]; done)), H', ⟨by have := HK1.out; have := HK2.out; have := HK3.out; have := HK4.out; omega⟩, ⟨by (with_reducible repeat (first | apply Kd.S_alloc | apply Kd.S_drewN | apply Kd.S_drew)); exact HO_7.out⟩, ⟨by repeat (first | (with_reducible first | exact HB.out | apply below_alloc | apply pw_below_drewN | apply below_drew1) | exact HB.out)⟩⟩
                  · rw [if_neg c8] at H
                    have c8b0 : decide ((wrap64 (x15_1 + x10_3)) ≤ a0) = false := decide_eq_false c8
                    clear c8
                    have H' := Aside0.mk H
                    clear H
                    go_wp2
                    go_roundg k3
                    case measure => have := HK1.out; have := HK2.out; have := HK3.out; omega
                    case rel => exact ⟨(x7_3), (wrap64 (x19_2 + 1)), (by first | rfl | (simp; done) | (simp [*]; done)), H', ⟨by have := HK1.out; have := HK2.out; have := HK3.out; omega⟩, ⟨by (with_reducible repeat (first | apply Kd.S_alloc | apply Kd.S_drewN | apply Kd.S_drew)); exact HO_7.out⟩, ⟨by repeat (first | (with_reducible first | exact HB.out | apply below_alloc | apply pw_below_drewN | apply below_drew1) | exact HB.out)⟩⟩
            · rw [if_neg c7] at H
              have c7b0 : decide (x19_2 < a1) = false := decide_eq_false c7
              clear c7
              have H' := Aside0.mk H
              clear H
              go_wp2
              go_roundg k2
              case measure => have := HK1.out; have := HK2.out; omega
              case rel => exact ⟨(x7_2), (wrap64 (x15_1 + 1)), (by first | rfl | (simp; done) | (simp [*]; done)), H', ⟨by have := HK1.out; have := HK2.out; omega⟩, ⟨by (with_reducible repeat (first | apply Kd.S_alloc | apply Kd.S_drewN | apply Kd.S_drew)); exact HO_7.out⟩, ⟨by repeat (first | (with_reducible first | exact HB.out | apply below_alloc | apply pw_below_drewN | apply below_drew1) | exact HB.out)⟩⟩
      · rw [if_neg c6] at H
        have c6b0 : decide (x15_1 < a0) = false := decide_eq_false c6
        clear c6
        obtain rfl := Option.some.inj H
        go_wp2
        go_ret
        exact ⟨_, by first | rfl | (simp [errW_none, errW_some] <;> rfl) | (simp [*, errW_none, errW_some] <;> rfl), by (with_reducible repeat (first | apply Kd.S_alloc | apply Kd.S_drewN | apply Kd.S_drew)); exact HO_7.out, by repeat (first | (with_reducible first | exact HB.out | apply below_alloc | apply pw_below_drewN | apply below_drew1) | exact HB.out)⟩
end Go.Proofs.Ytoildabjnioafaa.PA
-- Written for this claim by a program of this session's (ownprint.py), by way of the kit's print and hand-proved texts. Lean checks it.
namespace Go.Proofs.Ytoildabjnioafaa.PA
open Go.RowKit Go.Proofs.YtoildabjnioafaaW.PrintWords Go.Proofs.YtoildabjnioafaaW.PrintLast Go.Proofs.YtoildabjnioafaaW.PrintMore
attribute [local go_sem] max2_int min2_int max_two min_two max_three min_three max_four min_four   -- for this text's walks alone
set_option linter.unusedVariables false
set_option linter.unusedSimpArgs false
def impl_CountClear.f (k : Nat) (a0 : Int) (a1 : Int) (a2 : Int) : Option (Int) := (impl_ShapeOk.f a0 a1 a2).bind fun t241 => (if t241 = true then ((impl_clearWindows.f k a0 a1 a2).bind fun t242 => (some (t242.length : Int))) else (some (-1)))
set_option maxHeartbeats 8000000 in
set_option maxRecDepth 100000 in
theorem impl_CountClear.calls (k : Nat) (a0 : Int) (a1 : Int) (a2 : Int) (r : Int) (w : World) (h : impl_CountClear.f k a0 a1 a2 = some r) :
    Calls Try.prog 29 #[.int .i64 a0, .int .i64 a1, .int .i64 a2] w fun e w' => e = .returned (.int .i64 r) ∧ Below w.heap.size w w' := by
  have HB := Aside0.mk (Below.refl w.heap.size w)
  have H : ((impl_ShapeOk.f a0 a1 a2).bind fun t241 => (if t241 = true then ((impl_clearWindows.f k a0 a1 a2).bind fun t242 => (some (t242.length : Int))) else (some (-1)))) = some r := h
  clear h
  replace H := Option.bind_eq_some_iff.mp H
  obtain ⟨t241, A40, H⟩ := H
  replace H : (if t241 = true then ((impl_clearWindows.f k a0 a1 a2).bind fun t242 => (some (t242.length : Int))) else (some (-1))) = some r := H
  have A4 := Aside0.mk A40
  clear A40
  by_cases c5 : t241 = true
  · subst c5
    have H1 : ((impl_clearWindows.f k a0 a1 a2).bind fun t242 => (some (t242.length : Int))) = some r := by rw [if_pos rfl] at H; exact H
    clear H
    have H := H1
    clear H1
    replace H := Option.bind_eq_some_iff.mp H
    obtain ⟨t242, A60, H⟩ := H
    replace H : (some (t242.length : Int)) = some r := H
    have A6 := Aside0.mk A60
    clear A60
    obtain rfl := Option.some.inj H
    go_enter Try.func29, Try.ntmps29
    go_wp2_with (first | ((with_reducible refine gate_callee (f := 48) rfl ?_); refine goesL_ (some 10) rfl rfl Try.func48 (by kernel_rfl) rfl #[.int .i64 a0, .int .i64 a1, .int .i64 a2] rfl (by (try simp only [List.map_toArray, List.map_cons, List.map_nil]); first | done | rfl | (simp only [List.length_drop, List.length_take]; rfl)) ?_; (with_reducible refine (impl_ShapeOk.calls a0 a1 a2 true _ A4.out).mono ?_); rintro e w' ⟨rfl, ⟨nd, rfl⟩⟩; refine ⟨_, rfl, ?_⟩) | ((with_reducible refine gate_callee (f := 54) rfl ?_); refine goesL_ (some 15) rfl rfl Try.func54 (by kernel_rfl) rfl #[.int .i64 a0, .int .i64 a1, .int .i64 a2] rfl (by (try simp only [List.map_toArray, List.map_cons, List.map_nil]); first | done | rfl | (simp only [List.length_drop, List.length_take]; rfl)) ?_; (with_reducible refine (impl_clearWindows.calls k a0 a1 a2 t242 _ A6.out).mono ?_); rintro e w7 ⟨v243, rfl, ho0, hb⟩; refine ⟨_, rfl, ?_⟩; have n0_ := Aside0.mk (Kd.S_lower ho0 (below_size (by repeat (first | (with_reducible first | exact HB.out | apply below_alloc | apply pw_below_drewN | apply below_drew1) | exact HB.out)))); have n1_ := Aside0.mk (below_step (by repeat (first | (with_reducible first | exact HB.out | apply below_alloc | apply pw_below_drewN | apply below_drew1) | exact HB.out)) hb); clear HB; have HO244 := n0_; have HB := n1_; clear n0_ n1_; (try clear hb); (try clear hb2); (try clear hk); (try clear hi); (try clear ho0); obtain ⟨Ao8, co8, eo8⟩ := Kd.S_slice HO244.out; subst eo8))
    go_ret
    exact ⟨by first | rfl | (simp [errW_none, errW_some] <;> rfl) | (simp [*, errW_none, errW_some] <;> rfl), by repeat (first | (with_reducible first | exact HB.out | apply below_alloc | apply pw_below_drewN | apply below_drew1) | exact HB.out)⟩
  · replace c5 := Bool.eq_false_iff.mpr c5
    subst c5
    have H1 : (some (-1)) = some r := by rw [if_neg (show ¬ (false = true) by decide)] at H; exact H
    clear H
    have H := H1
    clear H1
    obtain rfl := Option.some.inj H
    go_enter Try.func29, Try.ntmps29
    go_wp2_with (first | ((with_reducible refine gate_callee (f := 48) rfl ?_); refine goesL_ (some 10) rfl rfl Try.func48 (by kernel_rfl) rfl #[.int .i64 a0, .int .i64 a1, .int .i64 a2] rfl (by (try simp only [List.map_toArray, List.map_cons, List.map_nil]); first | done | rfl | (simp only [List.length_drop, List.length_take]; rfl)) ?_; (with_reducible refine (impl_ShapeOk.calls a0 a1 a2 false _ A4.out).mono ?_); rintro e w' ⟨rfl, ⟨nd, rfl⟩⟩; refine ⟨_, rfl, ?_⟩))
    go_ret
    exact ⟨by first | rfl | (simp [errW_none, errW_some] <;> rfl) | (simp [*, errW_none, errW_some] <;> rfl), by repeat (first | (with_reducible first | exact HB.out | apply below_alloc | apply pw_below_drewN | apply below_drew1) | exact HB.out)⟩
end Go.Proofs.Ytoildabjnioafaa.PA
-- Written for this claim by a program of this session's (ownprint.py), by way of the kit's print and hand-proved texts. Lean checks it.
namespace Go.Proofs.Ytoildabjnioafaa.PA
open Go.RowKit Go.Proofs.YtoildabjnioafaaW.PrintWords Go.Proofs.YtoildabjnioafaaW.PrintLast Go.Proofs.YtoildabjnioafaaW.PrintMore
attribute [local go_sem] max2_int min2_int max_two min_two max_three min_three max_four min_four   -- for this text's walks alone
set_option linter.unusedVariables false
set_option linter.unusedSimpArgs false
def cutRows (a0 a1 : Int) (l : List Int) : List (List Int) := [[0, 0, a0, rd l 1], [0, rd l 1, rd l 0, rd l 3], [wrap64 (rd l 0 + rd l 2), rd l 1, wrap64 (wrap64 (a0 - rd l 0) - rd l 2), rd l 3], [0, wrap64 (rd l 1 + rd l 3), a0, wrap64 (wrap64 (a1 - rd l 1) - rd l 3)]]
def cutGood (r : List Int) : Bool := decide (rd r 2 > 0) && decide (rd r 3 > 0)
def impl_CutCloth.f (a0 : Int) (a1 : Int) (l2 : List Int) : Option (List (List Int)) := (impl_WindowOk.f a0 a1 l2).bind fun t => (if t = true then (if 3 < l2.length then some ((cutRows a0 a1 l2).filter cutGood) else none) else (some ([] : List (List Int))))
theorem six_blocks (w : World) (o0 o1 o2 o3 o4 o5 : Obj) : Below w.heap.size w ((((((w.alloc o0).alloc o1).alloc o2).alloc o3).alloc o4).alloc o5) ∧ ((((((w.alloc o0).alloc o1).alloc o2).alloc o3).alloc o4).alloc o5).heap.size = w.heap.size + 6 ∧
    ((((((w.alloc o0).alloc o1).alloc o2).alloc o3).alloc o4).alloc o5).heap[w.heap.size]? = some o0 ∧ ((((((w.alloc o0).alloc o1).alloc o2).alloc o3).alloc o4).alloc o5).heap[w.heap.size + 1]? = some o1 ∧ ((((((w.alloc o0).alloc o1).alloc o2).alloc o3).alloc o4).alloc o5).heap[w.heap.size + 2]? = some o2 ∧
    ((((((w.alloc o0).alloc o1).alloc o2).alloc o3).alloc o4).alloc o5).heap[w.heap.size + 3]? = some o3 ∧ ((((((w.alloc o0).alloc o1).alloc o2).alloc o3).alloc o4).alloc o5).heap[w.heap.size + 4]? = some o4 ∧ ((((((w.alloc o0).alloc o1).alloc o2).alloc o3).alloc o4).alloc o5).heap[w.heap.size + 5]? = some o5 := by
  have n : ∀ (W : World) (o : Obj) (k : Nat), W.heap.size = k → (W.alloc o).heap[k]? = some o := fun W o k hk => by subst hk; simpa using heap_alloc_new W o
  have s1 : (w.alloc o0).heap.size = w.heap.size + 1 := by simp
  have s2 : ((w.alloc o0).alloc o1).heap.size = w.heap.size + 2 := by simp
  have s3 : (((w.alloc o0).alloc o1).alloc o2).heap.size = w.heap.size + 3 := by simp
  have s4 : ((((w.alloc o0).alloc o1).alloc o2).alloc o3).heap.size = w.heap.size + 4 := by simp
  have s5 : (((((w.alloc o0).alloc o1).alloc o2).alloc o3).alloc o4).heap.size = w.heap.size + 5 := by simp
  exact ⟨below_alloc (below_alloc (below_alloc (below_alloc (below_alloc (below_alloc (Below.refl _ _) _) _) _) _) _) _, by simp, blk_alloc (blk_alloc (blk_alloc (blk_alloc (blk_alloc (n w o0 _ rfl) _) _) _) _) _, blk_alloc (blk_alloc (blk_alloc (blk_alloc (n _ o1 _ s1) _) _) _) _, blk_alloc (blk_alloc (blk_alloc (n _ o2 _ s2) _) _) _, blk_alloc (blk_alloc (n _ o3 _ s3) _) _, blk_alloc (n _ o4 _ s4) _, n _ o5 _ s5⟩
theorem row_of_block {W : World} {base g : Nat} {xs : List Int} (hb : W.heap[g]? = some (.cells (xs.map (Value.int .i64)).toArray 3 (0, 0))) (hg : base ≤ g) (hl : xs.length ≤ 9223372036854775807) : Kd.R (Kd.int .i64) 3 W base (fun k_ => k_ = g) (.slice (some ⟨g, 0, none⟩) xs.length xs.length) xs :=
  ⟨fun k hk => by simp [Value.ownBlock] at hk; exact hk.symm, xs.map (Value.int .i64), ⟨by simp [Kd.int, Kd.scalar], .inr ⟨g, xs.length, _, rfl, hg, hb, Nat.le_refl _, hl, by simp [Kd.int, Kd.scalar], by simp [Kd.int, Kd.scalar, List.take_of_length_le]⟩⟩, Kd.reps_scalar _⟩
structure CutInv (w w' : World) (B : Nat) (R4 : List (List Int)) (v : Value) (i : Nat) : Prop where
  hS : Kd.S (Kd.slice 3 (Kd.int .i64)) 29 w' w.heap.size (fun k => (∀ j, i ≤ j → j < 4 → k ≠ B + 1 + j) ∧ k ≠ B + 5) v ((R4.take i).filter cutGood)
  rows : ∀ j, i ≤ j → j < 4 → w'.heap[B + 1 + j]? = some (.cells ((R4.getD j []).map (Value.int .i64)).toArray 3 (0, 0))
  lit : w'.heap[B + 5]? = some (.cells #[.slice (some ⟨B + 1, 0, none⟩) 4 4, .slice (some ⟨B + 1 + 1, 0, none⟩) 4 4, .slice (some ⟨B + 1 + 1 + 1, 0, none⟩) 4 4, .slice (some ⟨B + 1 + 1 + 1 + 1, 0, none⟩) 4 4] 29 (0, 0))
  below : Below w.heap.size w w'
  base : w.heap.size ≤ B
  big : B + 6 ≤ w'.heap.size
set_option maxHeartbeats 4000000 in
set_option maxRecDepth 100000 in
theorem impl_CutCloth.calls (a0 : Int) (a1 : Int) (A2 : Option Addr) (c2 : Nat) (l2 : List Int) (r : List (List Int)) (w : World) (hr2 : Kd.C (Kd.int .i64) w A2 l2.length l2) (hc2 : l2.length ≤ c2) (h : impl_CutCloth.f a0 a1 l2 = some r) :
    Calls Try.prog 31 #[.int .i64 a0, .int .i64 a1, .slice A2 l2.length c2] w fun e w' => ∃ v0_ : Value, e = .returned (v0_) ∧ Kd.S (Kd.slice 3 (Kd.int .i64)) 29 w' w.heap.size (fun _ => True) v0_ r ∧ Below w.heap.size w w' := by
  have HR2 := Aside0.mk hr2
  have HC2 := Aside0.mk hc2
  clear hr2 hc2
  unfold impl_CutCloth.f at h
  obtain ⟨t, ht, h⟩ := Option.bind_eq_some_iff.1 h
  have HT := Aside0.mk ht
  clear ht
  by_cases c : t = true
  case neg =>
    rw [if_neg c] at h
    obtain rfl : t = false := by simpa using c
    obtain rfl := Option.some.inj h
    clear c h
    go_enter Try.func31, Try.ntmps31
    go_wp2_with fail
    refine (impl_WindowOk.calls a0 a1 _ _ l2 false _ HR2.out HC2.out HT.out).mono ?_
    rintro e w1 ⟨rfl, hb⟩
    have HB := Aside0.mk hb
    clear hb
    go_wp2
    go_ret
    exact ⟨_, rfl, Kd.S_nil _ _ _ _ _, HB.out⟩
  rw [if_pos c] at h
  subst c
  by_cases c3 : 3 < l2.length
  case neg => rw [if_neg c3] at h; cases h
  rw [if_pos c3] at h
  have H := Aside0.mk (Option.some.inj h)
  clear h
  obtain ⟨x, hx⟩ : ∃ x, x = rd l2 0 := ⟨_, rfl⟩
  obtain ⟨y, hy⟩ : ∃ y, y = rd l2 1 := ⟨_, rfl⟩
  obtain ⟨v, hv⟩ : ∃ v, v = rd l2 2 := ⟨_, rfl⟩
  obtain ⟨u, hu⟩ : ∃ u, u = rd l2 3 := ⟨_, rfl⟩
  obtain ⟨ad, rfl, k0⟩ := Kd.at_int HR2.out 0 (by omega) (by omega)
  obtain ⟨ad1, e1, k1⟩ := Kd.at_int HR2.out 1 (by omega) (by omega)
  obtain rfl : ad = ad1 := by injection e1
  obtain ⟨ad2, e2, k2⟩ := Kd.at_int HR2.out 2 (by omega) (by omega)
  obtain rfl : ad = ad2 := by injection e2
  obtain ⟨ad3, e3, k3⟩ := Kd.at_int HR2.out 3 (by omega) (by omega)
  obtain rfl : ad = ad3 := by injection e3
  clear e1 e2 e3
  rw [← hx] at k0
  rw [← hy] at k1
  rw [← hv] at k2
  rw [← hu] at k3
  simp only [show ((0 : Int)).toNat = 0 from rfl, show ((1 : Int)).toNat = 1 from rfl, show ((2 : Int)).toNat = 2 from rfl, show ((3 : Int)).toNat = 3 from rfl, Addr.add_zero', Nat.reduceMul, Nat.reduceEqDiff, Go.Addr.add, ↓reduceIte] at k0 k1 k2 k3
  have HX := Aside0.mk hx
  have HY := Aside0.mk hy
  have HV := Aside0.mk hv
  have HU := Aside0.mk hu
  have q0 : (0 < l2.length) = True := eq_true (by omega)
  have q1 : (1 < l2.length) = True := eq_true (by omega)
  have q2 : (2 < l2.length) = True := eq_true (by omega)
  have q3 : (3 < l2.length) = True := eq_true (by omega)
  clear hx hy hv hu
  have p0 : (0 < (l2.length : Int)) = True := eq_true (by omega)
  have p1 : (1 < (l2.length : Int)) = True := eq_true (by omega)
  have p2 : (2 < (l2.length : Int)) = True := eq_true (by omega)
  have p3 : (3 < (l2.length : Int)) = True := eq_true (by omega)
  have C3 := Aside0.mk c3
  clear c3
  go_enter Try.func31, Try.ntmps31
  go_wp2_with fail
  refine (impl_WindowOk.calls a0 a1 _ _ l2 true _ HR2.out HC2.out HT.out).mono ?_
  rintro e w1 ⟨rfl, hb⟩
  have z0 := hb.cell (World.block_lt_of_cell? w _ k0)
  have z1 := hb.cell (World.block_lt_of_cell? w _ k1)
  have z2 := hb.cell (World.block_lt_of_cell? w _ k2)
  have z3 := hb.cell (World.block_lt_of_cell? w _ k3)
  rw [k0] at z0
  rw [k1] at z1
  rw [k2] at z2
  rw [k3] at z3
  have HB := Aside0.mk hb
  clear hb k0 k1 k2 k3
  go_wp2
  go_quiet (fail)
  go_wp2
  obtain ⟨R4, hR4⟩ : ∃ z, z = cutRows a0 a1 l2 := ⟨_, rfl⟩
  have HR4 : Aside0 (R4 = [[0, 0, a0, y], [0, y, x, u], [wrap64 (x + v), y, wrap64 (wrap64 (a0 - x) - v), u], [0, wrap64 (y + u), a0, wrap64 (wrap64 (a1 - y) - u)]]) := ⟨by rw [hR4, HX.out, HY.out, HV.out, HU.out]; rfl⟩
  have HF : Aside0 (R4.filter cutGood = r) := ⟨by rw [hR4]; exact H.out⟩
  have HL : Aside0 (R4.length = 4 ∧ ∀ j, j < 4 → (R4.getD j []).length = 4) := ⟨by rw [HR4.out]; exact ⟨rfl, fun j hj => by rcases (show j = 0 ∨ j = 1 ∨ j = 2 ∨ j = 3 by omega) with rfl | rfl | rfl | rfl <;> rfl⟩⟩
  clear hR4 H
  go_loopg [11, 62] 4 (fun gg v11 v62 w' => ∃ (i : Nat), v62 = .int .i64 i ∧ i ≤ 4 ∧ 4 - i ≤ gg ∧ Aside0 (CutInv w w' w1.heap.size R4 v11 i))
  case atStart =>
    refine ⟨0, rfl, by omega, by omega, ⟨?_⟩⟩
    obtain ⟨s0, s1, b0, b1, b2, b3, b4, b5⟩ := six_blocks (w1.drewN nq) (Obj.cells #[] 29) (Obj.cells #[Value.int .i64 0, Value.int .i64 0, Value.int .i64 a0, Value.int .i64 y] 3) (Obj.cells #[Value.int .i64 0, Value.int .i64 y, Value.int .i64 x, Value.int .i64 u] 3) (Obj.cells #[Value.int .i64 (wrap64 (x + v)), Value.int .i64 y, Value.int .i64 (wrap64 (wrap64 (a0 - x) - v)), Value.int .i64 u] 3) (Obj.cells #[Value.int .i64 0, Value.int .i64 (wrap64 (y + u)), Value.int .i64 a0, Value.int .i64 (wrap64 (wrap64 (a1 - y) - u))] 3) (Obj.cells #[.slice (some ⟨w1.heap.size + 1, 0, none⟩) 4 4, .slice (some ⟨w1.heap.size + 1 + 1, 0, none⟩) 4 4, .slice (some ⟨w1.heap.size + 1 + 1 + 1, 0, none⟩) 4 4, .slice (some ⟨w1.heap.size + 1 + 1 + 1 + 1, 0, none⟩) 4 4] 29)
    have sz : (w1.drewN nq).heap.size = w1.heap.size := rfl
    rw [sz] at s0 s1 b0 b1 b2 b3 b4 b5
    refine ⟨?_, ?_, b5, below_then HB.out HB.out.size (below_then (pw_below_drewN (Below.refl _ _) nq) (Nat.le_refl _) s0), HB.out.size, by omega⟩
    · refine Kd.S_mono (Kd.S_bare ⟨fun k hk => ?_, [], ⟨rfl, .inr ⟨w1.heap.size, 0, #[], rfl, HB.out.size, b0, Nat.le_refl _, by decide, rfl, rfl⟩⟩, Reps.none _ _⟩) (ok := fun k => k = w1.heap.size) (fun k hk => ?_)
      · simp [Value.ownBlock] at hk
        exact hk.symm
      · subst hk
        exact ⟨fun j _ _ => by omega, by omega⟩
    · intro j _ hj
      rw [HR4.out]
      rcases (show j = 0 ∨ j = 1 ∨ j = 2 ∨ j = 3 by omega) with rfl | rfl | rfl | rfl
      · exact b1
      · exact b2
      · exact b3
      · exact b4
  case round =>
    obtain ⟨i, rfl, hi4, hg, HI⟩ := hrel
    by_cases hlt : i < 4
    · have hltz : (i : Int) < 4 := by omega
      have hk : wr.cell? ⟨w1.heap.size + 1 + 1 + 1 + 1 + 1, i, none⟩ = some (.slice (some ⟨w1.heap.size + 1 + i, 0, none⟩) 4 4) := by
        have := HI.out.lit
        rw [show w1.heap.size + 5 = w1.heap.size + 1 + 1 + 1 + 1 + 1 by omega] at this
        simp only [World.cell?, this]
        rcases (show i = 0 ∨ i = 1 ∨ i = 2 ∨ i = 3 by omega) with rfl | rfl | rfl | rfl <;> rfl
      have hrow := row_of_block (base := w.heap.size) (HI.out.rows i (Nat.le_refl _) hlt) (by have := HI.out.base; omega) (by rw [HL.out.2 i hlt]; omega)
      obtain ⟨p, hp⟩ : ∃ p, p = R4.getD i [] := ⟨_, rfl⟩
      obtain ⟨G, hG⟩ : ∃ G, G = w1.heap.size + 1 + i := ⟨_, rfl⟩
      have hpl := HL.out.2 i hlt
      rw [← hp] at hrow hpl
      rw [← hG] at hrow hk
      rw [hpl] at hrow
      have HG := Aside0.mk hG
      have HP := Aside0.mk hp
      have HPL := Aside0.mk hpl
      obtain ⟨ad2, e2, k2⟩ := Kd.at_int (Kd.R_reads' hrow).2.2 2 (by omega) (by omega)
      obtain ⟨ad3, e3, k3⟩ := Kd.at_int (Kd.R_reads' hrow).2.2 3 (by omega) (by omega)
      injection e2 with e2
      injection e3 with e3
      subst e2
      subst e3
      obtain ⟨a, ha⟩ : ∃ a, a = rd p 2 := ⟨_, rfl⟩
      obtain ⟨b, hb⟩ : ∃ b, b = rd p 3 := ⟨_, rfl⟩
      rw [← ha] at k2
      rw [← hb] at k3
      simp only [show ((2 : Int)).toNat = 2 from rfl, show ((3 : Int)).toNat = 3 from rfl, Nat.reduceMul, Nat.reduceEqDiff, Go.Addr.add, ↓reduceIte, Nat.zero_add] at k2 k3
      have HROW := Aside0.mk hrow
      have HA := Aside0.mk ha
      have HB2 := Aside0.mk hb
      clear hG hp hpl hrow ha hb
      have HT4 : Aside0 (((R4.take (i + 1)).filter cutGood) = (R4.take i).filter cutGood ++ (if cutGood p then [p] else [])) := ⟨by
        have hl4 : i < R4.length := by have := HL.out.1; omega
        have e1 : R4[i] = p := by rw [HP.out, List.getD_eq_getElem?_getD, List.getElem?_eq_getElem hl4]; rfl
        rw [List.take_succ_eq_append_getElem hl4, List.filter_append, e1]
        simp only [List.filter_cons, List.filter_nil]⟩
      have HN : Aside0 (((R4.take i).filter cutGood).length ≤ 4) := ⟨by
        have h1 := List.length_filter_le cutGood (R4.take i)
        have h2 := List.length_take_le i R4
        omega⟩
      by_cases c1 : 0 < a
      · by_cases c2 : 0 < b
        · have hgood : cutGood p = true := by unfold cutGood; rw [← HA.out, ← HB2.out]; simp [c1, c2]
          have HGD := Aside0.mk hgood
          clear hgood
          go_wp2_with (first | ((with_reducible refine gate_builtin (b := .append) (xs := #[.tmp 76, .tmp 78]) rfl ?_); at_builtin; refine Kd.S_append (Kd.slice 3 (Kd.int .i64)) (w0 := w) w.heap.size rfl (.tmp 76) (.tmp 78) 37 29 (.slice none 0 0) 24 rfl Try.underlying37 info29 rfl (by decide) (by omega) u11 ((R4.take i).filter cutGood) p [.slice (some ⟨G, 0, none⟩) 4 4] (fun k => (∀ j, i + 1 ≤ j → j < 4 → k ≠ w1.heap.size + 1 + j) ∧ k ≠ w1.heap.size + 5) (fun k_ => k_ = G) rfl rfl ?aP ?aK ?aF ?aO ?aB ?aS ?aL ?_; (case aP => exact Kd.M_row HROW.out); (case aB => exact HI.out.below); (case aK => intro k_ hk_; subst hk_; have h0 := HG.out; exact ⟨⟨fun j _ _ => by omega, by omega⟩, fun e_ => ((Kd.S_R HI.out.hS).1 _ e_.symm).1 i (Nat.le_refl _) hlt h0⟩); (case aF => intro k_ hk_; have h1 := HI.out.big; exact ⟨fun j _ _ => by omega, by omega⟩); (case aO => exact Kd.S_mono HI.out.hS (fun k_ hk_ => ⟨⟨fun j h1 h2 => hk_.1 j (by omega) h2, hk_.2⟩, fun e_ => hk_.1 i (Nat.le_refl _) hlt (by rw [e_]; exact HG.out)⟩)); (case aS => exact HI.out.below.size); (case aL => have := HN.out; omega); intro v1 w2 ho hb hgr hat; have HI2 : Aside0 (CutInv w w2 w1.heap.size R4 v1 (i + 1)) := ⟨⟨by rw [HT4.out, if_pos HGD.out]; exact ho, fun j h1 h2 => (hgr.block _ (by have := HI.out.big; omega) (fun e_ => ((Kd.S_R HI.out.hS).1 _ e_.symm).1 j (by omega) h2 rfl)).trans (HI.out.rows j (by omega) h2), (hgr.block _ (by have := HI.out.big; omega) (fun e_ => ((Kd.S_R HI.out.hS).1 _ e_.symm).2 rfl)).trans HI.out.lit, hb, HI.out.base, Nat.le_trans HI.out.big hgr.size⟩⟩; clear HI ho hb hgr hat))
          go_roundg (4 - (i + 1))
          case measure => omega
          case rel => exact ⟨i + 1, by go_num, by omega, by omega, HI2⟩
        · have hgood : cutGood p = false := by unfold cutGood; rw [← HB2.out]; simp [c2]
          have HI2 : Aside0 (CutInv w wr w1.heap.size R4 u11 (i + 1)) := ⟨⟨by rw [HT4.out, hgood, if_neg (by simp), List.append_nil]; exact Kd.S_mono HI.out.hS (fun k_ hk_ => ⟨fun j h1 h2 => hk_.1 j (by omega) h2, hk_.2⟩), fun j h1 h2 => HI.out.rows j (by omega) h2, HI.out.lit, HI.out.below, HI.out.base, HI.out.big⟩⟩
          clear hgood
          go_wp2
          go_roundg (4 - (i + 1))
          case measure => omega
          case rel => exact ⟨i + 1, by go_num, by omega, by omega, HI2⟩
      · have hgood : cutGood p = false := by unfold cutGood; rw [← HA.out]; simp [c1]
        have HI2 : Aside0 (CutInv w wr w1.heap.size R4 u11 (i + 1)) := ⟨⟨by rw [HT4.out, hgood, if_neg (by simp), List.append_nil]; exact Kd.S_mono HI.out.hS (fun k_ hk_ => ⟨fun j h1 h2 => hk_.1 j (by omega) h2, hk_.2⟩), fun j h1 h2 => HI.out.rows j (by omega) h2, HI.out.lit, HI.out.below, HI.out.base, HI.out.big⟩⟩
        clear hgood
        go_wp2
        go_roundg (4 - (i + 1))
        case measure => omega
        case rel => exact ⟨i + 1, by go_num, by omega, by omega, HI2⟩
    · have hltz : ¬ (i : Int) < 4 := by omega
      have e4 : R4.take i = R4 := List.take_of_length_le (by have := HL.out.1; omega)
      have HS := HI.out.hS
      rw [e4, HF.out] at HS
      have HS2 := Aside0.mk HS
      clear HS e4
      go_wp2
      go_ret
      exact ⟨_, rfl, Kd.S_mono HS2.out (fun _ _ => trivial), HI.out.below⟩
end Go.Proofs.Ytoildabjnioafaa.PA
-- Written for this claim by a program of this session's (ownprint.py), by way of the kit's print and hand-proved texts. Lean checks it.
namespace Go.Proofs.Ytoildabjnioafaa.PA
open Go.RowKit Go.Proofs.YtoildabjnioafaaW.PrintWords Go.Proofs.YtoildabjnioafaaW.PrintLast Go.Proofs.YtoildabjnioafaaW.PrintMore
attribute [local go_sem] max2_int min2_int max_two min_two max_three min_three max_four min_four   -- for this text's walks alone
set_option linter.unusedVariables false
set_option linter.unusedSimpArgs false
def impl_ClearFor.l0 : Nat → Int → Int → List (List Int) → Int → Int → Option (List Int × Bool)
  | 0, _, _, _, _, _ => none
  | k + 1, x3, x4, x22, x23, x24 => if x24 < x23 then (if 0 ≤ x24 then (if x24 < (x22.length : Int) then (if 2 < ((rd_L1 x22 x24).length : Int) then (if (rd (rd_L1 x22 x24) 2) = x3 then (if 3 < ((rd_L1 x22 x24).length : Int) then (if (rd (rd_L1 x22 x24) 3) = x4 then (some (rd_L1 x22 x24, true)) else (impl_ClearFor.l0 k x3 x4 x22 x23 (wrap64 (x24 + 1)))) else (none)) else (impl_ClearFor.l0 k x3 x4 x22 x23 (wrap64 (x24 + 1)))) else (none)) else (none)) else (none)) else (some (([] : List Int), false))
def impl_ClearFor.f (k : Nat) (a0 : Int) (a1 : Int) (a2 : Int) (a3 : Int) (a4 : Int) : Option (List Int × Bool) := (impl_ShapeOk.f a0 a1 a2).bind fun t310 => (if t310 = true then ((impl_clearWindows.f k a0 a1 a2).bind fun t311 => (impl_ClearFor.l0 k a3 a4 t311 (t311.length : Int) 0)) else (some (([] : List Int), false)))
set_option maxHeartbeats 8000000 in
set_option maxRecDepth 100000 in
theorem impl_ClearFor.calls (k : Nat) (a0 : Int) (a1 : Int) (a2 : Int) (a3 : Int) (a4 : Int) (r1 : List Int) (r2 : Bool) (w : World) (h : impl_ClearFor.f k a0 a1 a2 a3 a4 = some (r1, r2)) :
    Calls Try.prog 37 #[.int .i64 a0, .int .i64 a1, .int .i64 a2, .int .i64 a3, .int .i64 a4] w fun e w' => ∃ v0_ : Value, e = .returned (.tuple #[v0_, .bool r2]) ∧ Kd.R (Kd.int .i64) 3 w' w.heap.size (fun _ => True) v0_ r1 ∧ Below w.heap.size w w' := by
  have HB := Aside0.mk (Below.refl w.heap.size w)
  have H : ((impl_ShapeOk.f a0 a1 a2).bind fun t310 => (if t310 = true then ((impl_clearWindows.f k a0 a1 a2).bind fun t311 => (impl_ClearFor.l0 k a3 a4 t311 (t311.length : Int) 0)) else (some (([] : List Int), false)))) = some (r1, r2) := h
  clear h
  replace H := Option.bind_eq_some_iff.mp H
  obtain ⟨t310, A60, H⟩ := H
  replace H : (if t310 = true then ((impl_clearWindows.f k a0 a1 a2).bind fun t311 => (impl_ClearFor.l0 k a3 a4 t311 (t311.length : Int) 0)) else (some (([] : List Int), false))) = some (r1, r2) := H
  have A6 := Aside0.mk A60
  clear A60
  by_cases c7 : t310 = true
  · subst c7
    have H1 : ((impl_clearWindows.f k a0 a1 a2).bind fun t311 => (impl_ClearFor.l0 k a3 a4 t311 (t311.length : Int) 0)) = some (r1, r2) := by rw [if_pos rfl] at H; exact H
    clear H
    have H := H1
    clear H1
    replace H := Option.bind_eq_some_iff.mp H
    obtain ⟨t311, A80, H⟩ := H
    replace H : (impl_ClearFor.l0 k a3 a4 t311 (t311.length : Int) 0) = some (r1, r2) := H
    have A8 := Aside0.mk A80
    clear A80
    have H' := Aside0.mk H
    clear H
    go_enter Try.func37, Try.ntmps37
    go_wp2_with (first | ((with_reducible refine gate_callee (f := 48) rfl ?_); refine goesL_ (some 17) rfl rfl Try.func48 (by kernel_rfl) rfl #[.int .i64 a0, .int .i64 a1, .int .i64 a2] rfl (by (try simp only [List.map_toArray, List.map_cons, List.map_nil]); first | done | rfl | (simp only [List.length_drop, List.length_take]; rfl)) ?_; (with_reducible refine (impl_ShapeOk.calls a0 a1 a2 true _ A6.out).mono ?_); rintro e w' ⟨rfl, ⟨nd, rfl⟩⟩; refine ⟨_, rfl, ?_⟩) | ((with_reducible refine gate_callee (f := 54) rfl ?_); refine goesL_ (some 22) rfl rfl Try.func54 (by kernel_rfl) rfl #[.int .i64 a0, .int .i64 a1, .int .i64 a2] rfl (by (try simp only [List.map_toArray, List.map_cons, List.map_nil]); first | done | rfl | (simp only [List.length_drop, List.length_take]; rfl)) ?_; (with_reducible refine (impl_clearWindows.calls k a0 a1 a2 t311 _ A8.out).mono ?_); rintro e w9 ⟨v312, rfl, ho0, hb⟩; refine ⟨_, rfl, ?_⟩; have n0_ := Aside0.mk (Kd.S_lower ho0 (below_size (by repeat (first | (with_reducible first | exact HB.out | apply below_alloc | apply pw_below_drewN | apply below_drew1) | exact HB.out)))); have n1_ := Aside0.mk (below_step (by repeat (first | (with_reducible first | exact HB.out | apply below_alloc | apply pw_below_drewN | apply below_drew1) | exact HB.out)) hb); clear HB; have HO313 := n0_; have HB := n1_; clear n0_ n1_; (try clear hb); (try clear hb2); (try clear hk); (try clear hi); (try clear ho0); obtain ⟨Ao10, co10, eo10⟩ := Kd.S_slice HO313.out; subst eo10))
    go_loopg [24] k (fun kq v24 w' => ∃ (x24_1 : Int), v24 = .int .i64 x24_1 ∧ Aside0 (impl_ClearFor.l0 kq a3 a4 t311 (t311.length : Int) x24_1 = some (r1, r2)) ∧ Aside0 (kq ≤ k) ∧ Aside0 (Kd.S (Kd.slice 3 (Kd.int .i64)) 29 w' w.heap.size (fun _ => True) (.slice Ao10 t311.length co10) t311) ∧ Aside0 (Below w.heap.size w w'))
    case atStart => exact ⟨(0), (by first | rfl | (simp; done) | (simp [*]; done)), H', ⟨Nat.le_refl _⟩, ⟨by (with_reducible repeat (first | apply Kd.S_alloc | apply Kd.S_drewN | apply Kd.S_drew)); exact HO313.out⟩, ⟨by repeat (first | (with_reducible first | exact HB.out | apply below_alloc | apply pw_below_drewN | apply below_drew1) | exact HB.out)⟩⟩
    case round =>
      clear H'
      try clear p2
      try clear c3
      try clear c4
      try clear c5
      try clear c7
      obtain ⟨x24_1, rfl, HA, HK1, HO_22, HB⟩ := hrel
      cases gk with
      | zero => exact absurd HA.out (by simp [impl_ClearFor.l0])
      | succ k1 =>
        have H := HA.out
        clear HA
        simp only [impl_ClearFor.l0] at H
        by_cases c11 : x24_1 < (t311.length : Int)
        · rw [if_pos c11] at H
          have c11b0 : decide (x24_1 < (t311.length : Int)) = true := decide_eq_true c11
          clear c11
          by_cases c12 : 0 ≤ x24_1
          · rw [if_pos c12] at H
            have c12b0 : decide (0 ≤ x24_1) = true := decide_eq_true c12
            clear c12
            by_cases c13 : x24_1 < (t311.length : Int)
            · rw [if_pos c13] at H
              have c13b0 : decide (x24_1 < (t311.length : Int)) = true := decide_eq_true c13
              clear c13
              by_cases c14 : 2 < ((rd_L1 t311 x24_1).length : Int)
              · rw [if_pos c14] at H
                have c14b0 : decide (2 < ((rd_L1 t311 x24_1).length : Int)) = true := decide_eq_true c14
                have c14b1 : decide (2 < (rd_L1 t311 x24_1).length) = true := decide_eq_true (by omega)
                clear c14
                by_cases c15 : (rd (rd_L1 t311 x24_1) 2) = a3
                · rw [if_pos c15] at H
                  have c15b0 : ((rd (rd_L1 t311 x24_1) 2) == a3) = true := beq_iff_eq.mpr c15
                  have c15b1 : ((rd (rd_L1 t311 x24_1) 2) != a3) = false := bne_eq_false_iff_eq.mpr c15
                  clear c15
                  by_cases c16 : 3 < ((rd_L1 t311 x24_1).length : Int)
                  · rw [if_pos c16] at H
                    have c16b0 : decide (3 < ((rd_L1 t311 x24_1).length : Int)) = true := decide_eq_true c16
                    have c16b1 : decide (3 < (rd_L1 t311 x24_1).length) = true := decide_eq_true (by omega)
                    clear c16
                    by_cases c17 : (rd (rd_L1 t311 x24_1) 3) = a4
                    · rw [if_pos c17] at H
                      have c17b0 : ((rd (rd_L1 t311 x24_1) 3) == a4) = true := beq_iff_eq.mpr c17
                      have c17b1 : ((rd (rd_L1 t311 x24_1) 3) != a4) = false := bne_eq_false_iff_eq.mpr c17
                      clear c17
                      simp only [Option.some.injEq, Prod.mk.injEq] at H
                      obtain ⟨rfl, rfl⟩ := H
                      have p314 : 0 ≤ (x24_1 : Int) := of_decide_eq_true (by first | (with_reducible assumption) | assumption)
                      have q314 : x24_1 < (t311.length : Int) := of_decide_eq_true (by first | (with_reducible assumption) | assumption)
                      obtain ⟨ad314, A314_0, c314_0, e314, hx314_0, hl314_0, hi314_0⟩ := at_L1 (Kd.S_reads' HO_22.out).2.2 x24_1 p314 q314
                      cases e314
                      obtain ⟨ce314, hce314, hMe314, hcc314⟩ := Kd.S_get HO_22.out [] x24_1 p314 (by first | exact q314 | exact of_decide_eq_true (by first | (with_reducible assumption) | assumption) | (have e_ := (Kd.S_reads' HO_22.out).1; omega))
                      obtain ⟨ve314_0, rfl, ge314_0⟩ := hMe314
                      have hv314_0 := hcc314 0 _ rfl
                      rw [Nat.add_zero, show ((Kd.slice 3 (Kd.int .i64))).sz = 1 from rfl, Nat.mul_one] at hv314_0
                      replace hv314_0 := Option.some.inj (hv314_0.symm.trans hx314_0)
                      rw [hv314_0] at ge314_0
                      have HL314_0 := Aside0.mk (show Kd.R (Kd.int .i64) 3 _ _ _ _ (rd_L1 t311 x24_1) from ge314_0)
                      clear hv314_0 ge314_0
                      clear hcc314 hce314
                      have HR314_0 := Aside0.mk hi314_0
                      have HC314_0 := Aside0.mk hl314_0
                      clear hi314_0 hl314_0
                      replace p314 := eq_true p314
                      replace q314 := eq_true q314
                      have p315 : 0 ≤ (2 : Int) := (by omega)
                      have q315 : 2 < ((rd_L1 t311 x24_1).length : Int) := of_decide_eq_true (by first | (with_reducible assumption) | assumption)
                      obtain ⟨ad315, e315, hx315_0⟩ := Kd.at_int (by repeat (first | (with_reducible exact HR314_0.out) | (with_reducible refine Kd.C_alloc ?_ _) | (with_reducible refine Kd.C_drewN ?_ _) | (with_reducible refine Kd.C_drew ?_) | exact HR314_0.out)) 2 p315 q315
                      cases e315
                      (try simp only [show (2 : Int).toNat = 2 from rfl, Nat.reduceMul, Nat.reduceEqDiff, Go.Addr.add, ↓reduceIte] at hx315_0)
                      have qi315 : (2 < (rd_L1 t311 x24_1).length) = True := eq_true (by omega)
                      (try rw [show ((2 : Int)).toNat = 2 from rfl] at hx315_0)
                      replace p315 := eq_true p315
                      replace q315 := eq_true q315
                      have p316 : 0 ≤ (3 : Int) := (by omega)
                      have q316 : 3 < ((rd_L1 t311 x24_1).length : Int) := of_decide_eq_true (by first | (with_reducible assumption) | assumption)
                      obtain ⟨ad316, e316, hx316_0⟩ := Kd.at_int (by repeat (first | (with_reducible exact HR314_0.out) | (with_reducible refine Kd.C_alloc ?_ _) | (with_reducible refine Kd.C_drewN ?_ _) | (with_reducible refine Kd.C_drew ?_) | exact HR314_0.out)) 3 p316 q316
                      obtain rfl : ad315 = ad316 := (by injection e316)
                      (try simp only [show (3 : Int).toNat = 3 from rfl, Nat.reduceMul, Nat.reduceEqDiff, Go.Addr.add, ↓reduceIte] at hx316_0)
                      have qi316 : (3 < (rd_L1 t311 x24_1).length) = True := eq_true (by omega)
                      (try rw [show ((3 : Int)).toNat = 3 from rfl] at hx316_0)
                      replace p316 := eq_true p316
                      replace q316 := eq_true q316
                      go_wp2
                      go_ret2
                      exact ⟨_, by first | rfl | (simp [errW_none, errW_some] <;> rfl) | (simp [*, errW_none, errW_some] <;> rfl), by (with_reducible repeat (first | apply Kd.R_alloc | apply Kd.R_drewN | apply Kd.R_drew)); exact Kd.R_mono HL314_0.out (fun _ hk => trivial), by repeat (first | (with_reducible first | exact HB.out | apply below_alloc | apply pw_below_drewN | apply below_drew1) | exact HB.out)⟩
                    · rw [if_neg c17] at H
                      have c17b0 : ((rd (rd_L1 t311 x24_1) 3) == a4) = false := beq_eq_false_iff_ne.mpr c17
                      have c17b1 : ((rd (rd_L1 t311 x24_1) 3) != a4) = true := bne_iff_ne.mpr c17
                      have H' := Aside0.mk H
                      clear H
                      have p314 : 0 ≤ (x24_1 : Int) := of_decide_eq_true (by first | (with_reducible assumption) | assumption)
                      have q314 : x24_1 < (t311.length : Int) := of_decide_eq_true (by first | (with_reducible assumption) | assumption)
                      obtain ⟨ad314, A314_0, c314_0, e314, hx314_0, hl314_0, hi314_0⟩ := at_L1 (Kd.S_reads' HO_22.out).2.2 x24_1 p314 q314
                      cases e314
                      obtain ⟨ce314, hce314, hMe314, hcc314⟩ := Kd.S_get HO_22.out [] x24_1 p314 (by first | exact q314 | exact of_decide_eq_true (by first | (with_reducible assumption) | assumption) | (have e_ := (Kd.S_reads' HO_22.out).1; omega))
                      obtain ⟨ve314_0, rfl, ge314_0⟩ := hMe314
                      have hv314_0 := hcc314 0 _ rfl
                      rw [Nat.add_zero, show ((Kd.slice 3 (Kd.int .i64))).sz = 1 from rfl, Nat.mul_one] at hv314_0
                      replace hv314_0 := Option.some.inj (hv314_0.symm.trans hx314_0)
                      rw [hv314_0] at ge314_0
                      have HL314_0 := Aside0.mk (show Kd.R (Kd.int .i64) 3 _ _ _ _ (rd_L1 t311 x24_1) from ge314_0)
                      clear hv314_0 ge314_0
                      clear hcc314 hce314
                      have HR314_0 := Aside0.mk hi314_0
                      have HC314_0 := Aside0.mk hl314_0
                      clear hi314_0 hl314_0
                      replace p314 := eq_true p314
                      replace q314 := eq_true q314
                      have p315 : 0 ≤ (2 : Int) := (by omega)
                      have q315 : 2 < ((rd_L1 t311 x24_1).length : Int) := of_decide_eq_true (by first | (with_reducible assumption) | assumption)
                      obtain ⟨ad315, e315, hx315_0⟩ := Kd.at_int (by repeat (first | (with_reducible exact HR314_0.out) | (with_reducible refine Kd.C_alloc ?_ _) | (with_reducible refine Kd.C_drewN ?_ _) | (with_reducible refine Kd.C_drew ?_) | exact HR314_0.out)) 2 p315 q315
                      cases e315
                      (try simp only [show (2 : Int).toNat = 2 from rfl, Nat.reduceMul, Nat.reduceEqDiff, Go.Addr.add, ↓reduceIte] at hx315_0)
                      have qi315 : (2 < (rd_L1 t311 x24_1).length) = True := eq_true (by omega)
                      (try rw [show ((2 : Int)).toNat = 2 from rfl] at hx315_0)
                      replace p315 := eq_true p315
                      replace q315 := eq_true q315
                      have p316 : 0 ≤ (3 : Int) := (by omega)
                      have q316 : 3 < ((rd_L1 t311 x24_1).length : Int) := of_decide_eq_true (by first | (with_reducible assumption) | assumption)
                      obtain ⟨ad316, e316, hx316_0⟩ := Kd.at_int (by repeat (first | (with_reducible exact HR314_0.out) | (with_reducible refine Kd.C_alloc ?_ _) | (with_reducible refine Kd.C_drewN ?_ _) | (with_reducible refine Kd.C_drew ?_) | exact HR314_0.out)) 3 p316 q316
                      obtain rfl : ad315 = ad316 := (by injection e316)
                      (try simp only [show (3 : Int).toNat = 3 from rfl, Nat.reduceMul, Nat.reduceEqDiff, Go.Addr.add, ↓reduceIte] at hx316_0)
                      have qi316 : (3 < (rd_L1 t311 x24_1).length) = True := eq_true (by omega)
                      (try rw [show ((3 : Int)).toNat = 3 from rfl] at hx316_0)
                      replace p316 := eq_true p316
                      replace q316 := eq_true q316
                      go_wp2
                      go_roundg k1
                      case measure => have := HK1.out; omega
                      case rel => exact ⟨(wrap64 (x24_1 + 1)), (by first | rfl | (simp; done) | (simp [*]; done)), H', ⟨by have := HK1.out; omega⟩, ⟨by (with_reducible repeat (first | apply Kd.S_alloc | apply Kd.S_drewN | apply Kd.S_drew)); exact HO_22.out⟩, ⟨by repeat (first | (with_reducible first | exact HB.out | apply below_alloc | apply pw_below_drewN | apply below_drew1) | exact HB.out)⟩⟩
                  · rw [if_neg c16] at H
                    exact absurd H (by simp)
                · rw [if_neg c15] at H
                  have c15b0 : ((rd (rd_L1 t311 x24_1) 2) == a3) = false := beq_eq_false_iff_ne.mpr c15
                  have c15b1 : ((rd (rd_L1 t311 x24_1) 2) != a3) = true := bne_iff_ne.mpr c15
                  have H' := Aside0.mk H
                  clear H
                  have p314 : 0 ≤ (x24_1 : Int) := of_decide_eq_true (by first | (with_reducible assumption) | assumption)
                  have q314 : x24_1 < (t311.length : Int) := of_decide_eq_true (by first | (with_reducible assumption) | assumption)
                  obtain ⟨ad314, A314_0, c314_0, e314, hx314_0, hl314_0, hi314_0⟩ := at_L1 (Kd.S_reads' HO_22.out).2.2 x24_1 p314 q314
                  cases e314
                  obtain ⟨ce314, hce314, hMe314, hcc314⟩ := Kd.S_get HO_22.out [] x24_1 p314 (by first | exact q314 | exact of_decide_eq_true (by first | (with_reducible assumption) | assumption) | (have e_ := (Kd.S_reads' HO_22.out).1; omega))
                  obtain ⟨ve314_0, rfl, ge314_0⟩ := hMe314
                  have hv314_0 := hcc314 0 _ rfl
                  rw [Nat.add_zero, show ((Kd.slice 3 (Kd.int .i64))).sz = 1 from rfl, Nat.mul_one] at hv314_0
                  replace hv314_0 := Option.some.inj (hv314_0.symm.trans hx314_0)
                  rw [hv314_0] at ge314_0
                  have HL314_0 := Aside0.mk (show Kd.R (Kd.int .i64) 3 _ _ _ _ (rd_L1 t311 x24_1) from ge314_0)
                  clear hv314_0 ge314_0
                  clear hcc314 hce314
                  have HR314_0 := Aside0.mk hi314_0
                  have HC314_0 := Aside0.mk hl314_0
                  clear hi314_0 hl314_0
                  replace p314 := eq_true p314
                  replace q314 := eq_true q314
                  have p315 : 0 ≤ (2 : Int) := (by omega)
                  have q315 : 2 < ((rd_L1 t311 x24_1).length : Int) := of_decide_eq_true (by first | (with_reducible assumption) | assumption)
                  obtain ⟨ad315, e315, hx315_0⟩ := Kd.at_int (by repeat (first | (with_reducible exact HR314_0.out) | (with_reducible refine Kd.C_alloc ?_ _) | (with_reducible refine Kd.C_drewN ?_ _) | (with_reducible refine Kd.C_drew ?_) | exact HR314_0.out)) 2 p315 q315
                  cases e315
                  (try simp only [show (2 : Int).toNat = 2 from rfl, Nat.reduceMul, Nat.reduceEqDiff, Go.Addr.add, ↓reduceIte] at hx315_0)
                  have qi315 : (2 < (rd_L1 t311 x24_1).length) = True := eq_true (by omega)
                  (try rw [show ((2 : Int)).toNat = 2 from rfl] at hx315_0)
                  replace p315 := eq_true p315
                  replace q315 := eq_true q315
                  go_wp2
                  go_roundg k1
                  case measure => have := HK1.out; omega
                  case rel => exact ⟨(wrap64 (x24_1 + 1)), (by first | rfl | (simp; done) | (simp [*]; done)), H', ⟨by have := HK1.out; omega⟩, ⟨by (with_reducible repeat (first | apply Kd.S_alloc | apply Kd.S_drewN | apply Kd.S_drew)); exact HO_22.out⟩, ⟨by repeat (first | (with_reducible first | exact HB.out | apply below_alloc | apply pw_below_drewN | apply below_drew1) | exact HB.out)⟩⟩
              · rw [if_neg c14] at H
                exact absurd H (by simp)
            · rw [if_neg c13] at H
              exact absurd H (by simp)
          · rw [if_neg c12] at H
            exact absurd H (by simp)
        · rw [if_neg c11] at H
          have c11b0 : decide (x24_1 < (t311.length : Int)) = false := decide_eq_false c11
          clear c11
          simp only [Option.some.injEq, Prod.mk.injEq] at H
          obtain ⟨rfl, rfl⟩ := H
          go_wp2
          go_ret2
          exact ⟨_, by first | rfl | (simp [errW_none, errW_some] <;> rfl) | (simp [*, errW_none, errW_some] <;> rfl), by first | exact Kd.R_nil _ _ _ _ _ | exact Kd.N_nil _ _ _ _ _ | exact Kd.V_nil _ _ _ _ _ | exact Kd.Q_nil _ _ _ _ _ | exact Kd.S_nil _ _ _ _ _, by repeat (first | (with_reducible first | exact HB.out | apply below_alloc | apply pw_below_drewN | apply below_drew1) | exact HB.out)⟩
  · replace c7 := Bool.eq_false_iff.mpr c7
    subst c7
    have H1 : (some (([] : List Int), false)) = some (r1, r2) := by rw [if_neg (show ¬ (false = true) by decide)] at H; exact H
    clear H
    have H := H1
    clear H1
    simp only [Option.some.injEq, Prod.mk.injEq] at H
    obtain ⟨rfl, rfl⟩ := H
    go_enter Try.func37, Try.ntmps37
    go_wp2_with (first | ((with_reducible refine gate_callee (f := 48) rfl ?_); refine goesL_ (some 17) rfl rfl Try.func48 (by kernel_rfl) rfl #[.int .i64 a0, .int .i64 a1, .int .i64 a2] rfl (by (try simp only [List.map_toArray, List.map_cons, List.map_nil]); first | done | rfl | (simp only [List.length_drop, List.length_take]; rfl)) ?_; (with_reducible refine (impl_ShapeOk.calls a0 a1 a2 false _ A6.out).mono ?_); rintro e w' ⟨rfl, ⟨nd, rfl⟩⟩; refine ⟨_, rfl, ?_⟩))
    go_ret2
    exact ⟨_, by first | rfl | (simp [errW_none, errW_some] <;> rfl) | (simp [*, errW_none, errW_some] <;> rfl), by first | exact Kd.R_nil _ _ _ _ _ | exact Kd.N_nil _ _ _ _ _ | exact Kd.V_nil _ _ _ _ _ | exact Kd.Q_nil _ _ _ _ _ | exact Kd.S_nil _ _ _ _ _, by repeat (first | (with_reducible first | exact HB.out | apply below_alloc | apply pw_below_drewN | apply below_drew1) | exact HB.out)⟩
end Go.Proofs.Ytoildabjnioafaa.PA
-- Written for this claim by a program of this session's (ownprint.py), by way of the kit's print and hand-proved texts. Lean checks it.
namespace Go.Proofs.Ytoildabjnioafaa.PA
open Go.RowKit Go.Proofs.YtoildabjnioafaaW.PrintWords Go.Proofs.YtoildabjnioafaaW.PrintLast Go.Proofs.YtoildabjnioafaaW.PrintMore
attribute [local go_sem] max2_int min2_int max_two min_two max_three min_three max_four min_four   -- for this text's walks alone
set_option linter.unusedVariables false
set_option linter.unusedSimpArgs false
theorem rows_at {W : World} {base g n cap : Nat} {ok : Nat → Prop} {xs : List (List Int)} (h : Kd.S (Kd.slice 3 (Kd.int .i64)) 29 W base ok (.slice (some ⟨g, 0, none⟩) n cap) xs) (i : Nat) (hi : i < xs.length) :
    ∃ (A : Option Addr) (c : Nat), W.cell? ⟨g, i, none⟩ = some (.slice A (xs.getD i []).length c) ∧ Kd.R (Kd.int .i64) 3 W base ok (.slice A (xs.getD i []).length c) (xs.getD i []) := by
  have hn : n = xs.length := (Kd.S_reads' h).1
  obtain ⟨c, hc, hM, hcell⟩ := Kd.R_getA (Kd.S_R h) [] (i : Int) (by omega) (by omega)
  obtain ⟨v, rfl, hR⟩ := hM
  rw [Int.toNat_natCast] at hR hcell
  obtain ⟨A, c, rfl⟩ := Kd.R_slice hR
  refine ⟨A, c, ?_, Kd.R_mono hR (fun k hk => hk.1)⟩
  have := hcell 0 _ rfl
  rw [add_at] at this
  simpa [Kd.slice] using this
def allFour (l : List (List Int)) : Bool := l.all (fun r => decide (r.length = 4))
theorem allFour_at {l : List (List Int)} (h : allFour l = true) {i : Nat} (hi : i < l.length) : (l.getD i []).length = 4 := by
  rw [List.getD_eq_getElem?_getD, List.getElem?_eq_getElem hi, Option.getD_some]
  have := List.all_eq_true.1 h l[i] (List.getElem_mem hi)
  simpa using this
end Go.Proofs.Ytoildabjnioafaa.PA
-- Written for this claim by a program of this session's (ownprint.py), by way of the kit's print and hand-proved texts. Lean checks it.
namespace Go.Proofs.Ytoildabjnioafaa.PA
open Go.RowKit Go.Proofs.YtoildabjnioafaaW.PrintWords Go.Proofs.YtoildabjnioafaaW.PrintLast Go.Proofs.YtoildabjnioafaaW.PrintMore
attribute [local go_sem] max2_int min2_int max_two min_two max_three min_three max_four min_four   -- for this text's walks alone
set_option linter.unusedVariables false
set_option linter.unusedSimpArgs false
/-- The first row with the greatest product, the program's way. -/
def bestI : List (List Int) → Option (List Int) → Option (List Int)
  | [], b => b
  | a :: l, none => bestI l (some a)
  | a :: l, some b => if wrap64 (rd b 2 * rd b 3) < wrap64 (rd a 2 * rd a 3) then bestI l (some a) else bestI l (some b)
def finI : Option (List Int) → List Int × Bool
  | none => ([], false)
  | some b => (b, true)
def impl_GreatestClear.f (k : Nat) (a0 : Int) (a1 : Int) (a2 : Int) : Option (List Int × Bool) := (impl_ShapeOk.f a0 a1 a2).bind fun t => if t = true then ((impl_clearWindows.f k a0 a1 a2).bind fun l => if allFour l = true then some (finI (bestI l none)) else none) else some ([], false)
theorem greatest_nil (w : World) : (binOp .eql 29 (.slice none 0 0) (.slice none 0 0)).run Try.prog w = .ok (.bool true) w := run_eql_slice_nil w 29 3 none 0 0 (by kernel_rfl)
theorem greatest_some (w : World) (a : Addr) (n c : Nat) : (binOp .eql 29 (.slice (some a) n c) (.slice none 0 0)).run Try.prog w = .ok (.bool false) w := run_eql_slice_nil w 29 3 (some a) n c (by kernel_rfl)
theorem greatest_nil2 (w : World) : (binOp .neq 29 (.slice none 0 0) (.slice none 0 0)).run Try.prog w = .ok (.bool false) w := run_neq_slice_nil w 29 3 none 0 0 (by kernel_rfl)
theorem greatest_some2 (w : World) (a : Addr) (n c : Nat) : (binOp .neq 29 (.slice (some a) n c) (.slice none 0 0)).run Try.prog w = .ok (.bool true) w := run_neq_slice_nil w 29 3 (some a) n c (by kernel_rfl)
attribute [local go_sem] greatest_nil greatest_some greatest_nil2 greatest_some2
set_option maxHeartbeats 4000000 in
set_option maxRecDepth 100000 in
theorem impl_GreatestClear.calls (k : Nat) (a0 : Int) (a1 : Int) (a2 : Int) (r1 : List Int) (r2 : Bool) (w : World) (h : impl_GreatestClear.f k a0 a1 a2 = some (r1, r2)) :
    Calls Try.prog 40 #[.int .i64 a0, .int .i64 a1, .int .i64 a2] w fun e w' => ∃ v0_ : Value, e = .returned (.tuple #[v0_, .bool r2]) ∧ Kd.R (Kd.int .i64) 3 w' w.heap.size (fun _ => True) v0_ r1 ∧ Below w.heap.size w w' := by
  unfold impl_GreatestClear.f at h
  obtain ⟨t, ht, h⟩ := Option.bind_eq_some_iff.1 h
  have HT := Aside0.mk ht
  clear ht
  by_cases c : t = true
  case neg =>
    rw [if_neg c] at h
    obtain rfl : t = false := by simpa using c
    simp only [Option.some.injEq, Prod.mk.injEq] at h
    obtain ⟨rfl, rfl⟩ := h
    clear c
    go_enter Try.func40, Try.ntmps40
    go_wp2_with fail
    refine (impl_ShapeOk.calls a0 a1 a2 false _ HT.out).mono ?_
    rintro e w1 ⟨rfl, ⟨nd, rfl⟩⟩
    go_wp2
    go_ret2
    exact ⟨_, rfl, Kd.R_nil _ _ _ _ _, pw_below_drewN (Below.refl _ _) nd⟩
  rw [if_pos c] at h
  subst c
  obtain ⟨L, hL, h⟩ := Option.bind_eq_some_iff.1 h
  have HL := Aside0.mk hL
  clear hL
  by_cases c4 : allFour L = true
  case neg => rw [if_neg c4] at h; cases h
  rw [if_pos c4] at h
  have H4 := Aside0.mk c4
  have H := Aside0.mk (Option.some.inj h)
  clear c4 h
  go_enter Try.func40, Try.ntmps40
  go_wp2_with fail
  refine (impl_ShapeOk.calls a0 a1 a2 true _ HT.out).mono ?_
  rintro e w1 ⟨rfl, ⟨nd, rfl⟩⟩
  go_wp2_with fail
  refine (impl_clearWindows.calls k a0 a1 a2 L _ HL.out).mono ?_
  rintro e w2 ⟨v2, rfl, hS, hb⟩
  obtain ⟨A, c, rfl⟩ := Kd.S_slice hS
  have HS : Aside0 (Kd.S (Kd.slice 3 (Kd.int .i64)) 29 w2 w.heap.size (fun _ => True) (.slice A L.length c) L) := ⟨hS⟩
  have HB := Aside0.mk (below_then (pw_below_drewN (Below.refl w.heap.size w) nd) (Nat.le_refl _) hb)
  clear hS hb
  have hlen : L.length ≤ 9223372036854775807 := (Kd.S_reads' HS.out).2.2.2.1
  go_wp2
  go_loopg [8, 21] L.length (fun gg v8 v21 wr => ∃ (i q : Nat) (st : Option (List Int)), v21 = .int .i64 i ∧ i ≤ L.length ∧ L.length - i ≤ gg ∧ wr = w2.drewN q ∧ ((v8 = .slice none 0 0 ∧ Aside0 (st = none)) ∨ ∃ (ad : Addr) (cb : Nat) (b : List Int), v8 = .slice (some ad) b.length cb ∧ Aside0 (st = some b ∧ b.length = 4 ∧ Kd.R (Kd.int .i64) 3 w2 w.heap.size (fun _ => True) (.slice (some ad) b.length cb) b)) ∧ Aside0 (bestI (L.drop i) st = bestI L none))
  case atStart => exact ⟨0, 0, none, rfl, by omega, by omega, rfl, .inl ⟨rfl, ⟨rfl⟩⟩, ⟨rfl⟩⟩
  case round =>
    obtain ⟨i, q, st, rfl, hi, hg, rfl, hv, HA⟩ := hrel
    by_cases hlt : i < L.length
    · have hltz : (i : Int) < (L.length : Int) := by omega
      obtain ⟨g, cap, eA, _⟩ := Kd.S_form HS.out (by omega)
      injection eA with eA _ eC
      subst eA
      obtain ⟨A', c', hcell, hR⟩ := rows_at HS.out i hlt
      have h4 := allFour_at H4.out hlt
      obtain ⟨p, hp⟩ : ∃ p, p = L.getD i [] := ⟨_, rfl⟩
      rw [← hp] at hcell hR h4
      obtain ⟨ad, rfl, k2⟩ := Kd.at_int (Kd.R_reads' hR).2.2 2 (by omega) (by omega)
      obtain ⟨ad3, e3, k3⟩ := Kd.at_int (Kd.R_reads' hR).2.2 3 (by omega) (by omega)
      obtain rfl : ad = ad3 := by injection e3
      obtain ⟨x, hx⟩ : ∃ x, x = rd p 2 := ⟨_, rfl⟩
      obtain ⟨y, hy⟩ : ∃ y, y = rd p 3 := ⟨_, rfl⟩
      rw [← hx] at k2
      rw [← hy] at k3
      simp only [show ((2 : Int)).toNat = 2 from rfl, show ((3 : Int)).toNat = 3 from rfl, Nat.reduceMul, Nat.reduceEqDiff, Go.Addr.add, ↓reduceIte] at k2 k3
      have hdrop : L.drop i = p :: L.drop (i + 1) := by
        rw [List.drop_eq_getElem_cons hlt, hp, List.getD_eq_getElem?_getD, List.getElem?_eq_getElem hlt]
        rfl
      have HP : Aside0 (p.length = 4 ∧ Kd.R (Kd.int .i64) 3 w2 w.heap.size (fun _ => True) (.slice (some ad) p.length c') p) := ⟨h4, hR⟩
      have p2 : (2 < (p.length : Int)) = True := eq_true (by omega)
      have p3 : (3 < (p.length : Int)) = True := eq_true (by omega)
      have n2 : (2 < p.length) = True := eq_true (by omega)
      have n3 : (3 < p.length) = True := eq_true (by omega)
      rcases hv with ⟨rfl, hst⟩ | ⟨ad2, cb, b, rfl, hb⟩
      · have HST : Aside0 (bestI (L.drop (i + 1)) (some p) = bestI L none) := ⟨by rw [← HA.out, hdrop, hst.out]; rfl⟩
        clear hp hR h4 hx hy hdrop eC HA e3 hst
        go_wp2
        repeat (go_quiet (fail); try go_wp2)
        go_roundg (L.length - (i + 1))
        case measure => omega
        case rel => exact ⟨i + 1, _, some p, by go_num, by omega, by omega, rfl, .inr ⟨ad, c', p, rfl, ⟨rfl, HP.out⟩⟩, HST⟩
      · obtain ⟨e0, hb4, hRb⟩ := hb.out
        obtain ⟨bd2, f2, j2⟩ := Kd.at_int (Kd.R_reads' hRb).2.2 2 (by omega) (by omega)
        obtain rfl : ad2 = bd2 := by injection f2
        obtain ⟨bd3, f3, j3⟩ := Kd.at_int (Kd.R_reads' hRb).2.2 3 (by omega) (by omega)
        obtain rfl : ad2 = bd3 := by injection f3
        obtain ⟨u, hu⟩ : ∃ u, u = rd b 2 := ⟨_, rfl⟩
        obtain ⟨v, hv⟩ : ∃ v, v = rd b 3 := ⟨_, rfl⟩
        rw [← hu] at j2
        rw [← hv] at j3
        simp only [show ((2 : Int)).toNat = 2 from rfl, show ((3 : Int)).toNat = 3 from rfl, Nat.reduceMul, Nat.reduceEqDiff, Go.Addr.add, ↓reduceIte] at j2 j3
        obtain ⟨z, hz⟩ : ∃ z, z = wrap64 (x * y) := ⟨_, rfl⟩
        obtain ⟨t, ht⟩ : ∃ t, t = wrap64 (u * v) := ⟨_, rfl⟩
        have b2 : (2 < (b.length : Int)) = True := eq_true (by omega)
        have b3 : (3 < (b.length : Int)) = True := eq_true (by omega)
        have m2 : (2 < b.length) = True := eq_true (by omega)
        have m3 : (3 < b.length) = True := eq_true (by omega)
        have hstep : bestI (L.drop (i + 1)) (some (if t < z then p else b)) = bestI L none := by
          rw [← HA.out, hdrop, e0]
          simp only [bestI, ← hx, ← hy, ← hz, ← hu, ← hv, ← ht]
          split <;> rfl
        have HST := Aside0.mk hstep
        clear hp hR h4 hx hy hdrop eC HA e3 hstep hu hv f2 f3 e0 hb4 hRb
        by_cases cm : t < z
        · have HST2 : Aside0 (bestI (L.drop (i + 1)) (some p) = bestI L none) := ⟨by have := HST.out; rwa [if_pos cm] at this⟩
          have d1 : decide (t < z) = true := decide_eq_true cm
          replace cm := eq_true cm
          have hw : IntKind.i64.wrap (x * y) = z := by rw [hz, IntKind.wrap_i64]; unfold wrap64; rfl
          have hw2 : wrap64 (x * y) = z := hz.symm
          have hw3 : IntKind.i64.wrap (u * v) = t := by rw [ht, IntKind.wrap_i64]; unfold wrap64; rfl
          have hw4 : wrap64 (u * v) = t := ht.symm
          clear hz ht HST
          go_wp2
          repeat (go_quiet (fail); try go_wp2)
          clear hw hw2 hw3 hw4
          go_roundg (L.length - (i + 1))
          case measure => omega
          case rel => exact ⟨i + 1, _, some p, by go_num, by omega, by omega, rfl, .inr ⟨ad, c', p, rfl, ⟨rfl, HP.out⟩⟩, HST2⟩
        · have HST2 : Aside0 (bestI (L.drop (i + 1)) (some b) = bestI L none) := ⟨by have := HST.out; rwa [if_neg cm] at this⟩
          have d1 : decide (t < z) = false := decide_eq_false cm
          replace cm := eq_false cm
          have hw : IntKind.i64.wrap (x * y) = z := by rw [hz, IntKind.wrap_i64]; unfold wrap64; rfl
          have hw2 : wrap64 (x * y) = z := hz.symm
          have hw3 : IntKind.i64.wrap (u * v) = t := by rw [ht, IntKind.wrap_i64]; unfold wrap64; rfl
          have hw4 : wrap64 (u * v) = t := ht.symm
          clear hz ht HST
          go_wp2
          repeat (go_quiet (fail); try go_wp2)
          clear hw hw2 hw3 hw4
          go_roundg (L.length - (i + 1))
          case measure => omega
          case rel => exact ⟨i + 1, _, some b, by go_num, by omega, by omega, rfl, .inr ⟨ad2, cb, b, rfl, ⟨rfl, hb.out.2⟩⟩, HST2⟩
    · have hltz : ¬ (i : Int) < (L.length : Int) := by omega
      have hA := HA.out
      rw [List.drop_of_length_le (by omega)] at hA
      simp only [bestI] at hA
      have hH := H.out
      rw [← hA] at hH
      clear hA HA H
      rcases hv with ⟨rfl, hst⟩ | ⟨ad2, cb, b, rfl, hb⟩
      · rw [hst.out] at hH
        simp only [finI, Prod.mk.injEq] at hH
        obtain ⟨rfl, rfl⟩ := hH
        clear hst
        go_wp2
        go_ret2
        exact ⟨_, rfl, Kd.R_nil _ _ _ _ _, below_then HB.out HB.out.size (pw_below_drewN (Below.refl _ _) _)⟩
      · rw [hb.out.1] at hH
        simp only [finI, Prod.mk.injEq] at hH
        obtain ⟨rfl, rfl⟩ := hH
        go_wp2
        go_ret2
        exact ⟨_, rfl, Kd.R_drewN hb.out.2.2 _, below_then HB.out HB.out.size (pw_below_drewN (Below.refl _ _) _)⟩
end Go.Proofs.Ytoildabjnioafaa.PA
-- Written for this claim by a program of this session's (ownprint.py), by way of the kit's print and hand-proved texts. Lean checks it.
namespace Go.Proofs.Ytoildabjnioafaa.PA
open Go.RowKit Go.Proofs.YtoildabjnioafaaW.PrintWords Go.Proofs.YtoildabjnioafaaW.PrintLast Go.Proofs.YtoildabjnioafaaW.PrintMore
attribute [local go_sem] max2_int min2_int max_two min_two max_three min_three max_four min_four   -- for this text's walks alone
set_option linter.unusedVariables false
set_option linter.unusedSimpArgs false
/-- A state of type 64 at block g of W; what its slices lead to came in by w0. -/
def IsS64 (w0 W : World) (g : Nat) (f0 : List Int) (f1 : Int) (f2 : Int) : Prop := ∃ A0 c0, W.heap[g]? = some (.cells #[.slice A0 f0.length c0, .int .i64 f1, .int .i64 f2] 64 (0, 0)) ∧ w0.heap.size ≤ g ∧ Kd.C (Kd.int .u8) w0 A0 f0.length f0
theorem IsS64.grown {w0 W : World} {g : Nat} {f0 : List Int} {f1 : Int} {f2 : Int} {W1 : World} {row : Option Nat} (h : IsS64 w0 W g f0 f1 f2) (hw : W.grownBy W1 row) (hne : some g ≠ row) : IsS64 w0 W1 g f0 f1 f2 := by
  obtain ⟨A0, c0, hb, hg, hr0⟩ := h
  exact ⟨A0, c0, blk_grown hb hw hne, hg, hr0⟩
theorem IsS64.below {w0 W : World} {g : Nat} {f0 : List Int} {f1 : Int} {f2 : Int} {W1 : World} (h : IsS64 w0 W g f0 f1 f2) (hw : Below W.heap.size W W1) : IsS64 w0 W1 g f0 f1 f2 := h.grown (grown_of_below hw none) (by simp)
theorem IsS64.alloc {w0 W : World} {g : Nat} {f0 : List Int} {f1 : Int} {f2 : Int} (h : IsS64 w0 W g f0 f1 f2) (o : Obj) : IsS64 w0 (W.alloc o) g f0 f1 f2 := h.below (below_alloc (Below.refl _ _) o)
theorem IsS64.drewN {w0 W : World} {g : Nat} {f0 : List Int} {f1 : Int} {f2 : Int} (h : IsS64 w0 W g f0 f1 f2) (m : Nat) : IsS64 w0 (W.drewN m) g f0 f1 f2 := h
theorem IsS64.drew {w0 W : World} {g : Nat} {f0 : List Int} {f1 : Int} {f2 : Int} (h : IsS64 w0 W g f0 f1 f2) : IsS64 w0 W.drew g f0 f1 f2 := h
theorem IsS64.at_ {w0 W : World} {g : Nat} {f0 : List Int} {f1 : Int} {f2 : Int} {w' : World} {m : Nat} (hq : W.drewN m = w') (h : IsS64 w0 W g f0 f1 f2) : IsS64 w0 w' g f0 f1 f2 := by subst hq; exact IsS64.drewN h m
theorem IsS64.ge {w0 W : World} {g : Nat} {f0 : List Int} {f1 : Int} {f2 : Int} (h : IsS64 w0 W g f0 f1 f2) : w0.heap.size ≤ g := by
  obtain ⟨A0, c0, hb, hg, hr0⟩ := h
  exact hg
theorem cellS64_0 {W : World} {g : Nat} {A0 : Option Addr} {c0 : Nat} {f0 : List Int} {f1 : Int} {f2 : Int} (h : W.heap[g]? = some (.cells #[.slice A0 f0.length c0, .int .i64 f1, .int .i64 f2] 64 (0, 0))) : W.cell? ⟨g, 0, none⟩ = some (.slice A0 f0.length c0) := (blk_cell h 0).trans rfl
theorem cellS64_1 {W : World} {g : Nat} {A0 : Option Addr} {c0 : Nat} {f0 : List Int} {f1 : Int} {f2 : Int} (h : W.heap[g]? = some (.cells #[.slice A0 f0.length c0, .int .i64 f1, .int .i64 f2] 64 (0, 0))) : W.cell? ⟨g, 1, none⟩ = some (.int .i64 f1) := (blk_cell h 1).trans rfl
theorem IsS64.set_1 {w0 W : World} {g : Nat} {f0 : List Int} {f1 : Int} {f2 : Int} (h : IsS64 w0 W g f0 f1 f2) (x : Int) : IsS64 w0 (W.setCell ⟨g, 1, none⟩ (.int .i64 x)) g f0 x f2 := by
  obtain ⟨A0, c0, hb, hg, hr0⟩ := h
  exact ⟨A0, c0, by simpa using blk_set hb 1 (.int .i64 x), hg, hr0⟩
theorem cellS64_2 {W : World} {g : Nat} {A0 : Option Addr} {c0 : Nat} {f0 : List Int} {f1 : Int} {f2 : Int} (h : W.heap[g]? = some (.cells #[.slice A0 f0.length c0, .int .i64 f1, .int .i64 f2] 64 (0, 0))) : W.cell? ⟨g, 2, none⟩ = some (.int .i64 f2) := (blk_cell h 2).trans rfl
theorem IsS64.set_2 {w0 W : World} {g : Nat} {f0 : List Int} {f1 : Int} {f2 : Int} (h : IsS64 w0 W g f0 f1 f2) (x : Int) : IsS64 w0 (W.setCell ⟨g, 2, none⟩ (.int .i64 x)) g f0 f1 x := by
  obtain ⟨A0, c0, hb, hg, hr0⟩ := h
  exact ⟨A0, c0, by simpa using blk_set hb 2 (.int .i64 x), hg, hr0⟩
theorem IsS64.new (w0 W : World) (A0 : Option Addr) (c0 : Nat) (f0 : List Int) (f1 : Int) (f2 : Int) (hB : Below w0.heap.size w0 W) (hr0 : Kd.C (Kd.int .u8) w0 A0 f0.length f0) : IsS64 w0 (W.alloc (.cells #[.slice A0 f0.length c0, .int .i64 f1, .int .i64 f2] 64)) W.heap.size f0 f1 f2 := ⟨A0, c0, by simpa using heap_alloc_new W _, hB.size, hr0⟩
def spec_l01Byte.f (s0_0 : List Int) (s0_1 : Int) (s0_2 : Int) : Option (Int × Int × Int) := if s0_1 < (s0_0.length : Int) then (if 0 ≤ s0_1 then (some (Go.bits .and .i64 (wrap64 ((Go.bits .and .i64 (Go.bits .xor .i64 ((wrap64 ((wrap64 (s0_2 * 6364136223846793005)) + 1442695040888963407)) / 8589934592) ((wrap64 ((wrap64 (s0_2 * 6364136223846793005)) + 1442695040888963407)) / 35184372088832)) 255) + (wrap64 (rd s0_0 s0_1)))) 255, wrap64 (s0_1 + 1), wrap64 ((wrap64 (s0_2 * 6364136223846793005)) + 1442695040888963407))) else (none)) else (some (Go.bits .and .i64 (Go.bits .xor .i64 ((wrap64 ((wrap64 (s0_2 * 6364136223846793005)) + 1442695040888963407)) / 8589934592) ((wrap64 ((wrap64 (s0_2 * 6364136223846793005)) + 1442695040888963407)) / 35184372088832)) 255, s0_1, wrap64 ((wrap64 (s0_2 * 6364136223846793005)) + 1442695040888963407)))
set_option maxHeartbeats 8000000 in
set_option maxRecDepth 100000 in
theorem spec_l01Byte.calls (g : Nat) (s0_0 : List Int) (s0_1 : Int) (s0_2 : Int) (r1 : Int) (r2 : Int) (r3 : Int) (w0 w : World) (hI : IsS64 w0 w g s0_0 s0_1 s0_2) (hB : Below w0.heap.size w0 w) (h : spec_l01Byte.f s0_0 s0_1 s0_2 = some (r1, r2, r3)) :
    Calls Try.prog 60 #[.pointer (some ⟨g, 0, none⟩)] w fun e w' => e = .returned (.int .i64 r1) ∧ IsS64 w0 w' g s0_0 r2 r3 ∧ Below w0.heap.size w0 w' ∧ KeepBut w w' g none := by
  have HI0 := Aside0.mk hI
  have HK := Aside0.mk (KeepBut.refl w g none)
  have HL := Aside0.mk hB.size
  clear hI
  have HW0 := Aside0.mk hB.size
  have HB := Aside0.mk hB
  clear hB
  have H : (if s0_1 < (s0_0.length : Int) then (if 0 ≤ s0_1 then (some (Go.bits .and .i64 (wrap64 ((Go.bits .and .i64 (Go.bits .xor .i64 ((wrap64 ((wrap64 (s0_2 * 6364136223846793005)) + 1442695040888963407)) / 8589934592) ((wrap64 ((wrap64 (s0_2 * 6364136223846793005)) + 1442695040888963407)) / 35184372088832)) 255) + (wrap64 (rd s0_0 s0_1)))) 255, wrap64 (s0_1 + 1), wrap64 ((wrap64 (s0_2 * 6364136223846793005)) + 1442695040888963407))) else (none)) else (some (Go.bits .and .i64 (Go.bits .xor .i64 ((wrap64 ((wrap64 (s0_2 * 6364136223846793005)) + 1442695040888963407)) / 8589934592) ((wrap64 ((wrap64 (s0_2 * 6364136223846793005)) + 1442695040888963407)) / 35184372088832)) 255, s0_1, wrap64 ((wrap64 (s0_2 * 6364136223846793005)) + 1442695040888963407)))) = some (r1, r2, r3) := h
  clear h
  by_cases c2 : s0_1 < (s0_0.length : Int)
  · rw [if_pos c2] at H
    have c2b0 : decide (s0_1 < (s0_0.length : Int)) = true := decide_eq_true c2
    clear c2
    by_cases c3 : 0 ≤ s0_1
    · rw [if_pos c3] at H
      have c3b0 : decide (0 ≤ s0_1) = true := decide_eq_true c3
      clear c3
      simp only [Option.some.injEq, Prod.mk.injEq] at H
      obtain ⟨rfl, rfl, rfl⟩ := H
      obtain ⟨ASz4_0, cSz4_0, HGz4, hgz4, HSz4_0⟩ := HI0.out
      have hcz4_0 := cellS64_0 HGz4
      have hcz4_1 := cellS64_1 HGz4
      have hcz4_2 := cellS64_2 HGz4
      have hfz4_1 := blk_frozen HGz4 1
      have hfz4_2 := blk_frozen HGz4 2
      clear HGz4 hgz4
      have p353 : 0 ≤ (s0_1 : Int) := of_decide_eq_true (by first | (with_reducible assumption) | assumption)
      have q353 : s0_1 < (s0_0.length : Int) := of_decide_eq_true (by first | (with_reducible assumption) | assumption)
      obtain ⟨ad353, e353, hx353_0⟩ := Kd.at_int HSz4_0 s0_1 p353 q353
      cases e353
      have hn353_0 : ad353.block ≠ g := Nat.ne_of_lt (Nat.lt_of_lt_of_le (by have := World.block_lt_of_cell? _ _ hx353_0; first | rwa [add_block] at this | exact this) (IsS64.ge HI0.out))
      replace hx353_0 := pw_cell_below HB.out hx353_0
      replace hx353_0 := (cell_far (p := ⟨g, 2, none⟩) (by first | (rw [add_block]; exact hn353_0) | (show (Addr.add _ _).block ≠ _; rw [add_block]; exact hn353_0) | exact hn353_0) (.int .i64 (wrap64 ((wrap64 (s0_2 * 6364136223846793005)) + 1442695040888963407)))).trans hx353_0
      (try have hy353_0 := fun (n_ : Nat) => (show (((w.drewN n_).setCell ⟨g, 2, none⟩ (.int .i64 (wrap64 ((wrap64 (s0_2 * 6364136223846793005)) + 1442695040888963407))))).cell? _ = some _ from hx353_0))
      clear hn353_0
      replace p353 := eq_true p353
      replace q353 := eq_true q353
      go_enter Try.func60, Try.ntmps60
      go_wp2
      repeat (go_quiet (fail); try go_wp2)
      go_ret
      exact ⟨by first | rfl | (simp [errW_none, errW_some] <;> rfl) | (simp [*, errW_none, errW_some] <;> rfl), by repeat (first | (with_reducible first | exact HI0.out | apply IsS64.alloc | apply IsS64.drewN | apply IsS64.drew | apply IsS64.set_1 | apply IsS64.set_2) | exact HI0.out), by repeat (first | (with_reducible first | exact HB.out | apply below_alloc | apply pw_below_drewN | apply below_drew1 | refine below_set ?_ (IsS64.ge HI0.out)) | exact HB.out), by repeat (first | (with_reducible first | exact HK.out | apply KeepBut.set_ | apply keep_drewN | apply keep_drew | apply keep_alloc) | exact HK.out)⟩
    · rw [if_neg c3] at H
      exact absurd H (by simp)
  · rw [if_neg c2] at H
    have c2b0 : decide (s0_1 < (s0_0.length : Int)) = false := decide_eq_false c2
    clear c2
    simp only [Option.some.injEq, Prod.mk.injEq] at H
    obtain ⟨rfl, rfl, rfl⟩ := H
    obtain ⟨ASz5_0, cSz5_0, HGz5, hgz5, HSz5_0⟩ := HI0.out
    have hcz5_0 := cellS64_0 HGz5
    have hcz5_1 := cellS64_1 HGz5
    have hcz5_2 := cellS64_2 HGz5
    have hfz5_1 := blk_frozen HGz5 1
    have hfz5_2 := blk_frozen HGz5 2
    clear HGz5 hgz5
    go_enter Try.func60, Try.ntmps60
    go_wp2
    repeat (go_quiet (fail); try go_wp2)
    go_ret
    exact ⟨by first | rfl | (simp [errW_none, errW_some] <;> rfl) | (simp [*, errW_none, errW_some] <;> rfl), by repeat (first | (with_reducible first | exact HI0.out | apply IsS64.alloc | apply IsS64.drewN | apply IsS64.drew | apply IsS64.set_1 | apply IsS64.set_2) | exact HI0.out), by repeat (first | (with_reducible first | exact HB.out | apply below_alloc | apply pw_below_drewN | apply below_drew1 | refine below_set ?_ (IsS64.ge HI0.out)) | exact HB.out), by repeat (first | (with_reducible first | exact HK.out | apply KeepBut.set_ | apply keep_drewN | apply keep_drew | apply keep_alloc) | exact HK.out)⟩
/-- The reader of draws: what its seed is. -/
def spec_l01New.l0 : Nat → List Int → Int → Int → Option (List Int × Int × Int)
  | 0, _, _, _ => none
  | k + 1, x0, x3, x4 => if x4 < (x0.length : Int) then (if x4 < 4000 then (if 0 ≤ x4 then (spec_l01New.l0 k x0 (Go.bits .and .i64 (wrap64 ((wrap64 ((wrap64 (x3 * 179)) + (wrap64 (rd x0 x4)))) + 7)) 1073741823) (wrap64 (x4 + 1))) else (none)) else (some (x0, 0, x3))) else (some (x0, 0, x3))
def spec_l01New.f (k : Nat) (l0 : List Int) : Option (List Int × Int × Int) := spec_l01New.l0 k l0 (wrap64 (2173 + (l0.length : Int))) 0
set_option maxHeartbeats 8000000 in
set_option maxRecDepth 100000 in
theorem spec_l01New.calls' (k : Nat) (A0 : Option Addr) (c0 : Nat) (l0 : List Int) (r1 : List Int) (r2 : Int) (r3 : Int) (w0 w : World) (hB : Below w0.heap.size w0 w) (hr0 : Kd.C (Kd.int .u8) w0 A0 l0.length l0) (hc0 : l0.length ≤ c0) (h : spec_l01New.f k l0 = some (r1, r2, r3)) :
    Calls Try.prog 59 #[.slice A0 l0.length c0] w fun e w' => ∃ g_ : Nat, e = .returned (.pointer (some ⟨g_, 0, none⟩)) ∧ IsS64 w0 w' g_ r1 r2 r3 ∧ Below w0.heap.size w0 w' ∧ Below w.heap.size w w' ∧ w.heap.size ≤ g_ := by
  have hu := Try.underlying64
  have HR0 := Aside0.mk hr0
  have HC0 := Aside0.mk hc0
  clear hr0 hc0
  have HBW := Aside0.mk (Below.refl w.heap.size w)
  have HW0 := Aside0.mk hB.size
  have HB := Aside0.mk hB
  clear hB
  have H : (spec_l01New.l0 k l0 (wrap64 (2173 + (l0.length : Int))) 0) = some (r1, r2, r3) := h
  clear h
  have H' := Aside0.mk H
  clear H
  go_enter Try.func59, Try.ntmps59
  go_wp2
  go_loopg [3, 4] k (fun kq v3 v4 w' => ∃ (x3_1 : Int) (x4_1 : Int), v3 = .int .i64 x3_1 ∧ v4 = .int .i64 x4_1 ∧ Aside0 (spec_l01New.l0 kq l0 x3_1 x4_1 = some (r1, r2, r3)) ∧ Aside0 (kq ≤ k) ∧ Aside0 (Below w0.heap.size w0 w') ∧ Aside0 (Below w.heap.size w w'))
  case atStart => exact ⟨(wrap64 (2173 + (l0.length : Int))), (0), (by first | rfl | (simp; done) | (simp [*]; done)), (by first | rfl | (simp; done) | (simp [*]; done)), H', ⟨Nat.le_refl _⟩, HB, HBW⟩
  case round =>
    clear H' HB HBW
    obtain ⟨x3_1, x4_1, rfl, rfl, HA, HK1, HB, HBW⟩ := hrel
    cases gk with
    | zero => exact absurd HA.out (by simp [spec_l01New.l0])
    | succ k1 =>
      have H := HA.out
      clear HA
      simp only [spec_l01New.l0] at H
      by_cases c2 : x4_1 < (l0.length : Int)
      · rw [if_pos c2] at H
        have c2b0 : decide (x4_1 < (l0.length : Int)) = true := decide_eq_true c2
        clear c2
        by_cases c3 : x4_1 < 4000
        · rw [if_pos c3] at H
          have c3b0 : decide (x4_1 < 4000) = true := decide_eq_true c3
          clear c3
          by_cases c4 : 0 ≤ x4_1
          · rw [if_pos c4] at H
            have c4b0 : decide (0 ≤ x4_1) = true := decide_eq_true c4
            clear c4
            have H' := Aside0.mk H
            clear H
            have p534 : 0 ≤ (x4_1 : Int) := of_decide_eq_true (by first | (with_reducible assumption) | assumption)
            have q534 : x4_1 < (l0.length : Int) := of_decide_eq_true (by first | (with_reducible assumption) | assumption)
            obtain ⟨ad534, e534, hx534_0⟩ := Kd.at_int HR0.out x4_1 p534 q534
            cases e534
            replace hx534_0 := pw_cell_below HB.out hx534_0
            replace p534 := eq_true p534
            replace q534 := eq_true q534
            go_wp2
            go_roundg k1
            case measure => have := HK1.out; omega
            case rel => exact ⟨(Go.bits .and .i64 (wrap64 ((wrap64 ((wrap64 (x3_1 * 179)) + (wrap64 (rd l0 x4_1)))) + 7)) 1073741823), (wrap64 (x4_1 + 1)), (by first | rfl | (simp; done) | (simp [*]; done)), (by first | rfl | (simp; done) | (simp [*]; done)), H', ⟨by have := HK1.out; omega⟩, ⟨by repeat (first | (with_reducible first | exact HB.out | apply below_alloc | apply pw_below_drewN | apply below_drew1) | exact HB.out)⟩, ⟨by repeat (first | (with_reducible first | exact HBW.out | apply below_alloc | apply pw_below_drewN | apply below_drew1) | exact HBW.out)⟩⟩
          · rw [if_neg c4] at H
            exact absurd H (by simp)
        · rw [if_neg c3] at H
          have c3b0 : decide (x4_1 < 4000) = false := decide_eq_false c3
          clear c3
          simp only [Option.some.injEq, Prod.mk.injEq] at H
          obtain ⟨rfl, rfl, rfl⟩ := H
          go_wp2
          go_ret
          exact ⟨_, rfl, IsS64.new w0 _ A0 c0 l0 0 x3_1 HB.out HR0.out, below_alloc HB.out _, below_alloc HBW.out _, HBW.out.size⟩
      · rw [if_neg c2] at H
        have c2b0 : decide (x4_1 < (l0.length : Int)) = false := decide_eq_false c2
        clear c2
        simp only [Option.some.injEq, Prod.mk.injEq] at H
        obtain ⟨rfl, rfl, rfl⟩ := H
        go_wp2
        go_ret
        exact ⟨_, rfl, IsS64.new w0 _ A0 c0 l0 0 x3_1 HB.out HR0.out, below_alloc HB.out _, below_alloc HBW.out _, HBW.out.size⟩
end Go.Proofs.Ytoildabjnioafaa.PA
