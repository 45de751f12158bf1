/- Texts of this claim put together in build order (FnExactOnTimeOrder). -/
import Derived.Test.YtoonamloihbjnaaMOnTimeOrder0
import Derived.Test.YtoonamloihbjnaaMOnTimeOrder2
import Derived.Test.YtoonamloihbjnaaMOnTimeOrder3
import Derived.Test.YtoonamloihbjnaaMOnTimeOrder5
import Derived.Test.YtoonamloihbjnaaMOnTimeOrder1
import Derived.Test.YtoonamloihbjnaaMOnTimeOrder4
import Derived.Deep.Matrix
import Derived.Test.YtoonamloihbjnaaRows
import Derived.WalkKit
import Derived.ProofKit
import Derived.OpenShut
import Derived.ShutString
import Derived.ChangeOld
import Derived.Below
import Derived.SizedLaws
-- Written for this claim by a program of this session's (ownprint.py), by way of the kit's print and hand-proved texts. Lean checks it.
namespace Go.Proofs.Ytoonamloihbjnaa.PA
open Go.RowKit Go.Proofs.YtoonamloihbjnaaW.PrintWords Go.Proofs.YtoonamloihbjnaaW.PrintLast Go.Proofs.YtoonamloihbjnaaW.PrintMore
attribute [local go_sem] max2_int min2_int max_two min_two max_three min_three max_four min_four   -- for this text's walks alone
set_option linter.unusedVariables false
set_option linter.unusedSimpArgs false
def laws_eqIntS.l0 : Nat → List Int → List Int → Int → Option (Bool)
  | 0, _, _, _ => none
  | k + 1, x0, x1, x5 => if x5 < (x0.length : Int) then (if 0 ≤ x5 then (if x5 < (x1.length : Int) then (if (rd x0 x5) = (rd x1 x5) then (laws_eqIntS.l0 k x0 x1 (wrap64 (x5 + 1))) else (some false)) else (none)) else (none)) else (some true)
def laws_eqIntS.f (k : Nat) (l0 : List Int) (l1 : List Int) : Option (Bool) := if (l0.length : Int) = (l1.length : Int) then (laws_eqIntS.l0 k l0 l1 0) else (some false)
set_option maxHeartbeats 8000000 in
set_option maxRecDepth 100000 in
theorem laws_eqIntS.calls (k : Nat) (A0 : Option Addr) (c0 : Nat) (l0 : List Int) (A1 : Option Addr) (c1 : Nat) (l1 : List Int) (r : Bool) (w : World) (hr0 : Kd.C (Kd.int .i64) w A0 l0.length l0) (hc0 : l0.length ≤ c0) (hr1 : Kd.C (Kd.int .i64) w A1 l1.length l1) (hc1 : l1.length ≤ c1) (h : laws_eqIntS.f k l0 l1 = some r) :
    Calls Try.prog 21 #[.slice A0 l0.length c0, .slice A1 l1.length c1] w fun e w' => e = .returned (.bool r) ∧ Drawn0 w w' := by
  have HR0 := Aside0.mk hr0
  have HC0 := Aside0.mk hc0
  clear hr0 hc0
  have HR1 := Aside0.mk hr1
  have HC1 := Aside0.mk hc1
  clear hr1 hc1
  have H : (if (l0.length : Int) = (l1.length : Int) then (laws_eqIntS.l0 k l0 l1 0) else (some false)) = some r := h
  clear h
  by_cases c3 : (l0.length : Int) = (l1.length : Int)
  · rw [if_pos c3] at H
    have c3b0 : ((l0.length : Int) == (l1.length : Int)) = true := beq_iff_eq.mpr c3
    have c3b1 : ((l0.length : Int) != (l1.length : Int)) = false := bne_eq_false_iff_eq.mpr c3
    have c3b2 : (l0.length == l1.length) = true := by first | simpa using c3 | (simp at c3 ⊢; omega)
    clear c3
    have H' := Aside0.mk H
    clear H
    go_enter Try.func21, Try.ntmps21
    go_wp2
    repeat (go_quiet (fail); try go_wp2)
    go_loopg [5] k (fun kq v5 w' => ∃ (x5_1 : Int), v5 = .int .i64 x5_1 ∧ Aside0 (laws_eqIntS.l0 kq l0 l1 x5_1 = some r) ∧ Aside0 (kq ≤ k) ∧ Drawn0 w w')
    case atStart => exact ⟨(0), (by first | rfl | (simp; done) | (simp [*]; done)), H', ⟨Nat.le_refl _⟩, by repeat (first | exact Drawn0.refl _ | apply Drawn0.step)⟩
    case round =>
      clear H'
      try clear c1
      try clear c2
      try clear p2
      try clear c3
      try clear c3b0
      try clear c3b1
      try clear c3b2
      obtain ⟨x5_1, rfl, HA, HK1, ⟨m1, rfl⟩⟩ := hrel
      cases gk with
      | zero => exact absurd HA.out (by simp [laws_eqIntS.l0])
      | succ k1 =>
        have H := HA.out
        clear HA
        simp only [laws_eqIntS.l0] at H
        by_cases c4 : x5_1 < (l0.length : Int)
        · rw [if_pos c4] at H
          have c4b0 : decide (x5_1 < (l0.length : Int)) = true := decide_eq_true c4
          clear c4
          by_cases c5 : 0 ≤ x5_1
          · rw [if_pos c5] at H
            have c5b0 : decide (0 ≤ x5_1) = true := decide_eq_true c5
            clear c5
            by_cases c6 : x5_1 < (l1.length : Int)
            · rw [if_pos c6] at H
              have c6b0 : decide (x5_1 < (l1.length : Int)) = true := decide_eq_true c6
              clear c6
              by_cases c7 : (rd l0 x5_1) = (rd l1 x5_1)
              · rw [if_pos c7] at H
                have c7b0 : ((rd l0 x5_1) == (rd l1 x5_1)) = true := beq_iff_eq.mpr c7
                have c7b1 : ((rd l0 x5_1) != (rd l1 x5_1)) = false := bne_eq_false_iff_eq.mpr c7
                clear c7
                have H' := Aside0.mk H
                clear H
                have p125 : 0 ≤ (x5_1 : Int) := of_decide_eq_true (by first | (with_reducible assumption) | assumption)
                have q125 : x5_1 < (l0.length : Int) := of_decide_eq_true (by first | (with_reducible assumption) | assumption)
                obtain ⟨ad125, e125, hx125_0⟩ := Kd.at_int HR0.out x5_1 p125 q125
                cases e125
                replace p125 := eq_true p125
                replace q125 := eq_true q125
                have p126 : 0 ≤ (x5_1 : Int) := of_decide_eq_true (by first | (with_reducible assumption) | assumption)
                have q126 : x5_1 < (l1.length : Int) := of_decide_eq_true (by first | (with_reducible assumption) | assumption)
                obtain ⟨ad126, e126, hx126_0⟩ := Kd.at_int HR1.out x5_1 p126 q126
                cases e126
                replace p126 := eq_true p126
                replace q126 := eq_true q126
                go_wp2
                repeat (go_quiet (fail); try go_wp2)
                go_roundg k1
                case measure => have := HK1.out; omega
                case rel => exact ⟨(wrap64 (x5_1 + 1)), (by first | rfl | (simp; done) | (simp [*]; done)), H', ⟨by have := HK1.out; omega⟩, by repeat (first | exact Drawn0.refl _ | apply Drawn0.step)⟩
              · rw [if_neg c7] at H
                have c7b0 : ((rd l0 x5_1) == (rd l1 x5_1)) = false := beq_eq_false_iff_ne.mpr c7
                have c7b1 : ((rd l0 x5_1) != (rd l1 x5_1)) = true := bne_iff_ne.mpr c7
                obtain rfl := Option.some.inj H
                have p125 : 0 ≤ (x5_1 : Int) := of_decide_eq_true (by first | (with_reducible assumption) | assumption)
                have q125 : x5_1 < (l0.length : Int) := of_decide_eq_true (by first | (with_reducible assumption) | assumption)
                obtain ⟨ad125, e125, hx125_0⟩ := Kd.at_int HR0.out x5_1 p125 q125
                cases e125
                replace p125 := eq_true p125
                replace q125 := eq_true q125
                have p126 : 0 ≤ (x5_1 : Int) := of_decide_eq_true (by first | (with_reducible assumption) | assumption)
                have q126 : x5_1 < (l1.length : Int) := of_decide_eq_true (by first | (with_reducible assumption) | assumption)
                obtain ⟨ad126, e126, hx126_0⟩ := Kd.at_int HR1.out x5_1 p126 q126
                cases e126
                replace p126 := eq_true p126
                replace q126 := eq_true q126
                go_wp2
                repeat (go_quiet (fail); try go_wp2)
                go_ret
                exact ⟨by first | rfl | (simp; done) | (simp [*]; done), by repeat (first | exact Drawn0.refl _ | apply Drawn0.step)⟩
            · rw [if_neg c6] at H
              exact absurd H (by simp)
          · rw [if_neg c5] at H
            exact absurd H (by simp)
        · rw [if_neg c4] at H
          have c4b0 : decide (x5_1 < (l0.length : Int)) = false := decide_eq_false c4
          clear c4
          obtain rfl := Option.some.inj H
          go_wp2
          repeat (go_quiet (fail); try go_wp2)
          go_ret
          exact ⟨by first | rfl | (simp; done) | (simp [*]; done), by repeat (first | exact Drawn0.refl _ | apply Drawn0.step)⟩
  · rw [if_neg c3] at H
    have c3b0 : ((l0.length : Int) == (l1.length : Int)) = false := beq_eq_false_iff_ne.mpr c3
    have c3b1 : ((l0.length : Int) != (l1.length : Int)) = true := bne_iff_ne.mpr c3
    have c3b2 : (l0.length == l1.length) = false := by first | simpa using c3 | (simp at c3 ⊢; omega)
    obtain rfl := Option.some.inj H
    go_enter Try.func21, Try.ntmps21
    go_wp2
    repeat (go_quiet (fail); try go_wp2)
    go_ret
    exact ⟨by first | rfl | (simp; done) | (simp [*]; done), by repeat (first | exact Drawn0.refl _ | apply Drawn0.step)⟩
end Go.Proofs.Ytoonamloihbjnaa.PA
-- Written for this claim by a program of this session's (ownprint.py), by way of the kit's print and hand-proved texts. Lean checks it.
namespace Go.Proofs.Ytoonamloihbjnaa.PA
open Go.RowKit Go.Proofs.YtoonamloihbjnaaW.PrintWords Go.Proofs.YtoonamloihbjnaaW.PrintLast Go.Proofs.YtoonamloihbjnaaW.PrintMore
attribute [local go_sem] max2_int min2_int max_two min_two max_three min_three max_four min_four   -- for this text's walks alone
set_option linter.unusedVariables false
set_option linter.unusedSimpArgs false
def laws_eqIntSS.l0 : Nat → List (List Int) → List (List Int) → Int → Option (Bool)
  | 0, _, _, _ => none
  | k + 1, x0, x1, x5 => if x5 < (x0.length : Int) then (if 0 ≤ x5 then (if x5 < (x1.length : Int) then ((laws_eqIntS.f k (rd_L1 x0 x5) (rd_L1 x1 x5)).bind fun t129 => (if t129 = true then (laws_eqIntSS.l0 k x0 x1 (wrap64 (x5 + 1))) else (some false))) else (none)) else (none)) else (some true)
def laws_eqIntSS.f (k : Nat) (l0 : List (List Int)) (l1 : List (List Int)) : Option (Bool) := if (l0.length : Int) = (l1.length : Int) then (laws_eqIntSS.l0 k l0 l1 0) else (some false)
set_option maxHeartbeats 8000000 in
set_option maxRecDepth 100000 in
theorem laws_eqIntSS.calls (k : Nat) (A0 : Option Addr) (c0 : Nat) (l0 : List (List Int)) (A1 : Option Addr) (c1 : Nat) (l1 : List (List Int)) (r : Bool) (w : World) (hr0 : Kd.C (Kd.slice 3 (Kd.int .i64)) w A0 l0.length l0) (hc0 : l0.length ≤ c0) (hr1 : Kd.C (Kd.slice 3 (Kd.int .i64)) w A1 l1.length l1) (hc1 : l1.length ≤ c1) (h : laws_eqIntSS.f k l0 l1 = some r) :
    Calls Try.prog 18 #[.slice A0 l0.length c0, .slice A1 l1.length c1] w fun e w' => e = .returned (.bool r) ∧ Drawn0 w w' := by
  have HR0 := Aside0.mk hr0
  have HC0 := Aside0.mk hc0
  clear hr0 hc0
  have HR1 := Aside0.mk hr1
  have HC1 := Aside0.mk hc1
  clear hr1 hc1
  have H : (if (l0.length : Int) = (l1.length : Int) then (laws_eqIntSS.l0 k l0 l1 0) else (some false)) = some r := h
  clear h
  by_cases c3 : (l0.length : Int) = (l1.length : Int)
  · rw [if_pos c3] at H
    have c3b0 : ((l0.length : Int) == (l1.length : Int)) = true := beq_iff_eq.mpr c3
    have c3b1 : ((l0.length : Int) != (l1.length : Int)) = false := bne_eq_false_iff_eq.mpr c3
    have c3b2 : (l0.length == l1.length) = true := by first | simpa using c3 | (simp at c3 ⊢; omega)
    clear c3
    have H' := Aside0.mk H
    clear H
    go_enter Try.func18, Try.ntmps18
    go_wp2
    repeat (go_quiet (fail); try go_wp2)
    go_loopg [5] k (fun kq v5 w' => ∃ (x5_1 : Int), v5 = .int .i64 x5_1 ∧ Aside0 (laws_eqIntSS.l0 kq l0 l1 x5_1 = some r) ∧ Aside0 (kq ≤ k) ∧ Drawn0 w w')
    case atStart => exact ⟨(0), (by first | rfl | (simp; done) | (simp [*]; done)), H', ⟨Nat.le_refl _⟩, by repeat (first | exact Drawn0.refl _ | apply Drawn0.step)⟩
    case round =>
      clear H'
      try clear c1
      try clear p2
      try clear c3
      try clear c3b0
      try clear c3b1
      try clear c3b2
      obtain ⟨x5_1, rfl, HA, HK1, ⟨m1, rfl⟩⟩ := hrel
      cases gk with
      | zero => exact absurd HA.out (by simp [laws_eqIntSS.l0])
      | succ k1 =>
        have H := HA.out
        clear HA
        simp only [laws_eqIntSS.l0] at H
        by_cases c4 : x5_1 < (l0.length : Int)
        · rw [if_pos c4] at H
          have c4b0 : decide (x5_1 < (l0.length : Int)) = true := decide_eq_true c4
          clear c4
          by_cases c5 : 0 ≤ x5_1
          · rw [if_pos c5] at H
            have c5b0 : decide (0 ≤ x5_1) = true := decide_eq_true c5
            clear c5
            by_cases c6 : x5_1 < (l1.length : Int)
            · rw [if_pos c6] at H
              have c6b0 : decide (x5_1 < (l1.length : Int)) = true := decide_eq_true c6
              clear c6
              replace H := Option.bind_eq_some_iff.mp H
              obtain ⟨t129, A70, H⟩ := H
              replace H : (if t129 = true then (laws_eqIntSS.l0 k1 l0 l1 (wrap64 (x5_1 + 1))) else (some false)) = some r := H
              have A7 := Aside0.mk A70
              clear A70
              by_cases c8 : t129 = true
              · subst c8
                have H1 : (laws_eqIntSS.l0 k1 l0 l1 (wrap64 (x5_1 + 1))) = some r := by rw [if_pos rfl] at H; exact H
                clear H
                have H := H1
                clear H1
                have H' := Aside0.mk H
                clear H
                have p127 : 0 ≤ (x5_1 : Int) := of_decide_eq_true (by first | (with_reducible assumption) | assumption)
                have q127 : x5_1 < (l0.length : Int) := of_decide_eq_true (by first | (with_reducible assumption) | assumption)
                obtain ⟨ad127, A127_0, c127_0, e127, hx127_0, hl127_0, hi127_0⟩ := at_L1 HR0.out x5_1 p127 q127
                cases e127
                have HR127_0 := Aside0.mk hi127_0
                have HC127_0 := Aside0.mk hl127_0
                clear hi127_0 hl127_0
                replace p127 := eq_true p127
                replace q127 := eq_true q127
                have p128 : 0 ≤ (x5_1 : Int) := of_decide_eq_true (by first | (with_reducible assumption) | assumption)
                have q128 : x5_1 < (l1.length : Int) := of_decide_eq_true (by first | (with_reducible assumption) | assumption)
                obtain ⟨ad128, A128_0, c128_0, e128, hx128_0, hl128_0, hi128_0⟩ := at_L1 HR1.out x5_1 p128 q128
                cases e128
                have HR128_0 := Aside0.mk hi128_0
                have HC128_0 := Aside0.mk hl128_0
                clear hi128_0 hl128_0
                replace p128 := eq_true p128
                replace q128 := eq_true q128
                go_wp2_with (first | (go_at_call 21; (with_reducible refine (laws_eqIntS.calls k1 _ _ (rd_L1 l0 x5_1) _ _ (rd_L1 l1 x5_1) true _ ?side1 ?side2 ?side3 ?side4 A7.out).mono ?_); (case side1 => repeat (first | exact HR127_0.out | (with_reducible refine Kd.C_alloc ?_ _) | (with_reducible refine Kd.C_drewN ?_ _) | (with_reducible refine Kd.C_drew ?_))); (case side2 => exact HC127_0.out); (case side3 => repeat (first | exact HR128_0.out | (with_reducible refine Kd.C_alloc ?_ _) | (with_reducible refine Kd.C_drewN ?_ _) | (with_reducible refine Kd.C_drew ?_))); (case side4 => exact HC128_0.out); rintro e w' ⟨rfl, ⟨nd, rfl⟩⟩; (try first | exact ⟨rfl, _, World.drewN_drewN _ _ _⟩ | exact ⟨rfl, _, Eq.trans (World.drewN_drewN _ _ _) (congrArg (World.drewN _) (Nat.add_assoc _ _ _))⟩)))
                repeat (go_quiet (first | (go_at_call 21; (with_reducible refine (laws_eqIntS.calls k1 _ _ (rd_L1 l0 x5_1) _ _ (rd_L1 l1 x5_1) true _ ?side1 ?side2 ?side3 ?side4 A7.out).mono ?_); (case side1 => repeat (first | exact HR127_0.out | (with_reducible refine Kd.C_alloc ?_ _) | (with_reducible refine Kd.C_drewN ?_ _) | (with_reducible refine Kd.C_drew ?_))); (case side2 => exact HC127_0.out); (case side3 => repeat (first | exact HR128_0.out | (with_reducible refine Kd.C_alloc ?_ _) | (with_reducible refine Kd.C_drewN ?_ _) | (with_reducible refine Kd.C_drew ?_))); (case side4 => exact HC128_0.out); rintro e w' ⟨rfl, ⟨nd, rfl⟩⟩; (try first | exact ⟨rfl, _, World.drewN_drewN _ _ _⟩ | exact ⟨rfl, _, Eq.trans (World.drewN_drewN _ _ _) (congrArg (World.drewN _) (Nat.add_assoc _ _ _))⟩))); try go_wp2_with (first | (go_at_call 21; (with_reducible refine (laws_eqIntS.calls k1 _ _ (rd_L1 l0 x5_1) _ _ (rd_L1 l1 x5_1) true _ ?side1 ?side2 ?side3 ?side4 A7.out).mono ?_); (case side1 => repeat (first | exact HR127_0.out | (with_reducible refine Kd.C_alloc ?_ _) | (with_reducible refine Kd.C_drewN ?_ _) | (with_reducible refine Kd.C_drew ?_))); (case side2 => exact HC127_0.out); (case side3 => repeat (first | exact HR128_0.out | (with_reducible refine Kd.C_alloc ?_ _) | (with_reducible refine Kd.C_drewN ?_ _) | (with_reducible refine Kd.C_drew ?_))); (case side4 => exact HC128_0.out); rintro e w' ⟨rfl, ⟨nd, rfl⟩⟩; (try first | exact ⟨rfl, _, World.drewN_drewN _ _ _⟩ | exact ⟨rfl, _, Eq.trans (World.drewN_drewN _ _ _) (congrArg (World.drewN _) (Nat.add_assoc _ _ _))⟩))))
                go_roundg k1
                case measure => have := HK1.out; omega
                case rel => exact ⟨(wrap64 (x5_1 + 1)), (by first | rfl | (simp; done) | (simp [*]; done)), H', ⟨by have := HK1.out; omega⟩, by repeat (first | exact Drawn0.refl _ | apply Drawn0.step)⟩
              · replace c8 := Bool.eq_false_iff.mpr c8
                subst c8
                have H1 : (some false) = some r := by rw [if_neg (show ¬ (false = true) by decide)] at H; exact H
                clear H
                have H := H1
                clear H1
                obtain rfl := Option.some.inj H
                have p127 : 0 ≤ (x5_1 : Int) := of_decide_eq_true (by first | (with_reducible assumption) | assumption)
                have q127 : x5_1 < (l0.length : Int) := of_decide_eq_true (by first | (with_reducible assumption) | assumption)
                obtain ⟨ad127, A127_0, c127_0, e127, hx127_0, hl127_0, hi127_0⟩ := at_L1 HR0.out x5_1 p127 q127
                cases e127
                have HR127_0 := Aside0.mk hi127_0
                have HC127_0 := Aside0.mk hl127_0
                clear hi127_0 hl127_0
                replace p127 := eq_true p127
                replace q127 := eq_true q127
                have p128 : 0 ≤ (x5_1 : Int) := of_decide_eq_true (by first | (with_reducible assumption) | assumption)
                have q128 : x5_1 < (l1.length : Int) := of_decide_eq_true (by first | (with_reducible assumption) | assumption)
                obtain ⟨ad128, A128_0, c128_0, e128, hx128_0, hl128_0, hi128_0⟩ := at_L1 HR1.out x5_1 p128 q128
                cases e128
                have HR128_0 := Aside0.mk hi128_0
                have HC128_0 := Aside0.mk hl128_0
                clear hi128_0 hl128_0
                replace p128 := eq_true p128
                replace q128 := eq_true q128
                go_wp2_with (first | (go_at_call 21; (with_reducible refine (laws_eqIntS.calls k1 _ _ (rd_L1 l0 x5_1) _ _ (rd_L1 l1 x5_1) false _ ?side1 ?side2 ?side3 ?side4 A7.out).mono ?_); (case side1 => repeat (first | exact HR127_0.out | (with_reducible refine Kd.C_alloc ?_ _) | (with_reducible refine Kd.C_drewN ?_ _) | (with_reducible refine Kd.C_drew ?_))); (case side2 => exact HC127_0.out); (case side3 => repeat (first | exact HR128_0.out | (with_reducible refine Kd.C_alloc ?_ _) | (with_reducible refine Kd.C_drewN ?_ _) | (with_reducible refine Kd.C_drew ?_))); (case side4 => exact HC128_0.out); rintro e w' ⟨rfl, ⟨nd, rfl⟩⟩; (try first | exact ⟨rfl, _, World.drewN_drewN _ _ _⟩ | exact ⟨rfl, _, Eq.trans (World.drewN_drewN _ _ _) (congrArg (World.drewN _) (Nat.add_assoc _ _ _))⟩)))
                repeat (go_quiet (first | (go_at_call 21; (with_reducible refine (laws_eqIntS.calls k1 _ _ (rd_L1 l0 x5_1) _ _ (rd_L1 l1 x5_1) false _ ?side1 ?side2 ?side3 ?side4 A7.out).mono ?_); (case side1 => repeat (first | exact HR127_0.out | (with_reducible refine Kd.C_alloc ?_ _) | (with_reducible refine Kd.C_drewN ?_ _) | (with_reducible refine Kd.C_drew ?_))); (case side2 => exact HC127_0.out); (case side3 => repeat (first | exact HR128_0.out | (with_reducible refine Kd.C_alloc ?_ _) | (with_reducible refine Kd.C_drewN ?_ _) | (with_reducible refine Kd.C_drew ?_))); (case side4 => exact HC128_0.out); rintro e w' ⟨rfl, ⟨nd, rfl⟩⟩; (try first | exact ⟨rfl, _, World.drewN_drewN _ _ _⟩ | exact ⟨rfl, _, Eq.trans (World.drewN_drewN _ _ _) (congrArg (World.drewN _) (Nat.add_assoc _ _ _))⟩))); try go_wp2_with (first | (go_at_call 21; (with_reducible refine (laws_eqIntS.calls k1 _ _ (rd_L1 l0 x5_1) _ _ (rd_L1 l1 x5_1) false _ ?side1 ?side2 ?side3 ?side4 A7.out).mono ?_); (case side1 => repeat (first | exact HR127_0.out | (with_reducible refine Kd.C_alloc ?_ _) | (with_reducible refine Kd.C_drewN ?_ _) | (with_reducible refine Kd.C_drew ?_))); (case side2 => exact HC127_0.out); (case side3 => repeat (first | exact HR128_0.out | (with_reducible refine Kd.C_alloc ?_ _) | (with_reducible refine Kd.C_drewN ?_ _) | (with_reducible refine Kd.C_drew ?_))); (case side4 => exact HC128_0.out); rintro e w' ⟨rfl, ⟨nd, rfl⟩⟩; (try first | exact ⟨rfl, _, World.drewN_drewN _ _ _⟩ | exact ⟨rfl, _, Eq.trans (World.drewN_drewN _ _ _) (congrArg (World.drewN _) (Nat.add_assoc _ _ _))⟩))))
                go_ret
                exact ⟨by first | rfl | (simp; done) | (simp [*]; done), by repeat (first | exact Drawn0.refl _ | apply Drawn0.step)⟩
            · rw [if_neg c6] at H
              exact absurd H (by simp)
          · rw [if_neg c5] at H
            exact absurd H (by simp)
        · rw [if_neg c4] at H
          have c4b0 : decide (x5_1 < (l0.length : Int)) = false := decide_eq_false c4
          clear c4
          obtain rfl := Option.some.inj H
          go_wp2
          repeat (go_quiet (fail); try go_wp2)
          go_ret
          exact ⟨by first | rfl | (simp; done) | (simp [*]; done), by repeat (first | exact Drawn0.refl _ | apply Drawn0.step)⟩
  · rw [if_neg c3] at H
    have c3b0 : ((l0.length : Int) == (l1.length : Int)) = false := beq_eq_false_iff_ne.mpr c3
    have c3b1 : ((l0.length : Int) != (l1.length : Int)) = true := bne_iff_ne.mpr c3
    have c3b2 : (l0.length == l1.length) = false := by first | simpa using c3 | (simp at c3 ⊢; omega)
    obtain rfl := Option.some.inj H
    go_enter Try.func18, Try.ntmps18
    go_wp2
    repeat (go_quiet (fail); try go_wp2)
    go_ret
    exact ⟨by first | rfl | (simp; done) | (simp [*]; done), by repeat (first | exact Drawn0.refl _ | apply Drawn0.step)⟩
end Go.Proofs.Ytoonamloihbjnaa.PA
/- The walk of the law FnExactOnTimeOrder with its marks: where the chain of its callees' functions ends in 'true', the machine's call returns true and nothing that was there is turned. Written by a program of this session's (lawwalk.py). -/
namespace Go.Proofs.Ytoonamloihbjnaa.PA
open Go.RowKit Go.Proofs.YtoonamloihbjnaaW.PrintWords Go.Proofs.YtoonamloihbjnaaW.PrintLast Go.Proofs.YtoonamloihbjnaaW.PrintMore
set_option linter.unusedVariables false
set_option linter.unusedSimpArgs false
def laws_FnExactOnTimeOrder.f (k : Nat) (l0 : List (List Int)) : Option Bool := (laws_szIntSS.f k l0 1048576).bind fun s0 => if s0 < 0 then some true else ((laws_toIntSS.f k l0).bind fun u0 => ((spec_OnTimeOrder.f k u0).bind fun W => ((laws_toIntSS.f k l0).bind fun x0 => ((impl_OnTimeOrder.f k x0).bind fun G => ((laws_eqIntS.f k G W).bind fun e0 => if e0 = true then ((laws_toIntSS.f k l0).bind fun y0 => (laws_eqIntSS.f k x0 y0).bind fun f0 => if f0 = true then ((laws_markIntSS.f k x0 1).bind fun M0 => (if 0 ≤ M0.1 then ((laws_markIntS.f k G 1).bind fun N0 => ((laws_heldIntS.f k N0.2 1).bind fun q0 => if 0 ≤ q0 then (if q0 = N0.1 then ((laws_toIntSS.f k l0).bind fun z0 => ((impl_OnTimeOrder.f k z0).bind fun H => ((laws_eqIntS.f k H W).bind fun d0 => if d0 = true then (some true) else none))) else none) else none)) else none)) else none) else none)))))
set_option maxHeartbeats 8000000 in
set_option maxRecDepth 100000 in
theorem laws_FnExactOnTimeOrder.calls (k : Nat) (A0 : Option Addr) (c0 : Nat) (l0 : List (List Int)) (r : Bool) (w : World) (hr0 : Kd.C (Kd.slice 3 (Kd.int .i64)) w A0 l0.length l0) (hc0 : l0.length ≤ c0) (h : laws_FnExactOnTimeOrder.f k l0 = some r) :
    Calls Try.prog 6 #[.slice A0 l0.length c0] w fun e w' => e = .returned (.bool r) ∧ Below w.heap.size w w' := by
  unfold laws_FnExactOnTimeOrder.f at h
  have HR0 := Aside0.mk hr0
  have HC0 := Aside0.mk hc0
  clear hr0 hc0
  replace h := Option.bind_eq_some_iff.1 h
  obtain ⟨s0, b_s0, h⟩ := h
  have Q_s0 := Aside0.mk b_s0
  clear b_s0
  by_cases m0 : s0 < 0
  · rw [if_pos m0] at h
    obtain rfl := Option.some.inj h
    clear h
    go_enter Try.func6, Try.ntmps6
    go_wp2_with fail
    refine (laws_szIntSS.calls k _ _ l0 1048576 s0 _ HR0.out HC0.out Q_s0.out).mono ?_
    rintro e w1 ⟨rfl, hd⟩
    have B1 := Aside0.mk hd.below
    clear hd
    go_wp2_with fail
    go_ret
    exact ⟨rfl, B1.out⟩
  rw [if_neg m0] at h
  replace h := Option.bind_eq_some_iff.1 h
  obtain ⟨u0, b_u0, h⟩ := h
  have Q_u0 := Aside0.mk b_u0
  clear b_u0
  replace h := Option.bind_eq_some_iff.1 h
  obtain ⟨W, b_W, h⟩ := h
  have Q_W := Aside0.mk b_W
  clear b_W
  replace h := Option.bind_eq_some_iff.1 h
  obtain ⟨x0, b_x0, h⟩ := h
  have Q_x0 := Aside0.mk b_x0
  clear b_x0
  replace h := Option.bind_eq_some_iff.1 h
  obtain ⟨G, b_G, h⟩ := h
  have Q_G := Aside0.mk b_G
  clear b_G
  obtain ⟨W0, rfl⟩ : ∃ z, z = W := ⟨_, rfl⟩
  obtain ⟨G0, rfl⟩ : ∃ z, z = G := ⟨_, rfl⟩
  replace h := Option.bind_eq_some_iff.1 h
  obtain ⟨e0, b_e0, h⟩ := h
  have Q_e0 := Aside0.mk b_e0
  clear b_e0
  by_cases t_e0 : e0 = true
  case neg => rw [if_neg t_e0] at h; cases h
  rw [if_pos t_e0] at h
  subst t_e0
  replace h := Option.bind_eq_some_iff.1 h
  obtain ⟨y0, b_y0, h⟩ := h
  have Q_y0 := Aside0.mk b_y0
  clear b_y0
  replace h := Option.bind_eq_some_iff.1 h
  obtain ⟨f0, b_f0, h⟩ := h
  have Q_f0 := Aside0.mk b_f0
  clear b_f0
  by_cases t_f0 : f0 = true
  case neg => rw [if_neg t_f0] at h; cases h
  rw [if_pos t_f0] at h
  subst t_f0
  replace h := Option.bind_eq_some_iff.1 h
  obtain ⟨⟨m0a, m0b⟩, b_M0, h⟩ := h
  dsimp only at h
  have Q_M0 := Aside0.mk b_M0
  clear b_M0
  by_cases g_0 : 0 ≤ m0a
  case neg => rw [if_neg g_0] at h; cases h
  rw [if_pos g_0] at h
  replace h := Option.bind_eq_some_iff.1 h
  obtain ⟨⟨n0a, n0b⟩, b_N0, h⟩ := h
  dsimp only at h
  have Q_N0 := Aside0.mk b_N0
  clear b_N0
  replace h := Option.bind_eq_some_iff.1 h
  obtain ⟨q0, b_q0, h⟩ := h
  have Q_q0 := Aside0.mk b_q0
  clear b_q0
  by_cases g_q0 : 0 ≤ q0
  case neg => rw [if_neg g_q0] at h; cases h
  rw [if_pos g_q0] at h
  by_cases t_q : q0 = n0a
  case neg => rw [if_neg t_q] at h; cases h
  rw [if_pos t_q] at h
  subst t_q
  replace h := Option.bind_eq_some_iff.1 h
  obtain ⟨z0, b_z0, h⟩ := h
  have Q_z0 := Aside0.mk b_z0
  clear b_z0
  replace h := Option.bind_eq_some_iff.1 h
  obtain ⟨H, b_H, h⟩ := h
  have Q_H := Aside0.mk b_H
  clear b_H
  obtain ⟨H0, rfl⟩ : ∃ z, z = H := ⟨_, rfl⟩
  replace h := Option.bind_eq_some_iff.1 h
  obtain ⟨d0, b_d0, h⟩ := h
  have Q_d0 := Aside0.mk b_d0
  clear b_d0
  by_cases t_d0 : d0 = true
  case neg => rw [if_neg t_d0] at h; cases h
  rw [if_pos t_d0] at h
  subst t_d0
  obtain rfl := Option.some.inj h
  clear h
  go_enter Try.func6, Try.ntmps6
  go_wp2_with fail
  refine (laws_szIntSS.calls k _ _ l0 1048576 s0 w HR0.out HC0.out Q_s0.out).mono ?_
  rintro e w1 ⟨rfl, hd⟩
  have hb := hd.below
  clear hd
  have Z1 := Aside0.mk hb.size
  have B1 := Aside0.mk hb
  clear hb
  go_wp2_with fail
  refine (laws_toIntSS.calls k _ _ l0 u0 w1 (Kd.C_below HR0.out B1.out) HC0.out Q_u0.out).mono ?_
  rintro e w2 ⟨v_u0, rfl, ho_u0, hb⟩
  have Z2 := Aside0.mk hb.size
  have B2 := Aside0.mk (below_then B1.out B1.out.size hb)
  obtain ⟨A_u0, c_u0, rfl, hl_u0, hC_u0⟩ := Kd.S_reads ho_u0
  clear hl_u0 hC_u0
  have F_u0 : Aside0 (Kd.S (Kd.slice 3 (Kd.int .i64)) 27 w2 w1.heap.size (fun k_ => k_ < w2.heap.size) (.slice A_u0 u0.length c_u0) u0) := ⟨Kd.S_mono (Kd.S_bound ho_u0) (fun _ hk => hk.2.2.1)⟩
  clear ho_u0
  clear hb
  go_wp2_with fail
  refine (spec_OnTimeOrder.calls k _ _ u0 W0 w2 (Kd.S_reads' F_u0.out).2.2 (Kd.S_reads' F_u0.out).2.1 Q_W.out).mono ?_
  rintro e w3 ⟨v_W0, rfl, ho_W0, hb⟩
  have Z3 := Aside0.mk hb.size
  have B3 := Aside0.mk (below_then B2.out B2.out.size hb)
  obtain ⟨A_W0, c_W0, rfl, hl_W0, hC_W0⟩ := Kd.R_reads ho_W0
  clear hl_W0 hC_W0
  have F_W0 : Aside0 (Kd.R (Kd.int .i64) 3 w3 w2.heap.size (fun k_ => k_ < w3.heap.size) (.slice A_W0 W0.length c_W0) W0) := ⟨Kd.R_mono (Kd.R_bound ho_W0) (fun _ hk => hk.2.2.1)⟩
  clear ho_W0
  have T_u0 := Aside0.mk (Kd.S_below F_u0.out hb)
  clear F_u0
  have F_u0 : Aside0 (Kd.S (Kd.slice 3 (Kd.int .i64)) 27 w3 w1.heap.size (fun k_ => k_ < w2.heap.size) (.slice A_u0 u0.length c_u0) u0) := T_u0
  clear T_u0
  clear hb
  clear F_u0
  go_wp2_with fail
  refine (laws_toIntSS.calls k _ _ l0 x0 w3 (Kd.C_below HR0.out B3.out) HC0.out Q_x0.out).mono ?_
  rintro e w4 ⟨v_x0, rfl, ho_x0, hb⟩
  have Z4 := Aside0.mk hb.size
  have B4 := Aside0.mk (below_then B3.out B3.out.size hb)
  obtain ⟨A_x0, c_x0, rfl, hl_x0, hC_x0⟩ := Kd.S_reads ho_x0
  clear hl_x0 hC_x0
  have F_x0 : Aside0 (Kd.S (Kd.slice 3 (Kd.int .i64)) 27 w4 w3.heap.size (fun k_ => k_ < w4.heap.size) (.slice A_x0 x0.length c_x0) x0) := ⟨Kd.S_mono (Kd.S_bound ho_x0) (fun _ hk => hk.2.2.1)⟩
  clear ho_x0
  have T_W0 := Aside0.mk (Kd.R_below F_W0.out hb)
  clear F_W0
  have F_W0 : Aside0 (Kd.R (Kd.int .i64) 3 w4 w2.heap.size (fun k_ => k_ < w3.heap.size) (.slice A_W0 W0.length c_W0) W0) := T_W0
  clear T_W0
  clear hb
  go_wp2_with fail
  refine (impl_OnTimeOrder.calls k _ _ x0 G0 w4 (Kd.S_reads' F_x0.out).2.2 (Kd.S_reads' F_x0.out).2.1 Q_G.out).mono ?_
  rintro e w5 ⟨v_G0, rfl, ho_G0, hb⟩
  have Z5 := Aside0.mk hb.size
  have B5 := Aside0.mk (below_then B4.out B4.out.size hb)
  obtain ⟨A_G0, c_G0, rfl, hl_G0, hC_G0⟩ := Kd.R_reads ho_G0
  clear hl_G0 hC_G0
  have F_G0 : Aside0 (Kd.R (Kd.int .i64) 3 w5 w4.heap.size (fun k_ => k_ < w5.heap.size) (.slice A_G0 G0.length c_G0) G0) := ⟨Kd.R_mono (Kd.R_bound ho_G0) (fun _ hk => hk.2.2.1)⟩
  clear ho_G0
  have T_W0 := Aside0.mk (Kd.R_below F_W0.out hb)
  clear F_W0
  have F_W0 : Aside0 (Kd.R (Kd.int .i64) 3 w5 w2.heap.size (fun k_ => k_ < w3.heap.size) (.slice A_W0 W0.length c_W0) W0) := T_W0
  clear T_W0
  have T_x0 := Aside0.mk (Kd.S_below F_x0.out hb)
  clear F_x0
  have F_x0 : Aside0 (Kd.S (Kd.slice 3 (Kd.int .i64)) 27 w5 w3.heap.size (fun k_ => k_ < w4.heap.size) (.slice A_x0 x0.length c_x0) x0) := T_x0
  clear T_x0
  clear hb
  go_wp2_with fail
  refine (laws_eqIntS.calls k _ _ G0 _ _ W0 true w5 (Kd.R_reads' F_G0.out).2.2 (Kd.R_reads' F_G0.out).2.1 (Kd.R_reads' F_W0.out).2.2 (Kd.R_reads' F_W0.out).2.1 Q_e0.out).mono ?_
  rintro e w6 ⟨rfl, hd⟩
  have hb := hd.below
  clear hd
  have Z6 := Aside0.mk hb.size
  have B6 := Aside0.mk (below_then B5.out B5.out.size hb)
  have T_W0 := Aside0.mk (Kd.R_below F_W0.out hb)
  clear F_W0
  have F_W0 : Aside0 (Kd.R (Kd.int .i64) 3 w6 w2.heap.size (fun k_ => k_ < w3.heap.size) (.slice A_W0 W0.length c_W0) W0) := T_W0
  clear T_W0
  have T_x0 := Aside0.mk (Kd.S_below F_x0.out hb)
  clear F_x0
  have F_x0 : Aside0 (Kd.S (Kd.slice 3 (Kd.int .i64)) 27 w6 w3.heap.size (fun k_ => k_ < w4.heap.size) (.slice A_x0 x0.length c_x0) x0) := T_x0
  clear T_x0
  have T_G0 := Aside0.mk (Kd.R_below F_G0.out hb)
  clear F_G0
  have F_G0 : Aside0 (Kd.R (Kd.int .i64) 3 w6 w4.heap.size (fun k_ => k_ < w5.heap.size) (.slice A_G0 G0.length c_G0) G0) := T_G0
  clear T_G0
  clear hb
  go_wp2_with fail
  refine (laws_toIntSS.calls k _ _ l0 y0 w6 (Kd.C_below HR0.out B6.out) HC0.out Q_y0.out).mono ?_
  rintro e w7 ⟨v_y0, rfl, ho_y0, hb⟩
  have Z7 := Aside0.mk hb.size
  have B7 := Aside0.mk (below_then B6.out B6.out.size hb)
  obtain ⟨A_y0, c_y0, rfl, hl_y0, hC_y0⟩ := Kd.S_reads ho_y0
  clear hl_y0 hC_y0
  have F_y0 : Aside0 (Kd.S (Kd.slice 3 (Kd.int .i64)) 27 w7 w6.heap.size (fun k_ => k_ < w7.heap.size) (.slice A_y0 y0.length c_y0) y0) := ⟨Kd.S_mono (Kd.S_bound ho_y0) (fun _ hk => hk.2.2.1)⟩
  clear ho_y0
  have T_W0 := Aside0.mk (Kd.R_below F_W0.out hb)
  clear F_W0
  have F_W0 : Aside0 (Kd.R (Kd.int .i64) 3 w7 w2.heap.size (fun k_ => k_ < w3.heap.size) (.slice A_W0 W0.length c_W0) W0) := T_W0
  clear T_W0
  have T_x0 := Aside0.mk (Kd.S_below F_x0.out hb)
  clear F_x0
  have F_x0 : Aside0 (Kd.S (Kd.slice 3 (Kd.int .i64)) 27 w7 w3.heap.size (fun k_ => k_ < w4.heap.size) (.slice A_x0 x0.length c_x0) x0) := T_x0
  clear T_x0
  have T_G0 := Aside0.mk (Kd.R_below F_G0.out hb)
  clear F_G0
  have F_G0 : Aside0 (Kd.R (Kd.int .i64) 3 w7 w4.heap.size (fun k_ => k_ < w5.heap.size) (.slice A_G0 G0.length c_G0) G0) := T_G0
  clear T_G0
  clear hb
  go_wp2_with fail
  refine (laws_eqIntSS.calls k _ _ x0 _ _ y0 true w7 (Kd.S_reads' F_x0.out).2.2 (Kd.S_reads' F_x0.out).2.1 (Kd.S_reads' F_y0.out).2.2 (Kd.S_reads' F_y0.out).2.1 Q_f0.out).mono ?_
  rintro e w8 ⟨rfl, hd⟩
  have hb := hd.below
  clear hd
  have Z8 := Aside0.mk hb.size
  have B8 := Aside0.mk (below_then B7.out B7.out.size hb)
  have T_W0 := Aside0.mk (Kd.R_below F_W0.out hb)
  clear F_W0
  have F_W0 : Aside0 (Kd.R (Kd.int .i64) 3 w8 w2.heap.size (fun k_ => k_ < w3.heap.size) (.slice A_W0 W0.length c_W0) W0) := T_W0
  clear T_W0
  have T_x0 := Aside0.mk (Kd.S_below F_x0.out hb)
  clear F_x0
  have F_x0 : Aside0 (Kd.S (Kd.slice 3 (Kd.int .i64)) 27 w8 w3.heap.size (fun k_ => k_ < w4.heap.size) (.slice A_x0 x0.length c_x0) x0) := T_x0
  clear T_x0
  have T_G0 := Aside0.mk (Kd.R_below F_G0.out hb)
  clear F_G0
  have F_G0 : Aside0 (Kd.R (Kd.int .i64) 3 w8 w4.heap.size (fun k_ => k_ < w5.heap.size) (.slice A_G0 G0.length c_G0) G0) := T_G0
  clear T_G0
  have T_y0 := Aside0.mk (Kd.S_below F_y0.out hb)
  clear F_y0
  have F_y0 : Aside0 (Kd.S (Kd.slice 3 (Kd.int .i64)) 27 w8 w6.heap.size (fun k_ => k_ < w7.heap.size) (.slice A_y0 y0.length c_y0) y0) := T_y0
  clear T_y0
  clear hb
  clear F_y0
  go_wp2_with fail
  refine (laws_markIntSS.calls k w3.heap.size w4.heap.size _ x0 1 m0a m0b w w8 B8.out (by have y1 := Z1.out; have y2 := Z2.out; have y3 := Z3.out; have y4 := Z4.out; have y5 := Z5.out; have y6 := Z6.out; have y7 := Z7.out; have y8 := Z8.out; omega) (Kd.S_mono (Kd.S_lower (Kd.S_bound F_x0.out) (by have y1 := Z1.out; have y2 := Z2.out; have y3 := Z3.out; have y4 := Z4.out; have y5 := Z5.out; have y6 := Z6.out; have y7 := Z7.out; have y8 := Z8.out; omega)) (fun k_ hk => ⟨hk.2.1, hk.1⟩)) Q_M0.out).mono ?_
  rintro e w9 ⟨rfl, ho, hb, hkp⟩
  have Z9 := Aside0.mk hkp.1
  have B9 := Aside0.mk hb
  have T_W0 := Aside0.mk (Kd.R_mono (Kd.R_step (Kd.R_bound F_W0.out) (fun k_ hk hs => hkp.2 k_ hs (fun z => by have z1 := z.1; have z2 := z.2; have z3 := hk.1; have z4 := hk.2.1; have y1 := Z1.out; have y2 := Z2.out; have y3 := Z3.out; have y4 := Z4.out; have y5 := Z5.out; have y6 := Z6.out; have y7 := Z7.out; have y8 := Z8.out; omega))) (fun _ hk => hk.1))
  clear F_W0
  have F_W0 : Aside0 (Kd.R (Kd.int .i64) 3 w9 w2.heap.size (fun k_ => k_ < w3.heap.size) (.slice A_W0 W0.length c_W0) W0) := T_W0
  clear T_W0
  have T_G0 := Aside0.mk (Kd.R_mono (Kd.R_step (Kd.R_bound F_G0.out) (fun k_ hk hs => hkp.2 k_ hs (fun z => by have z1 := z.1; have z2 := z.2; have z3 := hk.1; have z4 := hk.2.1; have y1 := Z1.out; have y2 := Z2.out; have y3 := Z3.out; have y4 := Z4.out; have y5 := Z5.out; have y6 := Z6.out; have y7 := Z7.out; have y8 := Z8.out; omega))) (fun _ hk => hk.1))
  clear F_G0
  have F_G0 : Aside0 (Kd.R (Kd.int .i64) 3 w9 w4.heap.size (fun k_ => k_ < w5.heap.size) (.slice A_G0 G0.length c_G0) G0) := T_G0
  clear T_G0
  clear F_x0 ho
  clear hb hkp
  go_wp2_with fail
  refine (laws_eqIntS.calls k _ _ G0 _ _ W0 true w9 (Kd.R_reads' F_G0.out).2.2 (Kd.R_reads' F_G0.out).2.1 (Kd.R_reads' F_W0.out).2.2 (Kd.R_reads' F_W0.out).2.1 Q_e0.out).mono ?_
  rintro e w10 ⟨rfl, hd⟩
  have hb := hd.below
  clear hd
  have Z10 := Aside0.mk hb.size
  have B10 := Aside0.mk (below_then B9.out B9.out.size hb)
  have T_W0 := Aside0.mk (Kd.R_below F_W0.out hb)
  clear F_W0
  have F_W0 : Aside0 (Kd.R (Kd.int .i64) 3 w10 w2.heap.size (fun k_ => k_ < w3.heap.size) (.slice A_W0 W0.length c_W0) W0) := T_W0
  clear T_W0
  have T_G0 := Aside0.mk (Kd.R_below F_G0.out hb)
  clear F_G0
  have F_G0 : Aside0 (Kd.R (Kd.int .i64) 3 w10 w4.heap.size (fun k_ => k_ < w5.heap.size) (.slice A_G0 G0.length c_G0) G0) := T_G0
  clear T_G0
  clear hb
  go_wp2_with fail
  refine (laws_markIntS.calls k (fun k_ => w4.heap.size ≤ k_ ∧ k_ < w5.heap.size) _ G0 1 q0 n0b w w10 B10.out (Kd.R_mono (Kd.R_lower (Kd.R_bound F_G0.out) (by have y1 := Z1.out; have y2 := Z2.out; have y3 := Z3.out; have y4 := Z4.out; have y5 := Z5.out; have y6 := Z6.out; have y7 := Z7.out; have y8 := Z8.out; have y9 := Z9.out; have y10 := Z10.out; omega)) (fun k_ hk => ⟨hk.2.1, hk.1⟩)) Q_N0.out).mono ?_
  rintro e w11 ⟨rfl, ho, hb, hkp⟩
  have Z11 := Aside0.mk hkp.1
  have B11 := Aside0.mk hb
  have T_W0 := Aside0.mk (Kd.R_mono (Kd.R_step (Kd.R_bound F_W0.out) (fun k_ hk hs => hkp.2 k_ hs (fun z => by have z1 := z.1; have z2 := z.2; have z3 := hk.1; have z4 := hk.2.1; have y1 := Z1.out; have y2 := Z2.out; have y3 := Z3.out; have y4 := Z4.out; have y5 := Z5.out; have y6 := Z6.out; have y7 := Z7.out; have y8 := Z8.out; have y9 := Z9.out; have y10 := Z10.out; omega))) (fun _ hk => hk.1))
  clear F_W0
  have F_W0 : Aside0 (Kd.R (Kd.int .i64) 3 w11 w2.heap.size (fun k_ => k_ < w3.heap.size) (.slice A_W0 W0.length c_W0) W0) := T_W0
  clear T_W0
  have T_ : Aside0 (Kd.R (Kd.int .i64) 3 w11 w.heap.size (fun k_ => k_ < w5.heap.size) (.slice A_G0 G0.length c_G0) n0b) := ⟨Kd.R_mono (Kd.R_tight rfl ho) (fun k_ hk => F_G0.out.1 k_ hk.symm)⟩
  clear F_G0 ho
  have EL : G0.length = n0b.length := (Kd.R_reads' T_.out).1
  rw [EL] at T_
  rw [EL]
  clear EL
  have F_G0 : Aside0 (Kd.R (Kd.int .i64) 3 w11 w.heap.size (fun k_ => k_ < w5.heap.size) (.slice A_G0 n0b.length c_G0) n0b) := T_
  clear T_
  clear hb hkp
  go_wp2_with fail
  refine (laws_heldIntS.calls k _ _ n0b 1 q0 w11 (Kd.R_reads' F_G0.out).2.2 (Kd.R_reads' F_G0.out).2.1 Q_q0.out).mono ?_
  rintro e w12 ⟨rfl, hd⟩
  have hb := hd.below
  clear hd
  have Z12 := Aside0.mk hb.size
  have B12 := Aside0.mk (below_then B11.out B11.out.size hb)
  have T_W0 := Aside0.mk (Kd.R_below F_W0.out hb)
  clear F_W0
  have F_W0 : Aside0 (Kd.R (Kd.int .i64) 3 w12 w2.heap.size (fun k_ => k_ < w3.heap.size) (.slice A_W0 W0.length c_W0) W0) := T_W0
  clear T_W0
  have T_G0 := Aside0.mk (Kd.R_below F_G0.out hb)
  clear F_G0
  have F_G0 : Aside0 (Kd.R (Kd.int .i64) 3 w12 w.heap.size (fun k_ => k_ < w5.heap.size) (.slice A_G0 n0b.length c_G0) n0b) := T_G0
  clear T_G0
  clear hb
  go_wp2_with fail
  refine (laws_toIntSS.calls k _ _ l0 z0 w12 (Kd.C_below HR0.out B12.out) HC0.out Q_z0.out).mono ?_
  rintro e w13 ⟨v_z0, rfl, ho_z0, hb⟩
  have Z13 := Aside0.mk hb.size
  have B13 := Aside0.mk (below_then B12.out B12.out.size hb)
  obtain ⟨A_z0, c_z0, rfl, hl_z0, hC_z0⟩ := Kd.S_reads ho_z0
  clear hl_z0 hC_z0
  have F_z0 : Aside0 (Kd.S (Kd.slice 3 (Kd.int .i64)) 27 w13 w12.heap.size (fun k_ => k_ < w13.heap.size) (.slice A_z0 z0.length c_z0) z0) := ⟨Kd.S_mono (Kd.S_bound ho_z0) (fun _ hk => hk.2.2.1)⟩
  clear ho_z0
  have T_W0 := Aside0.mk (Kd.R_below F_W0.out hb)
  clear F_W0
  have F_W0 : Aside0 (Kd.R (Kd.int .i64) 3 w13 w2.heap.size (fun k_ => k_ < w3.heap.size) (.slice A_W0 W0.length c_W0) W0) := T_W0
  clear T_W0
  have T_G0 := Aside0.mk (Kd.R_below F_G0.out hb)
  clear F_G0
  have F_G0 : Aside0 (Kd.R (Kd.int .i64) 3 w13 w.heap.size (fun k_ => k_ < w5.heap.size) (.slice A_G0 n0b.length c_G0) n0b) := T_G0
  clear T_G0
  clear hb
  go_wp2_with fail
  refine (impl_OnTimeOrder.calls k _ _ z0 H0 w13 (Kd.S_reads' F_z0.out).2.2 (Kd.S_reads' F_z0.out).2.1 Q_H.out).mono ?_
  rintro e w14 ⟨v_H0, rfl, ho_H0, hb⟩
  have Z14 := Aside0.mk hb.size
  have B14 := Aside0.mk (below_then B13.out B13.out.size hb)
  obtain ⟨A_H0, c_H0, rfl, hl_H0, hC_H0⟩ := Kd.R_reads ho_H0
  clear hl_H0 hC_H0
  have F_H0 : Aside0 (Kd.R (Kd.int .i64) 3 w14 w13.heap.size (fun k_ => k_ < w14.heap.size) (.slice A_H0 H0.length c_H0) H0) := ⟨Kd.R_mono (Kd.R_bound ho_H0) (fun _ hk => hk.2.2.1)⟩
  clear ho_H0
  have T_W0 := Aside0.mk (Kd.R_below F_W0.out hb)
  clear F_W0
  have F_W0 : Aside0 (Kd.R (Kd.int .i64) 3 w14 w2.heap.size (fun k_ => k_ < w3.heap.size) (.slice A_W0 W0.length c_W0) W0) := T_W0
  clear T_W0
  have T_G0 := Aside0.mk (Kd.R_below F_G0.out hb)
  clear F_G0
  have F_G0 : Aside0 (Kd.R (Kd.int .i64) 3 w14 w.heap.size (fun k_ => k_ < w5.heap.size) (.slice A_G0 n0b.length c_G0) n0b) := T_G0
  clear T_G0
  have T_z0 := Aside0.mk (Kd.S_below F_z0.out hb)
  clear F_z0
  have F_z0 : Aside0 (Kd.S (Kd.slice 3 (Kd.int .i64)) 27 w14 w12.heap.size (fun k_ => k_ < w13.heap.size) (.slice A_z0 z0.length c_z0) z0) := T_z0
  clear T_z0
  clear hb
  clear F_z0
  go_wp2_with fail
  refine (laws_eqIntS.calls k _ _ H0 _ _ W0 true w14 (Kd.R_reads' F_H0.out).2.2 (Kd.R_reads' F_H0.out).2.1 (Kd.R_reads' F_W0.out).2.2 (Kd.R_reads' F_W0.out).2.1 Q_d0.out).mono ?_
  rintro e w15 ⟨rfl, hd⟩
  have hb := hd.below
  clear hd
  have Z15 := Aside0.mk hb.size
  have B15 := Aside0.mk (below_then B14.out B14.out.size hb)
  have T_W0 := Aside0.mk (Kd.R_below F_W0.out hb)
  clear F_W0
  have F_W0 : Aside0 (Kd.R (Kd.int .i64) 3 w15 w2.heap.size (fun k_ => k_ < w3.heap.size) (.slice A_W0 W0.length c_W0) W0) := T_W0
  clear T_W0
  have T_G0 := Aside0.mk (Kd.R_below F_G0.out hb)
  clear F_G0
  have F_G0 : Aside0 (Kd.R (Kd.int .i64) 3 w15 w.heap.size (fun k_ => k_ < w5.heap.size) (.slice A_G0 n0b.length c_G0) n0b) := T_G0
  clear T_G0
  have T_H0 := Aside0.mk (Kd.R_below F_H0.out hb)
  clear F_H0
  have F_H0 : Aside0 (Kd.R (Kd.int .i64) 3 w15 w13.heap.size (fun k_ => k_ < w14.heap.size) (.slice A_H0 H0.length c_H0) H0) := T_H0
  clear T_H0
  clear hb
  go_wp2_with fail
  refine (laws_heldIntS.calls k _ _ n0b 1 q0 w15 (Kd.R_reads' F_G0.out).2.2 (Kd.R_reads' F_G0.out).2.1 Q_q0.out).mono ?_
  rintro e w16 ⟨rfl, hd⟩
  have hb := hd.below
  clear hd
  have Z16 := Aside0.mk hb.size
  have B16 := Aside0.mk (below_then B15.out B15.out.size hb)
  have T_W0 := Aside0.mk (Kd.R_below F_W0.out hb)
  clear F_W0
  have F_W0 : Aside0 (Kd.R (Kd.int .i64) 3 w16 w2.heap.size (fun k_ => k_ < w3.heap.size) (.slice A_W0 W0.length c_W0) W0) := T_W0
  clear T_W0
  have T_G0 := Aside0.mk (Kd.R_below F_G0.out hb)
  clear F_G0
  have F_G0 : Aside0 (Kd.R (Kd.int .i64) 3 w16 w.heap.size (fun k_ => k_ < w5.heap.size) (.slice A_G0 n0b.length c_G0) n0b) := T_G0
  clear T_G0
  have T_H0 := Aside0.mk (Kd.R_below F_H0.out hb)
  clear F_H0
  have F_H0 : Aside0 (Kd.R (Kd.int .i64) 3 w16 w13.heap.size (fun k_ => k_ < w14.heap.size) (.slice A_H0 H0.length c_H0) H0) := T_H0
  clear T_H0
  clear hb
  go_wp2_with fail
  go_ret
  exact ⟨rfl, B16.out⟩
end Go.Proofs.Ytoonamloihbjnaa.PA
/- ints -/
namespace Go.Proofs.Ytoonamloihbjnaa.PA
open Go.RowKit Go.Proofs.YtoonamloihbjnaaW.PrintWords Go.Proofs.YtoonamloihbjnaaW.PrintLast Go.Proofs.YtoonamloihbjnaaW.PrintMore
set_option linter.unusedVariables false
set_option linter.unusedSimpArgs false
theorem w64 {x : Int} (h0 : -9223372036854775808 ≤ x) (h1 : x < 9223372036854775808) : wrap64 x = x := by
  unfold wrap64
  omega
theorem rd_nat (l : List Int) (i : Nat) : rd l (i : Int) = l.getD i 0 := by simp [rd]
theorem rd_get {l : List Int} {i : Nat} (h : i < l.length) : rd l (i : Int) = l[i] := by simp [rd, List.getD_eq_getElem?_getD, h]
theorem ev_eq {α : Type} {g : Nat → Option α} {r r' : α} (h : Ev g r) (e : r = r') : Ev g r' := e ▸ h
theorem ev_const {α : Type} {a : Option α} {r : α} (h : a = some r) : Ev (fun _ => a) r := ⟨0, fun _ _ => h⟩
theorem take_step {l : List Int} {i : Nat} (h : i < l.length) : l.take (i + 1) = l.take i ++ [l[i]] := by
  rw [List.take_succ_eq_append_getElem h]
theorem toIntS_l (x0 : List Int) (hx : x0.length < 9223372036854775807) : ∀ (d i : Nat) (x3 : List Int), i + d = x0.length → x3.length = x0.length → x3.take i = x0.take i → Ev (fun k => laws_toIntS.l0 k x0 x3 (i : Int)) x0 := by
  intro d
  induction d with
  | zero =>
    intro i x3 hi hl ht
    have e : x3 = x0 := by
      have h1 : x3.take i = x3 := List.take_of_length_le (by omega)
      have h2 : x0.take i = x0 := List.take_of_length_le (by omega)
      rw [h1, h2] at ht
      exact ht
    refine Ev.step (f := fun _ => some x0) (fun k => ?_) (Ev.now _)
    simp only [laws_toIntS.l0]
    rw [if_neg (by omega), e]
  | succ d ih =>
    intro i x3 hi hl ht
    have hlt : i < x0.length := by omega
    refine Ev.step (f := fun k => laws_toIntS.l0 k x0 (x3.set i x0[i]) ((i + 1 : Nat) : Int)) (fun k => ?_) (ih (i + 1) (x3.set i x0[i]) (by omega) (by simpa using hl) ?_)
    · simp only [laws_toIntS.l0]
      rw [if_pos (by omega), if_pos (by omega), if_pos (by omega), rd_get hlt, w64 (by omega) (by omega)]
      simp
    · rw [take_step (by simpa using (by omega : i < x3.length)), take_step hlt, List.take_set_of_le (Nat.le_refl _), ht]
      simp
theorem toIntS_ev (l : List Int) (hl : l.length ≤ 1048576) : Ev (fun k => laws_toIntS.f k l) l := by
  have h := toIntS_l l (by omega) l.length 0 (List.replicate l.length 0) (by omega) (by simp) (by simp)
  refine Ev.congr (fun k => ?_) h
  unfold laws_toIntS.f
  rw [if_pos (by omega), if_pos (by simp; omega)]
  simp
theorem eqIntS_l (x0 x1 : List Int) (hx : x0.length < 9223372036854775807) (hl : x0.length = x1.length) : ∀ (d i : Nat), i + d = x0.length → x0.take i = x1.take i → Ev (fun k => laws_eqIntS.l0 k x0 x1 (i : Int)) (decide (x0 = x1)) := by
  intro d
  induction d with
  | zero =>
    intro i hi ht
    have e : x0 = x1 := by
      have h1 : x0.take i = x0 := List.take_of_length_le (by omega)
      have h2 : x1.take i = x1 := List.take_of_length_le (by omega)
      rw [h1, h2] at ht
      exact ht
    refine Ev.step (f := fun _ => some (decide (x0 = x1))) (fun k => ?_) (Ev.now _)
    simp only [laws_eqIntS.l0]
    rw [if_neg (by omega), decide_eq_true e]
  | succ d ih =>
    intro i hi ht
    have hlt : i < x0.length := by omega
    have hlt1 : i < x1.length := by omega
    by_cases he : x0[i] = x1[i]
    · refine Ev.step (f := fun k => laws_eqIntS.l0 k x0 x1 ((i + 1 : Nat) : Int)) (fun k => ?_) (ih (i + 1) (by omega) ?_)
      · simp only [laws_eqIntS.l0]
        rw [if_pos (by omega), if_pos (by omega), if_pos (by omega), rd_get hlt, rd_get hlt1, if_pos he, w64 (by omega) (by omega)]
        simp
      · rw [take_step hlt, take_step hlt1, ht, he]
    · have hne : ¬ x0 = x1 := fun e => he (by subst e; rfl)
      refine Ev.step (f := fun _ => some (decide (x0 = x1))) (fun k => ?_) (Ev.now _)
      simp only [laws_eqIntS.l0]
      rw [if_pos (by omega), if_pos (by omega), if_pos (by omega), rd_get hlt, rd_get hlt1, if_neg he, decide_eq_false hne]
theorem eqIntS_ev (l m : List Int) (hl : l.length < 9223372036854775807) : Ev (fun k => laws_eqIntS.f k l m) (decide (l = m)) := by
  by_cases h : l.length = m.length
  · refine Ev.congr (fun k => ?_) (eqIntS_l l m hl h l.length 0 (by omega) (by simp))
    unfold laws_eqIntS.f
    rw [if_pos (by omega)]
    rfl
  · have hne : ¬ l = m := fun e => h (by rw [e])
    refine ev_eq (ev_const (a := some false) rfl |>.congr (fun k => ?_)) (decide_eq_false hne).symm
    unfold laws_eqIntS.f
    rw [if_neg (by omega)]
theorem rdL_get {l : List (List Int)} {i : Nat} (h : i < l.length) : rd_L1 l (i : Int) = l[i] := by simp [rd_L1, List.getD_eq_getElem?_getD, h]
theorem takeL_step {l : List (List Int)} {i : Nat} (h : i < l.length) : l.take (i + 1) = l.take i ++ [l[i]] := by
  rw [List.take_succ_eq_append_getElem h]
theorem toIntSS_l (x0 : List (List Int)) (hx : x0.length ≤ 1048576) (hr : ∀ r ∈ x0, r.length ≤ 1048576) : ∀ (d i : Nat) (x3 : List (List Int)), i + d = x0.length → x3.length = x0.length → x3.take i = x0.take i → Ev (fun k => laws_toIntSS.l0 k x0 x3 (i : Int)) x0 := by
  intro d
  induction d with
  | zero =>
    intro i x3 hi hl ht
    have e : x3 = x0 := by
      have h1 : x3.take i = x3 := List.take_of_length_le (by omega)
      have h2 : x0.take i = x0 := List.take_of_length_le (by omega)
      rw [h1, h2] at ht
      exact ht
    refine Ev.step (f := fun _ => some x0) (fun k => ?_) (Ev.now _)
    simp only [laws_toIntSS.l0]
    rw [if_neg (by omega), e]
  | succ d ih =>
    intro i x3 hi hl ht
    have hlt : i < x0.length := by omega
    have hnext := ih (i + 1) (x3.set i x0[i]) (by omega) (by simpa using hl) (by
      rw [takeL_step (by simpa using (by omega : i < x3.length)), takeL_step hlt, List.take_set_of_le (Nat.le_refl _), ht]
      simp)
    refine Ev.step (fun k => rfl) ?_
    simp only [laws_toIntSS.l0]
    refine Ev.congr (fun k => (if_pos (by omega)).trans (if_pos (by omega))) ?_
    rw [rdL_get hlt]
    refine Ev.bind (toIntS_ev x0[i] (hr _ (List.getElem_mem hlt))) ?_
    refine Ev.congr (fun k => (if_pos (by omega)).trans ?_) hnext
    rw [w64 (by omega) (by omega)]
    simp
theorem toIntSS_ev (l : List (List Int)) (hl : l.length ≤ 1048576) (hr : ∀ r ∈ l, r.length ≤ 1048576) : Ev (fun k => laws_toIntSS.f k l) l := by
  have h := toIntSS_l l hl hr l.length 0 (List.replicate l.length []) (by omega) (by simp) (by simp)
  refine Ev.congr (fun k => ?_) h
  unfold laws_toIntSS.f
  rw [if_pos (by omega), if_pos (by simp; omega)]
  simp
theorem eqIntSS_l (x0 x1 : List (List Int)) (hx : x0.length < 9223372036854775807) (hr : ∀ r ∈ x0, r.length < 9223372036854775807) (hl : x0.length = x1.length) : ∀ (d i : Nat), i + d = x0.length → x0.take i = x1.take i → Ev (fun k => laws_eqIntSS.l0 k x0 x1 (i : Int)) (decide (x0 = x1)) := by
  intro d
  induction d with
  | zero =>
    intro i hi ht
    have e : x0 = x1 := by
      have h1 : x0.take i = x0 := List.take_of_length_le (by omega)
      have h2 : x1.take i = x1 := List.take_of_length_le (by omega)
      rw [h1, h2] at ht
      exact ht
    refine Ev.step (f := fun _ => some (decide (x0 = x1))) (fun k => ?_) (Ev.now _)
    simp only [laws_eqIntSS.l0]
    rw [if_neg (by omega), decide_eq_true e]
  | succ d ih =>
    intro i hi ht
    have hlt : i < x0.length := by omega
    have hlt1 : i < x1.length := by omega
    refine Ev.step (fun k => rfl) ?_
    simp only [laws_eqIntSS.l0]
    refine Ev.congr (fun k => (if_pos (by omega)).trans ((if_pos (by omega)).trans (if_pos (by omega)))) ?_
    rw [rdL_get hlt, rdL_get hlt1]
    refine Ev.bind (eqIntS_ev x0[i] x1[i] (hr _ (List.getElem_mem hlt))) ?_
    by_cases he : x0[i] = x1[i]
    · refine Ev.congr (fun k => (if_pos (by simpa using he)).trans ?_) (ih (i + 1) (by omega) ?_)
      · rw [w64 (by omega) (by omega)]
        rfl
      · rw [takeL_step hlt, takeL_step hlt1, ht, he]
    · have hne : ¬ x0 = x1 := fun e => he (by subst e; rfl)
      rw [decide_eq_false hne]
      exact Ev.congr (fun k => if_neg (by simpa using he)) (Ev.now _)
theorem eqIntSS_ev (l m : List (List Int)) (hl : l.length < 9223372036854775807) (hr : ∀ r ∈ l, r.length < 9223372036854775807) : Ev (fun k => laws_eqIntSS.f k l m) (decide (l = m)) := by
  by_cases h : l.length = m.length
  · refine Ev.congr (fun k => ?_) (eqIntSS_l l m hl hr h l.length 0 (by omega) (by simp))
    unfold laws_eqIntSS.f
    rw [if_pos (by omega)]
    rfl
  · have hne : ¬ l = m := fun e => h (by rw [e])
    refine ev_eq (ev_const (a := some false) rfl |>.congr (fun k => ?_)) (decide_eq_false hne).symm
    unfold laws_eqIntSS.f
    rw [if_neg (by omega)]
theorem l01In_eq (a b c : Int) : spec_l01In.f a b c = some (decide (b ≤ a ∧ a ≤ c)) := by
  unfold spec_l01In.f
  by_cases h : a ≥ b
  · rw [if_pos h]; simp [h]
  · rw [if_neg h]; simp [h]
end Go.Proofs.Ytoonamloihbjnaa.PA
/- works -/
namespace Go.Proofs.Ytoonamloihbjnaa.PA
open Go.RowKit Go.Proofs.YtoonamloihbjnaaW.PrintWords Go.Proofs.YtoonamloihbjnaaW.PrintLast Go.Proofs.YtoonamloihbjnaaW.PrintMore
set_option linter.unusedVariables false
set_option linter.unusedSimpArgs false
structure WorkOk (r : List Int) : Prop where
  len : r.length = 2
  w1 : 1 ≤ rd r 0
  w2 : rd r 0 ≤ 100
  h1 : 0 ≤ rd r 1
  h2 : rd r 1 ≤ 1000
theorem badWork_false {r : List Int} : badWork r = false ↔ WorkOk r := by
  unfold badWork
  rw [Bool.not_eq_false', decide_eq_true_iff]
  exact ⟨fun ⟨a, b, c, d, e⟩ => ⟨a, b, c, d, e⟩, fun ⟨a, b, c, d, e⟩ => ⟨a, b, c, d, e⟩⟩
theorem worksOk_iff {l : List (List Int)} : worksOk l = true ↔ l.length ≤ 7 ∧ ∀ r ∈ l, WorkOk r := by
  unfold worksOk
  rw [Bool.and_eq_true, decide_eq_true_iff, Bool.not_eq_true', List.any_eq_false]
  constructor
  · rintro ⟨a, b⟩
    exact ⟨a, fun r hr => badWork_false.1 (by simpa using b r hr)⟩
  · rintro ⟨a, b⟩
    exact ⟨a, fun r hr => by simpa using badWork_false.2 (b r hr)⟩
theorem spec_WorksOk_l (l : List (List Int)) (hl : l.length ≤ 7) : ∀ (d i : Nat), i + d = l.length → Ev (fun k => spec_WorksOk.l0 k l (l.length : Int) (i : Int)) (!((l.drop i).any badWork)) := by
  intro d
  induction d with
  | zero =>
    intro i hi
    refine Ev.step (f := fun _ => some (!((l.drop i).any badWork))) (fun k => ?_) (Ev.now _)
    simp only [spec_WorksOk.l0]
    rw [if_neg (by omega), List.drop_of_length_le (by omega)]
    rfl
  | succ d ih =>
    intro i hi
    have hlt : i < l.length := by omega
    have hd : (l.drop i).any badWork = (badWork l[i] || (l.drop (i + 1)).any badWork) := by rw [List.drop_eq_getElem_cons hlt, List.any_cons]
    rw [hd]
    cases c : badWork l[i] with
    | false =>
      rw [Bool.false_or]
      refine Ev.step (f := fun k => spec_WorksOk.l0 k l (l.length : Int) ((i + 1 : Nat) : Int)) (fun k => ?_) (ih (i + 1) (by omega))
      obtain ⟨c1, c2, c3, c4, c5⟩ := badWork_false.1 c
      simp only [spec_WorksOk.l0, l01In_eq, Option.bind_some]
      rw [if_pos (by omega), if_pos (by omega), if_pos (by omega), rdL_get hlt, if_pos (by omega), if_pos (by omega), if_pos (by simpa using ⟨c2, c3⟩), if_pos (by omega), if_pos (by simpa using ⟨c4, c5⟩), w64 (by omega) (by omega)]
      rfl
    | true =>
      rw [Bool.true_or]
      refine Ev.step (f := fun k => some false) (fun k => ?_) (Ev.now _)
      have hc : ¬ WorkOk l[i] := fun z => by rw [badWork_false.2 z] at c; cases c
      simp only [spec_WorksOk.l0, l01In_eq, Option.bind_some]
      rw [if_pos (by omega), if_pos (by omega), if_pos (by omega), rdL_get hlt]
      by_cases e1 : l[i].length = 2
      · rw [if_pos (by omega), if_pos (by omega)]
        by_cases e2 : 1 ≤ rd l[i] 0 ∧ rd l[i] 0 ≤ 100
        · rw [if_pos (by simpa using e2), if_pos (by omega)]
          by_cases e3 : 0 ≤ rd l[i] 1 ∧ rd l[i] 1 ≤ 1000
          · exact absurd ⟨e1, e2.1, e2.2, e3.1, e3.2⟩ hc
          · rw [if_neg (by simpa using e3)]
        · rw [if_neg (by simpa using e2)]
      · rw [if_neg (by omega)]
theorem spec_WorksOk_ev (l : List (List Int)) : Ev (fun k => spec_WorksOk.f k l) (worksOk l) := by
  unfold spec_WorksOk.f
  by_cases c : l.length ≤ 7
  · refine Ev.congr (fun k => if_neg (by omega)) (ev_eq (spec_WorksOk_l l c l.length 0 (by omega)) ?_)
    unfold worksOk
    rw [decide_eq_true c]
    rfl
  · refine ev_eq (Ev.congr (fun k => if_pos (by omega)) (Ev.now false)) ?_
    unfold worksOk
    rw [decide_eq_false c]
    rfl
theorem impl_WorksOk_ev (l : List (List Int)) : Ev (fun _ => impl_WorksOk.f l) (worksOk l) := ev_const rfl
theorem work_at {ws : List (List Int)} (h : worksOk ws = true) {i : Int} (h0 : 0 ≤ i) (h1 : i ≤ (ws.length : Int) - 1) : WorkOk (rd_L1 ws i) := by
  have hj : i.toNat < ws.length := by omega
  have : rd_L1 ws i = ws[i.toNat] := by simp [rd_L1, List.getD_eq_getElem?_getD, hj]
  rw [this]
  exact (worksOk_iff.1 h).2 _ (List.getElem_mem hj)
end Go.Proofs.Ytoonamloihbjnaa.PA
/- orders of works -/
namespace Go.Proofs.Ytoonamloihbjnaa.PA
open Go.RowKit Go.Proofs.YtoonamloihbjnaaW.PrintWords Go.Proofs.YtoonamloihbjnaaW.PrintLast Go.Proofs.YtoonamloihbjnaaW.PrintMore
set_option linter.unusedVariables false
set_option linter.unusedSimpArgs false
def upto (n : Nat) : List Int := (List.range n).map fun i : Nat => (i : Int)
theorem upto_len (n : Nat) : (upto n).length = n := by simp [upto]
theorem upto_succ (n : Nat) : upto (n + 1) = upto n ++ [(n : Int)] := by
  unfold upto
  rw [List.range_succ, List.map_append]
  rfl
theorem mem_upto {n : Nat} {x : Int} : x ∈ upto n ↔ 0 ≤ x ∧ x ≤ (n : Int) - 1 := by
  unfold upto
  rw [List.mem_map]
  constructor
  · rintro ⟨i, hi, rfl⟩
    have := List.mem_range.1 hi
    omega
  · rintro ⟨h1, h2⟩
    exact ⟨x.toNat, List.mem_range.2 (by omega), by omega⟩
theorem orderOf_l (n : Nat) (hn : n ≤ 7) : ∀ (m i : Nat), i + m = n → Ev (fun k => impl_orderOf.l0 k (upto i) (n : Int) (i : Int)) (upto n) := by
  intro m
  induction m with
  | zero =>
    intro i hi
    obtain rfl : i = n := by omega
    refine Ev.step (f := fun _ => some (upto i)) (fun k => ?_) (Ev.now _)
    simp only [impl_orderOf.l0]
    rw [if_neg (by omega)]
  | succ m ih =>
    intro i hi
    have hl := upto_len i
    refine Ev.step (f := fun k => impl_orderOf.l0 k (upto (i + 1)) (n : Int) ((i + 1 : Nat) : Int)) (fun k => ?_) (ih (i + 1) (by omega))
    simp only [impl_orderOf.l0]
    rw [if_pos (by omega), if_pos (by omega), w64 (by omega) (by omega), upto_succ]
    simp
theorem orderOf_ev (n : Nat) (hn : n ≤ 7) : Ev (fun k => impl_orderOf.f k (n : Int)) (upto n) := orderOf_l n hn n 0 (by omega)
end Go.Proofs.Ytoonamloihbjnaa.PA
/- order by a column -/
namespace Go.Proofs.Ytoonamloihbjnaa.PA
open Go.RowKit Go.Proofs.YtoonamloihbjnaaW.PrintWords Go.Proofs.YtoonamloihbjnaaW.PrintLast Go.Proofs.YtoonamloihbjnaaW.PrintMore
set_option linter.unusedVariables false
set_option linter.unusedSimpArgs false
def pos (K : Int → Int) (P : List Int) (x : Int) : Nat → Nat
  | 0 => 0
  | j + 1 => if K (rd P (j : Int)) > K x then pos K P x j else j + 1
def insAt (P : List Int) (j : Nat) (x : Int) : List Int := P.take j ++ x :: P.drop j
def sortL (K : Int → Int) : List Int → List Int → List Int
  | P, [] => P
  | P, x :: S => sortL K (insAt P (pos K P x P.length) x) S
theorem pos_le (K : Int → Int) (P : List Int) (x : Int) : ∀ j, pos K P x j ≤ j := by
  intro j
  induction j with
  | zero => exact Nat.le_refl _
  | succ j ih => simp only [pos]; split <;> omega
theorem insAt_len {P : List Int} {j : Nat} (x : Int) (h : j ≤ P.length) : (insAt P j x).length = P.length + 1 := by simp [insAt]; omega
theorem insAt_mem {P : List Int} {j : Nat} {x y : Int} (h : y ∈ insAt P j x) : y ∈ P ∨ y = x := by
  unfold insAt at h
  rcases List.mem_append.1 h with h | h
  · exact .inl (List.mem_of_mem_take h)
  · rcases List.mem_cons.1 h with h | h
    · exact .inr h
    · exact .inl (List.mem_of_mem_drop h)
def keyBy (ws : List (List Int)) (c x : Int) : Int := rd (rd_L1 ws x) c
theorem key_bd {ws : List (List Int)} (h : worksOk ws = true) {c x : Int} (hc : c = 0 ∨ c = 1) (h0 : 0 ≤ x) (h1 : x ≤ (ws.length : Int) - 1) : 0 ≤ keyBy ws c x ∧ keyBy ws c x ≤ 1000 ∧ (rd_L1 ws x).length = 2 := by
  have hw := work_at h h0 h1
  have w1 := hw.w1
  have w2 := hw.w2
  have w3 := hw.h1
  have w4 := hw.h2
  unfold keyBy
  rcases hc with rfl | rfl
  · exact ⟨by omega, by omega, hw.len⟩
  · exact ⟨by omega, by omega, hw.len⟩
theorem spec_by_1 {ws : List (List Int)} (h : worksOk ws = true) {c : Int} (hc : c = 0 ∨ c = 1) (P : List Int) (i : Nat) (hi : i < ws.length) (hP : P.length ≤ 7) (hb : ∀ y ∈ P, 0 ≤ y ∧ y ≤ (ws.length : Int) - 1) (R : List Int) : ∀ j, j ≤ P.length →
    Ev (fun k => spec_l24By.l0 k ws c (insAt P (pos (keyBy ws c) P (i : Int) j) (i : Int)) ws (ws.length : Int) ((i + 1 : Nat) : Int)) R →
    Ev (fun k => spec_l24By.l1 k ws c P (i : Int) (rd_L1 ws (i : Int)) (j : Int) ws (ws.length : Int) (i : Int)) R := by
  intro j
  have hs := (worksOk_iff.1 h).1
  have hx := key_bd h hc (show (0 : Int) ≤ (i : Int) by omega) (by omega)
  have put : ∀ j : Nat, j ≤ P.length → ¬ ((j : Int) > 0 ∧ keyBy ws c (rd P (j - 1 : Int)) > keyBy ws c (i : Int)) → Ev (fun k => spec_l24By.l0 k ws c (insAt P j (i : Int)) ws (ws.length : Int) ((i + 1 : Nat) : Int)) R → Ev (fun k => spec_l24By.l1 k ws c P (i : Int) (rd_L1 ws (i : Int)) (j : Int) ws (ws.length : Int) (i : Int)) R := by
    intro j hj hn hr
    refine Ev.step (f := fun k => spec_l24By.l0 k ws c (insAt P j (i : Int)) ws (ws.length : Int) ((i + 1 : Nat) : Int)) (fun k => ?_) hr
    simp only [spec_l24By.l1, Option.bind_some]
    have e : ([] ++ P.take j ++ [(i : Int)]) ++ P.drop j = insAt P j (i : Int) := by simp [insAt]
    by_cases c0 : (j : Int) > 0
    · have hlt : j - 1 < P.length := by omega
      have hy := hb P[j - 1] (List.getElem_mem hlt)
      have hk := key_bd h hc hy.1 hy.2
      have ej : ((j : Int) - 1) = ((j - 1 : Nat) : Int) := by omega
      rw [ej] at hn
      rw [if_pos c0, w64 (x := (j : Int) - 1) (by omega) (by omega), ej, rd_get hlt]
      rw [rd_get hlt] at hn
      unfold keyBy at hn
      rw [if_pos (by omega), if_pos (by omega), if_pos hy.1, if_pos (by omega), if_pos (by omega), if_pos (by omega), if_pos (by omega), if_neg (fun z => hn ⟨c0, z⟩)]
      rw [if_pos (by omega), if_pos (by omega), if_pos (by simp; omega), if_pos (by simp; omega), if_pos (by simp; omega), Int.toNat_natCast, e, w64 (x := (i : Int) + 1) (by omega) (by omega)]
      rfl
    · rw [if_neg c0, if_pos (by omega), if_pos (by omega), if_pos (by simp; omega), if_pos (by simp; omega), if_pos (by simp; omega), Int.toNat_natCast, e, w64 (x := (i : Int) + 1) (by omega) (by omega)]
      rfl
  induction j with
  | zero => intro hj hr; exact put 0 hj (by simp) hr
  | succ j ih =>
    intro hj hr
    simp only [pos] at hr
    have hlt : j < P.length := by omega
    by_cases c1 : keyBy ws c (rd P (j : Int)) > keyBy ws c (i : Int)
    · rw [if_pos c1] at hr
      have hy := hb P[j] (List.getElem_mem hlt)
      have hk := key_bd h hc hy.1 hy.2
      refine Ev.step (f := fun k => spec_l24By.l1 k ws c P (i : Int) (rd_L1 ws (i : Int)) (j : Int) ws (ws.length : Int) (i : Int)) (fun k => ?_) (ih (by omega) hr)
      simp only [spec_l24By.l1]
      rw [show wrap64 (((j + 1 : Nat) : Int) - 1) = (j : Int) by rw [w64 (by omega) (by omega)]; omega]
      unfold keyBy at c1
      rw [rd_get hlt] at c1 ⊢
      rw [if_pos (by omega), if_pos (by omega), if_pos (by omega), if_pos hy.1, if_pos (by omega), if_pos (by omega), if_pos (by omega), if_pos (by omega), if_pos c1]
    · rw [if_neg c1] at hr
      refine put (j + 1) hj (fun z => c1 ?_) hr
      have := z.2
      rwa [show ((j + 1 : Nat) : Int) - 1 = (j : Int) by omega] at this
theorem spec_by_0 {ws : List (List Int)} (h : worksOk ws = true) {c : Int} (hc : c = 0 ∨ c = 1) : ∀ (m i : Nat) (P : List Int), i + m = ws.length → P.length = i → (∀ y ∈ P, 0 ≤ y ∧ y ≤ (ws.length : Int) - 1) →
    Ev (fun k => spec_l24By.l0 k ws c P ws (ws.length : Int) (i : Int)) (sortL (keyBy ws c) P ((List.range' i m).map fun t : Nat => (t : Int))) := by
  intro m
  have hs := (worksOk_iff.1 h).1
  induction m with
  | zero =>
    intro i P hi hP hb
    refine Ev.step (f := fun _ => some P) (fun k => ?_) (Ev.now _)
    simp only [spec_l24By.l0]
    rw [if_neg (by omega)]
  | succ m ih =>
    intro i P hi hP hb
    have hlt : i < ws.length := by omega
    rw [List.range'_succ, List.map_cons]
    simp only [sortL]
    have hl := insAt_len (P := P) (i : Int) (pos_le (keyBy ws c) P (i : Int) P.length)
    have hn := ih (i + 1) (insAt P (pos (keyBy ws c) P (i : Int) P.length) (i : Int)) (by omega) (by omega) (fun y hy => by
      rcases insAt_mem hy with hy | rfl
      · exact hb y hy
      · omega)
    refine Ev.step (f := fun k => spec_l24By.l1 k ws c P (i : Int) (rd_L1 ws (i : Int)) (P.length : Int) ws (ws.length : Int) (i : Int)) (fun k => ?_) (spec_by_1 h hc P i hlt (by omega) hb _ P.length (Nat.le_refl _) hn)
    simp only [spec_l24By.l0]
    rw [if_pos (by omega), if_pos (by omega), if_pos (by omega)]
theorem cfBy_eq {ws : List (List Int)} (h : worksOk ws = true) {c : Int} (hc : c = 0 ∨ c = 1) {x y : Int} (h0 : 0 ≤ x ∧ x ≤ (ws.length : Int) - 1) (h1 : 0 ≤ y ∧ y ≤ (ws.length : Int) - 1) : cfBy ws c x y = some (keyBy ws c x - keyBy ws c y) := by
  have k1 := key_bd h hc h0.1 h0.2
  have k2 := key_bd h hc h1.1 h1.2
  unfold cfBy
  rw [if_pos ⟨⟨h0.1, by omega⟩, h1.1, by omega⟩, if_pos ⟨⟨by omega, by omega⟩, by omega⟩]
  unfold keyBy at *
  rw [w64 (by omega) (by omega)]
theorem swap_eq (A B : List Int) (p x : Int) : ((A ++ p :: x :: B).set (A.length + 1) p).set A.length x = A ++ x :: p :: B := by
  simp [List.set_append]
theorem rd_at (A B : List Int) (p : Int) : rd (A ++ p :: B) (A.length : Int) = p := by
  rw [rd_nat]
  simp [List.getD_eq_getElem?_getD]
theorem rd_at1 (A B : List Int) (p x : Int) : rd (A ++ p :: x :: B) ((A.length + 1 : Nat) : Int) = x := by
  rw [rd_nat]
  simp [List.getD_eq_getElem?_getD]
theorem impl_ins_1 {ws : List (List Int)} (h : worksOk ws = true) {c : Int} (hc : c = 0 ∨ c = 1) (P S : List Int) (x : Int) (n : Int) (hP : P.length + S.length ≤ 7) (hx : 0 ≤ x ∧ x ≤ (ws.length : Int) - 1) (hb : ∀ y ∈ P, 0 ≤ y ∧ y ≤ (ws.length : Int) - 1) (R : List Int) : ∀ j, j ≤ P.length →
    Ev (fun k => slices_insertionSortCmpFunc_int.l0 (cfBy ws c) k (insAt P (pos (keyBy ws c) P x j) x ++ S) 0 n ((P.length + 1 : Nat) : Int)) R →
    Ev (fun k => slices_insertionSortCmpFunc_int.l1 (cfBy ws c) k (insAt P j x ++ S) 0 n (P.length : Int) (j : Int)) R := by
  intro j
  induction j with
  | zero =>
    intro hj hr
    simp only [pos] at hr
    refine Ev.step (f := fun k => slices_insertionSortCmpFunc_int.l0 (cfBy ws c) k (insAt P 0 x ++ S) 0 n ((P.length + 1 : Nat) : Int)) (fun k => ?_) hr
    simp only [slices_insertionSortCmpFunc_int.l1]
    rw [if_neg (by omega), w64 (x := (P.length : Int) + 1) (by omega) (by omega)]
    rfl
  | succ j ih =>
    intro hj hr
    simp only [pos] at hr
    have hlt : j < P.length := by omega
    have hy := hb P[j] (List.getElem_mem hlt)
    have eA : (P.take j).length = j := by rw [List.length_take]; omega
    have e1 : insAt P (j + 1) x ++ S = P.take j ++ P[j] :: x :: (P.drop (j + 1) ++ S) := by
      unfold insAt
      rw [List.take_succ_eq_append_getElem hlt]
      simp only [List.append_assoc, List.cons_append, List.nil_append]
    have e2 : insAt P j x ++ S = P.take j ++ x :: P[j] :: (P.drop (j + 1) ++ S) := by
      unfold insAt
      rw [List.drop_eq_getElem_cons hlt]
      simp only [List.append_assoc, List.cons_append, List.nil_append]
    have r1 : rd (P.take j ++ P[j] :: x :: (P.drop (j + 1) ++ S)) ((j + 1 : Nat) : Int) = x := by have := rd_at1 (P.take j) (P.drop (j + 1) ++ S) P[j] x; rwa [eA] at this
    have r2 : rd (P.take j ++ P[j] :: x :: (P.drop (j + 1) ++ S)) (j : Int) = P[j] := by have := rd_at (P.take j) (x :: (P.drop (j + 1) ++ S)) P[j]; rwa [eA] at this
    have sw : ((P.take j ++ P[j] :: x :: (P.drop (j + 1) ++ S)).set (j + 1) P[j]).set j x = insAt P j x ++ S := by rw [e2]; have := swap_eq (P.take j) (P.drop (j + 1) ++ S) P[j] x; rwa [eA] at this
    have hlen : (P.take j ++ P[j] :: x :: (P.drop (j + 1) ++ S)).length = P.length + 1 + S.length := by simp; omega
    rw [e1]
    rw [rd_get hlt] at hr
    by_cases c1 : keyBy ws c P[j] > keyBy ws c x
    · rw [if_pos c1] at hr
      refine Ev.step (f := fun k => slices_insertionSortCmpFunc_int.l1 (cfBy ws c) k (insAt P j x ++ S) 0 n (P.length : Int) (j : Int)) (fun k => ?_) (ih (by omega) hr)
      simp only [slices_insertionSortCmpFunc_int.l1]
      rw [show wrap64 (((j + 1 : Nat) : Int) - 1) = (j : Int) by rw [w64 (by omega) (by omega)]; omega]
      rw [if_pos (by omega), if_pos (by omega), if_pos (by omega), if_pos (by omega), if_pos (by omega), r1, r2, cfBy_eq h hc hx hy, Option.bind_some, if_pos (by omega), Int.toNat_natCast, Int.toNat_natCast, sw]
    · rw [if_neg c1, e1] at hr
      refine Ev.step (f := fun k => slices_insertionSortCmpFunc_int.l0 (cfBy ws c) k (P.take j ++ P[j] :: x :: (P.drop (j + 1) ++ S)) 0 n ((P.length + 1 : Nat) : Int)) (fun k => ?_) hr
      simp only [slices_insertionSortCmpFunc_int.l1]
      rw [show wrap64 (((j + 1 : Nat) : Int) - 1) = (j : Int) by rw [w64 (by omega) (by omega)]; omega]
      rw [if_pos (by omega), if_pos (by omega), if_pos (by omega), if_pos (by omega), if_pos (by omega), r1, r2, cfBy_eq h hc hx hy, Option.bind_some, if_neg (by omega), w64 (x := (P.length : Int) + 1) (by omega) (by omega)]
      rfl
theorem impl_ins_0 {ws : List (List Int)} (h : worksOk ws = true) {c : Int} (hc : c = 0 ∨ c = 1) : ∀ (S P : List Int), P.length + S.length ≤ 7 → (∀ y ∈ P, 0 ≤ y ∧ y ≤ (ws.length : Int) - 1) → (∀ y ∈ S, 0 ≤ y ∧ y ≤ (ws.length : Int) - 1) →
    Ev (fun k => slices_insertionSortCmpFunc_int.l0 (cfBy ws c) k (P ++ S) 0 ((P.length + S.length : Nat) : Int) (P.length : Int)) (sortL (keyBy ws c) P S) := by
  intro S
  induction S with
  | nil =>
    intro P hl hb _
    refine Ev.step (f := fun _ => some (P ++ [])) (fun k => ?_) (ev_eq (Ev.now _) (by simp [sortL]))
    simp only [slices_insertionSortCmpFunc_int.l0]
    rw [if_neg (by simp)]
  | cons x S ih =>
    intro P hl hb hs
    simp only [List.length_cons] at hl
    have hx := hs x List.mem_cons_self
    have hlen := insAt_len (P := P) x (pos_le (keyBy ws c) P x P.length)
    have hn := ih (insAt P (pos (keyBy ws c) P x P.length) x) (by omega) (fun y hy => by
      rcases insAt_mem hy with hy | rfl
      · exact hb y hy
      · exact hx) (fun y hy => hs y (List.mem_cons_of_mem _ hy))
    rw [hlen] at hn
    have e : P ++ x :: S = insAt P P.length x ++ S := by simp [insAt]
    have h1 := impl_ins_1 h hc P S x ((P.length + 1 + S.length : Nat) : Int) (by omega) hx hb _ P.length (Nat.le_refl _) hn
    simp only [sortL]
    rw [e]
    refine Ev.step (f := fun k => slices_insertionSortCmpFunc_int.l1 (cfBy ws c) k (insAt P P.length x ++ S) 0 ((P.length + 1 + S.length : Nat) : Int) (P.length : Int) (P.length : Int)) (fun k => ?_) h1
    simp only [slices_insertionSortCmpFunc_int.l0, List.length_cons]
    rw [if_pos (by omega), show P.length + (S.length + 1) = P.length + 1 + S.length by omega]
def orderBy (ws : List (List Int)) (c : Int) : List Int := sortL (keyBy ws c) [] (upto ws.length)
theorem spec_by_ev {ws : List (List Int)} (h : worksOk ws = true) {c : Int} (hc : c = 0 ∨ c = 1) : Ev (fun k => spec_l24By.f k ws c) (orderBy ws c) := by
  have e := spec_by_0 h hc ws.length 0 [] (by omega) rfl (by simp)
  rw [← List.range_eq_range'] at e
  exact e
theorem impl_by_ev {ws : List (List Int)} (h : worksOk ws = true) {c : Int} (hc : c = 0 ∨ c = 1) : Ev (fun k => impl_orderBy.f k ws c) (orderBy ws c) := by
  have hs := (worksOk_iff.1 h).1
  unfold impl_orderBy.f
  refine Ev.bind (orderOf_ev ws.length hs) ?_
  refine Ev.congr (fun k => if_pos (by rw [upto_len]; omega)) ?_
  unfold slices_insertionSortCmpFunc_int.f orderBy
  rw [upto_len]
  have hm : ∀ y ∈ upto ws.length, 0 ≤ y ∧ y ≤ (ws.length : Int) - 1 := fun y hy => mem_upto.1 hy
  have hl := upto_len ws.length
  generalize upto ws.length = S at *
  cases S with
  | nil =>
    simp only [List.length_nil] at hl
    refine Ev.step (f := fun _ => some []) (fun k => ?_) (Ev.now _)
    simp only [slices_insertionSortCmpFunc_int.l0]
    rw [if_neg (by rw [w64 (by omega) (by omega)]; omega)]
  | cons x S =>
    simp only [List.length_cons] at hl
    have e := impl_ins_0 h hc S [x] (by simp; omega) (fun y hy => hm y (by simp at hy; simp [hy])) (fun y hy => hm y (List.mem_cons_of_mem _ hy))
    simp only [List.length_cons, List.length_nil] at e
    rw [show wrap64 (0 + 1) = ((0 + 1 : Nat) : Int) by rw [w64 (by omega) (by omega)]; rfl, ← hl, show S.length + 1 = 0 + 1 + S.length by omega]
    exact e
end Go.Proofs.Ytoonamloihbjnaa.PA
/- due order, short order -/
namespace Go.Proofs.Ytoonamloihbjnaa.PA
open Go.RowKit Go.Proofs.YtoonamloihbjnaaW.PrintWords Go.Proofs.YtoonamloihbjnaaW.PrintLast Go.Proofs.YtoonamloihbjnaaW.PrintMore
set_option linter.unusedVariables false
set_option linter.unusedSimpArgs false
theorem sortL_len (K : Int → Int) : ∀ (S P : List Int), (sortL K P S).length = P.length + S.length := by
  intro S
  induction S with
  | nil => intro P; rfl
  | cons x S ih =>
    intro P
    simp only [sortL]
    rw [ih, insAt_len x (pos_le K P x P.length), List.length_cons]
    omega
end Go.Proofs.Ytoonamloihbjnaa.PA
/- on-time orders -/
namespace Go.Proofs.Ytoonamloihbjnaa.PA
open Go.RowKit Go.Proofs.YtoonamloihbjnaaW.PrintWords Go.Proofs.YtoonamloihbjnaaW.PrintLast Go.Proofs.YtoonamloihbjnaaW.PrintMore
set_option linter.unusedVariables false
set_option linter.unusedSimpArgs false
def longAt (K : Int → Int) (T : List Int) : Nat → Nat → Nat → Nat
  | 0, _, b => b
  | d + 1, i, b => longAt K T d (i + 1) (if K (rd T (i : Int)) > K (rd T (b : Int)) then i else b)
def onT (K D : Int → Int) : List Int → List Int → List Int → Int → List Int
  | [], T, O, _ => T ++ O
  | i :: S, T, O, h => if h + K i ≤ D i then onT K D S (T ++ [i]) O (h + K i) else
      onT K D S ((T ++ [i]).eraseIdx (longAt K (T ++ [i]) (T ++ [i]).length 0 0)) (O ++ [rd (T ++ [i]) (longAt K (T ++ [i]) (T ++ [i]).length 0 0 : Nat)]) (h + K i - K (rd (T ++ [i]) (longAt K (T ++ [i]) (T ++ [i]).length 0 0 : Nat)))
theorem longAt_lt (K : Int → Int) (T : List Int) : ∀ (d i b : Nat), i + d = T.length → b < T.length → longAt K T d i b < T.length := by
  intro d
  induction d with
  | zero => intro i b _ hb; exact hb
  | succ d ih =>
    intro i b hi hb
    simp only [longAt]
    refine ih (i + 1) _ (by omega) ?_
    split
    · omega
    · exact hb
theorem on_lens (T : List Int) (b : Nat) (h : b < T.length) (hT : T.length ≤ 8) : ([] : List Int).length + (T.take b).length < 17592186044416 ∧ ([] ++ T.take b : List Int).length + (T.drop (b + 1)).length < 17592186044416 := by
  have e1 := List.length_take_le b T
  have e2 : ([] : List Int).length = 0 := rfl
  have e3 : ([] ++ T.take b : List Int).length = (T.take b).length := rfl
  have e4 : (T.drop (b + 1)).length = T.length - (b + 1) := List.length_drop
  omega
theorem rd_range {ws : List (List Int)} {T : List Int} (hb : ∀ y ∈ T, 0 ≤ y ∧ y ≤ (ws.length : Int) - 1) {j : Nat} (h : j < T.length) : 0 ≤ rd T (j : Int) ∧ rd T (j : Int) ≤ (ws.length : Int) - 1 := by
  rw [rd_get h]
  exact hb _ (List.getElem_mem h)
set_option maxHeartbeats 1000000 in
theorem spec_on_1 {ws : List (List Int)} (h : worksOk ws = true) (T O S : List Int) (hh n : Int) (idx : Nat) (R : List Int) (hT : T.length ≤ 8) (hO : O.length ≤ 8) (hidx : idx ≤ 8) (hh1 : -10000 ≤ hh) (hh2 : hh ≤ 10000) (hb : ∀ y ∈ T, 0 ≤ y ∧ y ≤ (ws.length : Int) - 1) : ∀ (d i b : Nat), i + d = T.length → b < T.length →
    Ev (fun k => spec_OnTimeOrder.l0 k ws (T.eraseIdx (longAt (keyBy ws 0) T d i b)) (O ++ [rd T (longAt (keyBy ws 0) T d i b : Nat)]) (hh - keyBy ws 0 (rd T (longAt (keyBy ws 0) T d i b : Nat))) S n ((idx + 1 : Nat) : Int)) R →
    Ev (fun k => spec_OnTimeOrder.l1 k ws T O hh (b : Int) S n (idx : Int) T (T.length : Int) (i : Int)) R := by
  intro d
  induction d with
  | zero =>
    intro i b hi hbl hr
    simp only [longAt] at hr
    have hy := rd_range hb hbl
    have hk := key_bd h (.inl rfl) hy.1 hy.2
    unfold keyBy at hk hr
    refine Ev.step (f := fun k => spec_OnTimeOrder.l0 k ws (T.eraseIdx b) (O ++ [rd T (b : Int)]) (hh - rd (rd_L1 ws (rd T (b : Int))) 0) S n ((idx + 1 : Nat) : Int)) (fun k => ?_) hr
    rw [spec_OnTimeOrder.l1]
    have HW1 : Aside0 (wrap64 ((b : Int) + 1) = ((b + 1 : Nat) : Int)) := ⟨by rw [w64 (by omega) (by omega)]; omega⟩
    rw [if_neg (by omega), if_pos (by omega), if_pos (by omega), if_pos hy.1, if_pos (by omega), if_pos (by omega), if_pos (by omega), Option.bind_some, if_pos (by omega), Int.toNat_natCast, Option.bind_some, if_pos (on_lens T b hbl hT).1, Option.bind_some, HW1.out, if_pos (by omega), if_pos (by omega), Int.toNat_natCast, Option.bind_some, if_pos (on_lens T b hbl hT).2, w64 (x := hh - rd (rd_L1 ws (rd T (b : Int))) 0) (by omega) (by omega), w64 (x := (idx : Int) + 1) (by omega) (by omega), List.nil_append, ← List.eraseIdx_eq_take_drop_succ]
    rfl
  | succ d ih =>
    intro i b hi hbl hr
    simp only [longAt] at hr
    have hlt : i < T.length := by omega
    have hy := rd_range hb hbl
    have hk := key_bd h (.inl rfl) hy.1 hy.2
    have hy2 := rd_range hb hlt
    have hk2 := key_bd h (.inl rfl) hy2.1 hy2.2
    by_cases c : keyBy ws 0 (rd T (i : Int)) > keyBy ws 0 (rd T (b : Int))
    · rw [if_pos c] at hr
      refine Ev.step (f := fun k => spec_OnTimeOrder.l1 k ws T O hh (i : Int) S n (idx : Int) T (T.length : Int) ((i + 1 : Nat) : Int)) (fun k => ?_) (ih (i + 1) i (by omega) hlt hr)
      unfold keyBy at c
      rw [spec_OnTimeOrder.l1]
      rw [if_pos (by omega), if_pos (by omega), if_pos (by omega), if_pos hy2.1, if_pos (by omega), if_pos (by omega), if_pos (by omega), if_pos (by omega), if_pos hy.1, if_pos (by omega), if_pos (by omega), if_pos c, w64 (by omega) (by omega)]
      rfl
    · rw [if_neg c] at hr
      refine Ev.step (f := fun k => spec_OnTimeOrder.l1 k ws T O hh (b : Int) S n (idx : Int) T (T.length : Int) ((i + 1 : Nat) : Int)) (fun k => ?_) (ih (i + 1) b (by omega) hbl hr)
      unfold keyBy at c
      rw [spec_OnTimeOrder.l1]
      rw [if_pos (by omega), if_pos (by omega), if_pos (by omega), if_pos hy2.1, if_pos (by omega), if_pos (by omega), if_pos (by omega), if_pos (by omega), if_pos hy.1, if_pos (by omega), if_pos (by omega), if_neg c, w64 (by omega) (by omega)]
      rfl
set_option maxHeartbeats 1000000 in
theorem spec_on_0 {ws : List (List Int)} (h : worksOk ws = true) (S : List Int) (hS : ∀ y ∈ S, 0 ≤ y ∧ y ≤ (ws.length : Int) - 1) (hl : S.length ≤ 7) : ∀ (d idx : Nat) (T O : List Int) (hh : Int), idx + d = S.length → T.length + O.length = idx → (∀ y ∈ T, 0 ≤ y ∧ y ≤ (ws.length : Int) - 1) → -(1000 * (idx : Int)) ≤ hh → hh ≤ 1000 * (idx : Int) →
    Ev (fun k => spec_OnTimeOrder.l0 k ws T O hh S (S.length : Int) (idx : Int)) (onT (keyBy ws 0) (keyBy ws 1) (S.drop idx) T O hh) := by
  intro d
  induction d with
  | zero =>
    intro idx T O hh hi hTO hb h1 h2
    rw [List.drop_of_length_le (by omega)]
    refine Ev.step (f := fun _ => some (T ++ O)) (fun k => ?_) (Ev.now _)
    rw [spec_OnTimeOrder.l0, if_neg (by omega), if_pos (by omega)]
  | succ d ih =>
    intro idx T O hh hi hTO hb h1 h2
    have hlt : idx < S.length := by omega
    have hx := hS S[idx] (List.getElem_mem hlt)
    have hk := key_bd h (.inl rfl) hx.1 hx.2
    have hk1 := key_bd h (.inr rfl) hx.1 hx.2
    rw [List.drop_eq_getElem_cons hlt]
    simp only [onT]
    have hb' : ∀ y ∈ T ++ [S[idx]], 0 ≤ y ∧ y ≤ (ws.length : Int) - 1 := fun y hy => by
      rcases List.mem_append.1 hy with hy | hy
      · exact hb y hy
      · have : y = S[idx] := by simpa using hy
        rw [this]
        exact hx
    by_cases c : hh + keyBy ws 0 S[idx] ≤ keyBy ws 1 S[idx]
    · rw [if_pos c]
      refine Ev.step (f := fun k => spec_OnTimeOrder.l0 k ws (T ++ [S[idx]]) O (hh + keyBy ws 0 S[idx]) S (S.length : Int) ((idx + 1 : Nat) : Int)) (fun k => ?_) (ih (idx + 1) (T ++ [S[idx]]) O (hh + keyBy ws 0 S[idx]) (by omega) (by simp; omega) hb' (by omega) (by omega))
      unfold keyBy at c hk hk1 ⊢
      rw [spec_OnTimeOrder.l0, if_pos (by omega), if_pos (by omega), if_pos (by omega), if_pos (by omega), Option.bind_some, rd_get hlt, if_pos hx.1, if_pos (by omega), if_pos (by omega), if_pos (by omega), w64 (x := hh + rd (rd_L1 ws S[idx]) 0) (by omega) (by omega), if_pos c, w64 (by omega) (by omega)]
      rfl
    · rw [if_neg c]
      have hln := longAt_lt (keyBy ws 0) (T ++ [S[idx]]) (T ++ [S[idx]]).length 0 0 (by omega) (by simp)
      have hz := rd_range hb' hln
      have hkz := key_bd h (.inl rfl) hz.1 hz.2
      have hlen : (T ++ [S[idx]]).length = T.length + 1 := by simp
      have hn := ih (idx + 1) ((T ++ [S[idx]]).eraseIdx (longAt (keyBy ws 0) (T ++ [S[idx]]) (T ++ [S[idx]]).length 0 0)) (O ++ [rd (T ++ [S[idx]]) (longAt (keyBy ws 0) (T ++ [S[idx]]) (T ++ [S[idx]]).length 0 0 : Nat)]) (hh + keyBy ws 0 S[idx] - keyBy ws 0 (rd (T ++ [S[idx]]) (longAt (keyBy ws 0) (T ++ [S[idx]]) (T ++ [S[idx]]).length 0 0 : Nat))) (by omega) (by
        rw [List.length_eraseIdx_of_lt hln]
        simp
        omega) (fun y hy => hb' y (List.mem_of_mem_eraseIdx hy)) (by omega) (by omega)
      have hs := spec_on_1 h (T ++ [S[idx]]) O S (hh + keyBy ws 0 S[idx]) (S.length : Int) idx _ (by omega) (by omega) (by omega) (by omega) (by omega) hb' (T ++ [S[idx]]).length 0 0 (by omega) (by omega) hn
      refine Ev.step (f := fun k => spec_OnTimeOrder.l1 k ws (T ++ [S[idx]]) O (hh + keyBy ws 0 S[idx]) 0 S (S.length : Int) (idx : Int) (T ++ [S[idx]]) ((T ++ [S[idx]]).length : Int) 0) (fun k => ?_) hs
      unfold keyBy at c hk hk1 ⊢
      rw [spec_OnTimeOrder.l0, if_pos (by omega), if_pos (by omega), if_pos (by omega), if_pos (by omega), Option.bind_some, rd_get hlt, if_pos hx.1, if_pos (by omega), if_pos (by omega), if_pos (by omega), w64 (x := hh + rd (rd_L1 ws S[idx]) 0) (by omega) (by omega), if_neg c]
set_option maxHeartbeats 1000000 in
theorem impl_on_1 {ws : List (List Int)} (h : worksOk ws = true) (T O S : List Int) (hh n : Int) (idx : Nat) (R : List Int) (hT : T.length ≤ 8) (hO : O.length ≤ 8) (hidx : idx ≤ 8) (hh1 : -10000 ≤ hh) (hh2 : hh ≤ 10000) (hb : ∀ y ∈ T, 0 ≤ y ∧ y ≤ (ws.length : Int) - 1) : ∀ (d i b : Nat), i + d = T.length → b < T.length →
    Ev (fun k => impl_OnTimeOrder.l0 k ws (T.eraseIdx (longAt (keyBy ws 0) T d i b)) (O ++ [rd T (longAt (keyBy ws 0) T d i b : Nat)]) (hh - keyBy ws 0 (rd T (longAt (keyBy ws 0) T d i b : Nat))) S n ((idx + 1 : Nat) : Int)) R →
    Ev (fun k => impl_OnTimeOrder.l1 k ws T O hh (b : Int) S n (idx : Int) T (T.length : Int) (i : Int)) R := by
  intro d
  induction d with
  | zero =>
    intro i b hi hbl hr
    simp only [longAt] at hr
    have hy := rd_range hb hbl
    have hk := key_bd h (.inl rfl) hy.1 hy.2
    unfold keyBy at hk hr
    refine Ev.step (f := fun k => impl_OnTimeOrder.l0 k ws (T.eraseIdx b) (O ++ [rd T (b : Int)]) (hh - rd (rd_L1 ws (rd T (b : Int))) 0) S n ((idx + 1 : Nat) : Int)) (fun k => ?_) hr
    rw [impl_OnTimeOrder.l1]
    have HW1 : Aside0 (wrap64 ((b : Int) + 1) = ((b + 1 : Nat) : Int)) := ⟨by rw [w64 (by omega) (by omega)]; omega⟩
    rw [if_neg (by omega), if_pos (by omega), if_pos (by omega), if_pos hy.1, if_pos (by omega), if_pos (by omega), if_pos (by omega), HW1.out, show slices_Delete_int_int.f T (b : Int) ((b + 1 : Nat) : Int) = some (T.take ((b : Int)).toNat ++ T.drop (((b + 1 : Nat) : Int)).toNat) from if_pos (by omega), Option.bind_some, Int.toNat_natCast, Int.toNat_natCast, w64 (x := hh - rd (rd_L1 ws (rd T (b : Int))) 0) (by omega) (by omega), w64 (x := (idx : Int) + 1) (by omega) (by omega), ← List.eraseIdx_eq_take_drop_succ]
    rfl
  | succ d ih =>
    intro i b hi hbl hr
    simp only [longAt] at hr
    have hlt : i < T.length := by omega
    have hy := rd_range hb hbl
    have hk := key_bd h (.inl rfl) hy.1 hy.2
    have hy2 := rd_range hb hlt
    have hk2 := key_bd h (.inl rfl) hy2.1 hy2.2
    by_cases c : keyBy ws 0 (rd T (i : Int)) > keyBy ws 0 (rd T (b : Int))
    · rw [if_pos c] at hr
      refine Ev.step (f := fun k => impl_OnTimeOrder.l1 k ws T O hh (i : Int) S n (idx : Int) T (T.length : Int) ((i + 1 : Nat) : Int)) (fun k => ?_) (ih (i + 1) i (by omega) hlt hr)
      unfold keyBy at c
      rw [impl_OnTimeOrder.l1]
      rw [if_pos (by omega), if_pos (by omega), if_pos (by omega), if_pos hy2.1, if_pos (by omega), if_pos (by omega), if_pos (by omega), if_pos (by omega), if_pos hy.1, if_pos (by omega), if_pos (by omega), if_pos c, w64 (by omega) (by omega)]
      rfl
    · rw [if_neg c] at hr
      refine Ev.step (f := fun k => impl_OnTimeOrder.l1 k ws T O hh (b : Int) S n (idx : Int) T (T.length : Int) ((i + 1 : Nat) : Int)) (fun k => ?_) (ih (i + 1) b (by omega) hbl hr)
      unfold keyBy at c
      rw [impl_OnTimeOrder.l1]
      rw [if_pos (by omega), if_pos (by omega), if_pos (by omega), if_pos hy2.1, if_pos (by omega), if_pos (by omega), if_pos (by omega), if_pos (by omega), if_pos hy.1, if_pos (by omega), if_pos (by omega), if_neg c, w64 (by omega) (by omega)]
      rfl
set_option maxHeartbeats 1000000 in
theorem impl_on_0 {ws : List (List Int)} (h : worksOk ws = true) (S : List Int) (hS : ∀ y ∈ S, 0 ≤ y ∧ y ≤ (ws.length : Int) - 1) (hl : S.length ≤ 7) : ∀ (d idx : Nat) (T O : List Int) (hh : Int), idx + d = S.length → T.length + O.length = idx → (∀ y ∈ T, 0 ≤ y ∧ y ≤ (ws.length : Int) - 1) → -(1000 * (idx : Int)) ≤ hh → hh ≤ 1000 * (idx : Int) →
    Ev (fun k => impl_OnTimeOrder.l0 k ws T O hh S (S.length : Int) (idx : Int)) (onT (keyBy ws 0) (keyBy ws 1) (S.drop idx) T O hh) := by
  intro d
  induction d with
  | zero =>
    intro idx T O hh hi hTO hb h1 h2
    rw [List.drop_of_length_le (by omega)]
    refine Ev.step (f := fun _ => some (T ++ O)) (fun k => ?_) (Ev.now _)
    rw [impl_OnTimeOrder.l0, if_neg (by omega), if_pos (by omega)]
  | succ d ih =>
    intro idx T O hh hi hTO hb h1 h2
    have hlt : idx < S.length := by omega
    have hx := hS S[idx] (List.getElem_mem hlt)
    have hk := key_bd h (.inl rfl) hx.1 hx.2
    have hk1 := key_bd h (.inr rfl) hx.1 hx.2
    rw [List.drop_eq_getElem_cons hlt]
    simp only [onT]
    have hb' : ∀ y ∈ T ++ [S[idx]], 0 ≤ y ∧ y ≤ (ws.length : Int) - 1 := fun y hy => by
      rcases List.mem_append.1 hy with hy | hy
      · exact hb y hy
      · have : y = S[idx] := by simpa using hy
        rw [this]
        exact hx
    by_cases c : hh + keyBy ws 0 S[idx] ≤ keyBy ws 1 S[idx]
    · rw [if_pos c]
      refine Ev.step (f := fun k => impl_OnTimeOrder.l0 k ws (T ++ [S[idx]]) O (hh + keyBy ws 0 S[idx]) S (S.length : Int) ((idx + 1 : Nat) : Int)) (fun k => ?_) (ih (idx + 1) (T ++ [S[idx]]) O (hh + keyBy ws 0 S[idx]) (by omega) (by simp; omega) hb' (by omega) (by omega))
      unfold keyBy at c hk hk1 ⊢
      rw [impl_OnTimeOrder.l0, if_pos (by omega), if_pos (by omega), if_pos (by omega), if_pos (by omega), Option.bind_some, rd_get hlt, if_pos hx.1, if_pos (by omega), if_pos (by omega), if_pos (by omega), w64 (x := hh + rd (rd_L1 ws S[idx]) 0) (by omega) (by omega), if_pos c, w64 (by omega) (by omega)]
      rfl
    · rw [if_neg c]
      have hln := longAt_lt (keyBy ws 0) (T ++ [S[idx]]) (T ++ [S[idx]]).length 0 0 (by omega) (by simp)
      have hz := rd_range hb' hln
      have hkz := key_bd h (.inl rfl) hz.1 hz.2
      have hlen : (T ++ [S[idx]]).length = T.length + 1 := by simp
      have hn := ih (idx + 1) ((T ++ [S[idx]]).eraseIdx (longAt (keyBy ws 0) (T ++ [S[idx]]) (T ++ [S[idx]]).length 0 0)) (O ++ [rd (T ++ [S[idx]]) (longAt (keyBy ws 0) (T ++ [S[idx]]) (T ++ [S[idx]]).length 0 0 : Nat)]) (hh + keyBy ws 0 S[idx] - keyBy ws 0 (rd (T ++ [S[idx]]) (longAt (keyBy ws 0) (T ++ [S[idx]]) (T ++ [S[idx]]).length 0 0 : Nat))) (by omega) (by
        rw [List.length_eraseIdx_of_lt hln]
        simp
        omega) (fun y hy => hb' y (List.mem_of_mem_eraseIdx hy)) (by omega) (by omega)
      have hs := impl_on_1 h (T ++ [S[idx]]) O S (hh + keyBy ws 0 S[idx]) (S.length : Int) idx _ (by omega) (by omega) (by omega) (by omega) (by omega) hb' (T ++ [S[idx]]).length 0 0 (by omega) (by omega) hn
      refine Ev.step (f := fun k => impl_OnTimeOrder.l1 k ws (T ++ [S[idx]]) O (hh + keyBy ws 0 S[idx]) 0 S (S.length : Int) (idx : Int) (T ++ [S[idx]]) ((T ++ [S[idx]]).length : Int) 0) (fun k => ?_) hs
      unfold keyBy at c hk hk1 ⊢
      rw [impl_OnTimeOrder.l0, if_pos (by omega), if_pos (by omega), if_pos (by omega), if_pos (by omega), Option.bind_some, rd_get hlt, if_pos hx.1, if_pos (by omega), if_pos (by omega), if_pos (by omega), w64 (x := hh + rd (rd_L1 ws S[idx]) 0) (by omega) (by omega), if_neg c]
theorem mem_sortL (K : Int → Int) : ∀ (S P : List Int) (y : Int), y ∈ sortL K P S → y ∈ P ∨ y ∈ S := by
  intro S
  induction S with
  | nil => intro P y h; exact .inl h
  | cons x S ih =>
    intro P y h
    simp only [sortL] at h
    rcases ih _ y h with h | h
    · rcases insAt_mem h with h | rfl
      · exact .inl h
      · exact .inr List.mem_cons_self
    · exact .inr (List.mem_cons_of_mem _ h)
theorem orderBy_mem {ws : List (List Int)} {c y : Int} (h : y ∈ orderBy ws c) : 0 ≤ y ∧ y ≤ (ws.length : Int) - 1 := by
  unfold orderBy at h
  rcases mem_sortL _ _ _ _ h with h | h
  · simp at h
  · exact mem_upto.1 h
theorem orderBy_len (ws : List (List Int)) (c : Int) : (orderBy ws c).length = ws.length := by
  unfold orderBy
  rw [sortL_len, upto_len]
  simp
def onTime (ws : List (List Int)) : List Int := if worksOk ws = true then onT (keyBy ws 0) (keyBy ws 1) (orderBy ws 1) [] [] 0 else []
theorem onT_len (K D : Int → Int) : ∀ (S T O : List Int) (h : Int), (onT K D S T O h).length = S.length + T.length + O.length := by
  intro S
  induction S with
  | nil => intro T O h; simp [onT]
  | cons x S ih =>
    intro T O h
    simp only [onT]
    split
    · rw [ih]
      simp
      omega
    · rw [ih, List.length_eraseIdx_of_lt (longAt_lt K (T ++ [x]) _ 0 0 (by omega) (by simp))]
      simp
      omega
theorem onTime_bd (ws : List (List Int)) : (onTime ws).length ≤ 7 := by
  unfold onTime
  split
  · rename_i h
    rw [onT_len, orderBy_len]
    have := (worksOk_iff.1 h).1
    simpa using this
  · simp
theorem spec_OnTime_ev (ws : List (List Int)) : Ev (fun k => spec_OnTimeOrder.f k ws) (onTime ws) := by
  unfold spec_OnTimeOrder.f onTime
  refine Ev.bind (spec_WorksOk_ev ws) ?_
  by_cases c : worksOk ws = true
  · have hs := (worksOk_iff.1 c).1
    have hl := orderBy_len ws 1
    refine ev_eq (Ev.congr (fun k => if_pos c) (Ev.bind (spec_by_ev c (.inr rfl)) ?_)) (if_pos c).symm
    exact spec_on_0 c (orderBy ws 1) (fun y hy => orderBy_mem hy) (by omega) (orderBy ws 1).length 0 [] [] 0 (by omega) rfl (by simp) (by omega) (by omega)
  · exact ev_eq (Ev.congr (fun k => if_neg c) (Ev.now _)) (if_neg c).symm
theorem impl_OnTime_ev (ws : List (List Int)) : Ev (fun k => impl_OnTimeOrder.f k ws) (onTime ws) := by
  unfold impl_OnTimeOrder.f onTime
  refine Ev.bind (impl_WorksOk_ev ws) ?_
  by_cases c : worksOk ws = true
  · have hs := (worksOk_iff.1 c).1
    have hl := orderBy_len ws 1
    refine ev_eq (Ev.congr (fun k => if_pos c) (Ev.bind (impl_by_ev c (.inr rfl)) ?_)) (if_pos c).symm
    exact impl_on_0 c (orderBy ws 1) (fun y hy => orderBy_mem hy) (by omega) (orderBy ws 1).length 0 [] [] 0 (by omega) rfl (by simp) (by omega) (by omega)
  · exact ev_eq (Ev.congr (fun k => if_neg c) (Ev.now _)) (if_neg c).symm
end Go.Proofs.Ytoonamloihbjnaa.PA
/- total lengths -/
namespace Go.Proofs.Ytoonamloihbjnaa.PA
open Go.RowKit Go.Proofs.YtoonamloihbjnaaW.PrintWords Go.Proofs.YtoonamloihbjnaaW.PrintLast Go.Proofs.YtoonamloihbjnaaW.PrintMore
set_option linter.unusedVariables false
set_option linter.unusedSimpArgs false
def totlen : List (List Int) → Nat
  | [] => 0
  | r :: l => r.length + totlen l
theorem mem_totlen {l : List (List Int)} {r : List Int} (h : r ∈ l) : r.length ≤ totlen l := by
  induction l with
  | nil => cases h
  | cons x l ih =>
    simp only [totlen]
    rcases List.mem_cons.1 h with rfl | h
    · omega
    · have := ih h
      omega
theorem szTot_l (l : List (List Int)) (hl : l.length ≤ 1048576) (hr : ∀ r ∈ l, r.length ≤ 9223372036854775807) : ∀ (d i : Nat) (x : Int), i + d = l.length → 0 ≤ x → x ≤ 1048576 →
    ∃ r : Int, Ev (fun k => laws_szIntSS.l0 k l x (i : Int)) r ∧ (r < 0 ∨ (0 ≤ r ∧ r + totlen (l.drop i) ≤ x)) := by
  intro d
  induction d with
  | zero =>
    intro i x hi h0 h1
    refine ⟨x, Ev.step (f := fun _ => some x) (fun k => ?_) (Ev.now _), .inr ⟨h0, ?_⟩⟩
    · simp only [laws_szIntSS.l0]
      rw [if_neg (by omega)]
    · rw [List.drop_of_length_le (by omega)]
      simp [totlen]
  | succ d ih =>
    intro i x hi h0 h1
    have hlt : i < l.length := by omega
    have hrow := hr l[i] (List.getElem_mem hlt)
    by_cases c : x - (l[i].length : Int) < 0
    · refine ⟨-1, Ev.step (f := fun _ => some (-1)) (fun k => ?_) (Ev.now _), .inl (by omega)⟩
      simp only [laws_szIntSS.l0]
      rw [if_pos (by omega), if_pos (by omega), rdL_get hlt]
      unfold laws_szIntS.f
      rw [w64 (by omega) (by omega), if_pos c]
      rfl
    · obtain ⟨r, he, hd⟩ := ih (i + 1) (x - (l[i].length : Int)) (by omega) (by omega) (by omega)
      refine ⟨r, Ev.step (f := fun k => laws_szIntSS.l0 k l (x - (l[i].length : Int)) ((i + 1 : Nat) : Int)) (fun k => ?_) he, ?_⟩
      · simp only [laws_szIntSS.l0]
        rw [if_pos (by omega), if_pos (by omega), rdL_get hlt]
        unfold laws_szIntS.f
        rw [w64 (x := x - (l[i].length : Int)) (by omega) (by omega), if_neg c]
        simp only [Option.bind_some]
        rw [if_neg c, w64 (by omega) (by omega)]
        rfl
      · rcases hd with hd | ⟨hd, h3⟩
        · exact .inl hd
        · refine .inr ⟨hd, ?_⟩
          rw [List.drop_eq_getElem_cons hlt]
          simp only [totlen]
          omega
theorem szTot_ev (l : List (List Int)) (x : Int) (h0 : 0 ≤ x) (h1 : x ≤ 1048576) (hl : l.length ≤ 9223372036854775807) (hr : ∀ r ∈ l, r.length ≤ 9223372036854775807) :
    ∃ r : Int, Ev (fun k => laws_szIntSS.f k l x) r ∧ (r < 0 ∨ (0 ≤ r ∧ r + l.length + totlen l ≤ x)) := by
  by_cases c : x - (l.length : Int) < 0
  · refine ⟨-1, (Ev.now (-1)).congr (fun k => ?_), .inl (by omega)⟩
    unfold laws_szIntSS.f
    rw [w64 (by omega) (by omega), if_pos c]
  · obtain ⟨r, he, hd⟩ := szTot_l l (by omega) hr l.length 0 (x - (l.length : Int)) (by omega) (by omega) (by omega)
    refine ⟨r, he.congr (fun k => ?_), ?_⟩
    · unfold laws_szIntSS.f
      rw [w64 (by omega) (by omega), if_neg c]
      rfl
    · rcases hd with hd | ⟨hd, h3⟩
      · exact .inl hd
      · exact .inr ⟨hd, by rw [List.drop_zero] at h3; omega⟩
end Go.Proofs.Ytoonamloihbjnaa.PA
/- marks -/
namespace Go.Proofs.Ytoonamloihbjnaa.PA
open Go.RowKit Go.Proofs.YtoonamloihbjnaaW.PrintWords Go.Proofs.YtoonamloihbjnaaW.PrintLast Go.Proofs.YtoonamloihbjnaaW.PrintMore
set_option linter.unusedVariables false
set_option linter.unusedSimpArgs false
def ramp : Int → Nat → List Int
  | _, 0 => []
  | a, n + 1 => a :: ramp (a + 1) n
theorem rd_mid (pre suf : List Int) (x : Int) : rd (pre ++ x :: suf) (pre.length : Int) = x := by
  simp [rd, List.getD_eq_getElem?_getD]
theorem set_mid (pre suf : List Int) (x y : Int) : (pre ++ x :: suf).set pre.length y = (pre ++ [y]) ++ suf := by
  simp [List.set_append]
theorem markIntS_l : ∀ (suf pre : List Int) (a : Int), pre.length + suf.length ≤ 4194304 → 0 ≤ a → a + suf.length ≤ 1099511627776 →
    Ev (fun k => laws_markIntS.l0 k (pre ++ suf) a (pre.length : Int)) (a + suf.length, pre ++ ramp a suf.length) := by
  intro suf
  induction suf with
  | nil =>
    intro pre a hl h0 h1
    refine Ev.step (f := fun _ => some (a, pre)) (fun k => ?_) (ev_eq (Ev.now _) (by simp [ramp]))
    simp only [laws_markIntS.l0]
    rw [if_neg (by simp)]
    simp
  | cons x suf ih =>
    intro pre a hl h0 h1
    simp only [List.length_cons] at hl h1
    have h := ih (pre ++ [a]) (a + 1) (by simp; omega) (by omega) (by omega)
    have e : (a + 1 + (suf.length : Int), pre ++ [a] ++ ramp (a + 1) suf.length) = (a + ((x :: suf).length : Int), pre ++ ramp a (x :: suf).length) := by
      simp only [List.length_cons, ramp, List.append_assoc, List.singleton_append]
      congr 1
      omega
    rw [e] at h
    refine Ev.step (f := fun k => laws_markIntS.l0 k ((pre ++ [a]) ++ suf) (a + 1) ((pre ++ [a]).length : Int)) (fun k => ?_) h
    simp only [laws_markIntS.l0]
    rw [if_pos (by simp; omega), if_pos (by omega), Int.toNat_natCast, set_mid, w64 (x := a + 1) (by omega) (by omega), w64 (by omega) (by omega)]
    simp
theorem markIntS_ev (l : List Int) (a : Int) (hl : l.length ≤ 1048576) (h0 : 0 ≤ a) (h1 : a ≤ 549755813888) : Ev (fun k => laws_markIntS.f k l a) (a + l.length, ramp a l.length) :=
  markIntS_l l [] a (by simp; omega) h0 (by omega)
theorem heldIntS_l : ∀ (n : Nat) (pre : List Int) (a : Int), pre.length + n ≤ 4194304 → 0 ≤ a → a + n ≤ 1099511627776 →
    Ev (fun k => laws_heldIntS.l0 k (pre ++ ramp a n) a (pre.length : Int)) (a + n) := by
  intro n
  induction n with
  | zero =>
    intro pre a hl h0 h1
    rw [show ramp a 0 = [] from rfl]
    refine Ev.step (f := fun _ => some a) (fun k => ?_) (ev_eq (Ev.now _) (by simp))
    simp only [laws_heldIntS.l0]
    rw [if_neg (by simp)]
  | succ n ih =>
    intro pre a hl h0 h1
    rw [show ramp a (n + 1) = a :: ramp (a + 1) n from rfl]
    have h := ih (pre ++ [a]) (a + 1) (by simp; omega) (by omega) (by omega)
    rw [show a + 1 + (n : Int) = a + ((n + 1 : Nat) : Int) by omega] at h
    refine Ev.step (f := fun k => laws_heldIntS.l0 k ((pre ++ [a]) ++ ramp (a + 1) n) (a + 1) ((pre ++ [a]).length : Int)) (fun k => ?_) h
    simp only [laws_heldIntS.l0]
    rw [if_pos (by simp; omega), if_pos (by omega), rd_mid, if_pos rfl, w64 (x := a + 1) (by omega) (by omega), w64 (by omega) (by omega)]
    simp
theorem heldIntS_ev (n : Nat) (a : Int) (hl : n ≤ 1048576) (h0 : 0 ≤ a) (h1 : a ≤ 549755813888) : Ev (fun k => laws_heldIntS.f k (ramp a n) a) (a + n) :=
  heldIntS_l n [] a (by simp; omega) h0 (by omega)
def rampSS : Int → List (List Int) → List (List Int)
  | _, [] => []
  | a, r :: l => ramp a r.length :: rampSS (a + r.length) l
theorem markIntSS_ev : ∀ (l : List (List Int)) (a : Int), (∀ r ∈ l, r.length ≤ 1048576) → 0 ≤ a → a + totlen l ≤ 4194304 → Ev (fun k => laws_markIntSS.f k l a) (a + totlen l, rampSS a l) := by
  intro l
  induction l with
  | nil =>
    intro a _ _ _
    refine ev_eq (Ev.congr (fun k => ?_) (Ev.now (a, []))) (by simp [totlen, rampSS])
    simp only [laws_markIntSS.f]
  | cons r l ih =>
    intro a hr h0 h1
    simp only [totlen] at h1
    have h := ih (a + r.length) (fun x hx => hr x (List.mem_cons_of_mem _ hx)) (by omega) (by omega)
    refine Ev.congr (f := fun k => (laws_markIntS.f k r a).bind fun b => (laws_markIntSS.f k l b.1).bind fun c => some (c.1, b.2 :: c.2)) (fun k => by simp only [laws_markIntSS.f]) ?_
    refine Ev.bind (markIntS_ev r a (hr r List.mem_cons_self) h0 (by omega)) ?_
    refine ev_eq (Ev.bind h (Ev.now _)) ?_
    simp only [totlen, rampSS]
    congr 1
    omega
end Go.Proofs.Ytoonamloihbjnaa.PA
/- The program's OnTimeOrder returns what the reference's returns, for all arguments; no condition. -/
namespace Go.Proofs.Ytoonamloihbjnaa.PA
open Go.RowKit Go.Proofs.YtoonamloihbjnaaW.PrintWords
def laws_FnExactOnTimeOrder.Pure : Prop := ∀ (l0 : List (List Int)), l0.length ≤ 9223372036854775807 → (∀ r ∈ l0, r.length ≤ 9223372036854775807) → (∀ r ∈ l0, ∀ x ∈ r, (Lit.int .i64 x).wf = true) → ∃ k, laws_FnExactOnTimeOrder.f k l0 = some true
end Go.Proofs.Ytoonamloihbjnaa.PA
namespace Go.Proofs.Ytoonamloihbjnaa.Pure
open Go.RowKit Go.Proofs.Ytoonamloihbjnaa.PA Go.Proofs.YtoonamloihbjnaaW.PrintWords Go.Proofs.YtoonamloihbjnaaW.PrintLast Go.Proofs.YtoonamloihbjnaaW.PrintMore
set_option linter.unusedVariables false
set_option linter.unusedSimpArgs false
theorem FnExactOnTimeOrder : laws_FnExactOnTimeOrder.Pure := by
  intro l0 hl0 hr0 _
  refine Ev.rounds (g := fun k => laws_FnExactOnTimeOrder.f k l0) ?_
  unfold laws_FnExactOnTimeOrder.f
  obtain ⟨s0, hs0, hd0⟩ := szTot_ev l0 1048576 (by omega) (by omega) hl0 hr0
  refine Ev.bind hs0 ?_
  by_cases c0 : s0 < 0
  · exact Ev.congr (fun k => if_pos c0) (Ev.now _)
  refine Ev.congr (fun k => if_neg c0) ?_
  obtain ⟨p0, t0⟩ : 0 ≤ s0 ∧ s0 + l0.length + totlen l0 ≤ 1048576 := by
    rcases hd0 with hd | hd
    · exact absurd hd c0
    · exact hd
  have b0 : l0.length ≤ 1048576 := by omega
  have g0 : ∀ x ∈ l0, x.length ≤ 1048576 := fun x hx => by have := mem_totlen hx; omega
  refine Ev.bind (toIntSS_ev l0 b0 g0) ?_
  refine Ev.bind (spec_OnTime_ev l0) ?_
  refine Ev.bind (toIntSS_ev l0 b0 g0) ?_
  refine Ev.bind (impl_OnTime_ev l0) ?_
  have hq0 := onTime_bd l0
  refine Ev.bind (eqIntS_ev _ _ (by omega)) ?_
  refine Ev.congr (fun k => if_pos (by simp)) ?_
  refine Ev.bind (toIntSS_ev l0 b0 g0) ?_
  refine Ev.bind (eqIntSS_ev l0 l0 (by omega) (fun x hx => by have := g0 x hx; omega)) ?_
  refine Ev.congr (fun k => if_pos (by simp)) ?_
  refine Ev.bind (markIntSS_ev l0 (1) g0 (by omega) (by omega)) ?_
  refine Ev.congr (fun k => if_pos (by omega)) ?_
  refine Ev.bind (markIntS_ev _ _ (by omega) (by omega) (by omega)) ?_
  refine Ev.bind (heldIntS_ev _ _ (by omega) (by omega) (by omega)) ?_
  refine Ev.congr (fun k => if_pos (by omega)) ?_
  refine Ev.congr (fun k => if_pos rfl) ?_
  refine Ev.bind (toIntSS_ev l0 b0 g0) ?_
  refine Ev.bind (impl_OnTime_ev l0) ?_
  refine Ev.bind (eqIntS_ev _ _ (by omega)) ?_
  refine Ev.congr (fun k => if_pos (by simp)) ?_
  exact Ev.now _
end Go.Proofs.Ytoonamloihbjnaa.Pure
/- What the contracts ask of a slice of slices that comes in. -/
namespace Go.Proofs.Ytoonamloihbjnaa.PA
open Go.RowKit Go.Proofs.YtoonamloihbjnaaW.PrintWords Go.Proofs.YtoonamloihbjnaaW.PrintLast Go.Proofs.YtoonamloihbjnaaW.PrintMore
set_option linter.unusedVariables false
set_option linter.unusedSimpArgs false
open Go.ChangeShapes Go.WideShapes Go.Deep in
theorem rows_open {H : Type} {enc : TypeId × Value → H} {P : Program} {w : World} {base : Nat} {held : Bool} {t e q : TypeId} {k : IntKind} {fuel : Nat} {cs : List Value} {x : DataW H × List MemPlace} {a : Option Addr} {len cap : Nat}
    (ht : P.underlying t = some (.slice e)) (he : P.underlying e = some (.slice q)) (hq : P.underlying q = some (.int k))
    (ce : P.cellsOf e = 1) (cq : P.cellsOf q = 1) (h : DataW.trod enc P w base (fun _ => true) held fuel t cs = some x) (hcs : cs = [.slice a len cap]) :
    ∃ l : List (List Int), l.length = len ∧ len ≤ cap ∧ Kd.C (Kd.slice q (Kd.int k)) w a len l ∧ ∀ r ∈ l, ∀ n ∈ r, (Lit.int k n).wf = true := by
  rcases open_int_rows ht he hq ce cq h with ⟨h0, _⟩ | ⟨a', len', cap', A, L, C, Z, h0, _, hl, hm, _, hrows⟩
  · rw [hcs] at h0
    simp at h0
    obtain ⟨rfl, rfl, rfl⟩ := h0
    exact ⟨[], rfl, Nat.le_refl _, ⟨rfl, by omega, fun hh => absurd hh (by omega)⟩, by simp⟩
  · rw [hcs] at h0
    simp at h0
    obtain ⟨rfl, rfl, rfl⟩ := h0
    have hM : maxLen = 9223372036854775807 := rfl
    refine ⟨(List.range len).map fun r => (Z r).take (L r), by simp, hl, ⟨by simp, by omega, fun _ => ⟨a', rfl, fun j p hj => ?_⟩⟩, fun r hr n hn => ?_⟩
    · obtain ⟨hj1, hj2⟩ := List.getElem?_eq_some_iff.1 hj
      have hjl : j < len := by simpa using hj1
      obtain ⟨hc, h1, h2, h3, h4, h5, h6⟩ := hrows j (by omega)
      have hp : p = (Z j).take (L j) := by simpa using hj2.symm
      have hpl : p.length = L j := by rw [hp, List.length_take]; omega
      refine ⟨[.slice (A j) (L j) (C j)], rfl, ⟨A j, C j, by rw [hpl], by omega, ⟨rfl, by omega, fun hp0 => ?_⟩⟩, fun i u hu => ?_⟩
      · cases hA : A j with
        | none => have := h5 hA; omega
        | some b =>
          obtain ⟨_, hcell⟩ := h6 b hA
          refine ⟨b, rfl, fun i y hy => ⟨[.int k y], rfl, rfl, fun i' u hu => ?_⟩⟩
          obtain ⟨hi1, hi2⟩ := List.getElem?_eq_some_iff.1 hy
          cases i' with
          | succ i' => simp at hu
          | zero =>
            simp at hu
            subst hu
            have hz := hcell i (by omega)
            simp only [Kd.int, Kd.scalar, Nat.mul_one, Nat.add_zero]
            rw [hz]
            subst hp
            rw [List.getElem_take] at hi2
            rw [List.getD_eq_getElem?_getD, List.getElem?_eq_getElem (by omega), Option.getD_some, hi2]
      · cases i with
        | succ i => simp at hu
        | zero =>
          simp at hu
          subst hu
          simp only [Kd.slice, Nat.mul_one, Nat.add_zero]
          exact hc
    · obtain ⟨j, hj, rfl⟩ := List.mem_map.1 hr
      obtain ⟨_, _, _, _, h4, _⟩ := hrows j (by have := List.mem_range.1 hj; omega)
      exact h4 n (List.mem_of_mem_take hn)
/-- Each row of what came in has a length that an int holds. -/
theorem rows_len {w : World} {A : Option Addr} {n q : Nat} {k : IntKind} {l : List (List Int)} (h : Kd.C (Kd.slice q (Kd.int k)) w A n l) : l.length ≤ 9223372036854775807 ∧ ∀ r ∈ l, r.length ≤ 9223372036854775807 := by
  obtain ⟨h1, h2, h3⟩ := h
  refine ⟨by omega, fun r hr => ?_⟩
  obtain ⟨j, hj, rfl⟩ := List.getElem_of_mem hr
  obtain ⟨ad, _, hc⟩ := h3 (by omega)
  obtain ⟨c, _, ⟨A', c', _, _, hC⟩, _⟩ := hc j _ (List.getElem?_eq_getElem hj)
  exact hC.2.1
end Go.Proofs.Ytoonamloihbjnaa.PA
/- The row of the law FnExactOnTimeOrder: for every input it answers true and its arguments read as before. No condition. Written by a program of this session's (rowgen.py) in the form of the kit's print. -/
namespace Go.Proofs.Ytoonamloihbjnaa.fnExactOnTimeOrder
open Go.ChangeShapes Go.WideShapes Go.ChangeAt Go.RowKit Go.Proofs.YtoonamloihbjnaaW.PrintWords
open Go.ChangeMaps (open_string shut_string)
set_option linter.unusedVariables false
theorem own : ownKnob Try.prog.godebug = none := by kernel_rfl
theorem laidOut : laidOutB Try.prog = true := by kernel_rfl
def IsRow (k : IntKind) (w : World) (a : Option Addr) (len cap : Nat) (zs : List Int) : Prop :=
  (a = none ∧ len = 0 ∧ cap = 0 ∧ zs = []) ∨
  ∃ x, a = some x ∧ len ≤ cap ∧ cap ≤ maxLen ∧ zs.length = cap ∧ (∀ i, i < zs.length → w.cell? (x.add i) = some (.int k (zs.getD i 0))) ∧ ∀ n ∈ zs, (Lit.int k n).wf = true
set_option maxRecDepth 100000 in
theorem lifted (os : Os) (started : os.Started) (H : Type) (enc : TypeId × Value → H) :
    ReturnsInHanded {} Try.checked os 6 .any (Rows.fnExactOnTimeOrderSpec.pre6 enc Try.prog Try.f6 Rows.fnExactOnTimeOrderRow.domain false) (Rows.fnExactOnTimeOrderSpec.post enc Try.prog Try.f6 false true false false) := by
  refine returnsInHanded_of_change_sized (C := Try.checked) own started (by kernel_rfl) Try.func6
    (ChangeSpec.witness6 (enc := enc) (C := Try.checked) false ⟨#[], #[.slice none 0 0], []⟩ 8 (by kernel_rfl) (by kernel_rfl) (by kernel_rfl) (by kernel_rfl)) ?_
  intro W base args ds gs before hval0 hW hcnd hsz0 _
  have hval : ∀ (j : Nat) t v, Try.f6.params[j]? = some t → args[j]? = some v → Value.okWide Try.prog W .any base t v := hval0
  have hW' := hW
  obtain ⟨p, q, hA0, hV, rfl, hfz, hnd⟩ := hW
  have hA : DataW.TrodAll enc Try.prog W 0 (fun _ => true) true Try.f6.params.toList args.toList ds p := hA0
  rw [Try.params6] at hA hval
  obtain ⟨v0, vs0, d0, ds0, p0, q0, hargs, rfl, rfl, h0, r0⟩ := trodAll_cons hA
  obtain ⟨rfl, rfl, rfl⟩ := trodAll_nil r0
  obtain rfl : args = #[v0] := by cases args; simp_all
  obtain ⟨rfl, rfl⟩ := trodVars_none hV
  obtain ⟨b0, len0, cap0, rfl⟩ := okWide_slice Try.underlying22 (hval 0 22 v0 rfl rfl)
  have k0 := h0
  have lt0 : ∀ x ∈ p0, x.block < W.heap.size := by obtain ⟨m, hm⟩ := k0; exact DataW.trod_lt m _ _ _ hm
  obtain ⟨l0, hl0, hc0, hr0, hw0⟩ : ∃ l : List (List Int), l.length = len0 ∧ len0 ≤ cap0 ∧ Kd.C (Kd.slice 3 (Kd.int .i64)) W b0 len0 l ∧ ∀ r ∈ l, ∀ n ∈ r, (Lit.int .i64 n).wf = true := by
    obtain ⟨fuel, hf⟩ := h0
    exact PA.rows_open Try.underlying22 Try.underlying27 Try.underlying3 (by kernel_rfl) (by kernel_rfl) hf (by simp [Value.cells])
  subst hl0
  clear hA0 hval0 hsz0
  obtain ⟨k, hk⟩ := Pure.FnExactOnTimeOrder l0 (PA.rows_len hr0).1 (PA.rows_len hr0).2 hw0
  refine (PA.laws_FnExactOnTimeOrder.calls k _ _ l0 true W hr0 hc0 hk).mono fun e W' ⟨he, bel0⟩ => ?_
  have bel : Below W.heap.size W W' := bel0
  subst he
  exact ⟨_, rfl, _, _, _, [], _, [], hW', trodAll_mk1 (shut_bool Try.underlying4 _), (trodAll_cons_mk (Below.trod laidOut (by kernel_rfl) (of_decide_eq_true (by kernel_rfl)) k0 bel lt0) trodAll_mk0), rfl, bel.frame _, fun h => by cases h⟩
theorem over : Rows.fnExactOnTimeOrderRow.holds Try.pinned (OpenSpec.ofChange Rows.fnExactOnTimeOrderSpec) :=
  OpenClaim.holds_of_wide 6 Try.f6 rfl rfl rfl rfl rfl rfl rfl ⟨rfl, rfl, rfl, rfl, rfl⟩ rfl rfl rfl rfl rfl (by kernel_rfl) Try.func6 (by kernel_rfl)
    (of_decide_eq_true (by kernel_rfl)) (by unfold Func.isWrapper; first | (rw [if_pos (by decide +kernel)]; kernel_rfl) | (rw [if_neg (by decide +kernel)]; exact ⟨rfl, rfl⟩))
    (fun os started H enc _ => lifted os started H enc)
theorem proved : Rows.FnExactOnTimeOrderSaid := over
#print axioms proved
end Go.Proofs.Ytoonamloihbjnaa.fnExactOnTimeOrder
namespace Go.Proofs.Ytoonamloihbjnaa
/-- The row, under a short name, for the claim. -/
theorem fnExactOnTimeOrder_holds : Rows.FnExactOnTimeOrderSaid := fnExactOnTimeOrder.proved
end Go.Proofs.Ytoonamloihbjnaa
