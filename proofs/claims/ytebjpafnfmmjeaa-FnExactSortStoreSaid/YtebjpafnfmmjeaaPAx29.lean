-- Written for this claim by a program of this session's (ownprint.py), by way of the kit's print and hand-proved texts. Lean checks it.
import Derived.Test.YtebjpafnfmmjeaaPAx0
namespace Go.Proofs.Ytebjpafnfmmjeaa.PA
open Go.RowKit Go.Proofs.YtebjpafnfmmjeaaW.PrintWords Go.Proofs.YtebjpafnfmmjeaaW.PrintLast Go.Proofs.YtebjpafnfmmjeaaW.PrintMore
attribute [local go_sem] max2_int min2_int max_two min_two max_three min_three max_four min_four   -- for this text's walks alone
set_option linter.unusedVariables false
set_option linter.unusedSimpArgs false

/-! ### impl_SortStore_1: function 53 -/
def impl_SortStore_1.f (l0 : List Int) (l1 : List Int) : Option (Int) := if 0 < (l0.length : Int) then (if 1 < (l0.length : Int) then (if 0 < (l1.length : Int) then (if 1 < (l1.length : Int) then (if (wrap64 ((rd l0 0) * (rd l0 1))) = (wrap64 ((rd l1 0) * (rd l1 1))) then (some (wrap64 ((rd l0 0) - (rd l1 0)))) else (some (wrap64 ((wrap64 ((rd l0 0) * (rd l0 1))) - (wrap64 ((rd l1 0) * (rd l1 1))))))) else (none)) else (none)) else (none)) else (none)
set_option maxHeartbeats 8000000 in
set_option maxRecDepth 100000 in
theorem impl_SortStore_1.calls (A0 : Option Addr) (c0 : Nat) (l0 : List Int) (A1 : Option Addr) (c1 : Nat) (l1 : List Int) (r : Int) (w : World) (hr0 : Kd.C (Kd.int .i64) w A0 l0.length l0) (hc0 : l0.length ≤ c0) (hr1 : Kd.C (Kd.int .i64) w A1 l1.length l1) (hc1 : l1.length ≤ c1) (h : impl_SortStore_1.f l0 l1 = some r) :
    Calls Try.prog 53 #[.slice A0 l0.length c0, .slice A1 l1.length c1] w fun e w' => e = .returned (.int .i64 r) ∧ Drawn0 w w' := by
  have HR0 := Aside0.mk hr0
  have HC0 := Aside0.mk hc0
  clear hr0 hc0
  have HR1 := Aside0.mk hr1
  have HC1 := Aside0.mk hc1
  clear hr1 hc1
  have H : (if 0 < (l0.length : Int) then (if 1 < (l0.length : Int) then (if 0 < (l1.length : Int) then (if 1 < (l1.length : Int) then (if (wrap64 ((rd l0 0) * (rd l0 1))) = (wrap64 ((rd l1 0) * (rd l1 1))) then (some (wrap64 ((rd l0 0) - (rd l1 0)))) else (some (wrap64 ((wrap64 ((rd l0 0) * (rd l0 1))) - (wrap64 ((rd l1 0) * (rd l1 1))))))) else (none)) else (none)) else (none)) else (none)) = some r := h
  clear h
  by_cases c3 : 0 < (l0.length : Int)
  · rw [if_pos c3] at H
    have c3b0 : decide (0 < (l0.length : Int)) = true := decide_eq_true c3
    have c3b1 : decide (0 < l0.length) = true := decide_eq_true (by omega)
    clear c3
    by_cases c4 : 1 < (l0.length : Int)
    · rw [if_pos c4] at H
      have c4b0 : decide (1 < (l0.length : Int)) = true := decide_eq_true c4
      have c4b1 : decide (1 < l0.length) = true := decide_eq_true (by omega)
      clear c4
      by_cases c5 : 0 < (l1.length : Int)
      · rw [if_pos c5] at H
        have c5b0 : decide (0 < (l1.length : Int)) = true := decide_eq_true c5
        have c5b1 : decide (0 < l1.length) = true := decide_eq_true (by omega)
        clear c5
        by_cases c6 : 1 < (l1.length : Int)
        · rw [if_pos c6] at H
          have c6b0 : decide (1 < (l1.length : Int)) = true := decide_eq_true c6
          have c6b1 : decide (1 < l1.length) = true := decide_eq_true (by omega)
          clear c6
          by_cases c7 : (wrap64 ((rd l0 0) * (rd l0 1))) = (wrap64 ((rd l1 0) * (rd l1 1)))
          · rw [if_pos c7] at H
            have c7b0 : ((wrap64 ((rd l0 0) * (rd l0 1))) == (wrap64 ((rd l1 0) * (rd l1 1)))) = true := beq_iff_eq.mpr c7
            have c7b1 : ((wrap64 ((rd l0 0) * (rd l0 1))) != (wrap64 ((rd l1 0) * (rd l1 1)))) = false := bne_eq_false_iff_eq.mpr c7
            clear c7
            obtain rfl := Option.some.inj H
            have p452 : 0 ≤ (0 : Int) := (by omega)
            have q452 : 0 < (l0.length : Int) := of_decide_eq_true (by first | (with_reducible assumption) | assumption)
            obtain ⟨ad452, e452, hx452_0⟩ := Kd.at_int HR0.out 0 p452 q452
            cases e452
            have qi452 : (0 < l0.length) = True := eq_true (by omega)
            (try rw [show ((0 : Int)).toNat = 0 from rfl] at hx452_0)
            (try rw [Addr.add_zero'] at hx452_0)
            replace p452 := eq_true p452
            replace q452 := eq_true q452
            have p453 : 0 ≤ (1 : Int) := (by omega)
            have q453 : 1 < (l0.length : Int) := of_decide_eq_true (by first | (with_reducible assumption) | assumption)
            obtain ⟨ad453, e453, hx453_0⟩ := Kd.at_int HR0.out 1 p453 q453
            obtain rfl : ad452 = ad453 := (by injection e453)
            (try simp only [show (1 : Int).toNat = 1 from rfl, Nat.reduceMul, Nat.reduceEqDiff, Go.Addr.add, ↓reduceIte] at hx453_0)
            have qi453 : (1 < l0.length) = True := eq_true (by omega)
            (try rw [show ((1 : Int)).toNat = 1 from rfl] at hx453_0)
            replace p453 := eq_true p453
            replace q453 := eq_true q453
            have p454 : 0 ≤ (0 : Int) := (by omega)
            have q454 : 0 < (l1.length : Int) := of_decide_eq_true (by first | (with_reducible assumption) | assumption)
            obtain ⟨ad454, e454, hx454_0⟩ := Kd.at_int HR1.out 0 p454 q454
            cases e454
            have qi454 : (0 < l1.length) = True := eq_true (by omega)
            (try rw [show ((0 : Int)).toNat = 0 from rfl] at hx454_0)
            (try rw [Addr.add_zero'] at hx454_0)
            replace p454 := eq_true p454
            replace q454 := eq_true q454
            have p455 : 0 ≤ (1 : Int) := (by omega)
            have q455 : 1 < (l1.length : Int) := of_decide_eq_true (by first | (with_reducible assumption) | assumption)
            obtain ⟨ad455, e455, hx455_0⟩ := Kd.at_int HR1.out 1 p455 q455
            obtain rfl : ad454 = ad455 := (by injection e455)
            (try simp only [show (1 : Int).toNat = 1 from rfl, Nat.reduceMul, Nat.reduceEqDiff, Go.Addr.add, ↓reduceIte] at hx455_0)
            have qi455 : (1 < l1.length) = True := eq_true (by omega)
            (try rw [show ((1 : Int)).toNat = 1 from rfl] at hx455_0)
            replace p455 := eq_true p455
            replace q455 := eq_true q455
            have p456 : 0 ≤ (0 : Int) := (by omega)
            have q456 : 0 < (l0.length : Int) := of_decide_eq_true (by first | (with_reducible assumption) | assumption)
            obtain ⟨ad456, e456, hx456_0⟩ := Kd.at_int HR0.out 0 p456 q456
            obtain rfl : ad452 = ad456 := (by injection e456)
            have qi456 : (0 < l0.length) = True := eq_true (by omega)
            (try rw [show ((0 : Int)).toNat = 0 from rfl] at hx456_0)
            (try rw [Addr.add_zero'] at hx456_0)
            replace p456 := eq_true p456
            replace q456 := eq_true q456
            have p457 : 0 ≤ (0 : Int) := (by omega)
            have q457 : 0 < (l1.length : Int) := of_decide_eq_true (by first | (with_reducible assumption) | assumption)
            obtain ⟨ad457, e457, hx457_0⟩ := Kd.at_int HR1.out 0 p457 q457
            obtain rfl : ad454 = ad457 := (by injection e457)
            have qi457 : (0 < l1.length) = True := eq_true (by omega)
            (try rw [show ((0 : Int)).toNat = 0 from rfl] at hx457_0)
            (try rw [Addr.add_zero'] at hx457_0)
            replace p457 := eq_true p457
            replace q457 := eq_true q457
            go_enter Try.func53, Try.ntmps53
            go_wp2
            repeat (go_quiet (fail); try go_wp2)
            go_ret
            exact ⟨by first | rfl | (simp; done) | (simp [*]; done), by repeat (first | exact Drawn0.refl _ | apply Drawn0.step)⟩
          · rw [if_neg c7] at H
            have c7b0 : ((wrap64 ((rd l0 0) * (rd l0 1))) == (wrap64 ((rd l1 0) * (rd l1 1)))) = false := beq_eq_false_iff_ne.mpr c7
            have c7b1 : ((wrap64 ((rd l0 0) * (rd l0 1))) != (wrap64 ((rd l1 0) * (rd l1 1)))) = true := bne_iff_ne.mpr c7
            obtain rfl := Option.some.inj H
            have p452 : 0 ≤ (0 : Int) := (by omega)
            have q452 : 0 < (l0.length : Int) := of_decide_eq_true (by first | (with_reducible assumption) | assumption)
            obtain ⟨ad452, e452, hx452_0⟩ := Kd.at_int HR0.out 0 p452 q452
            cases e452
            have qi452 : (0 < l0.length) = True := eq_true (by omega)
            (try rw [show ((0 : Int)).toNat = 0 from rfl] at hx452_0)
            (try rw [Addr.add_zero'] at hx452_0)
            replace p452 := eq_true p452
            replace q452 := eq_true q452
            have p453 : 0 ≤ (1 : Int) := (by omega)
            have q453 : 1 < (l0.length : Int) := of_decide_eq_true (by first | (with_reducible assumption) | assumption)
            obtain ⟨ad453, e453, hx453_0⟩ := Kd.at_int HR0.out 1 p453 q453
            obtain rfl : ad452 = ad453 := (by injection e453)
            (try simp only [show (1 : Int).toNat = 1 from rfl, Nat.reduceMul, Nat.reduceEqDiff, Go.Addr.add, ↓reduceIte] at hx453_0)
            have qi453 : (1 < l0.length) = True := eq_true (by omega)
            (try rw [show ((1 : Int)).toNat = 1 from rfl] at hx453_0)
            replace p453 := eq_true p453
            replace q453 := eq_true q453
            have p454 : 0 ≤ (0 : Int) := (by omega)
            have q454 : 0 < (l1.length : Int) := of_decide_eq_true (by first | (with_reducible assumption) | assumption)
            obtain ⟨ad454, e454, hx454_0⟩ := Kd.at_int HR1.out 0 p454 q454
            cases e454
            have qi454 : (0 < l1.length) = True := eq_true (by omega)
            (try rw [show ((0 : Int)).toNat = 0 from rfl] at hx454_0)
            (try rw [Addr.add_zero'] at hx454_0)
            replace p454 := eq_true p454
            replace q454 := eq_true q454
            have p455 : 0 ≤ (1 : Int) := (by omega)
            have q455 : 1 < (l1.length : Int) := of_decide_eq_true (by first | (with_reducible assumption) | assumption)
            obtain ⟨ad455, e455, hx455_0⟩ := Kd.at_int HR1.out 1 p455 q455
            obtain rfl : ad454 = ad455 := (by injection e455)
            (try simp only [show (1 : Int).toNat = 1 from rfl, Nat.reduceMul, Nat.reduceEqDiff, Go.Addr.add, ↓reduceIte] at hx455_0)
            have qi455 : (1 < l1.length) = True := eq_true (by omega)
            (try rw [show ((1 : Int)).toNat = 1 from rfl] at hx455_0)
            replace p455 := eq_true p455
            replace q455 := eq_true q455
            go_enter Try.func53, Try.ntmps53
            go_wp2
            repeat (go_quiet (fail); try go_wp2)
            go_ret
            exact ⟨by first | rfl | (simp; done) | (simp [*]; done), by repeat (first | exact Drawn0.refl _ | apply Drawn0.step)⟩
        · rw [if_neg c6] at H
          exact absurd H (by simp)
      · rw [if_neg c5] at H
        exact absurd H (by simp)
    · rw [if_neg c4] at H
      exact absurd H (by simp)
  · rw [if_neg c3] at H
    exact absurd H (by simp)

end Go.Proofs.Ytebjpafnfmmjeaa.PA
