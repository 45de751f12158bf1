/- Texts of this claim put together in build order (FnDays). -/
import Derived.Test.YtoonamloihbjnaaMFnDays0
import Derived.Test.YtoonamloihbjnaaMFnDays1
import Derived.Test.YtoonamloihbjnaaMFnDays2
import Derived.Test.YtoonamloihbjnaaMFnDays3
import Derived.Test.YtoonamloihbjnaaMFnDays4
-- Written for this claim by a program of this session's (ownprint.py), by way of the kit's print and hand-proved texts. Lean checks it.
namespace Go.Proofs.Ytoonamloihbjnaa.PA
open Go.RowKit Go.Proofs.YtoonamloihbjnaaW.PrintWords Go.Proofs.YtoonamloihbjnaaW.PrintLast Go.Proofs.YtoonamloihbjnaaW.PrintMore
attribute [local go_sem] max2_int min2_int max_two min_two max_three min_three max_four min_four   -- for this text's walks alone
set_option linter.unusedVariables false
set_option linter.unusedSimpArgs false
mutual
def laws_FnDays.j0 : Nat → List (List Int) → Int → List Int → List Int → Int → Int → Int → Int → Bool → Option (Bool)
 | 0, _, _, _, _, _, _, _, _, _ => none
 | k + 1, x3, x4, x5, x6, x8, x9, x10, x11, x125 => if x125 = true then (none) else ((spec_MakeOrders.f k x4).bind fun t687 => (laws_FnDays.l0 k x3 x4 x5 x6 x8 x9 x10 x11 t687 (t687.length : Int) 0))
def laws_FnDays.l0 : Nat → List (List Int) → Int → List Int → List Int → Int → Int → Int → Int → List (List Int) → Int → Int → Option (Bool)
 | 0, _, _, _, _, _, _, _, _, _, _, _ => none
 | k + 1, x3, x4, x5, x6, x8, x9, x10, x11, x127, x128, x129 => if x129 < x128 then (if 0 ≤ x129 then (if x129 < (x127.length : Int) then ((impl_EndsAt.f k x3 (rd_L1 x127 x129)).bind fun t691 => ((impl_LatestBy.f k x3 (rd_L1 x127 x129)).bind fun t694 => (if t694 < x8 then (none) else ((impl_CountLate.f k x3 (rd_L1 x127 x129)).bind fun t695 => (if t695 < x9 then (none) else ((laws_sum.f k t691).bind fun t696 => (if t696 < x10 then (none) else (if (t691.length : Int) = x4 then (laws_FnDays.l0 k x3 x4 x5 x6 x8 x9 x10 x11 x127 x128 (wrap64 (x129 + 1))) else (none))))))))) else (none)) else (none)) else (laws_FnDays.l1 k x3 x4 x5 x6 x11 1)
def laws_FnDays.l1 : Nat → List (List Int) → Int → List Int → List Int → Int → Int → Option (Bool)
 | 0, _, _, _, _, _, _ => none
 | k + 1, x3, x4, x5, x6, x11, x15 => if x15 < x4 then (if 0 ≤ (wrap64 (x15 - 1)) then (if (wrap64 (x15 - 1)) < (x5.length : Int) then (if 0 ≤ (rd x5 (wrap64 (x15 - 1))) then (if (rd x5 (wrap64 (x15 - 1))) < (x3.length : Int) then (if 1 < ((rd_L1 x3 (rd x5 (wrap64 (x15 - 1)))).length : Int) then (if 0 ≤ x15 then (if x15 < (x5.length : Int) then (if 0 ≤ (rd x5 x15) then (if (rd x5 x15) < (x3.length : Int) then (if 1 < ((rd_L1 x3 (rd x5 x15)).length : Int) then (if (rd (rd_L1 x3 (rd x5 (wrap64 (x15 - 1)))) 1) > (rd (rd_L1 x3 (rd x5 x15)) 1) then (none) else (if (wrap64 (x15 - 1)) < (x6.length : Int) then (if 0 ≤ (rd x6 (wrap64 (x15 - 1))) then (if (rd x6 (wrap64 (x15 - 1))) < (x3.length : Int) then (if 0 < ((rd_L1 x3 (rd x6 (wrap64 (x15 - 1)))).length : Int) then (if x15 < (x6.length : Int) then (if 0 ≤ (rd x6 x15) then (if (rd x6 x15) < (x3.length : Int) then (if 0 < ((rd_L1 x3 (rd x6 x15)).length : Int) then (if (rd (rd_L1 x3 (rd x6 (wrap64 (x15 - 1)))) 0) > (rd (rd_L1 x3 (rd x6 x15)) 0) then (none) else (laws_FnDays.l1 k x3 x4 x5 x6 x11 (wrap64 (x15 + 1)))) else (none)) else (none)) else (none)) else (none)) else (none)) else (none)) else (none)) else (none))) else (none)) else (none)) else (none)) else (none)) else (none)) else (none)) else (none)) else (none)) else (none)) else (none)) else (if x11 < 0 then (laws_FnDays.j3 k x3 x5 x11 true) else (laws_FnDays.j3 k x3 x5 x11 (x4 == 0)))
def laws_FnDays.j3 : Nat → List (List Int) → List Int → Int → Bool → Option (Bool)
 | 0, _, _, _, _ => none
 | k + 1, x3, x5, x11, x213 => if x213 = true then (some true) else (laws_FnDays.l2 k x5 x11 (([] : List (List Int))) x3 (x3.length : Int) 0)
def laws_FnDays.l2 : Nat → List Int → Int → List (List Int) → List (List Int) → Int → Int → Option (Bool)
 | 0, _, _, _, _, _, _ => none
 | k + 1, x5, x11, x16, x215, x216, x217 => if x217 < x216 then (if 0 ≤ x217 then (if x217 < (x215.length : Int) then (if 0 < ((rd_L1 x215 x217).length : Int) then (if 1 < ((rd_L1 x215 x217).length : Int) then (if x16.length < 5864062014805 then (laws_FnDays.l2 k x5 x11 (x16 ++ [(([rd (rd_L1 x215 x217) 0, wrap64 ((rd (rd_L1 x215 x217) 1) - x11)] : List Int))]) x215 x216 (wrap64 (x217 + 1))) else (none)) else (none)) else (none)) else (none)) else (none)) else ((impl_LatestBy.f k x16 x5).bind fun t721 => (if t721 = 0 then ((impl_SlackOf.f k x16).bind fun t722 => (some (t722 == 0))) else (none)))
end
def laws_FnDays.f (k : Nat) (l0 : List Int) : Option (Bool) := if (l0.length : Int) > 1048576 then (some true) else ((spec_MakeWorks.f k l0 0).bind fun t654 => ((impl_DueOrder.f k t654).bind fun t657 => ((impl_ShortOrder.f k t654).bind fun t660 => ((impl_OnTimeOrder.f k t654).bind fun t663 => ((impl_LatestBy.f k t654 t657).bind fun t666 => ((impl_FewestLate.f k t654).bind fun t667 => ((impl_EndsAt.f k t654 t660).bind fun t668 => ((laws_sum.f k t668).bind fun t671 => ((impl_SlackOf.f k t654).bind fun t672 => ((laws_perm.f k t657 (t654.length : Int)).bind fun t673 => (if t673 = true then ((laws_perm.f k t660 (t654.length : Int)).bind fun t674 => (if t674 = true then ((impl_WorksOk.f t654).bind fun t675 => (if t675 = true then ((impl_WorkOrderOk.f k t654 t657).bind fun t676 => (if t676 = true then ((impl_WorkOrderOk.f k t654 t660).bind fun t677 => (if t677 = true then ((impl_WorkOrderOk.f k t654 t663).bind fun t678 => (if t678 = true then (if t666 < 0 then (none) else (if t667 < 0 then (none) else ((impl_CountLate.f k t654 t657).bind fun t679 => (if t667 > t679 then (none) else ((impl_CountLate.f k t654 t663).bind fun t680 => (if t680 = t667 then (if ((t666 == 0) != (t667 == 0)) = true then (none) else (if ((decide (t672 ≥ 0)) != (t666 == 0)) = true then (none) else (if (t654.length : Int) = 0 then (if t672 = 1000 then ((impl_EndsAt.f k t654 t660).bind fun t681 => (laws_FnDays.j0 k t654 (t654.length : Int) t657 t660 t666 t667 t671 t672 ((t681.length : Int) != (t654.length : Int)))) else (none)) else ((impl_EndsAt.f k t654 t660).bind fun t684 => (laws_FnDays.j0 k t654 (t654.length : Int) t657 t660 t666 t667 t671 t672 ((t684.length : Int) != (t654.length : Int))))))) else (none))))))) else (none))) else (none))) else (none))) else (none))) else (none))) else (none))))))))))))
def laws_FnDays.T26 : Bool × List (List Nat × List Nat) := (true, [([], []), ([], []), ([], []), ([2], [2]), ([1, 3], [1, 3]), ([4], [4]), ([0, 5], [0, 5]), ([6], [6]), ([7], [7]), ([8], [8]), ([], []), ([], []), ([], []), ([11, 12], [11, 12]), ([13], [13]), ([10, 14], [10, 14]), ([15], [15]), ([16], [16]), ([17], [17]), ([9, 18], [9, 18]), ([19], [19]), ([20], [20]), ([20], [20]), ([20], [20]), ([23, 20], [20, 23]), ([22, 24, 20], [20, 22, 24]), ([25, 20], [20, 25]), ([21, 26, 20], [20, 21, 26]), ([27, 20], [20, 27]), ([28, 20], [20, 28]), ([29, 20], [20, 29]), ([20], [20]), ([20], [20]), ([20], [20]), ([32, 33, 20], [20, 32, 33]), ([34, 20], [20, 34]), ([31, 35, 20], [20, 31, 35]), ([36, 20], [20, 36]), ([37, 20], [20, 37]), ([38, 20], [20, 38]), ([30, 39, 20], [20, 30, 39]), ([20, 40], [20, 40])])
def laws_FnDays.B26 : List Nat := [0, 0, 0, 4, 14, 30, 63, 127, 255, 511, 0, 0, 0, 6144, 14336, 31744, 64512, 130048, 261120, 524287, 1048575, 2097151, 2097151, 2097151, 10485759, 31457279, 65011711, 134217727, 268435455, 536870911, 1073741823, 2097151, 2097151, 2097151, 12886999039, 30066868223, 66574090239, 135293566975, 272732520447, 547610427391, 1099511627775, 2199023255551]
theorem laws_FnDays.tab26 : rtab .any (opsOf Try.f13 26) = laws_FnDays.T26 := by kernel_rfl
theorem laws_FnDays.bits26 : waitsOk laws_FnDays.T26.2 laws_FnDays.B26 = true := by kernel_rfl
def laws_FnDays.T34 : Bool × List (List Nat × List Nat) := (true, [([], []), ([], []), ([1], [1]), ([2], [2]), ([], []), ([4], [4]), ([5], [5]), ([], []), ([6, 7], [6, 7]), ([3, 8], [3, 8]), ([9], [9]), ([0, 10], [0, 10]), ([11, 11, 0, 1, 2, 3, 4, 5, 6, 7, 8, 9, 10, 11], [0, 11])])
def laws_FnDays.B34 : List Nat := [0, 0, 2, 6, 0, 16, 48, 0, 240, 510, 1022, 2047, 4095]
theorem laws_FnDays.tab34 : rtab .any (opsOf Try.f13 34) = laws_FnDays.T34 := by kernel_rfl
theorem laws_FnDays.bits34 : waitsOk laws_FnDays.T34.2 laws_FnDays.B34 = true := by kernel_rfl
set_option maxHeartbeats 8000000 in
set_option maxRecDepth 100000 in
theorem laws_FnDays.calls (k : Nat) (A0 : Option Addr) (c0 : Nat) (l0 : List Int) (r : Bool) (w : World) (hr0 : Kd.C (Kd.int .u8) w A0 l0.length l0) (hc0 : l0.length ≤ c0) (h : laws_FnDays.f k l0 = some r) :
  Calls Try.prog 13 #[.slice A0 l0.length c0] w fun e w' => e = .returned (.bool r) ∧ Below w.heap.size w w' := by
 have HR0 := Aside0.mk hr0
 have HC0 := Aside0.mk hc0
 clear hr0 hc0
 have HB := Aside0.mk (Below.refl w.heap.size w)
 have H : (if (l0.length : Int) > 1048576 then (some true) else ((spec_MakeWorks.f k l0 0).bind fun t654 => ((impl_DueOrder.f k t654).bind fun t657 => ((impl_ShortOrder.f k t654).bind fun t660 => ((impl_OnTimeOrder.f k t654).bind fun t663 => ((impl_LatestBy.f k t654 t657).bind fun t666 => ((impl_FewestLate.f k t654).bind fun t667 => ((impl_EndsAt.f k t654 t660).bind fun t668 => ((laws_sum.f k t668).bind fun t671 => ((impl_SlackOf.f k t654).bind fun t672 => ((laws_perm.f k t657 (t654.length : Int)).bind fun t673 => (if t673 = true then ((laws_perm.f k t660 (t654.length : Int)).bind fun t674 => (if t674 = true then ((impl_WorksOk.f t654).bind fun t675 => (if t675 = true then ((impl_WorkOrderOk.f k t654 t657).bind fun t676 => (if t676 = true then ((impl_WorkOrderOk.f k t654 t660).bind fun t677 => (if t677 = true then ((impl_WorkOrderOk.f k t654 t663).bind fun t678 => (if t678 = true then (if t666 < 0 then (none) else (if t667 < 0 then (none) else ((impl_CountLate.f k t654 t657).bind fun t679 => (if t667 > t679 then (none) else ((impl_CountLate.f k t654 t663).bind fun t680 => (if t680 = t667 then (if ((t666 == 0) != (t667 == 0)) = true then (none) else (if ((decide (t672 ≥ 0)) != (t666 == 0)) = true then (none) else (if (t654.length : Int) = 0 then (if t672 = 1000 then ((impl_EndsAt.f k t654 t660).bind fun t681 => (laws_FnDays.j0 k t654 (t654.length : Int) t657 t660 t666 t667 t671 t672 ((t681.length : Int) != (t654.length : Int)))) else (none)) else ((impl_EndsAt.f k t654 t660).bind fun t684 => (laws_FnDays.j0 k t654 (t654.length : Int) t657 t660 t666 t667 t671 t672 ((t684.length : Int) != (t654.length : Int))))))) else (none))))))) else (none))) else (none))) else (none))) else (none))) else (none))) else (none))))))))))))) = some r := h
 clear h
 by_cases c2 : (l0.length : Int) > 1048576
 ·rw [if_pos c2] at H
  have c2b0 : decide (1048576 < (l0.length : Int)) = true := decide_eq_true c2
  have c2b1 : decide (1048576 < l0.length) = true := decide_eq_true (by omega)
  clear c2
  as_aux_lemma =>
   obtain rfl := Option.some.inj H
   go_enter Try.func13, Try.ntmps13
   go_wp2
   go_ret
   exact ⟨by first | rfl | (simp [errW_none, errW_some] <;> rfl) | (simp [*, errW_none, errW_some] <;> rfl), by repeat (first | (with_reducible first | exact HB.out | apply below_alloc | apply pw_below_drewN | apply below_drew1) | exact HB.out)⟩
 ·rw [if_neg c2] at H
  have c2b0 : decide (1048576 < (l0.length : Int)) = false := decide_eq_false c2
  have c2b1 : decide (1048576 < l0.length) = false := decide_eq_false (by omega)
  clear c2
  replace H := Option.bind_eq_some_iff.mp H
  obtain ⟨t654, A30, H⟩ := H
  replace H : ((impl_DueOrder.f k t654).bind fun t657 => ((impl_ShortOrder.f k t654).bind fun t660 => ((impl_OnTimeOrder.f k t654).bind fun t663 => ((impl_LatestBy.f k t654 t657).bind fun t666 => ((impl_FewestLate.f k t654).bind fun t667 => ((impl_EndsAt.f k t654 t660).bind fun t668 => ((laws_sum.f k t668).bind fun t671 => ((impl_SlackOf.f k t654).bind fun t672 => ((laws_perm.f k t657 (t654.length : Int)).bind fun t673 => (if t673 = true then ((laws_perm.f k t660 (t654.length : Int)).bind fun t674 => (if t674 = true then ((impl_WorksOk.f t654).bind fun t675 => (if t675 = true then ((impl_WorkOrderOk.f k t654 t657).bind fun t676 => (if t676 = true then ((impl_WorkOrderOk.f k t654 t660).bind fun t677 => (if t677 = true then ((impl_WorkOrderOk.f k t654 t663).bind fun t678 => (if t678 = true then (if t666 < 0 then (none) else (if t667 < 0 then (none) else ((impl_CountLate.f k t654 t657).bind fun t679 => (if t667 > t679 then (none) else ((impl_CountLate.f k t654 t663).bind fun t680 => (if t680 = t667 then (if ((t666 == 0) != (t667 == 0)) = true then (none) else (if ((decide (t672 ≥ 0)) != (t666 == 0)) = true then (none) else (if (t654.length : Int) = 0 then (if t672 = 1000 then ((impl_EndsAt.f k t654 t660).bind fun t681 => (laws_FnDays.j0 k t654 (t654.length : Int) t657 t660 t666 t667 t671 t672 ((t681.length : Int) != (t654.length : Int)))) else (none)) else ((impl_EndsAt.f k t654 t660).bind fun t684 => (laws_FnDays.j0 k t654 (t654.length : Int) t657 t660 t666 t667 t671 t672 ((t684.length : Int) != (t654.length : Int))))))) else (none))))))) else (none))) else (none))) else (none))) else (none))) else (none))) else (none))))))))))) = some r := H
  have A3 := Aside0.mk A30
  clear A30
  replace H := Option.bind_eq_some_iff.mp H
  obtain ⟨t657, A40, H⟩ := H
  replace H : ((impl_ShortOrder.f k t654).bind fun t660 => ((impl_OnTimeOrder.f k t654).bind fun t663 => ((impl_LatestBy.f k t654 t657).bind fun t666 => ((impl_FewestLate.f k t654).bind fun t667 => ((impl_EndsAt.f k t654 t660).bind fun t668 => ((laws_sum.f k t668).bind fun t671 => ((impl_SlackOf.f k t654).bind fun t672 => ((laws_perm.f k t657 (t654.length : Int)).bind fun t673 => (if t673 = true then ((laws_perm.f k t660 (t654.length : Int)).bind fun t674 => (if t674 = true then ((impl_WorksOk.f t654).bind fun t675 => (if t675 = true then ((impl_WorkOrderOk.f k t654 t657).bind fun t676 => (if t676 = true then ((impl_WorkOrderOk.f k t654 t660).bind fun t677 => (if t677 = true then ((impl_WorkOrderOk.f k t654 t663).bind fun t678 => (if t678 = true then (if t666 < 0 then (none) else (if t667 < 0 then (none) else ((impl_CountLate.f k t654 t657).bind fun t679 => (if t667 > t679 then (none) else ((impl_CountLate.f k t654 t663).bind fun t680 => (if t680 = t667 then (if ((t666 == 0) != (t667 == 0)) = true then (none) else (if ((decide (t672 ≥ 0)) != (t666 == 0)) = true then (none) else (if (t654.length : Int) = 0 then (if t672 = 1000 then ((impl_EndsAt.f k t654 t660).bind fun t681 => (laws_FnDays.j0 k t654 (t654.length : Int) t657 t660 t666 t667 t671 t672 ((t681.length : Int) != (t654.length : Int)))) else (none)) else ((impl_EndsAt.f k t654 t660).bind fun t684 => (laws_FnDays.j0 k t654 (t654.length : Int) t657 t660 t666 t667 t671 t672 ((t684.length : Int) != (t654.length : Int))))))) else (none))))))) else (none))) else (none))) else (none))) else (none))) else (none))) else (none)))))))))) = some r := H
  have A4 := Aside0.mk A40
  clear A40
  replace H := Option.bind_eq_some_iff.mp H
  obtain ⟨t660, A50, H⟩ := H
  replace H : ((impl_OnTimeOrder.f k t654).bind fun t663 => ((impl_LatestBy.f k t654 t657).bind fun t666 => ((impl_FewestLate.f k t654).bind fun t667 => ((impl_EndsAt.f k t654 t660).bind fun t668 => ((laws_sum.f k t668).bind fun t671 => ((impl_SlackOf.f k t654).bind fun t672 => ((laws_perm.f k t657 (t654.length : Int)).bind fun t673 => (if t673 = true then ((laws_perm.f k t660 (t654.length : Int)).bind fun t674 => (if t674 = true then ((impl_WorksOk.f t654).bind fun t675 => (if t675 = true then ((impl_WorkOrderOk.f k t654 t657).bind fun t676 => (if t676 = true then ((impl_WorkOrderOk.f k t654 t660).bind fun t677 => (if t677 = true then ((impl_WorkOrderOk.f k t654 t663).bind fun t678 => (if t678 = true then (if t666 < 0 then (none) else (if t667 < 0 then (none) else ((impl_CountLate.f k t654 t657).bind fun t679 => (if t667 > t679 then (none) else ((impl_CountLate.f k t654 t663).bind fun t680 => (if t680 = t667 then (if ((t666 == 0) != (t667 == 0)) = true then (none) else (if ((decide (t672 ≥ 0)) != (t666 == 0)) = true then (none) else (if (t654.length : Int) = 0 then (if t672 = 1000 then ((impl_EndsAt.f k t654 t660).bind fun t681 => (laws_FnDays.j0 k t654 (t654.length : Int) t657 t660 t666 t667 t671 t672 ((t681.length : Int) != (t654.length : Int)))) else (none)) else ((impl_EndsAt.f k t654 t660).bind fun t684 => (laws_FnDays.j0 k t654 (t654.length : Int) t657 t660 t666 t667 t671 t672 ((t684.length : Int) != (t654.length : Int))))))) else (none))))))) else (none))) else (none))) else (none))) else (none))) else (none))) else (none))))))))) = some r := H
  have A5 := Aside0.mk A50
  clear A50
  replace H := Option.bind_eq_some_iff.mp H
  obtain ⟨t663, A60, H⟩ := H
  replace H : ((impl_LatestBy.f k t654 t657).bind fun t666 => ((impl_FewestLate.f k t654).bind fun t667 => ((impl_EndsAt.f k t654 t660).bind fun t668 => ((laws_sum.f k t668).bind fun t671 => ((impl_SlackOf.f k t654).bind fun t672 => ((laws_perm.f k t657 (t654.length : Int)).bind fun t673 => (if t673 = true then ((laws_perm.f k t660 (t654.length : Int)).bind fun t674 => (if t674 = true then ((impl_WorksOk.f t654).bind fun t675 => (if t675 = true then ((impl_WorkOrderOk.f k t654 t657).bind fun t676 => (if t676 = true then ((impl_WorkOrderOk.f k t654 t660).bind fun t677 => (if t677 = true then ((impl_WorkOrderOk.f k t654 t663).bind fun t678 => (if t678 = true then (if t666 < 0 then (none) else (if t667 < 0 then (none) else ((impl_CountLate.f k t654 t657).bind fun t679 => (if t667 > t679 then (none) else ((impl_CountLate.f k t654 t663).bind fun t680 => (if t680 = t667 then (if ((t666 == 0) != (t667 == 0)) = true then (none) else (if ((decide (t672 ≥ 0)) != (t666 == 0)) = true then (none) else (if (t654.length : Int) = 0 then (if t672 = 1000 then ((impl_EndsAt.f k t654 t660).bind fun t681 => (laws_FnDays.j0 k t654 (t654.length : Int) t657 t660 t666 t667 t671 t672 ((t681.length : Int) != (t654.length : Int)))) else (none)) else ((impl_EndsAt.f k t654 t660).bind fun t684 => (laws_FnDays.j0 k t654 (t654.length : Int) t657 t660 t666 t667 t671 t672 ((t684.length : Int) != (t654.length : Int))))))) else (none))))))) else (none))) else (none))) else (none))) else (none))) else (none))) else (none)))))))) = some r := H
  have A6 := Aside0.mk A60
  clear A60
  replace H := Option.bind_eq_some_iff.mp H
  obtain ⟨t666, A70, H⟩ := H
  replace H : ((impl_FewestLate.f k t654).bind fun t667 => ((impl_EndsAt.f k t654 t660).bind fun t668 => ((laws_sum.f k t668).bind fun t671 => ((impl_SlackOf.f k t654).bind fun t672 => ((laws_perm.f k t657 (t654.length : Int)).bind fun t673 => (if t673 = true then ((laws_perm.f k t660 (t654.length : Int)).bind fun t674 => (if t674 = true then ((impl_WorksOk.f t654).bind fun t675 => (if t675 = true then ((impl_WorkOrderOk.f k t654 t657).bind fun t676 => (if t676 = true then ((impl_WorkOrderOk.f k t654 t660).bind fun t677 => (if t677 = true then ((impl_WorkOrderOk.f k t654 t663).bind fun t678 => (if t678 = true then (if t666 < 0 then (none) else (if t667 < 0 then (none) else ((impl_CountLate.f k t654 t657).bind fun t679 => (if t667 > t679 then (none) else ((impl_CountLate.f k t654 t663).bind fun t680 => (if t680 = t667 then (if ((t666 == 0) != (t667 == 0)) = true then (none) else (if ((decide (t672 ≥ 0)) != (t666 == 0)) = true then (none) else (if (t654.length : Int) = 0 then (if t672 = 1000 then ((impl_EndsAt.f k t654 t660).bind fun t681 => (laws_FnDays.j0 k t654 (t654.length : Int) t657 t660 t666 t667 t671 t672 ((t681.length : Int) != (t654.length : Int)))) else (none)) else ((impl_EndsAt.f k t654 t660).bind fun t684 => (laws_FnDays.j0 k t654 (t654.length : Int) t657 t660 t666 t667 t671 t672 ((t684.length : Int) != (t654.length : Int))))))) else (none))))))) else (none))) else (none))) else (none))) else (none))) else (none))) else (none))))))) = some r := H
  have A7 := Aside0.mk A70
  clear A70
  replace H := Option.bind_eq_some_iff.mp H
  obtain ⟨t667, A80, H⟩ := H
  replace H : ((impl_EndsAt.f k t654 t660).bind fun t668 => ((laws_sum.f k t668).bind fun t671 => ((impl_SlackOf.f k t654).bind fun t672 => ((laws_perm.f k t657 (t654.length : Int)).bind fun t673 => (if t673 = true then ((laws_perm.f k t660 (t654.length : Int)).bind fun t674 => (if t674 = true then ((impl_WorksOk.f t654).bind fun t675 => (if t675 = true then ((impl_WorkOrderOk.f k t654 t657).bind fun t676 => (if t676 = true then ((impl_WorkOrderOk.f k t654 t660).bind fun t677 => (if t677 = true then ((impl_WorkOrderOk.f k t654 t663).bind fun t678 => (if t678 = true then (if t666 < 0 then (none) else (if t667 < 0 then (none) else ((impl_CountLate.f k t654 t657).bind fun t679 => (if t667 > t679 then (none) else ((impl_CountLate.f k t654 t663).bind fun t680 => (if t680 = t667 then (if ((t666 == 0) != (t667 == 0)) = true then (none) else (if ((decide (t672 ≥ 0)) != (t666 == 0)) = true then (none) else (if (t654.length : Int) = 0 then (if t672 = 1000 then ((impl_EndsAt.f k t654 t660).bind fun t681 => (laws_FnDays.j0 k t654 (t654.length : Int) t657 t660 t666 t667 t671 t672 ((t681.length : Int) != (t654.length : Int)))) else (none)) else ((impl_EndsAt.f k t654 t660).bind fun t684 => (laws_FnDays.j0 k t654 (t654.length : Int) t657 t660 t666 t667 t671 t672 ((t684.length : Int) != (t654.length : Int))))))) else (none))))))) else (none))) else (none))) else (none))) else (none))) else (none))) else (none)))))) = some r := H
  have A8 := Aside0.mk A80
  clear A80
  replace H := Option.bind_eq_some_iff.mp H
  obtain ⟨t668, A90, H⟩ := H
  replace H : ((laws_sum.f k t668).bind fun t671 => ((impl_SlackOf.f k t654).bind fun t672 => ((laws_perm.f k t657 (t654.length : Int)).bind fun t673 => (if t673 = true then ((laws_perm.f k t660 (t654.length : Int)).bind fun t674 => (if t674 = true then ((impl_WorksOk.f t654).bind fun t675 => (if t675 = true then ((impl_WorkOrderOk.f k t654 t657).bind fun t676 => (if t676 = true then ((impl_WorkOrderOk.f k t654 t660).bind fun t677 => (if t677 = true then ((impl_WorkOrderOk.f k t654 t663).bind fun t678 => (if t678 = true then (if t666 < 0 then (none) else (if t667 < 0 then (none) else ((impl_CountLate.f k t654 t657).bind fun t679 => (if t667 > t679 then (none) else ((impl_CountLate.f k t654 t663).bind fun t680 => (if t680 = t667 then (if ((t666 == 0) != (t667 == 0)) = true then (none) else (if ((decide (t672 ≥ 0)) != (t666 == 0)) = true then (none) else (if (t654.length : Int) = 0 then (if t672 = 1000 then ((impl_EndsAt.f k t654 t660).bind fun t681 => (laws_FnDays.j0 k t654 (t654.length : Int) t657 t660 t666 t667 t671 t672 ((t681.length : Int) != (t654.length : Int)))) else (none)) else ((impl_EndsAt.f k t654 t660).bind fun t684 => (laws_FnDays.j0 k t654 (t654.length : Int) t657 t660 t666 t667 t671 t672 ((t684.length : Int) != (t654.length : Int))))))) else (none))))))) else (none))) else (none))) else (none))) else (none))) else (none))) else (none))))) = some r := H
  have A9 := Aside0.mk A90
  clear A90
  replace H := Option.bind_eq_some_iff.mp H
  obtain ⟨t671, A100, H⟩ := H
  replace H : ((impl_SlackOf.f k t654).bind fun t672 => ((laws_perm.f k t657 (t654.length : Int)).bind fun t673 => (if t673 = true then ((laws_perm.f k t660 (t654.length : Int)).bind fun t674 => (if t674 = true then ((impl_WorksOk.f t654).bind fun t675 => (if t675 = true then ((impl_WorkOrderOk.f k t654 t657).bind fun t676 => (if t676 = true then ((impl_WorkOrderOk.f k t654 t660).bind fun t677 => (if t677 = true then ((impl_WorkOrderOk.f k t654 t663).bind fun t678 => (if t678 = true then (if t666 < 0 then (none) else (if t667 < 0 then (none) else ((impl_CountLate.f k t654 t657).bind fun t679 => (if t667 > t679 then (none) else ((impl_CountLate.f k t654 t663).bind fun t680 => (if t680 = t667 then (if ((t666 == 0) != (t667 == 0)) = true then (none) else (if ((decide (t672 ≥ 0)) != (t666 == 0)) = true then (none) else (if (t654.length : Int) = 0 then (if t672 = 1000 then ((impl_EndsAt.f k t654 t660).bind fun t681 => (laws_FnDays.j0 k t654 (t654.length : Int) t657 t660 t666 t667 t671 t672 ((t681.length : Int) != (t654.length : Int)))) else (none)) else ((impl_EndsAt.f k t654 t660).bind fun t684 => (laws_FnDays.j0 k t654 (t654.length : Int) t657 t660 t666 t667 t671 t672 ((t684.length : Int) != (t654.length : Int))))))) else (none))))))) else (none))) else (none))) else (none))) else (none))) else (none))) else (none)))) = some r := H
  have A10 := Aside0.mk A100
  clear A100
  replace H := Option.bind_eq_some_iff.mp H
  obtain ⟨t672, A110, H⟩ := H
  replace H : ((laws_perm.f k t657 (t654.length : Int)).bind fun t673 => (if t673 = true then ((laws_perm.f k t660 (t654.length : Int)).bind fun t674 => (if t674 = true then ((impl_WorksOk.f t654).bind fun t675 => (if t675 = true then ((impl_WorkOrderOk.f k t654 t657).bind fun t676 => (if t676 = true then ((impl_WorkOrderOk.f k t654 t660).bind fun t677 => (if t677 = true then ((impl_WorkOrderOk.f k t654 t663).bind fun t678 => (if t678 = true then (if t666 < 0 then (none) else (if t667 < 0 then (none) else ((impl_CountLate.f k t654 t657).bind fun t679 => (if t667 > t679 then (none) else ((impl_CountLate.f k t654 t663).bind fun t680 => (if t680 = t667 then (if ((t666 == 0) != (t667 == 0)) = true then (none) else (if ((decide (t672 ≥ 0)) != (t666 == 0)) = true then (none) else (if (t654.length : Int) = 0 then (if t672 = 1000 then ((impl_EndsAt.f k t654 t660).bind fun t681 => (laws_FnDays.j0 k t654 (t654.length : Int) t657 t660 t666 t667 t671 t672 ((t681.length : Int) != (t654.length : Int)))) else (none)) else ((impl_EndsAt.f k t654 t660).bind fun t684 => (laws_FnDays.j0 k t654 (t654.length : Int) t657 t660 t666 t667 t671 t672 ((t684.length : Int) != (t654.length : Int))))))) else (none))))))) else (none))) else (none))) else (none))) else (none))) else (none))) else (none))) = some r := H
  have A11 := Aside0.mk A110
  clear A110
  replace H := Option.bind_eq_some_iff.mp H
  obtain ⟨t673, A120, H⟩ := H
  replace H : (if t673 = true then ((laws_perm.f k t660 (t654.length : Int)).bind fun t674 => (if t674 = true then ((impl_WorksOk.f t654).bind fun t675 => (if t675 = true then ((impl_WorkOrderOk.f k t654 t657).bind fun t676 => (if t676 = true then ((impl_WorkOrderOk.f k t654 t660).bind fun t677 => (if t677 = true then ((impl_WorkOrderOk.f k t654 t663).bind fun t678 => (if t678 = true then (if t666 < 0 then (none) else (if t667 < 0 then (none) else ((impl_CountLate.f k t654 t657).bind fun t679 => (if t667 > t679 then (none) else ((impl_CountLate.f k t654 t663).bind fun t680 => (if t680 = t667 then (if ((t666 == 0) != (t667 == 0)) = true then (none) else (if ((decide (t672 ≥ 0)) != (t666 == 0)) = true then (none) else (if (t654.length : Int) = 0 then (if t672 = 1000 then ((impl_EndsAt.f k t654 t660).bind fun t681 => (laws_FnDays.j0 k t654 (t654.length : Int) t657 t660 t666 t667 t671 t672 ((t681.length : Int) != (t654.length : Int)))) else (none)) else ((impl_EndsAt.f k t654 t660).bind fun t684 => (laws_FnDays.j0 k t654 (t654.length : Int) t657 t660 t666 t667 t671 t672 ((t684.length : Int) != (t654.length : Int))))))) else (none))))))) else (none))) else (none))) else (none))) else (none))) else (none))) else (none)) = some r := H
  have A12 := Aside0.mk A120
  clear A120
  by_cases c13 : t673 = true
  ·subst c13
   have H1 : ((laws_perm.f k t660 (t654.length : Int)).bind fun t674 => (if t674 = true then ((impl_WorksOk.f t654).bind fun t675 => (if t675 = true then ((impl_WorkOrderOk.f k t654 t657).bind fun t676 => (if t676 = true then ((impl_WorkOrderOk.f k t654 t660).bind fun t677 => (if t677 = true then ((impl_WorkOrderOk.f k t654 t663).bind fun t678 => (if t678 = true then (if t666 < 0 then (none) else (if t667 < 0 then (none) else ((impl_CountLate.f k t654 t657).bind fun t679 => (if t667 > t679 then (none) else ((impl_CountLate.f k t654 t663).bind fun t680 => (if t680 = t667 then (if ((t666 == 0) != (t667 == 0)) = true then (none) else (if ((decide (t672 ≥ 0)) != (t666 == 0)) = true then (none) else (if (t654.length : Int) = 0 then (if t672 = 1000 then ((impl_EndsAt.f k t654 t660).bind fun t681 => (laws_FnDays.j0 k t654 (t654.length : Int) t657 t660 t666 t667 t671 t672 ((t681.length : Int) != (t654.length : Int)))) else (none)) else ((impl_EndsAt.f k t654 t660).bind fun t684 => (laws_FnDays.j0 k t654 (t654.length : Int) t657 t660 t666 t667 t671 t672 ((t684.length : Int) != (t654.length : Int))))))) else (none))))))) else (none))) else (none))) else (none))) else (none))) else (none))) = some r := by rw [if_pos rfl] at H; exact H
   clear H
   have H := H1
   clear H1
   replace H := Option.bind_eq_some_iff.mp H
   obtain ⟨t674, A140, H⟩ := H
   replace H : (if t674 = true then ((impl_WorksOk.f t654).bind fun t675 => (if t675 = true then ((impl_WorkOrderOk.f k t654 t657).bind fun t676 => (if t676 = true then ((impl_WorkOrderOk.f k t654 t660).bind fun t677 => (if t677 = true then ((impl_WorkOrderOk.f k t654 t663).bind fun t678 => (if t678 = true then (if t666 < 0 then (none) else (if t667 < 0 then (none) else ((impl_CountLate.f k t654 t657).bind fun t679 => (if t667 > t679 then (none) else ((impl_CountLate.f k t654 t663).bind fun t680 => (if t680 = t667 then (if ((t666 == 0) != (t667 == 0)) = true then (none) else (if ((decide (t672 ≥ 0)) != (t666 == 0)) = true then (none) else (if (t654.length : Int) = 0 then (if t672 = 1000 then ((impl_EndsAt.f k t654 t660).bind fun t681 => (laws_FnDays.j0 k t654 (t654.length : Int) t657 t660 t666 t667 t671 t672 ((t681.length : Int) != (t654.length : Int)))) else (none)) else ((impl_EndsAt.f k t654 t660).bind fun t684 => (laws_FnDays.j0 k t654 (t654.length : Int) t657 t660 t666 t667 t671 t672 ((t684.length : Int) != (t654.length : Int))))))) else (none))))))) else (none))) else (none))) else (none))) else (none))) else (none)) = some r := H
   have A14 := Aside0.mk A140
   clear A140
   by_cases c15 : t674 = true
   ·subst c15
    have H1 : ((impl_WorksOk.f t654).bind fun t675 => (if t675 = true then ((impl_WorkOrderOk.f k t654 t657).bind fun t676 => (if t676 = true then ((impl_WorkOrderOk.f k t654 t660).bind fun t677 => (if t677 = true then ((impl_WorkOrderOk.f k t654 t663).bind fun t678 => (if t678 = true then (if t666 < 0 then (none) else (if t667 < 0 then (none) else ((impl_CountLate.f k t654 t657).bind fun t679 => (if t667 > t679 then (none) else ((impl_CountLate.f k t654 t663).bind fun t680 => (if t680 = t667 then (if ((t666 == 0) != (t667 == 0)) = true then (none) else (if ((decide (t672 ≥ 0)) != (t666 == 0)) = true then (none) else (if (t654.length : Int) = 0 then (if t672 = 1000 then ((impl_EndsAt.f k t654 t660).bind fun t681 => (laws_FnDays.j0 k t654 (t654.length : Int) t657 t660 t666 t667 t671 t672 ((t681.length : Int) != (t654.length : Int)))) else (none)) else ((impl_EndsAt.f k t654 t660).bind fun t684 => (laws_FnDays.j0 k t654 (t654.length : Int) t657 t660 t666 t667 t671 t672 ((t684.length : Int) != (t654.length : Int))))))) else (none))))))) else (none))) else (none))) else (none))) else (none))) = some r := by rw [if_pos rfl] at H; exact H
    clear H
    have H := H1
    clear H1
    replace H := Option.bind_eq_some_iff.mp H
    obtain ⟨t675, A160, H⟩ := H
    replace H : (if t675 = true then ((impl_WorkOrderOk.f k t654 t657).bind fun t676 => (if t676 = true then ((impl_WorkOrderOk.f k t654 t660).bind fun t677 => (if t677 = true then ((impl_WorkOrderOk.f k t654 t663).bind fun t678 => (if t678 = true then (if t666 < 0 then (none) else (if t667 < 0 then (none) else ((impl_CountLate.f k t654 t657).bind fun t679 => (if t667 > t679 then (none) else ((impl_CountLate.f k t654 t663).bind fun t680 => (if t680 = t667 then (if ((t666 == 0) != (t667 == 0)) = true then (none) else (if ((decide (t672 ≥ 0)) != (t666 == 0)) = true then (none) else (if (t654.length : Int) = 0 then (if t672 = 1000 then ((impl_EndsAt.f k t654 t660).bind fun t681 => (laws_FnDays.j0 k t654 (t654.length : Int) t657 t660 t666 t667 t671 t672 ((t681.length : Int) != (t654.length : Int)))) else (none)) else ((impl_EndsAt.f k t654 t660).bind fun t684 => (laws_FnDays.j0 k t654 (t654.length : Int) t657 t660 t666 t667 t671 t672 ((t684.length : Int) != (t654.length : Int))))))) else (none))))))) else (none))) else (none))) else (none))) else (none)) = some r := H
    have A16 := Aside0.mk A160
    clear A160
    by_cases c17 : t675 = true
    ·subst c17
     have H1 : ((impl_WorkOrderOk.f k t654 t657).bind fun t676 => (if t676 = true then ((impl_WorkOrderOk.f k t654 t660).bind fun t677 => (if t677 = true then ((impl_WorkOrderOk.f k t654 t663).bind fun t678 => (if t678 = true then (if t666 < 0 then (none) else (if t667 < 0 then (none) else ((impl_CountLate.f k t654 t657).bind fun t679 => (if t667 > t679 then (none) else ((impl_CountLate.f k t654 t663).bind fun t680 => (if t680 = t667 then (if ((t666 == 0) != (t667 == 0)) = true then (none) else (if ((decide (t672 ≥ 0)) != (t666 == 0)) = true then (none) else (if (t654.length : Int) = 0 then (if t672 = 1000 then ((impl_EndsAt.f k t654 t660).bind fun t681 => (laws_FnDays.j0 k t654 (t654.length : Int) t657 t660 t666 t667 t671 t672 ((t681.length : Int) != (t654.length : Int)))) else (none)) else ((impl_EndsAt.f k t654 t660).bind fun t684 => (laws_FnDays.j0 k t654 (t654.length : Int) t657 t660 t666 t667 t671 t672 ((t684.length : Int) != (t654.length : Int))))))) else (none))))))) else (none))) else (none))) else (none))) = some r := by rw [if_pos rfl] at H; exact H
     clear H
     have H := H1
     clear H1
     replace H := Option.bind_eq_some_iff.mp H
     obtain ⟨t676, A180, H⟩ := H
     replace H : (if t676 = true then ((impl_WorkOrderOk.f k t654 t660).bind fun t677 => (if t677 = true then ((impl_WorkOrderOk.f k t654 t663).bind fun t678 => (if t678 = true then (if t666 < 0 then (none) else (if t667 < 0 then (none) else ((impl_CountLate.f k t654 t657).bind fun t679 => (if t667 > t679 then (none) else ((impl_CountLate.f k t654 t663).bind fun t680 => (if t680 = t667 then (if ((t666 == 0) != (t667 == 0)) = true then (none) else (if ((decide (t672 ≥ 0)) != (t666 == 0)) = true then (none) else (if (t654.length : Int) = 0 then (if t672 = 1000 then ((impl_EndsAt.f k t654 t660).bind fun t681 => (laws_FnDays.j0 k t654 (t654.length : Int) t657 t660 t666 t667 t671 t672 ((t681.length : Int) != (t654.length : Int)))) else (none)) else ((impl_EndsAt.f k t654 t660).bind fun t684 => (laws_FnDays.j0 k t654 (t654.length : Int) t657 t660 t666 t667 t671 t672 ((t684.length : Int) != (t654.length : Int))))))) else (none))))))) else (none))) else (none))) else (none)) = some r := H
     have A18 := Aside0.mk A180
     clear A180
     by_cases c19 : t676 = true
     ·subst c19
      have H1 : ((impl_WorkOrderOk.f k t654 t660).bind fun t677 => (if t677 = true then ((impl_WorkOrderOk.f k t654 t663).bind fun t678 => (if t678 = true then (if t666 < 0 then (none) else (if t667 < 0 then (none) else ((impl_CountLate.f k t654 t657).bind fun t679 => (if t667 > t679 then (none) else ((impl_CountLate.f k t654 t663).bind fun t680 => (if t680 = t667 then (if ((t666 == 0) != (t667 == 0)) = true then (none) else (if ((decide (t672 ≥ 0)) != (t666 == 0)) = true then (none) else (if (t654.length : Int) = 0 then (if t672 = 1000 then ((impl_EndsAt.f k t654 t660).bind fun t681 => (laws_FnDays.j0 k t654 (t654.length : Int) t657 t660 t666 t667 t671 t672 ((t681.length : Int) != (t654.length : Int)))) else (none)) else ((impl_EndsAt.f k t654 t660).bind fun t684 => (laws_FnDays.j0 k t654 (t654.length : Int) t657 t660 t666 t667 t671 t672 ((t684.length : Int) != (t654.length : Int))))))) else (none))))))) else (none))) else (none))) = some r := by rw [if_pos rfl] at H; exact H
      clear H
      have H := H1
      clear H1
      replace H := Option.bind_eq_some_iff.mp H
      obtain ⟨t677, A200, H⟩ := H
      replace H : (if t677 = true then ((impl_WorkOrderOk.f k t654 t663).bind fun t678 => (if t678 = true then (if t666 < 0 then (none) else (if t667 < 0 then (none) else ((impl_CountLate.f k t654 t657).bind fun t679 => (if t667 > t679 then (none) else ((impl_CountLate.f k t654 t663).bind fun t680 => (if t680 = t667 then (if ((t666 == 0) != (t667 == 0)) = true then (none) else (if ((decide (t672 ≥ 0)) != (t666 == 0)) = true then (none) else (if (t654.length : Int) = 0 then (if t672 = 1000 then ((impl_EndsAt.f k t654 t660).bind fun t681 => (laws_FnDays.j0 k t654 (t654.length : Int) t657 t660 t666 t667 t671 t672 ((t681.length : Int) != (t654.length : Int)))) else (none)) else ((impl_EndsAt.f k t654 t660).bind fun t684 => (laws_FnDays.j0 k t654 (t654.length : Int) t657 t660 t666 t667 t671 t672 ((t684.length : Int) != (t654.length : Int))))))) else (none))))))) else (none))) else (none)) = some r := H
      have A20 := Aside0.mk A200
      clear A200
      by_cases c21 : t677 = true
      ·subst c21
       have H1 : ((impl_WorkOrderOk.f k t654 t663).bind fun t678 => (if t678 = true then (if t666 < 0 then (none) else (if t667 < 0 then (none) else ((impl_CountLate.f k t654 t657).bind fun t679 => (if t667 > t679 then (none) else ((impl_CountLate.f k t654 t663).bind fun t680 => (if t680 = t667 then (if ((t666 == 0) != (t667 == 0)) = true then (none) else (if ((decide (t672 ≥ 0)) != (t666 == 0)) = true then (none) else (if (t654.length : Int) = 0 then (if t672 = 1000 then ((impl_EndsAt.f k t654 t660).bind fun t681 => (laws_FnDays.j0 k t654 (t654.length : Int) t657 t660 t666 t667 t671 t672 ((t681.length : Int) != (t654.length : Int)))) else (none)) else ((impl_EndsAt.f k t654 t660).bind fun t684 => (laws_FnDays.j0 k t654 (t654.length : Int) t657 t660 t666 t667 t671 t672 ((t684.length : Int) != (t654.length : Int))))))) else (none))))))) else (none))) = some r := by rw [if_pos rfl] at H; exact H
       clear H
       have H := H1
       clear H1
       replace H := Option.bind_eq_some_iff.mp H
       obtain ⟨t678, A220, H⟩ := H
       replace H : (if t678 = true then (if t666 < 0 then (none) else (if t667 < 0 then (none) else ((impl_CountLate.f k t654 t657).bind fun t679 => (if t667 > t679 then (none) else ((impl_CountLate.f k t654 t663).bind fun t680 => (if t680 = t667 then (if ((t666 == 0) != (t667 == 0)) = true then (none) else (if ((decide (t672 ≥ 0)) != (t666 == 0)) = true then (none) else (if (t654.length : Int) = 0 then (if t672 = 1000 then ((impl_EndsAt.f k t654 t660).bind fun t681 => (laws_FnDays.j0 k t654 (t654.length : Int) t657 t660 t666 t667 t671 t672 ((t681.length : Int) != (t654.length : Int)))) else (none)) else ((impl_EndsAt.f k t654 t660).bind fun t684 => (laws_FnDays.j0 k t654 (t654.length : Int) t657 t660 t666 t667 t671 t672 ((t684.length : Int) != (t654.length : Int))))))) else (none))))))) else (none)) = some r := H
       have A22 := Aside0.mk A220
       clear A220
       by_cases c23 : t678 = true
       ·subst c23
        have H1 : (if t666 < 0 then (none) else (if t667 < 0 then (none) else ((impl_CountLate.f k t654 t657).bind fun t679 => (if t667 > t679 then (none) else ((impl_CountLate.f k t654 t663).bind fun t680 => (if t680 = t667 then (if ((t666 == 0) != (t667 == 0)) = true then (none) else (if ((decide (t672 ≥ 0)) != (t666 == 0)) = true then (none) else (if (t654.length : Int) = 0 then (if t672 = 1000 then ((impl_EndsAt.f k t654 t660).bind fun t681 => (laws_FnDays.j0 k t654 (t654.length : Int) t657 t660 t666 t667 t671 t672 ((t681.length : Int) != (t654.length : Int)))) else (none)) else ((impl_EndsAt.f k t654 t660).bind fun t684 => (laws_FnDays.j0 k t654 (t654.length : Int) t657 t660 t666 t667 t671 t672 ((t684.length : Int) != (t654.length : Int))))))) else (none))))))) = some r := by rw [if_pos rfl] at H; exact H
        clear H
        have H := H1
        clear H1
        by_cases c24 : t666 < 0
        ·rw [if_pos c24] at H
         exact absurd H (by simp)
        ·rw [if_neg c24] at H
         have c24b0 : decide (t666 < 0) = false := decide_eq_false c24
         clear c24
         by_cases c25 : t667 < 0
         ·rw [if_pos c25] at H
          exact absurd H (by simp)
         ·rw [if_neg c25] at H
          have c25b0 : decide (t667 < 0) = false := decide_eq_false c25
          clear c25
          replace H := Option.bind_eq_some_iff.mp H
          obtain ⟨t679, A260, H⟩ := H
          replace H : (if t667 > t679 then (none) else ((impl_CountLate.f k t654 t663).bind fun t680 => (if t680 = t667 then (if ((t666 == 0) != (t667 == 0)) = true then (none) else (if ((decide (t672 ≥ 0)) != (t666 == 0)) = true then (none) else (if (t654.length : Int) = 0 then (if t672 = 1000 then ((impl_EndsAt.f k t654 t660).bind fun t681 => (laws_FnDays.j0 k t654 (t654.length : Int) t657 t660 t666 t667 t671 t672 ((t681.length : Int) != (t654.length : Int)))) else (none)) else ((impl_EndsAt.f k t654 t660).bind fun t684 => (laws_FnDays.j0 k t654 (t654.length : Int) t657 t660 t666 t667 t671 t672 ((t684.length : Int) != (t654.length : Int))))))) else (none)))) = some r := H
          have A26 := Aside0.mk A260
          clear A260
          by_cases c27 : t667 > t679
          ·rw [if_pos c27] at H
           exact absurd H (by simp)
          ·rw [if_neg c27] at H
           have c27b0 : decide (t679 < t667) = false := decide_eq_false c27
           clear c27
           replace H := Option.bind_eq_some_iff.mp H
           obtain ⟨t680, A280, H⟩ := H
           replace H : (if t680 = t667 then (if ((t666 == 0) != (t667 == 0)) = true then (none) else (if ((decide (t672 ≥ 0)) != (t666 == 0)) = true then (none) else (if (t654.length : Int) = 0 then (if t672 = 1000 then ((impl_EndsAt.f k t654 t660).bind fun t681 => (laws_FnDays.j0 k t654 (t654.length : Int) t657 t660 t666 t667 t671 t672 ((t681.length : Int) != (t654.length : Int)))) else (none)) else ((impl_EndsAt.f k t654 t660).bind fun t684 => (laws_FnDays.j0 k t654 (t654.length : Int) t657 t660 t666 t667 t671 t672 ((t684.length : Int) != (t654.length : Int))))))) else (none)) = some r := H
           have A28 := Aside0.mk A280
           clear A280
           by_cases c29 : t680 = t667
           ·rw [if_pos c29] at H
            have c29b0 : (t680 == t667) = true := beq_iff_eq.mpr c29
            have c29b1 : (t680 != t667) = false := bne_eq_false_iff_eq.mpr c29
            clear c29
            by_cases c30 : ((t666 == 0) != (t667 == 0)) = true
            ·rw [if_pos c30] at H
             exact absurd H (by simp)
            ·rw [if_neg c30] at H
             have c30b0 : ((t666 == 0) != (t667 == 0)) = false := by simpa using c30
             (try (have c30b1 : decide ((t666 == 0) = (t667 == 0)) = true := by simpa using c30))
             (try (have c30b2 : ((t666 == 0) == (t667 == 0)) = true := by simpa using c30))
             clear c30
             by_cases c31 : ((decide (t672 ≥ 0)) != (t666 == 0)) = true
             ·rw [if_pos c31] at H
              exact absurd H (by simp)
             ·rw [if_neg c31] at H
              have c31b0 : ((decide (t672 ≥ 0)) != (t666 == 0)) = false := by simpa using c31
              (try (have c31b1 : decide ((decide (t672 ≥ 0)) = (t666 == 0)) = true := by simpa using c31))
              (try (have c31b2 : ((decide (t672 ≥ 0)) == (t666 == 0)) = true := by simpa using c31))
              clear c31
              have HC32 := Aside0.mk H
              clear H
              go_enter Try.func13, Try.ntmps13
              go_upto_region 14 with (first | ((with_reducible refine gate_callee (f := 42) rfl ?_); refine goesL_ (some 23) rfl rfl Try.func42 (by kernel_rfl) rfl #[.slice A0 l0.length c0, .int .i64 0] rfl (by (try simp only [List.map_toArray, List.map_cons, List.map_nil]); first | done | rfl | (simp only [List.length_drop, List.length_take]; rfl)) ?_; (with_reducible refine (spec_MakeWorks.calls k _ _ l0 0 t654 _ ?side1 ?side2 A3.out).mono ?_); (case side1 => repeat (first | exact HR0.out | (with_reducible refine Kd.C_alloc ?_ _) | (with_reducible refine Kd.C_drewN ?_ _) | (with_reducible refine Kd.C_drew ?_))); (case side2 => exact HC0.out); rintro e w33 ⟨v655, rfl, ho0, hb⟩; refine ⟨_, rfl, ?_⟩; have n0_ := Aside0.mk (Kd.N_lower (Kd.N_mono (ok' := fun k_ => True) (Kd.S_N (Kd.S_bound ho0)) (fun k_ hk_ => trivial)) (below_size (by repeat (first | (with_reducible first | exact HB.out | apply below_alloc | apply pw_below_drewN | apply below_drew1) | exact HB.out)))); have n1_ := Aside0.mk (below_step (by repeat (first | (with_reducible first | exact HB.out | apply below_alloc | apply pw_below_drewN | apply below_drew1) | exact HB.out)) hb); clear HB; have HO656 := n0_; have HB := n1_; clear n0_ n1_; (try clear hb); (try clear hb2); (try clear hk); (try clear hi); (try clear ho0); obtain ⟨Ao34, co34, eo34⟩ := Kd.N_slice HO656.out; subst eo34) | ((with_reducible refine gate_callee (f := 20) rfl ?_); refine goesL_ (some 27) rfl rfl Try.func20 (by kernel_rfl) rfl #[.slice Ao34 t654.length co34] rfl (by (try simp only [List.map_toArray, List.map_cons, List.map_nil]); first | done | rfl | (simp only [List.length_drop, List.length_take]; rfl)) ?_; (with_reducible refine (impl_DueOrder.calls k _ _ t654 t657 _ ?side1 ?side2 A4.out).mono ?_); (case side1 => repeat (first | exact (Kd.N_reads' HO656.out).2.2 | (with_reducible refine Kd.C_alloc ?_ _) | (with_reducible refine Kd.C_drewN ?_ _) | (with_reducible refine Kd.C_drew ?_))); (case side2 => exact (Kd.N_reads' HO656.out).2.1); rintro e w35 ⟨v658, rfl, ho0, hb⟩; refine ⟨_, rfl, ?_⟩; have n0_ := Aside0.mk (Kd.N_elder' (by (with_reducible repeat (first | apply Kd.N_alloc | apply Kd.N_drewN | apply Kd.N_drew)); exact HO656.out) (Kd.R_base ho0) hb); have n1_ := Aside0.mk (Kd.R_lower ho0 (below_size (by repeat (first | (with_reducible first | exact HB.out | apply below_alloc | apply pw_below_drewN | apply below_drew1) | exact HB.out)))); have n2_ := Aside0.mk (below_step (by repeat (first | (with_reducible first | exact HB.out | apply below_alloc | apply pw_below_drewN | apply below_drew1) | exact HB.out)) hb); clear HO656; clear HB; have HO656 := n0_; have HO659 := n1_; have HB := n2_; clear n0_ n1_ n2_; (try clear hb); (try clear hb2); (try clear hk); (try clear hi); (try clear ho0)) | ((with_reducible refine gate_callee (f := 26) rfl ?_); refine goesL_ (some 29) rfl rfl Try.func26 (by kernel_rfl) rfl #[.slice Ao34 t654.length co34] rfl (by (try simp only [List.map_toArray, List.map_cons, List.map_nil]); first | done | rfl | (simp only [List.length_drop, List.length_take]; rfl)) ?_; (with_reducible refine (impl_ShortOrder.calls k _ _ t654 t660 _ ?side1 ?side2 A5.out).mono ?_); (case side1 => repeat (first | exact (Kd.N_reads' HO656.out).2.2 | (with_reducible refine Kd.C_alloc ?_ _) | (with_reducible refine Kd.C_drewN ?_ _) | (with_reducible refine Kd.C_drew ?_))); (case side2 => exact (Kd.N_reads' HO656.out).2.1); rintro e w36 ⟨v661, rfl, ho0, hb⟩; refine ⟨_, rfl, ?_⟩; have n0_ := Aside0.mk (Kd.N_elder' (by (with_reducible repeat (first | apply Kd.N_alloc | apply Kd.N_drewN | apply Kd.N_drew)); exact HO656.out) (Kd.R_base ho0) hb); have n1_ := Aside0.mk (Kd.R_elder' (by (with_reducible repeat (first | apply Kd.R_alloc | apply Kd.R_drewN | apply Kd.R_drew)); exact HO659.out) (Kd.R_base ho0) hb); have n2_ := Aside0.mk (Kd.R_lower (Kd.R_new' ho0 (Kd.R_lt (by (with_reducible repeat (first | apply Kd.R_alloc | apply Kd.R_drewN | apply Kd.R_drew)); exact HO659.out))) (below_size (by repeat (first | (with_reducible first | exact HB.out | apply below_alloc | apply pw_below_drewN | apply below_drew1) | exact HB.out)))); have n3_ := Aside0.mk (below_step (by repeat (first | (with_reducible first | exact HB.out | apply below_alloc | apply pw_below_drewN | apply below_drew1) | exact HB.out)) hb); clear HO656; clear HO659; clear HB; have HO656 := n0_; have HO659 := n1_; have HO662 := n2_; have HB := n3_; clear n0_ n1_ n2_ n3_; (try clear hb); (try clear hb2); (try clear hk); (try clear hi); (try clear ho0)) | ((with_reducible refine gate_callee (f := 28) rfl ?_); refine goesL_ (some 31) rfl rfl Try.func28 (by kernel_rfl) rfl #[.slice Ao34 t654.length co34] rfl (by (try simp only [List.map_toArray, List.map_cons, List.map_nil]); first | done | rfl | (simp only [List.length_drop, List.length_take]; rfl)) ?_; (with_reducible refine (impl_OnTimeOrder.calls k _ _ t654 t663 _ ?side1 ?side2 A6.out).mono ?_); (case side1 => repeat (first | exact (Kd.N_reads' HO656.out).2.2 | (with_reducible refine Kd.C_alloc ?_ _) | (with_reducible refine Kd.C_drewN ?_ _) | (with_reducible refine Kd.C_drew ?_))); (case side2 => exact (Kd.N_reads' HO656.out).2.1); rintro e w37 ⟨v664, rfl, ho0, hb⟩; refine ⟨_, rfl, ?_⟩; have n0_ := Aside0.mk (Kd.N_elder' (by (with_reducible repeat (first | apply Kd.N_alloc | apply Kd.N_drewN | apply Kd.N_drew)); exact HO656.out) (Kd.R_base ho0) hb); have n1_ := Aside0.mk (Kd.R_elder' (by (with_reducible repeat (first | apply Kd.R_alloc | apply Kd.R_drewN | apply Kd.R_drew)); exact HO659.out) (Kd.R_base ho0) hb); have n2_ := Aside0.mk (Kd.R_elder' (by (with_reducible repeat (first | apply Kd.R_alloc | apply Kd.R_drewN | apply Kd.R_drew)); exact HO662.out) (Kd.R_base ho0) hb); have n3_ := Aside0.mk (Kd.R_lower (Kd.R_new' (Kd.R_new' ho0 (Kd.R_lt (by (with_reducible repeat (first | apply Kd.R_alloc | apply Kd.R_drewN | apply Kd.R_drew)); exact HO659.out))) (Kd.R_lt (by (with_reducible repeat (first | apply Kd.R_alloc | apply Kd.R_drewN | apply Kd.R_drew)); exact HO662.out))) (below_size (by repeat (first | (with_reducible first | exact HB.out | apply below_alloc | apply pw_below_drewN | apply below_drew1) | exact HB.out)))); have n4_ := Aside0.mk (below_step (by repeat (first | (with_reducible first | exact HB.out | apply below_alloc | apply pw_below_drewN | apply below_drew1) | exact HB.out)) hb); clear HO656; clear HO659; clear HO662; clear HB; have HO656 := n0_; have HO659 := n1_; have HO662 := n2_; have HO665 := n3_; have HB := n4_; clear n0_ n1_ n2_ n3_ n4_; (try clear hb); (try clear hb2); (try clear hk); (try clear hi); (try clear ho0); obtain ⟨Ao38, co38, eo38⟩ := Kd.R_slice HO659.out; subst eo38) | ((with_reducible refine gate_callee (f := 33) rfl ?_); refine goesL_ (some 34) rfl rfl Try.func33 (by kernel_rfl) rfl #[.slice Ao34 t654.length co34, .slice Ao38 t657.length co38] rfl (by (try simp only [List.map_toArray, List.map_cons, List.map_nil]); first | done | rfl | (simp only [List.length_drop, List.length_take]; rfl)) ?_; (with_reducible refine (impl_LatestBy.calls k _ _ t654 _ _ t657 t666 _ ?side1 ?side2 ?side3 ?side4 A7.out).mono ?_); (case side1 => repeat (first | exact (Kd.N_reads' HO656.out).2.2 | (with_reducible refine Kd.C_alloc ?_ _) | (with_reducible refine Kd.C_drewN ?_ _) | (with_reducible refine Kd.C_drew ?_))); (case side2 => exact (Kd.N_reads' HO656.out).2.1); (case side3 => repeat (first | exact (Kd.R_reads' HO659.out).2.2 | (with_reducible refine Kd.C_alloc ?_ _) | (with_reducible refine Kd.C_drewN ?_ _) | (with_reducible refine Kd.C_drew ?_))); (case side4 => exact (Kd.R_reads' HO659.out).2.1); rintro e w39 ⟨rfl, hb⟩; refine ⟨_, rfl, ?_⟩; have n0_ := Aside0.mk (Kd.N_below (by (with_reducible repeat (first | apply Kd.N_alloc | apply Kd.N_drewN | apply Kd.N_drew)); exact HO656.out) hb); have n1_ := Aside0.mk (Kd.R_below (by (with_reducible repeat (first | apply Kd.R_alloc | apply Kd.R_drewN | apply Kd.R_drew)); exact HO659.out) hb); have n2_ := Aside0.mk (Kd.R_below (by (with_reducible repeat (first | apply Kd.R_alloc | apply Kd.R_drewN | apply Kd.R_drew)); exact HO662.out) hb); have n3_ := Aside0.mk (Kd.R_below (by (with_reducible repeat (first | apply Kd.R_alloc | apply Kd.R_drewN | apply Kd.R_drew)); exact HO665.out) hb); have n4_ := Aside0.mk (below_step (by repeat (first | (with_reducible first | exact HB.out | apply below_alloc | apply pw_below_drewN | apply below_drew1) | exact HB.out)) hb); clear HO656; clear HO659; clear HO662; clear HO665; clear HB; have HO656 := n0_; have HO659 := n1_; have HO662 := n2_; have HO665 := n3_; have HB := n4_; clear n0_ n1_ n2_ n3_ n4_; (try clear hb); (try clear hb2); (try clear hk); (try clear hi)) | ((with_reducible refine gate_callee (f := 41) rfl ?_); refine goesL_ (some 36) rfl rfl Try.func41 (by kernel_rfl) rfl #[.slice Ao34 t654.length co34] rfl (by (try simp only [List.map_toArray, List.map_cons, List.map_nil]); first | done | rfl | (simp only [List.length_drop, List.length_take]; rfl)) ?_; (with_reducible refine (impl_FewestLate.calls k _ _ t654 t667 _ ?side1 ?side2 A8.out).mono ?_); (case side1 => repeat (first | exact (Kd.N_reads' HO656.out).2.2 | (with_reducible refine Kd.C_alloc ?_ _) | (with_reducible refine Kd.C_drewN ?_ _) | (with_reducible refine Kd.C_drew ?_))); (case side2 => exact (Kd.N_reads' HO656.out).2.1); rintro e w40 ⟨rfl, hb⟩; refine ⟨_, rfl, ?_⟩; have n0_ := Aside0.mk (Kd.N_below (by (with_reducible repeat (first | apply Kd.N_alloc | apply Kd.N_drewN | apply Kd.N_drew)); exact HO656.out) hb); have n1_ := Aside0.mk (Kd.R_below (by (with_reducible repeat (first | apply Kd.R_alloc | apply Kd.R_drewN | apply Kd.R_drew)); exact HO659.out) hb); have n2_ := Aside0.mk (Kd.R_below (by (with_reducible repeat (first | apply Kd.R_alloc | apply Kd.R_drewN | apply Kd.R_drew)); exact HO662.out) hb); have n3_ := Aside0.mk (Kd.R_below (by (with_reducible repeat (first | apply Kd.R_alloc | apply Kd.R_drewN | apply Kd.R_drew)); exact HO665.out) hb); have n4_ := Aside0.mk (below_step (by repeat (first | (with_reducible first | exact HB.out | apply below_alloc | apply pw_below_drewN | apply below_drew1) | exact HB.out)) hb); clear HO656; clear HO659; clear HO662; clear HO665; clear HB; have HO656 := n0_; have HO659 := n1_; have HO662 := n2_; have HO665 := n3_; have HB := n4_; clear n0_ n1_ n2_ n3_ n4_; (try clear hb); (try clear hb2); (try clear hk); (try clear hi); obtain ⟨Ao41, co41, eo41⟩ := Kd.R_slice HO662.out; subst eo41) | ((with_reducible refine gate_callee (f := 35) rfl ?_); refine goesL_ (some 39) rfl rfl Try.func35 (by kernel_rfl) rfl #[.slice Ao34 t654.length co34, .slice Ao41 t660.length co41] rfl (by (try simp only [List.map_toArray, List.map_cons, List.map_nil]); first | done | rfl | (simp only [List.length_drop, List.length_take]; rfl)) ?_; (with_reducible refine (impl_EndsAt.calls k _ _ t654 _ _ t660 t668 _ ?side1 ?side2 ?side3 ?side4 A9.out).mono ?_); (case side1 => repeat (first | exact (Kd.N_reads' HO656.out).2.2 | (with_reducible refine Kd.C_alloc ?_ _) | (with_reducible refine Kd.C_drewN ?_ _) | (with_reducible refine Kd.C_drew ?_))); (case side2 => exact (Kd.N_reads' HO656.out).2.1); (case side3 => repeat (first | exact (Kd.R_reads' HO662.out).2.2 | (with_reducible refine Kd.C_alloc ?_ _) | (with_reducible refine Kd.C_drewN ?_ _) | (with_reducible refine Kd.C_drew ?_))); (case side4 => exact (Kd.R_reads' HO662.out).2.1); rintro e w42 ⟨v669, rfl, ho0, hb⟩; refine ⟨_, rfl, ?_⟩; have n0_ := Aside0.mk (Kd.N_elder' (by (with_reducible repeat (first | apply Kd.N_alloc | apply Kd.N_drewN | apply Kd.N_drew)); exact HO656.out) (Kd.R_base ho0) hb); have n1_ := Aside0.mk (Kd.R_elder' (by (with_reducible repeat (first | apply Kd.R_alloc | apply Kd.R_drewN | apply Kd.R_drew)); exact HO659.out) (Kd.R_base ho0) hb); have n2_ := Aside0.mk (Kd.R_elder' (by (with_reducible repeat (first | apply Kd.R_alloc | apply Kd.R_drewN | apply Kd.R_drew)); exact HO662.out) (Kd.R_base ho0) hb); have n3_ := Aside0.mk (Kd.R_elder' (by (with_reducible repeat (first | apply Kd.R_alloc | apply Kd.R_drewN | apply Kd.R_drew)); exact HO665.out) (Kd.R_base ho0) hb); have n4_ := Aside0.mk (Kd.R_lower (Kd.R_new' (Kd.R_new' (Kd.R_new' ho0 (Kd.R_lt (by (with_reducible repeat (first | apply Kd.R_alloc | apply Kd.R_drewN | apply Kd.R_drew)); exact HO659.out))) (Kd.R_lt (by (with_reducible repeat (first | apply Kd.R_alloc | apply Kd.R_drewN | apply Kd.R_drew)); exact HO662.out))) (Kd.R_lt (by (with_reducible repeat (first | apply Kd.R_alloc | apply Kd.R_drewN | apply Kd.R_drew)); exact HO665.out))) (below_size (by repeat (first | (with_reducible first | exact HB.out | apply below_alloc | apply pw_below_drewN | apply below_drew1) | exact HB.out)))); have n5_ := Aside0.mk (below_step (by repeat (first | (with_reducible first | exact HB.out | apply below_alloc | apply pw_below_drewN | apply below_drew1) | exact HB.out)) hb); clear HO656; clear HO659; clear HO662; clear HO665; clear HB; have HO656 := n0_; have HO659 := n1_; have HO662 := n2_; have HO665 := n3_; have HO670 := n4_; have HB := n5_; clear n0_ n1_ n2_ n3_ n4_ n5_; (try clear hb); (try clear hb2); (try clear hk); (try clear hi); (try clear ho0); obtain ⟨Ao43, co43, eo43⟩ := Kd.R_slice HO670.out; subst eo43) | ((with_reducible refine gate_callee (f := 43) rfl ?_); refine goesL_ (some 40) rfl rfl Try.func43 (by kernel_rfl) rfl #[.slice Ao43 t668.length co43] rfl (by (try simp only [List.map_toArray, List.map_cons, List.map_nil]); first | done | rfl | (simp only [List.length_drop, List.length_take]; rfl)) ?_; (with_reducible refine (laws_sum.calls k _ _ t668 t671 _ ?side1 ?side2 A10.out).mono ?_); (case side1 => repeat (first | exact (Kd.R_reads' HO670.out).2.2 | (with_reducible refine Kd.C_alloc ?_ _) | (with_reducible refine Kd.C_drewN ?_ _) | (with_reducible refine Kd.C_drew ?_))); (case side2 => exact (Kd.R_reads' HO670.out).2.1); rintro e w' ⟨rfl, ⟨nd, rfl⟩⟩; refine ⟨_, rfl, ?_⟩) | ((with_reducible refine gate_callee (f := 39) rfl ?_); refine goesL_ (some 42) rfl rfl Try.func39 (by kernel_rfl) rfl #[.slice Ao34 t654.length co34] rfl (by (try simp only [List.map_toArray, List.map_cons, List.map_nil]); first | done | rfl | (simp only [List.length_drop, List.length_take]; rfl)) ?_; (with_reducible refine (impl_SlackOf.calls k _ _ t654 t672 _ ?side1 ?side2 A11.out).mono ?_); (case side1 => repeat (first | exact (Kd.N_reads' HO656.out).2.2 | (with_reducible refine Kd.C_alloc ?_ _) | (with_reducible refine Kd.C_drewN ?_ _) | (with_reducible refine Kd.C_drew ?_))); (case side2 => exact (Kd.N_reads' HO656.out).2.1); rintro e w44 ⟨rfl, hb⟩; refine ⟨_, rfl, ?_⟩; have n0_ := Aside0.mk (Kd.N_below (by (with_reducible repeat (first | apply Kd.N_alloc | apply Kd.N_drewN | apply Kd.N_drew)); exact HO656.out) hb); have n1_ := Aside0.mk (Kd.R_below (by (with_reducible repeat (first | apply Kd.R_alloc | apply Kd.R_drewN | apply Kd.R_drew)); exact HO659.out) hb); have n2_ := Aside0.mk (Kd.R_below (by (with_reducible repeat (first | apply Kd.R_alloc | apply Kd.R_drewN | apply Kd.R_drew)); exact HO662.out) hb); have n3_ := Aside0.mk (Kd.R_below (by (with_reducible repeat (first | apply Kd.R_alloc | apply Kd.R_drewN | apply Kd.R_drew)); exact HO665.out) hb); have n4_ := Aside0.mk (Kd.R_below (by (with_reducible repeat (first | apply Kd.R_alloc | apply Kd.R_drewN | apply Kd.R_drew)); exact HO670.out) hb); have n5_ := Aside0.mk (below_step (by repeat (first | (with_reducible first | exact HB.out | apply below_alloc | apply pw_below_drewN | apply below_drew1) | exact HB.out)) hb); clear HO656; clear HO659; clear HO662; clear HO665; clear HO670; clear HB; have HO656 := n0_; have HO659 := n1_; have HO662 := n2_; have HO665 := n3_; have HO670 := n4_; have HB := n5_; clear n0_ n1_ n2_ n3_ n4_ n5_; (try clear hb); (try clear hb2); (try clear hk); (try clear hi)) | (go_at_call 44; (with_reducible refine (laws_perm.calls k _ _ t657 (t654.length : Int) true _ ?side1 ?side2 A12.out).mono ?_); (case side1 => repeat (first | exact (Kd.R_reads' HO659.out).2.2 | (with_reducible refine Kd.C_alloc ?_ _) | (with_reducible refine Kd.C_drewN ?_ _) | (with_reducible refine Kd.C_drew ?_))); (case side2 => exact (Kd.R_reads' HO659.out).2.1); rintro e w' ⟨rfl, ⟨nd, rfl⟩⟩) | (go_at_call 44; (with_reducible refine (laws_perm.calls k _ _ t660 (t654.length : Int) true _ ?side1 ?side2 A14.out).mono ?_); (case side1 => repeat (first | exact (Kd.R_reads' HO662.out).2.2 | (with_reducible refine Kd.C_alloc ?_ _) | (with_reducible refine Kd.C_drewN ?_ _) | (with_reducible refine Kd.C_drew ?_))); (case side2 => exact (Kd.R_reads' HO662.out).2.1); rintro e w' ⟨rfl, ⟨nd, rfl⟩⟩) | (go_at_call 17; (with_reducible refine (impl_WorksOk.calls _ _ t654 true _ ?side1 ?side2 A16.out).mono ?_); (case side1 => repeat (first | exact (Kd.N_reads' HO656.out).2.2 | (with_reducible refine Kd.C_alloc ?_ _) | (with_reducible refine Kd.C_drewN ?_ _) | (with_reducible refine Kd.C_drew ?_))); (case side2 => exact (Kd.N_reads' HO656.out).2.1); rintro e w' ⟨rfl, ⟨nd, rfl⟩⟩) | (go_at_call 31; (with_reducible refine (impl_WorkOrderOk.calls k _ _ t654 _ _ t657 true _ ?side1 ?side2 ?side3 ?side4 A18.out).mono ?_); (case side1 => repeat (first | exact (Kd.N_reads' HO656.out).2.2 | (with_reducible refine Kd.C_alloc ?_ _) | (with_reducible refine Kd.C_drewN ?_ _) | (with_reducible refine Kd.C_drew ?_))); (case side2 => exact (Kd.N_reads' HO656.out).2.1); (case side3 => repeat (first | exact (Kd.R_reads' HO659.out).2.2 | (with_reducible refine Kd.C_alloc ?_ _) | (with_reducible refine Kd.C_drewN ?_ _) | (with_reducible refine Kd.C_drew ?_))); (case side4 => exact (Kd.R_reads' HO659.out).2.1); rintro e w45 ⟨rfl, hb⟩; have n0_ := Aside0.mk (Kd.N_below (by (with_reducible repeat (first | apply Kd.N_alloc | apply Kd.N_drewN | apply Kd.N_drew)); exact HO656.out) hb); have n1_ := Aside0.mk (Kd.R_below (by (with_reducible repeat (first | apply Kd.R_alloc | apply Kd.R_drewN | apply Kd.R_drew)); exact HO659.out) hb); have n2_ := Aside0.mk (Kd.R_below (by (with_reducible repeat (first | apply Kd.R_alloc | apply Kd.R_drewN | apply Kd.R_drew)); exact HO662.out) hb); have n3_ := Aside0.mk (Kd.R_below (by (with_reducible repeat (first | apply Kd.R_alloc | apply Kd.R_drewN | apply Kd.R_drew)); exact HO665.out) hb); have n4_ := Aside0.mk (Kd.R_below (by (with_reducible repeat (first | apply Kd.R_alloc | apply Kd.R_drewN | apply Kd.R_drew)); exact HO670.out) hb); have n5_ := Aside0.mk (below_step (by repeat (first | (with_reducible first | exact HB.out | apply below_alloc | apply pw_below_drewN | apply below_drew1) | exact HB.out)) hb); clear HO656; clear HO659; clear HO662; clear HO665; clear HO670; clear HB; have HO656 := n0_; have HO659 := n1_; have HO662 := n2_; have HO665 := n3_; have HO670 := n4_; have HB := n5_; clear n0_ n1_ n2_ n3_ n4_ n5_; (try clear hb); (try clear hb2); (try clear hk); (try clear hi)) | (go_at_call 31; (with_reducible refine (impl_WorkOrderOk.calls k _ _ t654 _ _ t660 true _ ?side1 ?side2 ?side3 ?side4 A20.out).mono ?_); (case side1 => repeat (first | exact (Kd.N_reads' HO656.out).2.2 | (with_reducible refine Kd.C_alloc ?_ _) | (with_reducible refine Kd.C_drewN ?_ _) | (with_reducible refine Kd.C_drew ?_))); (case side2 => exact (Kd.N_reads' HO656.out).2.1); (case side3 => repeat (first | exact (Kd.R_reads' HO662.out).2.2 | (with_reducible refine Kd.C_alloc ?_ _) | (with_reducible refine Kd.C_drewN ?_ _) | (with_reducible refine Kd.C_drew ?_))); (case side4 => exact (Kd.R_reads' HO662.out).2.1); rintro e w46 ⟨rfl, hb⟩; have n0_ := Aside0.mk (Kd.N_below (by (with_reducible repeat (first | apply Kd.N_alloc | apply Kd.N_drewN | apply Kd.N_drew)); exact HO656.out) hb); have n1_ := Aside0.mk (Kd.R_below (by (with_reducible repeat (first | apply Kd.R_alloc | apply Kd.R_drewN | apply Kd.R_drew)); exact HO659.out) hb); have n2_ := Aside0.mk (Kd.R_below (by (with_reducible repeat (first | apply Kd.R_alloc | apply Kd.R_drewN | apply Kd.R_drew)); exact HO662.out) hb); have n3_ := Aside0.mk (Kd.R_below (by (with_reducible repeat (first | apply Kd.R_alloc | apply Kd.R_drewN | apply Kd.R_drew)); exact HO665.out) hb); have n4_ := Aside0.mk (Kd.R_below (by (with_reducible repeat (first | apply Kd.R_alloc | apply Kd.R_drewN | apply Kd.R_drew)); exact HO670.out) hb); have n5_ := Aside0.mk (below_step (by repeat (first | (with_reducible first | exact HB.out | apply below_alloc | apply pw_below_drewN | apply below_drew1) | exact HB.out)) hb); clear HO656; clear HO659; clear HO662; clear HO665; clear HO670; clear HB; have HO656 := n0_; have HO659 := n1_; have HO662 := n2_; have HO665 := n3_; have HO670 := n4_; have HB := n5_; clear n0_ n1_ n2_ n3_ n4_ n5_; (try clear hb); (try clear hb2); (try clear hk); (try clear hi); obtain ⟨Ao47, co47, eo47⟩ := Kd.R_slice HO665.out; subst eo47) | (go_at_call 31; (with_reducible refine (impl_WorkOrderOk.calls k _ _ t654 _ _ t663 true _ ?side1 ?side2 ?side3 ?side4 A22.out).mono ?_); (case side1 => repeat (first | exact (Kd.N_reads' HO656.out).2.2 | (with_reducible refine Kd.C_alloc ?_ _) | (with_reducible refine Kd.C_drewN ?_ _) | (with_reducible refine Kd.C_drew ?_))); (case side2 => exact (Kd.N_reads' HO656.out).2.1); (case side3 => repeat (first | exact (Kd.R_reads' HO665.out).2.2 | (with_reducible refine Kd.C_alloc ?_ _) | (with_reducible refine Kd.C_drewN ?_ _) | (with_reducible refine Kd.C_drew ?_))); (case side4 => exact (Kd.R_reads' HO665.out).2.1); rintro e w48 ⟨rfl, hb⟩; have n0_ := Aside0.mk (Kd.N_below (by (with_reducible repeat (first | apply Kd.N_alloc | apply Kd.N_drewN | apply Kd.N_drew)); exact HO656.out) hb); have n1_ := Aside0.mk (Kd.R_below (by (with_reducible repeat (first | apply Kd.R_alloc | apply Kd.R_drewN | apply Kd.R_drew)); exact HO659.out) hb); have n2_ := Aside0.mk (Kd.R_below (by (with_reducible repeat (first | apply Kd.R_alloc | apply Kd.R_drewN | apply Kd.R_drew)); exact HO662.out) hb); have n3_ := Aside0.mk (Kd.R_below (by (with_reducible repeat (first | apply Kd.R_alloc | apply Kd.R_drewN | apply Kd.R_drew)); exact HO665.out) hb); have n4_ := Aside0.mk (Kd.R_below (by (with_reducible repeat (first | apply Kd.R_alloc | apply Kd.R_drewN | apply Kd.R_drew)); exact HO670.out) hb); have n5_ := Aside0.mk (below_step (by repeat (first | (with_reducible first | exact HB.out | apply below_alloc | apply pw_below_drewN | apply below_drew1) | exact HB.out)) hb); clear HO656; clear HO659; clear HO662; clear HO665; clear HO670; clear HB; have HO656 := n0_; have HO659 := n1_; have HO662 := n2_; have HO665 := n3_; have HO670 := n4_; have HB := n5_; clear n0_ n1_ n2_ n3_ n4_ n5_; (try clear hb); (try clear hb2); (try clear hk); (try clear hi)) | (go_at_call 37; (with_reducible refine (impl_CountLate.calls k _ _ t654 _ _ t657 t679 _ ?side1 ?side2 ?side3 ?side4 A26.out).mono ?_); (case side1 => repeat (first | exact (Kd.N_reads' HO656.out).2.2 | (with_reducible refine Kd.C_alloc ?_ _) | (with_reducible refine Kd.C_drewN ?_ _) | (with_reducible refine Kd.C_drew ?_))); (case side2 => exact (Kd.N_reads' HO656.out).2.1); (case side3 => repeat (first | exact (Kd.R_reads' HO659.out).2.2 | (with_reducible refine Kd.C_alloc ?_ _) | (with_reducible refine Kd.C_drewN ?_ _) | (with_reducible refine Kd.C_drew ?_))); (case side4 => exact (Kd.R_reads' HO659.out).2.1); rintro e w49 ⟨rfl, hb⟩; have n0_ := Aside0.mk (Kd.N_below (by (with_reducible repeat (first | apply Kd.N_alloc | apply Kd.N_drewN | apply Kd.N_drew)); exact HO656.out) hb); have n1_ := Aside0.mk (Kd.R_below (by (with_reducible repeat (first | apply Kd.R_alloc | apply Kd.R_drewN | apply Kd.R_drew)); exact HO659.out) hb); have n2_ := Aside0.mk (Kd.R_below (by (with_reducible repeat (first | apply Kd.R_alloc | apply Kd.R_drewN | apply Kd.R_drew)); exact HO662.out) hb); have n3_ := Aside0.mk (Kd.R_below (by (with_reducible repeat (first | apply Kd.R_alloc | apply Kd.R_drewN | apply Kd.R_drew)); exact HO665.out) hb); have n4_ := Aside0.mk (Kd.R_below (by (with_reducible repeat (first | apply Kd.R_alloc | apply Kd.R_drewN | apply Kd.R_drew)); exact HO670.out) hb); have n5_ := Aside0.mk (below_step (by repeat (first | (with_reducible first | exact HB.out | apply below_alloc | apply pw_below_drewN | apply below_drew1) | exact HB.out)) hb); clear HO656; clear HO659; clear HO662; clear HO665; clear HO670; clear HB; have HO656 := n0_; have HO659 := n1_; have HO662 := n2_; have HO665 := n3_; have HO670 := n4_; have HB := n5_; clear n0_ n1_ n2_ n3_ n4_ n5_; (try clear hb); (try clear hb2); (try clear hk); (try clear hi)) | (go_at_call 37; (with_reducible refine (impl_CountLate.calls k _ _ t654 _ _ t663 t680 _ ?side1 ?side2 ?side3 ?side4 A28.out).mono ?_); (case side1 => repeat (first | exact (Kd.N_reads' HO656.out).2.2 | (with_reducible refine Kd.C_alloc ?_ _) | (with_reducible refine Kd.C_drewN ?_ _) | (with_reducible refine Kd.C_drew ?_))); (case side2 => exact (Kd.N_reads' HO656.out).2.1); (case side3 => repeat (first | exact (Kd.R_reads' HO665.out).2.2 | (with_reducible refine Kd.C_alloc ?_ _) | (with_reducible refine Kd.C_drewN ?_ _) | (with_reducible refine Kd.C_drew ?_))); (case side4 => exact (Kd.R_reads' HO665.out).2.1); rintro e w50 ⟨rfl, hb⟩; have n0_ := Aside0.mk (Kd.N_below (by (with_reducible repeat (first | apply Kd.N_alloc | apply Kd.N_drewN | apply Kd.N_drew)); exact HO656.out) hb); have n1_ := Aside0.mk (Kd.R_below (by (with_reducible repeat (first | apply Kd.R_alloc | apply Kd.R_drewN | apply Kd.R_drew)); exact HO659.out) hb); have n2_ := Aside0.mk (Kd.R_below (by (with_reducible repeat (first | apply Kd.R_alloc | apply Kd.R_drewN | apply Kd.R_drew)); exact HO662.out) hb); have n3_ := Aside0.mk (Kd.R_below (by (with_reducible repeat (first | apply Kd.R_alloc | apply Kd.R_drewN | apply Kd.R_drew)); exact HO665.out) hb); have n4_ := Aside0.mk (Kd.R_below (by (with_reducible repeat (first | apply Kd.R_alloc | apply Kd.R_drewN | apply Kd.R_drew)); exact HO670.out) hb); have n5_ := Aside0.mk (below_step (by repeat (first | (with_reducible first | exact HB.out | apply below_alloc | apply pw_below_drewN | apply below_drew1) | exact HB.out)) hb); clear HO656; clear HO659; clear HO662; clear HO665; clear HO670; clear HB; have HO656 := n0_; have HO659 := n1_; have HO662 := n2_; have HO665 := n3_; have HO670 := n4_; have HB := n5_; clear n0_ n1_ n2_ n3_ n4_ n5_; (try clear hb); (try clear hb2); (try clear hk); (try clear hi)))
              (try simp only [Act.put, List.setIfInBounds_toArray, List.set_cons_zero, List.set_cons_succ])
              go_cut [125] (fun v125 wc => ∃ (kq : Nat) (x125_31 : Bool), v125 = .bool x125_31 ∧ Aside0 (laws_FnDays.j0 kq t654 (t654.length : Int) t657 t660 t666 t667 t671 t672 x125_31 = some r) ∧ Aside0 (kq ≤ k) ∧ Aside0 (Kd.N (Kd.slice 3 (Kd.int .i64)) 27 wc w.heap.size (fun k_ => some k_ ≠ ((.slice Ao38 t657.length co38) : Value).ownBlock ∧ some k_ ≠ ((.slice Ao41 t660.length co41) : Value).ownBlock) (.slice Ao34 t654.length co34) t654) ∧ Aside0 (Kd.R (Kd.int .i64) 3 wc w.heap.size (fun k_ => some k_ ≠ ((.slice Ao41 t660.length co41) : Value).ownBlock) (.slice Ao38 t657.length co38) t657) ∧ Aside0 (Kd.R (Kd.int .i64) 3 wc w.heap.size (fun k_ => some k_ ≠ ((.slice Ao38 t657.length co38) : Value).ownBlock) (.slice Ao41 t660.length co41) t660) ∧ Aside0 (Below w.heap.size w wc))
              case first =>
               have H := HC32.out
               clear HC32
               by_cases c51 : (t654.length : Int) = 0
               ·rw [if_pos c51] at H
                have c51b0 : ((t654.length : Int) == 0) = true := beq_iff_eq.mpr c51
                have c51b1 : ((t654.length : Int) != 0) = false := bne_eq_false_iff_eq.mpr c51
                clear c51
                (first | rw [c51b0] | (simp only [i64_w, i32_w]; rw [c51b0]) | skip)
                by_cases c52 : t672 = 1000
                ·rw [if_pos c52] at H
                 have c52b0 : (t672 == 1000) = true := beq_iff_eq.mpr c52
                 have c52b1 : (t672 != 1000) = false := bne_eq_false_iff_eq.mpr c52
                 clear c52
                 replace H := Option.bind_eq_some_iff.mp H
                 obtain ⟨t681, A530, H⟩ := H
                 replace H : (laws_FnDays.j0 k t654 (t654.length : Int) t657 t660 t666 t667 t671 t672 ((t681.length : Int) != (t654.length : Int))) = some r := H
                 have A53 := Aside0.mk A530
                 obtain rfl : t681 = t668 := Option.some.inj (A53.out.symm.trans A9.out)
                 clear A530
                 as_aux_lemma =>
                  have H' := Aside0.mk H
                  clear H
                  go_wp2_with (first | (go_at_call 35; (with_reducible refine (impl_EndsAt.calls k _ _ t654 _ _ t660 t681 _ ?side1 ?side2 ?side3 ?side4 A53.out).mono ?_); (case side1 => repeat (first | exact (Kd.N_reads' HO656.out).2.2 | (with_reducible refine Kd.C_alloc ?_ _) | (with_reducible refine Kd.C_drewN ?_ _) | (with_reducible refine Kd.C_drew ?_))); (case side2 => exact (Kd.N_reads' HO656.out).2.1); (case side3 => repeat (first | exact (Kd.R_reads' HO662.out).2.2 | (with_reducible refine Kd.C_alloc ?_ _) | (with_reducible refine Kd.C_drewN ?_ _) | (with_reducible refine Kd.C_drew ?_))); (case side4 => exact (Kd.R_reads' HO662.out).2.1); rintro e w54 ⟨v682, rfl, ho0, hb⟩; have n0_ := Aside0.mk (Kd.N_elder' (by (with_reducible repeat (first | apply Kd.N_alloc | apply Kd.N_drewN | apply Kd.N_drew)); exact HO656.out) (Kd.R_base ho0) hb); have n1_ := Aside0.mk (Kd.R_elder' (by (with_reducible repeat (first | apply Kd.R_alloc | apply Kd.R_drewN | apply Kd.R_drew)); exact HO659.out) (Kd.R_base ho0) hb); have n2_ := Aside0.mk (Kd.R_elder' (by (with_reducible repeat (first | apply Kd.R_alloc | apply Kd.R_drewN | apply Kd.R_drew)); exact HO662.out) (Kd.R_base ho0) hb); have n3_ := Aside0.mk (Kd.R_elder' (by (with_reducible repeat (first | apply Kd.R_alloc | apply Kd.R_drewN | apply Kd.R_drew)); exact HO665.out) (Kd.R_base ho0) hb); have n4_ := Aside0.mk (Kd.R_elder' (by (with_reducible repeat (first | apply Kd.R_alloc | apply Kd.R_drewN | apply Kd.R_drew)); exact HO670.out) (Kd.R_base ho0) hb); have n5_ := Aside0.mk (Kd.R_lower (Kd.R_new' (Kd.R_new' (Kd.R_new' (Kd.R_new' ho0 (Kd.R_lt (by (with_reducible repeat (first | apply Kd.R_alloc | apply Kd.R_drewN | apply Kd.R_drew)); exact HO659.out))) (Kd.R_lt (by (with_reducible repeat (first | apply Kd.R_alloc | apply Kd.R_drewN | apply Kd.R_drew)); exact HO662.out))) (Kd.R_lt (by (with_reducible repeat (first | apply Kd.R_alloc | apply Kd.R_drewN | apply Kd.R_drew)); exact HO665.out))) (Kd.R_lt (by (with_reducible repeat (first | apply Kd.R_alloc | apply Kd.R_drewN | apply Kd.R_drew)); exact HO670.out))) (below_size (by repeat (first | (with_reducible first | exact HB.out | apply below_alloc | apply pw_below_drewN | apply below_drew1) | exact HB.out)))); have n6_ := Aside0.mk (below_step (by repeat (first | (with_reducible first | exact HB.out | apply below_alloc | apply pw_below_drewN | apply below_drew1) | exact HB.out)) hb); clear HO656; clear HO659; clear HO662; clear HO665; clear HO670; clear HB; have HO656 := n0_; have HO659 := n1_; have HO662 := n2_; have HO665 := n3_; have HO670 := n4_; have HO683 := n5_; have HB := n6_; clear n0_ n1_ n2_ n3_ n4_ n5_ n6_; (try clear hb); (try clear hb2); (try clear hk); (try clear hi); (try clear ho0); obtain ⟨Ao55, co55, eo55⟩ := Kd.R_slice HO683.out; subst eo55))
                  go_meet
                  case rel => exact ⟨_, (((t681.length : Int) != (t654.length : Int))), (by first | rfl | (simp; done) | (simp [*]; done)), H', ⟨by first | omega | exact Nat.le_refl _⟩, ⟨by (with_reducible repeat (first | apply Kd.N_alloc | apply Kd.N_drewN | apply Kd.N_drew)); exact Kd.N_mono HO656.out (fun _ hk => ⟨hk.1.1.1.1.2, hk.1.1.1.2⟩)⟩, ⟨by (with_reducible repeat (first | apply Kd.R_alloc | apply Kd.R_drewN | apply Kd.R_drew)); exact Kd.R_mono HO659.out (fun _ hk => hk.1.1.1.2)⟩, ⟨by (with_reducible repeat (first | apply Kd.R_alloc | apply Kd.R_drewN | apply Kd.R_drew)); exact Kd.R_mono HO662.out (fun _ hk => hk.1.1.1.2)⟩, ⟨by repeat (first | (with_reducible first | exact HB.out | apply below_alloc | apply pw_below_drewN | apply below_drew1) | exact HB.out)⟩⟩
                ·rw [if_neg c52] at H
                 exact absurd H (by simp)
               ·rw [if_neg c51] at H
                have c51b0 : ((t654.length : Int) == 0) = false := beq_eq_false_iff_ne.mpr c51
                have c51b1 : ((t654.length : Int) != 0) = true := bne_iff_ne.mpr c51
                have c51b2 : ¬ (t654 = []) := fun h_ => c51 (by rw [h_]; rfl)
                (first | rw [c51b0] | (simp only [i64_w, i32_w]; rw [c51b0]) | skip)
                replace H := Option.bind_eq_some_iff.mp H
                obtain ⟨t684, A560, H⟩ := H
                replace H : (laws_FnDays.j0 k t654 (t654.length : Int) t657 t660 t666 t667 t671 t672 ((t684.length : Int) != (t654.length : Int))) = some r := H
                have A56 := Aside0.mk A560
                clear A560
                as_aux_lemma =>
                 have H' := Aside0.mk H
                 clear H
                 go_wp2_with (first | (go_at_call 35; (with_reducible refine (impl_EndsAt.calls k _ _ t654 _ _ t660 t684 _ ?side1 ?side2 ?side3 ?side4 A56.out).mono ?_); (case side1 => repeat (first | exact (Kd.N_reads' HO656.out).2.2 | (with_reducible refine Kd.C_alloc ?_ _) | (with_reducible refine Kd.C_drewN ?_ _) | (with_reducible refine Kd.C_drew ?_))); (case side2 => exact (Kd.N_reads' HO656.out).2.1); (case side3 => repeat (first | exact (Kd.R_reads' HO662.out).2.2 | (with_reducible refine Kd.C_alloc ?_ _) | (with_reducible refine Kd.C_drewN ?_ _) | (with_reducible refine Kd.C_drew ?_))); (case side4 => exact (Kd.R_reads' HO662.out).2.1); rintro e w57 ⟨v685, rfl, ho0, hb⟩; have n0_ := Aside0.mk (Kd.N_elder' (by (with_reducible repeat (first | apply Kd.N_alloc | apply Kd.N_drewN | apply Kd.N_drew)); exact HO656.out) (Kd.R_base ho0) hb); have n1_ := Aside0.mk (Kd.R_elder' (by (with_reducible repeat (first | apply Kd.R_alloc | apply Kd.R_drewN | apply Kd.R_drew)); exact HO659.out) (Kd.R_base ho0) hb); have n2_ := Aside0.mk (Kd.R_elder' (by (with_reducible repeat (first | apply Kd.R_alloc | apply Kd.R_drewN | apply Kd.R_drew)); exact HO662.out) (Kd.R_base ho0) hb); have n3_ := Aside0.mk (Kd.R_elder' (by (with_reducible repeat (first | apply Kd.R_alloc | apply Kd.R_drewN | apply Kd.R_drew)); exact HO665.out) (Kd.R_base ho0) hb); have n4_ := Aside0.mk (Kd.R_elder' (by (with_reducible repeat (first | apply Kd.R_alloc | apply Kd.R_drewN | apply Kd.R_drew)); exact HO670.out) (Kd.R_base ho0) hb); have n5_ := Aside0.mk (Kd.R_lower (Kd.R_new' (Kd.R_new' (Kd.R_new' (Kd.R_new' ho0 (Kd.R_lt (by (with_reducible repeat (first | apply Kd.R_alloc | apply Kd.R_drewN | apply Kd.R_drew)); exact HO659.out))) (Kd.R_lt (by (with_reducible repeat (first | apply Kd.R_alloc | apply Kd.R_drewN | apply Kd.R_drew)); exact HO662.out))) (Kd.R_lt (by (with_reducible repeat (first | apply Kd.R_alloc | apply Kd.R_drewN | apply Kd.R_drew)); exact HO665.out))) (Kd.R_lt (by (with_reducible repeat (first | apply Kd.R_alloc | apply Kd.R_drewN | apply Kd.R_drew)); exact HO670.out))) (below_size (by repeat (first | (with_reducible first | exact HB.out | apply below_alloc | apply pw_below_drewN | apply below_drew1) | exact HB.out)))); have n6_ := Aside0.mk (below_step (by repeat (first | (with_reducible first | exact HB.out | apply below_alloc | apply pw_below_drewN | apply below_drew1) | exact HB.out)) hb); clear HO656; clear HO659; clear HO662; clear HO665; clear HO670; clear HB; have HO656 := n0_; have HO659 := n1_; have HO662 := n2_; have HO665 := n3_; have HO670 := n4_; have HO686 := n5_; have HB := n6_; clear n0_ n1_ n2_ n3_ n4_ n5_ n6_; (try clear hb); (try clear hb2); (try clear hk); (try clear hi); (try clear ho0); obtain ⟨Ao58, co58, eo58⟩ := Kd.R_slice HO686.out; subst eo58))
                 go_meet
                 case rel => exact ⟨_, (((t684.length : Int) != (t654.length : Int))), (by first | rfl | (simp; done) | (simp [*]; done)), H', ⟨by first | omega | exact Nat.le_refl _⟩, ⟨by (with_reducible repeat (first | apply Kd.N_alloc | apply Kd.N_drewN | apply Kd.N_drew)); exact Kd.N_mono HO656.out (fun _ hk => ⟨hk.1.1.1.1.2, hk.1.1.1.2⟩)⟩, ⟨by (with_reducible repeat (first | apply Kd.R_alloc | apply Kd.R_drewN | apply Kd.R_drew)); exact Kd.R_mono HO659.out (fun _ hk => hk.1.1.1.2)⟩, ⟨by (with_reducible repeat (first | apply Kd.R_alloc | apply Kd.R_drewN | apply Kd.R_drew)); exact Kd.R_mono HO662.out (fun _ hk => hk.1.1.1.2)⟩, ⟨by repeat (first | (with_reducible first | exact HB.out | apply below_alloc | apply pw_below_drewN | apply below_drew1) | exact HB.out)⟩⟩
              case rest =>
               clear HC32
               try clear c1
               try clear c2
               try clear c2b0
               try clear c2b1
               try clear p2
               try clear c3
               try clear c4
               try clear c5
               try clear c13
               try clear c15
               try clear c17
               try clear c19
               try clear c20
               try clear c21
               try clear c23
               try clear c24
               try clear c24b0
               try clear c25
               try clear c25b0
               try clear c26
               try clear c27
               try clear c27b0
               try clear c28
               try clear c29
               try clear c29b0
               try clear c29b1
               try clear c30
               try clear c30b0
               try clear c30b1
               try clear c30b2
               try clear c31
               try clear c31b0
               try clear c31b1
               try clear c31b2
               try clear c33
               try clear c35
               try clear c39
               try clear c41
               try clear c42
               try clear c43
               try clear c44
               try clear c51
               try clear c51b0
               try clear c51b1
               try clear c51b2
               try clear c52
               try clear c52b0
               try clear c52b1
               obtain ⟨kq, x125_31, rfl, HA, HJ31, HO_3, HO_5, HO_6, HB⟩ := hcut
               cases kq with
               | zero => exact absurd HA.out (by simp [laws_FnDays.j0])
               | succ kj31 =>
                have H := HA.out
                clear HA
                simp only [laws_FnDays.j0] at H
                by_cases c59 : x125_31 = true
                ·subst c59
                 have H1 : (none) = some r := by rw [if_pos rfl] at H; exact H
                 clear H
                 have H := H1
                 clear H1
                 exact absurd H (by simp)
                ·replace c59 := Bool.eq_false_iff.mpr c59
                 subst c59
                 have H1 : ((spec_MakeOrders.f kj31 (t654.length : Int)).bind fun t687 => (laws_FnDays.l0 kj31 t654 (t654.length : Int) t657 t660 t666 t667 t671 t672 t687 (t687.length : Int) 0)) = some r := by rw [if_neg (show ¬ (false = true) by decide)] at H; exact H
                 clear H
                 have H := H1
                 clear H1
                 replace H := Option.bind_eq_some_iff.mp H
                 obtain ⟨t687, A600, H⟩ := H
                 replace H : (laws_FnDays.l0 kj31 t654 (t654.length : Int) t657 t660 t666 t667 t671 t672 t687 (t687.length : Int) 0) = some r := H
                 have A60 := Aside0.mk A600
                 clear A600
                 have H' := Aside0.mk H
                 clear H
                 go_wp2_with (first | ((with_reducible refine gate_callee (f := 45) rfl ?_); refine goesL_ (some 127) rfl rfl Try.func45 (by kernel_rfl) rfl #[.int .i64 (t654.length : Int)] rfl (by (try simp only [List.map_toArray, List.map_cons, List.map_nil]); first | done | rfl | (simp only [List.length_drop, List.length_take]; rfl)) ?_; (with_reducible refine (spec_MakeOrders.calls kj31 (t654.length : Int) t687 _ A60.out).mono ?_); rintro e w61 ⟨v688, rfl, ho0, hb⟩; refine ⟨_, rfl, ?_⟩; have n0_ := Aside0.mk (Kd.N_elder' (by (with_reducible repeat (first | apply Kd.N_alloc | apply Kd.N_drewN | apply Kd.N_drew)); exact HO_3.out) (by first | exact Kd.N_base ho0 | exact Kd.S_base ho0) hb); have n1_ := Aside0.mk (Kd.R_below (by (with_reducible repeat (first | apply Kd.R_alloc | apply Kd.R_drewN | apply Kd.R_drew)); exact HO_5.out) hb); have n2_ := Aside0.mk (Kd.R_below (by (with_reducible repeat (first | apply Kd.R_alloc | apply Kd.R_drewN | apply Kd.R_drew)); exact HO_6.out) hb); have n3_ := Aside0.mk (Kd.N_lower (Kd.N_mono (ok' := fun k_ => some k_ ≠ (.slice Ao34 t654.length co34 : Value).ownBlock ∧ some k_ ≠ (.slice Ao38 t657.length co38 : Value).ownBlock ∧ some k_ ≠ (.slice Ao41 t660.length co41 : Value).ownBlock) ho0 (fun k_ hk_ => ⟨(Kd.fresh' (Kd.N_lt (by (with_reducible repeat (first | apply Kd.N_alloc | apply Kd.N_drewN | apply Kd.N_drew)); exact HO_3.out)) k_ hk_), (Kd.fresh' (Kd.R_lt (by (with_reducible repeat (first | apply Kd.R_alloc | apply Kd.R_drewN | apply Kd.R_drew)); exact HO_5.out)) k_ hk_), (Kd.fresh' (Kd.R_lt (by (with_reducible repeat (first | apply Kd.R_alloc | apply Kd.R_drewN | apply Kd.R_drew)); exact HO_6.out)) k_ hk_)⟩)) (below_size (by repeat (first | (with_reducible first | exact HB.out | apply below_alloc | apply pw_below_drewN | apply below_drew1) | exact HB.out)))); have n4_ := Aside0.mk (below_step (by repeat (first | (with_reducible first | exact HB.out | apply below_alloc | apply pw_below_drewN | apply below_drew1) | exact HB.out)) hb); clear HO_3; clear HO_5; clear HO_6; clear HB; have HO_3 := n0_; have HO_5 := n1_; have HO_6 := n2_; have HO689 := n3_; have HB := n4_; clear n0_ n1_ n2_ n3_ n4_; (try clear hb); (try clear hb2); (try clear hk); (try clear hi); (try clear ho0); obtain ⟨Ao62, co62, eo62⟩ := Kd.N_slice HO689.out; subst eo62))
                 (try generalize decide (0 ≤ t672) = bz_t672)
                 go_loopg [129] kj31 (fun kq v129 w' => ∃ (x129_2 : Int), v129 = .int .i64 x129_2 ∧ Aside0 (laws_FnDays.l0 kq t654 (t654.length : Int) t657 t660 t666 t667 t671 t672 t687 (t687.length : Int) x129_2 = some r) ∧ Aside0 (kq ≤ kj31) ∧ Aside0 (Kd.N (Kd.slice 3 (Kd.int .i64)) 27 w' w.heap.size (fun k_ => some k_ ≠ ((.slice Ao38 t657.length co38) : Value).ownBlock ∧ some k_ ≠ ((.slice Ao41 t660.length co41) : Value).ownBlock ∧ some k_ ≠ ((.slice Ao62 t687.length co62) : Value).ownBlock) (.slice Ao34 t654.length co34) t654) ∧ Aside0 (Kd.R (Kd.int .i64) 3 w' w.heap.size (fun k_ => some k_ ≠ ((.slice Ao41 t660.length co41) : Value).ownBlock) (.slice Ao38 t657.length co38) t657) ∧ Aside0 (Kd.R (Kd.int .i64) 3 w' w.heap.size (fun k_ => some k_ ≠ ((.slice Ao38 t657.length co38) : Value).ownBlock) (.slice Ao41 t660.length co41) t660) ∧ Aside0 (Kd.N (Kd.slice 3 (Kd.int .i64)) 27 w' w.heap.size (fun k_ => some k_ ≠ ((.slice Ao34 t654.length co34) : Value).ownBlock ∧ some k_ ≠ ((.slice Ao38 t657.length co38) : Value).ownBlock ∧ some k_ ≠ ((.slice Ao41 t660.length co41) : Value).ownBlock) (.slice Ao62 t687.length co62) t687) ∧ Aside0 (Below w.heap.size w w'))
                 case atStart => exact ⟨(0), (by first | rfl | (simp; done) | (simp [*]; done)), H', ⟨Nat.le_refl _⟩, ⟨by (with_reducible repeat (first | apply Kd.N_alloc | apply Kd.N_drewN | apply Kd.N_drew)); exact Kd.N_mono HO_3.out (fun _ hk => ⟨hk.1.1, ⟨hk.1.2, hk.2⟩⟩)⟩, ⟨by (with_reducible repeat (first | apply Kd.R_alloc | apply Kd.R_drewN | apply Kd.R_drew)); exact HO_5.out⟩, ⟨by (with_reducible repeat (first | apply Kd.R_alloc | apply Kd.R_drewN | apply Kd.R_drew)); exact HO_6.out⟩, ⟨by (with_reducible repeat (first | apply Kd.N_alloc | apply Kd.N_drewN | apply Kd.N_drew)); exact HO689.out⟩, ⟨by repeat (first | (with_reducible first | exact HB.out | apply below_alloc | apply pw_below_drewN | apply below_drew1) | exact HB.out)⟩⟩
                 case round =>
                  clear H'
                  try clear c1
                  try clear c2
                  try clear c2b0
                  try clear c2b1
                  try clear p2
                  try clear c3
                  try clear c4
                  try clear c5
                  try clear c13
                  try clear c15
                  try clear c17
                  try clear c19
                  try clear c20
                  try clear c21
                  try clear c23
                  try clear c24
                  try clear c24b0
                  try clear c25
                  try clear c25b0
                  try clear c26
                  try clear c27
                  try clear c27b0
                  try clear c28
                  try clear c29
                  try clear c29b0
                  try clear c29b1
                  try clear c30
                  try clear c30b0
                  try clear c30b1
                  try clear c30b2
                  try clear c31
                  try clear c31b0
                  try clear c31b1
                  try clear c31b2
                  try clear c33
                  try clear c35
                  try clear c39
                  try clear c41
                  try clear c42
                  try clear c43
                  try clear c44
                  try clear c45
                  try clear c51
                  try clear c51b0
                  try clear c51b1
                  try clear c51b2
                  try clear c52
                  try clear c52b0
                  try clear c52b1
                  try clear c59
                  try clear p2
                  obtain ⟨x129_2, rfl, HA, HK2, HO_3, HO_5, HO_6, HO_127, HB⟩ := hrel
                  cases gk with
                  | zero => exact absurd HA.out (by simp [laws_FnDays.l0])
                  | succ k2 =>
                   have H := HA.out
                   clear HA
                   simp only [laws_FnDays.l0] at H
                   by_cases c63 : x129_2 < (t687.length : Int)
                   ·rw [if_pos c63] at H
                    have c63b0 : decide (x129_2 < (t687.length : Int)) = true := decide_eq_true c63
                    clear c63
                    by_cases c64 : 0 ≤ x129_2
                    ·rw [if_pos c64] at H
                     have c64b0 : decide (0 ≤ x129_2) = true := decide_eq_true c64
                     clear c64
                     by_cases c65 : x129_2 < (t687.length : Int)
                     ·rw [if_pos c65] at H
                      have c65b0 : decide (x129_2 < (t687.length : Int)) = true := decide_eq_true c65
                      clear c65
                      replace H := Option.bind_eq_some_iff.mp H
                      obtain ⟨t691, A660, H⟩ := H
                      replace H : ((impl_LatestBy.f k2 t654 (rd_L1 t687 x129_2)).bind fun t694 => (if t694 < t666 then (none) else ((impl_CountLate.f k2 t654 (rd_L1 t687 x129_2)).bind fun t695 => (if t695 < t667 then (none) else ((laws_sum.f k2 t691).bind fun t696 => (if t696 < t671 then (none) else (if (t691.length : Int) = (t654.length : Int) then (laws_FnDays.l0 k2 t654 (t654.length : Int) t657 t660 t666 t667 t671 t672 t687 (t687.length : Int) (wrap64 (x129_2 + 1))) else (none)))))))) = some r := H
                      have A66 := Aside0.mk A660
                      clear A660
                      replace H := Option.bind_eq_some_iff.mp H
                      obtain ⟨t694, A670, H⟩ := H
                      replace H : (if t694 < t666 then (none) else ((impl_CountLate.f k2 t654 (rd_L1 t687 x129_2)).bind fun t695 => (if t695 < t667 then (none) else ((laws_sum.f k2 t691).bind fun t696 => (if t696 < t671 then (none) else (if (t691.length : Int) = (t654.length : Int) then (laws_FnDays.l0 k2 t654 (t654.length : Int) t657 t660 t666 t667 t671 t672 t687 (t687.length : Int) (wrap64 (x129_2 + 1))) else (none))))))) = some r := H
                      have A67 := Aside0.mk A670
                      clear A670
                      by_cases c68 : t694 < t666
                      ·rw [if_pos c68] at H
                       exact absurd H (by simp)
                      ·rw [if_neg c68] at H
                       have c68b0 : decide (t694 < t666) = false := decide_eq_false c68
                       clear c68
                       replace H := Option.bind_eq_some_iff.mp H
                       obtain ⟨t695, A690, H⟩ := H
                       replace H : (if t695 < t667 then (none) else ((laws_sum.f k2 t691).bind fun t696 => (if t696 < t671 then (none) else (if (t691.length : Int) = (t654.length : Int) then (laws_FnDays.l0 k2 t654 (t654.length : Int) t657 t660 t666 t667 t671 t672 t687 (t687.length : Int) (wrap64 (x129_2 + 1))) else (none))))) = some r := H
                       have A69 := Aside0.mk A690
                       clear A690
                       by_cases c70 : t695 < t667
                       ·rw [if_pos c70] at H
                        exact absurd H (by simp)
                       ·rw [if_neg c70] at H
                        have c70b0 : decide (t695 < t667) = false := decide_eq_false c70
                        clear c70
                        replace H := Option.bind_eq_some_iff.mp H
                        obtain ⟨t696, A710, H⟩ := H
                        replace H : (if t696 < t671 then (none) else (if (t691.length : Int) = (t654.length : Int) then (laws_FnDays.l0 k2 t654 (t654.length : Int) t657 t660 t666 t667 t671 t672 t687 (t687.length : Int) (wrap64 (x129_2 + 1))) else (none))) = some r := H
                        have A71 := Aside0.mk A710
                        clear A710
                        by_cases c72 : t696 < t671
                        ·rw [if_pos c72] at H
                         exact absurd H (by simp)
                        ·rw [if_neg c72] at H
                         have c72b0 : decide (t696 < t671) = false := decide_eq_false c72
                         clear c72
                         by_cases c73 : (t691.length : Int) = (t654.length : Int)
                         ·rw [if_pos c73] at H
                          have c73b0 : ((t691.length : Int) == (t654.length : Int)) = true := beq_iff_eq.mpr c73
                          have c73b1 : ((t691.length : Int) != (t654.length : Int)) = false := bne_eq_false_iff_eq.mpr c73
                          have c73b2 : (t691.length == t654.length) = true := by first | simpa using c73 | (simp at c73 ⊢; omega)
                          clear c73
                          as_aux_lemma =>
                           have H' := Aside0.mk H
                           clear H
                           have p690 : 0 ≤ (x129_2 : Int) := of_decide_eq_true (by first | (with_reducible assumption) | assumption)
                           have q690 : x129_2 < (t687.length : Int) := of_decide_eq_true (by first | (with_reducible assumption) | assumption)
                           obtain ⟨ad690, A690_0, c690_0, e690, hx690_0, hl690_0, hi690_0⟩ := at_L1 (Kd.N_reads' HO_127.out).2.2 x129_2 p690 q690
                           cases e690
                           obtain ⟨ce690, hce690, hMe690, hcc690⟩ := Kd.N_get HO_127.out [] x129_2 p690 (by first | exact q690 | exact of_decide_eq_true (by first | (with_reducible assumption) | assumption) | (have e_ := (Kd.N_reads' HO_127.out).1; omega))
                           obtain ⟨ua690_0, uc690_0, rfl, ul690_0, ge690_0⟩ := Kd.FK_slice_open hMe690
                           have hv690_0 := hcc690 0 _ rfl
                           rw [Nat.add_zero, show ((Kd.slice 3 (Kd.int .i64))).sz = 1 from rfl, Nat.mul_one] at hv690_0
                           replace hv690_0 := Option.some.inj (hv690_0.symm.trans hx690_0)
                           injection hv690_0 with hva_ hvn_ hvc_
                           rw [hva_] at ge690_0
                           rw [hvc_] at ul690_0
                           have HL690_0 := Aside0.mk (show Kd.V (Kd.int .i64) 3 _ w.heap.size _ _ (rd_L1 t687 x129_2) from Kd.V_mk ul690_0 ge690_0)
                           clear hva_ hvn_ hvc_ ge690_0 ul690_0
                           clear hcc690 hce690
                           have HR690_0 := Aside0.mk hi690_0
                           have HC690_0 := Aside0.mk hl690_0
                           clear hi690_0 hl690_0
                           replace p690 := eq_true p690
                           replace q690 := eq_true q690
                           go_wp2_with (first | ((with_reducible refine gate_callee (f := 35) rfl ?_); refine goesL_ (some 135) rfl rfl Try.func35 (by kernel_rfl) rfl #[.slice Ao34 t654.length co34, .slice A690_0 (rd_L1 t687 x129_2).length c690_0] rfl (by (try simp only [List.map_toArray, List.map_cons, List.map_nil]); first | done | rfl | (simp only [List.length_drop, List.length_take]; rfl)) ?_; (with_reducible refine (impl_EndsAt.calls k2 _ _ t654 _ _ (rd_L1 t687 x129_2) t691 _ ?side1 ?side2 ?side3 ?side4 A66.out).mono ?_); (case side1 => repeat (first | exact (Kd.N_reads' HO_3.out).2.2 | (with_reducible refine Kd.C_alloc ?_ _) | (with_reducible refine Kd.C_drewN ?_ _) | (with_reducible refine Kd.C_drew ?_))); (case side2 => exact (Kd.N_reads' HO_3.out).2.1); (case side3 => repeat (first | exact (by repeat (first | (with_reducible exact HR690_0.out) | (with_reducible refine Kd.C_alloc ?_ _) | (with_reducible refine Kd.C_drewN ?_ _) | (with_reducible refine Kd.C_drew ?_) | exact HR690_0.out)) | (with_reducible refine Kd.C_alloc ?_ _) | (with_reducible refine Kd.C_drewN ?_ _) | (with_reducible refine Kd.C_drew ?_))); (case side4 => exact HC690_0.out); rintro e w74 ⟨v692, rfl, ho0, hb⟩; refine ⟨_, rfl, ?_⟩; have n0_ := Aside0.mk (Kd.N_elder' (by (with_reducible repeat (first | apply Kd.N_alloc | apply Kd.N_drewN | apply Kd.N_drew)); exact HO_3.out) (Kd.R_base ho0) hb); have n1_ := Aside0.mk (Kd.R_elder' (by (with_reducible repeat (first | apply Kd.R_alloc | apply Kd.R_drewN | apply Kd.R_drew)); exact HO_5.out) (Kd.R_base ho0) hb); have n2_ := Aside0.mk (Kd.R_elder' (by (with_reducible repeat (first | apply Kd.R_alloc | apply Kd.R_drewN | apply Kd.R_drew)); exact HO_6.out) (Kd.R_base ho0) hb); have n3_ := Aside0.mk (Kd.N_elder' (by (with_reducible repeat (first | apply Kd.N_alloc | apply Kd.N_drewN | apply Kd.N_drew)); exact HO_127.out) (Kd.R_base ho0) hb); have n4_ := Aside0.mk (Kd.V_elder' (by (with_reducible repeat (first | apply Kd.V_alloc | apply Kd.V_drewN | apply Kd.V_drew)); exact HL690_0.out) (Kd.R_base ho0) hb); have n5_ := Aside0.mk (Kd.R_lower (Kd.R_new' (Kd.R_new' ho0 (Kd.R_lt (by (with_reducible repeat (first | apply Kd.R_alloc | apply Kd.R_drewN | apply Kd.R_drew)); exact HO_5.out))) (Kd.R_lt (by (with_reducible repeat (first | apply Kd.R_alloc | apply Kd.R_drewN | apply Kd.R_drew)); exact HO_6.out))) (below_size (by repeat (first | (with_reducible first | exact HB.out | apply below_alloc | apply pw_below_drewN | apply below_drew1) | exact HB.out)))); have n6_ := Aside0.mk (Kd.C_below (by repeat (first | (with_reducible exact HR690_0.out) | (with_reducible refine Kd.C_alloc ?_ _) | (with_reducible refine Kd.C_drewN ?_ _) | (with_reducible refine Kd.C_drew ?_) | exact HR690_0.out)) hb); have n7_ := Aside0.mk (below_step (by repeat (first | (with_reducible first | exact HB.out | apply below_alloc | apply pw_below_drewN | apply below_drew1) | exact HB.out)) hb); clear HO_3; clear HO_5; clear HO_6; clear HO_127; clear HL690_0; clear HR690_0; clear HB; have HO_3 := n0_; have HO_5 := n1_; have HO_6 := n2_; have HO_127 := n3_; have HL690_0 := n4_; have HO693 := n5_; have HR690_0 := n6_; have HB := n7_; clear n0_ n1_ n2_ n3_ n4_ n5_ n6_ n7_; (try clear hb); (try clear hb2); (try clear hk); (try clear hi); (try clear ho0)) | ((with_reducible refine gate_callee (f := 33) rfl ?_); refine goesL_ (some 138) rfl rfl Try.func33 (by kernel_rfl) rfl #[.slice Ao34 t654.length co34, .slice A690_0 (rd_L1 t687 x129_2).length c690_0] rfl (by (try simp only [List.map_toArray, List.map_cons, List.map_nil]); first | done | rfl | (simp only [List.length_drop, List.length_take]; rfl)) ?_; (with_reducible refine (impl_LatestBy.calls k2 _ _ t654 _ _ (rd_L1 t687 x129_2) t694 _ ?side1 ?side2 ?side3 ?side4 A67.out).mono ?_); (case side1 => repeat (first | exact (Kd.N_reads' HO_3.out).2.2 | (with_reducible refine Kd.C_alloc ?_ _) | (with_reducible refine Kd.C_drewN ?_ _) | (with_reducible refine Kd.C_drew ?_))); (case side2 => exact (Kd.N_reads' HO_3.out).2.1); (case side3 => repeat (first | exact (by repeat (first | (with_reducible exact HR690_0.out) | (with_reducible refine Kd.C_alloc ?_ _) | (with_reducible refine Kd.C_drewN ?_ _) | (with_reducible refine Kd.C_drew ?_) | exact HR690_0.out)) | (with_reducible refine Kd.C_alloc ?_ _) | (with_reducible refine Kd.C_drewN ?_ _) | (with_reducible refine Kd.C_drew ?_))); (case side4 => exact HC690_0.out); rintro e w75 ⟨rfl, hb⟩; refine ⟨_, rfl, ?_⟩; have n0_ := Aside0.mk (Kd.N_below (by (with_reducible repeat (first | apply Kd.N_alloc | apply Kd.N_drewN | apply Kd.N_drew)); exact HO_3.out) hb); have n1_ := Aside0.mk (Kd.R_below (by (with_reducible repeat (first | apply Kd.R_alloc | apply Kd.R_drewN | apply Kd.R_drew)); exact HO_5.out) hb); have n2_ := Aside0.mk (Kd.R_below (by (with_reducible repeat (first | apply Kd.R_alloc | apply Kd.R_drewN | apply Kd.R_drew)); exact HO_6.out) hb); have n3_ := Aside0.mk (Kd.N_below (by (with_reducible repeat (first | apply Kd.N_alloc | apply Kd.N_drewN | apply Kd.N_drew)); exact HO_127.out) hb); have n4_ := Aside0.mk (Kd.V_below (by (with_reducible repeat (first | apply Kd.V_alloc | apply Kd.V_drewN | apply Kd.V_drew)); exact HL690_0.out) hb); have n5_ := Aside0.mk (Kd.R_below (by (with_reducible repeat (first | apply Kd.R_alloc | apply Kd.R_drewN | apply Kd.R_drew)); exact HO693.out) hb); have n6_ := Aside0.mk (Kd.C_below (by repeat (first | (with_reducible exact HR690_0.out) | (with_reducible refine Kd.C_alloc ?_ _) | (with_reducible refine Kd.C_drewN ?_ _) | (with_reducible refine Kd.C_drew ?_) | exact HR690_0.out)) hb); have n7_ := Aside0.mk (below_step (by repeat (first | (with_reducible first | exact HB.out | apply below_alloc | apply pw_below_drewN | apply below_drew1) | exact HB.out)) hb); clear HO_3; clear HO_5; clear HO_6; clear HO_127; clear HL690_0; clear HO693; clear HR690_0; clear HB; have HO_3 := n0_; have HO_5 := n1_; have HO_6 := n2_; have HO_127 := n3_; have HL690_0 := n4_; have HO693 := n5_; have HR690_0 := n6_; have HB := n7_; clear n0_ n1_ n2_ n3_ n4_ n5_ n6_ n7_; (try clear hb); (try clear hb2); (try clear hk); (try clear hi)) | (go_at_call 37; (with_reducible refine (impl_CountLate.calls k2 _ _ t654 _ _ (rd_L1 t687 x129_2) t695 _ ?side1 ?side2 ?side3 ?side4 A69.out).mono ?_); (case side1 => repeat (first | exact (Kd.N_reads' HO_3.out).2.2 | (with_reducible refine Kd.C_alloc ?_ _) | (with_reducible refine Kd.C_drewN ?_ _) | (with_reducible refine Kd.C_drew ?_))); (case side2 => exact (Kd.N_reads' HO_3.out).2.1); (case side3 => repeat (first | exact (by repeat (first | (with_reducible exact HR690_0.out) | (with_reducible refine Kd.C_alloc ?_ _) | (with_reducible refine Kd.C_drewN ?_ _) | (with_reducible refine Kd.C_drew ?_) | exact HR690_0.out)) | (with_reducible refine Kd.C_alloc ?_ _) | (with_reducible refine Kd.C_drewN ?_ _) | (with_reducible refine Kd.C_drew ?_))); (case side4 => exact HC690_0.out); rintro e w76 ⟨rfl, hb⟩; have n0_ := Aside0.mk (Kd.N_below (by (with_reducible repeat (first | apply Kd.N_alloc | apply Kd.N_drewN | apply Kd.N_drew)); exact HO_3.out) hb); have n1_ := Aside0.mk (Kd.R_below (by (with_reducible repeat (first | apply Kd.R_alloc | apply Kd.R_drewN | apply Kd.R_drew)); exact HO_5.out) hb); have n2_ := Aside0.mk (Kd.R_below (by (with_reducible repeat (first | apply Kd.R_alloc | apply Kd.R_drewN | apply Kd.R_drew)); exact HO_6.out) hb); have n3_ := Aside0.mk (Kd.N_below (by (with_reducible repeat (first | apply Kd.N_alloc | apply Kd.N_drewN | apply Kd.N_drew)); exact HO_127.out) hb); have n4_ := Aside0.mk (Kd.V_below (by (with_reducible repeat (first | apply Kd.V_alloc | apply Kd.V_drewN | apply Kd.V_drew)); exact HL690_0.out) hb); have n5_ := Aside0.mk (Kd.R_below (by (with_reducible repeat (first | apply Kd.R_alloc | apply Kd.R_drewN | apply Kd.R_drew)); exact HO693.out) hb); have n6_ := Aside0.mk (Kd.C_below (by repeat (first | (with_reducible exact HR690_0.out) | (with_reducible refine Kd.C_alloc ?_ _) | (with_reducible refine Kd.C_drewN ?_ _) | (with_reducible refine Kd.C_drew ?_) | exact HR690_0.out)) hb); have n7_ := Aside0.mk (below_step (by repeat (first | (with_reducible first | exact HB.out | apply below_alloc | apply pw_below_drewN | apply below_drew1) | exact HB.out)) hb); clear HO_3; clear HO_5; clear HO_6; clear HO_127; clear HL690_0; clear HO693; clear HR690_0; clear HB; have HO_3 := n0_; have HO_5 := n1_; have HO_6 := n2_; have HO_127 := n3_; have HL690_0 := n4_; have HO693 := n5_; have HR690_0 := n6_; have HB := n7_; clear n0_ n1_ n2_ n3_ n4_ n5_ n6_ n7_; (try clear hb); (try clear hb2); (try clear hk); (try clear hi); obtain ⟨Ao77, co77, eo77⟩ := Kd.R_slice HO693.out; subst eo77) | (go_at_call 43; (with_reducible refine (laws_sum.calls k2 _ _ t691 t696 _ ?side1 ?side2 A71.out).mono ?_); (case side1 => repeat (first | exact (Kd.R_reads' HO693.out).2.2 | (with_reducible refine Kd.C_alloc ?_ _) | (with_reducible refine Kd.C_drewN ?_ _) | (with_reducible refine Kd.C_drew ?_))); (case side2 => exact (Kd.R_reads' HO693.out).2.1); rintro e w' ⟨rfl, ⟨nd, rfl⟩⟩))
                           go_roundg k2
                           case measure => have := HJ31.out; have := HK2.out; omega
                           case rel => exact ⟨(wrap64 (x129_2 + 1)), (by first | rfl | (simp; done) | (simp [*]; done)), H', ⟨by have := HJ31.out; have := HK2.out; omega⟩, ⟨by (with_reducible repeat (first | apply Kd.N_alloc | apply Kd.N_drewN | apply Kd.N_drew)); exact Kd.N_mono HO_3.out (fun _ hk => ⟨hk.1.1, ⟨hk.1.2.1, hk.1.2.2⟩⟩)⟩, ⟨by (with_reducible repeat (first | apply Kd.R_alloc | apply Kd.R_drewN | apply Kd.R_drew)); exact Kd.R_mono HO_5.out (fun _ hk => hk.1)⟩, ⟨by (with_reducible repeat (first | apply Kd.R_alloc | apply Kd.R_drewN | apply Kd.R_drew)); exact Kd.R_mono HO_6.out (fun _ hk => hk.1)⟩, ⟨by (with_reducible repeat (first | apply Kd.N_alloc | apply Kd.N_drewN | apply Kd.N_drew)); exact Kd.N_mono HO_127.out (fun _ hk => ⟨hk.1.1, ⟨hk.1.2.1, hk.1.2.2⟩⟩)⟩, ⟨by repeat (first | (with_reducible first | exact HB.out | apply below_alloc | apply pw_below_drewN | apply below_drew1) | exact HB.out)⟩⟩
                         ·rw [if_neg c73] at H
                          exact absurd H (by simp)
                     ·rw [if_neg c65] at H
                      exact absurd H (by simp)
                    ·rw [if_neg c64] at H
                     exact absurd H (by simp)
                   ·rw [if_neg c63] at H
                    have c63b0 : decide (x129_2 < (t687.length : Int)) = false := decide_eq_false c63
                    clear c63
                    have H' := Aside0.mk H
                    clear H
                    go_wp2
                    (try generalize decide (0 ≤ t672) = bz_t672)
                    go_loopg [15] k2 (fun kq v15 w' => ∃ (x15_3 : Int), v15 = .int .i64 x15_3 ∧ Aside0 (laws_FnDays.l1 kq t654 (t654.length : Int) t657 t660 t672 x15_3 = some r) ∧ Aside0 (kq ≤ k2) ∧ Aside0 (Kd.N (Kd.slice 3 (Kd.int .i64)) 27 w' w.heap.size (fun k_ => some k_ ≠ ((.slice Ao38 t657.length co38) : Value).ownBlock ∧ some k_ ≠ ((.slice Ao41 t660.length co41) : Value).ownBlock) (.slice Ao34 t654.length co34) t654) ∧ Aside0 (Kd.R (Kd.int .i64) 3 w' w.heap.size (fun k_ => some k_ ≠ ((.slice Ao41 t660.length co41) : Value).ownBlock) (.slice Ao38 t657.length co38) t657) ∧ Aside0 (Kd.R (Kd.int .i64) 3 w' w.heap.size (fun k_ => some k_ ≠ ((.slice Ao38 t657.length co38) : Value).ownBlock) (.slice Ao41 t660.length co41) t660) ∧ Aside0 (Below w.heap.size w w'))
                    case atStart => exact ⟨(1), (by first | rfl | (simp; done) | (simp [*]; done)), H', ⟨Nat.le_refl _⟩, ⟨by (with_reducible repeat (first | apply Kd.N_alloc | apply Kd.N_drewN | apply Kd.N_drew)); exact Kd.N_mono HO_3.out (fun _ hk => ⟨hk.1, hk.2.1⟩)⟩, ⟨by (with_reducible repeat (first | apply Kd.R_alloc | apply Kd.R_drewN | apply Kd.R_drew)); exact HO_5.out⟩, ⟨by (with_reducible repeat (first | apply Kd.R_alloc | apply Kd.R_drewN | apply Kd.R_drew)); exact HO_6.out⟩, ⟨by repeat (first | (with_reducible first | exact HB.out | apply below_alloc | apply pw_below_drewN | apply below_drew1) | exact HB.out)⟩⟩
                    case round =>
                     clear H'
                     try clear c1
                     try clear c2
                     try clear c2b0
                     try clear c2b1
                     try clear p2
                     try clear c3
                     try clear c4
                     try clear c5
                     try clear c6
                     try clear p6
                     try clear q6
                     try clear hx6
                     try clear c7
                     try clear c13
                     try clear c15
                     try clear c17
                     try clear c19
                     try clear c20
                     try clear c21
                     try clear c23
                     try clear c24
                     try clear c24b0
                     try clear c25
                     try clear c25b0
                     try clear c26
                     try clear c27
                     try clear c27b0
                     try clear c28
                     try clear c29
                     try clear c29b0
                     try clear c29b1
                     try clear c30
                     try clear c30b0
                     try clear c30b1
                     try clear c30b2
                     try clear c31
                     try clear c31b0
                     try clear c31b1
                     try clear c31b2
                     try clear c33
                     try clear c35
                     try clear c39
                     try clear c41
                     try clear c42
                     try clear c43
                     try clear c44
                     try clear c45
                     try clear c51
                     try clear c51b0
                     try clear c51b1
                     try clear c51b2
                     try clear c52
                     try clear c52b0
                     try clear c52b1
                     try clear c59
                     try clear c63
                     try clear c63b0
                     try clear c64
                     try clear c64b0
                     try clear p64
                     try clear c65
                     try clear c65b0
                     try clear c68
                     try clear c68b0
                     try clear c69
                     try clear p69
                     try clear q69
                     try clear hx69
                     try clear c70
                     try clear c70b0
                     try clear c72
                     try clear c72b0
                     try clear c73
                     try clear c73b0
                     try clear c73b1
                     try clear c73b2
                     try clear hx690_0
                     try clear p2
                     try clear p690
                     try clear q690
                     obtain ⟨x15_3, rfl, HA, HK3, HO_3, HO_5, HO_6, HB⟩ := hrel
                     cases gk with
                     | zero => exact absurd HA.out (by simp [laws_FnDays.l1])
                     | succ k3 =>
                      have H := HA.out
                      clear HA
                      simp only [laws_FnDays.l1] at H
                      by_cases c78 : x15_3 < (t654.length : Int)
                      ·rw [if_pos c78] at H
                       have c78b0 : decide (x15_3 < (t654.length : Int)) = true := decide_eq_true c78
                       clear c78
                       obtain ⟨ji79, hji79⟩ : ∃ j_ : Int, (wrap64 (x15_3 - 1)) = j_ := ⟨_, rfl⟩
                       replace H : (if 0 ≤ (ji79) then (if (ji79) < (t657.length : Int) then (if 0 ≤ (rd t657 (ji79)) then (if (rd t657 (ji79)) < (t654.length : Int) then (if 1 < ((rd_L1 t654 (rd t657 (ji79))).length : Int) then (if 0 ≤ x15_3 then (if x15_3 < (t657.length : Int) then (if 0 ≤ (rd t657 x15_3) then (if (rd t657 x15_3) < (t654.length : Int) then (if 1 < ((rd_L1 t654 (rd t657 x15_3)).length : Int) then (if (rd (rd_L1 t654 (rd t657 (ji79))) 1) > (rd (rd_L1 t654 (rd t657 x15_3)) 1) then (none) else (if (ji79) < (t660.length : Int) then (if 0 ≤ (rd t660 (ji79)) then (if (rd t660 (ji79)) < (t654.length : Int) then (if 0 < ((rd_L1 t654 (rd t660 (ji79))).length : Int) then (if x15_3 < (t660.length : Int) then (if 0 ≤ (rd t660 x15_3) then (if (rd t660 x15_3) < (t654.length : Int) then (if 0 < ((rd_L1 t654 (rd t660 x15_3)).length : Int) then (if (rd (rd_L1 t654 (rd t660 (ji79))) 0) > (rd (rd_L1 t654 (rd t660 x15_3)) 0) then (none) else (laws_FnDays.l1 k3 t654 (t654.length : Int) t657 t660 t672 (wrap64 (x15_3 + 1)))) else (none)) else (none)) else (none)) else (none)) else (none)) else (none)) else (none)) else (none))) else (none)) else (none)) else (none)) else (none)) else (none)) else (none)) else (none)) else (none)) else (none)) else (none)) = some r := by first | (rw [hji79] at H; exact H) | (simp only [hji79] at H ⊢; exact H)
                       have hji79w : (IntKind.i64.wrap (x15_3 - 1)) = ji79 := (i64_w _).trans hji79
                       by_cases c80 : 0 ≤ (ji79)
                       ·rw [if_pos c80] at H
                        have c80b0 : decide (0 ≤ (ji79)) = true := decide_eq_true c80
                        clear c80
                        by_cases c81 : (ji79) < (t657.length : Int)
                        ·rw [if_pos c81] at H
                         have c81b0 : decide ((ji79) < (t657.length : Int)) = true := decide_eq_true c81
                         clear c81
                         by_cases c82 : 0 ≤ (rd t657 (ji79))
                         ·rw [if_pos c82] at H
                          have c82b0 : decide (0 ≤ (rd t657 (ji79))) = true := decide_eq_true c82
                          clear c82
                          by_cases c83 : (rd t657 (ji79)) < (t654.length : Int)
                          ·rw [if_pos c83] at H
                           have c83b0 : decide ((rd t657 (ji79)) < (t654.length : Int)) = true := decide_eq_true c83
                           clear c83
                           by_cases c84 : 1 < ((rd_L1 t654 (rd t657 (ji79))).length : Int)
                           ·rw [if_pos c84] at H
                            have c84b0 : decide (1 < ((rd_L1 t654 (rd t657 (ji79))).length : Int)) = true := decide_eq_true c84
                            have c84b1 : decide (1 < (rd_L1 t654 (rd t657 (ji79))).length) = true := decide_eq_true (by omega)
                            clear c84
                            by_cases c85 : 0 ≤ x15_3
                            ·rw [if_pos c85] at H
                             have c85b0 : decide (0 ≤ x15_3) = true := decide_eq_true c85
                             clear c85
                             by_cases c86 : x15_3 < (t657.length : Int)
                             ·rw [if_pos c86] at H
                              have c86b0 : decide (x15_3 < (t657.length : Int)) = true := decide_eq_true c86
                              clear c86
                              by_cases c87 : 0 ≤ (rd t657 x15_3)
                              ·rw [if_pos c87] at H
                               have c87b0 : decide (0 ≤ (rd t657 x15_3)) = true := decide_eq_true c87
                               clear c87
                               by_cases c88 : (rd t657 x15_3) < (t654.length : Int)
                               ·rw [if_pos c88] at H
                                have c88b0 : decide ((rd t657 x15_3) < (t654.length : Int)) = true := decide_eq_true c88
                                clear c88
                                by_cases c89 : 1 < ((rd_L1 t654 (rd t657 x15_3)).length : Int)
                                ·rw [if_pos c89] at H
                                 have c89b0 : decide (1 < ((rd_L1 t654 (rd t657 x15_3)).length : Int)) = true := decide_eq_true c89
                                 have c89b1 : decide (1 < (rd_L1 t654 (rd t657 x15_3)).length) = true := decide_eq_true (by omega)
                                 clear c89
                                 by_cases c90 : (rd (rd_L1 t654 (rd t657 (ji79))) 1) > (rd (rd_L1 t654 (rd t657 x15_3)) 1)
                                 ·rw [if_pos c90] at H
                                  have c90b0 : decide ((rd (rd_L1 t654 (rd t657 x15_3)) 1) < (rd (rd_L1 t654 (rd t657 (ji79))) 1)) = true := decide_eq_true c90
                                  clear c90
                                  exact absurd H (by simp)
                                 ·rw [if_neg c90] at H
                                  have c90b0 : decide ((rd (rd_L1 t654 (rd t657 x15_3)) 1) < (rd (rd_L1 t654 (rd t657 (ji79))) 1)) = false := decide_eq_false c90
                                  clear c90
                                  by_cases c91 : (ji79) < (t660.length : Int)
                                  ·rw [if_pos c91] at H
                                   have c91b0 : decide ((ji79) < (t660.length : Int)) = true := decide_eq_true c91
                                   clear c91
                                   by_cases c92 : 0 ≤ (rd t660 (ji79))
                                   ·rw [if_pos c92] at H
                                    have c92b0 : decide (0 ≤ (rd t660 (ji79))) = true := decide_eq_true c92
                                    clear c92
                                    by_cases c93 : (rd t660 (ji79)) < (t654.length : Int)
                                    ·rw [if_pos c93] at H
                                     have c93b0 : decide ((rd t660 (ji79)) < (t654.length : Int)) = true := decide_eq_true c93
                                     clear c93
                                     by_cases c94 : 0 < ((rd_L1 t654 (rd t660 (ji79))).length : Int)
                                     ·rw [if_pos c94] at H
                                      have c94b0 : decide (0 < ((rd_L1 t654 (rd t660 (ji79))).length : Int)) = true := decide_eq_true c94
                                      have c94b1 : decide (0 < (rd_L1 t654 (rd t660 (ji79))).length) = true := decide_eq_true (by omega)
                                      clear c94
                                      by_cases c95 : x15_3 < (t660.length : Int)
                                      ·rw [if_pos c95] at H
                                       have c95b0 : decide (x15_3 < (t660.length : Int)) = true := decide_eq_true c95
                                       clear c95
                                       by_cases c96 : 0 ≤ (rd t660 x15_3)
                                       ·rw [if_pos c96] at H
                                        have c96b0 : decide (0 ≤ (rd t660 x15_3)) = true := decide_eq_true c96
                                        clear c96
                                        by_cases c97 : (rd t660 x15_3) < (t654.length : Int)
                                        ·rw [if_pos c97] at H
                                         have c97b0 : decide ((rd t660 x15_3) < (t654.length : Int)) = true := decide_eq_true c97
                                         clear c97
                                         by_cases c98 : 0 < ((rd_L1 t654 (rd t660 x15_3)).length : Int)
                                         ·rw [if_pos c98] at H
                                          have c98b0 : decide (0 < ((rd_L1 t654 (rd t660 x15_3)).length : Int)) = true := decide_eq_true c98
                                          have c98b1 : decide (0 < (rd_L1 t654 (rd t660 x15_3)).length) = true := decide_eq_true (by omega)
                                          clear c98
                                          by_cases c99 : (rd (rd_L1 t654 (rd t660 (ji79))) 0) > (rd (rd_L1 t654 (rd t660 x15_3)) 0)
                                          ·rw [if_pos c99] at H
                                           exact absurd H (by simp)
                                          ·rw [if_neg c99] at H
                                           have c99b0 : decide ((rd (rd_L1 t654 (rd t660 x15_3)) 0) < (rd (rd_L1 t654 (rd t660 (ji79))) 0)) = false := decide_eq_false c99
                                           clear c99
                                           as_aux_lemma =>
                                            have H' := Aside0.mk H
                                            clear H
                                            try go_wp2
                                            have n0_ := Aside0.mk (Kd.N_drew HO_3.out)
                                            have n1_ := Aside0.mk (Kd.R_drew HO_5.out)
                                            have n2_ := Aside0.mk (Kd.R_drew HO_6.out)
                                            have n3_ := Aside0.mk (below_drew1 HB.out)
                                            clear HO_3
                                            clear HO_5
                                            clear HO_6
                                            clear HB
                                            have HO_3 := n0_
                                            have HO_5 := n1_
                                            have HO_6 := n2_
                                            have HB := n3_
                                            clear n0_ n1_ n2_ n3_
                                            have p697 : 0 ≤ ((ji79) : Int) := of_decide_eq_true (by first | (with_reducible assumption) | assumption)
                                            have q697 : (ji79) < (t657.length : Int) := of_decide_eq_true (by first | (with_reducible assumption) | assumption)
                                            obtain ⟨ad697, e697, hx697_0⟩ := Kd.at_int (Kd.R_reads' HO_5.out).2.2 (ji79) p697 q697
                                            cases e697
                                            replace p697 := eq_true p697
                                            replace q697 := eq_true q697
                                            have p698 : 0 ≤ ((rd t657 (ji79)) : Int) := of_decide_eq_true (by first | (with_reducible assumption) | assumption)
                                            have q698 : (rd t657 (ji79)) < (t654.length : Int) := of_decide_eq_true (by first | (with_reducible assumption) | assumption)
                                            obtain ⟨ad698, A698_0, c698_0, e698, hx698_0, hl698_0, hi698_0⟩ := at_L1 (Kd.N_reads' HO_3.out).2.2 (rd t657 (ji79)) p698 q698
                                            cases e698
                                            obtain ⟨ce698, hce698, hMe698, hcc698⟩ := Kd.N_get HO_3.out [] (rd t657 (ji79)) p698 (by first | exact q698 | exact of_decide_eq_true (by first | (with_reducible assumption) | assumption) | (have e_ := (Kd.N_reads' HO_3.out).1; omega))
                                            obtain ⟨ua698_0, uc698_0, rfl, ul698_0, ge698_0⟩ := Kd.FK_slice_open hMe698
                                            have hv698_0 := hcc698 0 _ rfl
                                            rw [Nat.add_zero, show ((Kd.slice 3 (Kd.int .i64))).sz = 1 from rfl, Nat.mul_one] at hv698_0
                                            replace hv698_0 := Option.some.inj (hv698_0.symm.trans hx698_0)
                                            injection hv698_0 with hva_ hvn_ hvc_
                                            rw [hva_] at ge698_0
                                            rw [hvc_] at ul698_0
                                            have HL698_0 := Aside0.mk (show Kd.V (Kd.int .i64) 3 _ w.heap.size _ _ (rd_L1 t654 (rd t657 (ji79))) from Kd.V_mk ul698_0 ge698_0)
                                            clear hva_ hvn_ hvc_ ge698_0 ul698_0
                                            clear hcc698 hce698
                                            have HR698_0 := Aside0.mk hi698_0
                                            have HC698_0 := Aside0.mk hl698_0
                                            clear hi698_0 hl698_0
                                            replace p698 := eq_true p698
                                            replace q698 := eq_true q698
                                            have p699 : 0 ≤ (1 : Int) := (by omega)
                                            have q699 : 1 < ((rd_L1 t654 (rd t657 (ji79))).length : Int) := of_decide_eq_true (by first | (with_reducible assumption) | assumption)
                                            obtain ⟨ad699, e699, hx699_0⟩ := Kd.at_int (by repeat (first | (with_reducible exact HR698_0.out) | (with_reducible refine Kd.C_alloc ?_ _) | (with_reducible refine Kd.C_drewN ?_ _) | (with_reducible refine Kd.C_drew ?_) | exact HR698_0.out)) 1 p699 q699
                                            cases e699
                                            (try simp only [show (1 : Int).toNat = 1 from rfl, Nat.reduceMul, Nat.reduceEqDiff, Go.Addr.add, ↓reduceIte] at hx699_0)
                                            have qi699 : (1 < (rd_L1 t654 (rd t657 (ji79))).length) = True := eq_true (by omega)
                                            (try rw [show ((1 : Int)).toNat = 1 from rfl] at hx699_0)
                                            replace p699 := eq_true p699
                                            replace q699 := eq_true q699
                                            have p700 : 0 ≤ (x15_3 : Int) := of_decide_eq_true (by first | (with_reducible assumption) | assumption)
                                            have q700 : x15_3 < (t657.length : Int) := of_decide_eq_true (by first | (with_reducible assumption) | assumption)
                                            obtain ⟨ad700, e700, hx700_0⟩ := Kd.at_int (Kd.R_reads' HO_5.out).2.2 x15_3 p700 q700
                                            obtain rfl : ad697 = ad700 := (by injection e700)
                                            replace p700 := eq_true p700
                                            replace q700 := eq_true q700
                                            have p701 : 0 ≤ ((rd t657 x15_3) : Int) := of_decide_eq_true (by first | (with_reducible assumption) | assumption)
                                            have q701 : (rd t657 x15_3) < (t654.length : Int) := of_decide_eq_true (by first | (with_reducible assumption) | assumption)
                                            obtain ⟨ad701, A701_0, c701_0, e701, hx701_0, hl701_0, hi701_0⟩ := at_L1 (Kd.N_reads' HO_3.out).2.2 (rd t657 x15_3) p701 q701
                                            obtain rfl : ad698 = ad701 := (by injection e701)
                                            obtain ⟨ce701, hce701, hMe701, hcc701⟩ := Kd.N_get HO_3.out [] (rd t657 x15_3) p701 (by first | exact q701 | exact of_decide_eq_true (by first | (with_reducible assumption) | assumption) | (have e_ := (Kd.N_reads' HO_3.out).1; omega))
                                            obtain ⟨ua701_0, uc701_0, rfl, ul701_0, ge701_0⟩ := Kd.FK_slice_open hMe701
                                            have hv701_0 := hcc701 0 _ rfl
                                            rw [Nat.add_zero, show ((Kd.slice 3 (Kd.int .i64))).sz = 1 from rfl, Nat.mul_one] at hv701_0
                                            replace hv701_0 := Option.some.inj (hv701_0.symm.trans hx701_0)
                                            injection hv701_0 with hva_ hvn_ hvc_
                                            rw [hva_] at ge701_0
                                            rw [hvc_] at ul701_0
                                            have HL701_0 := Aside0.mk (show Kd.V (Kd.int .i64) 3 _ w.heap.size _ _ (rd_L1 t654 (rd t657 x15_3)) from Kd.V_mk ul701_0 ge701_0)
                                            clear hva_ hvn_ hvc_ ge701_0 ul701_0
                                            clear hcc701 hce701
                                            have HR701_0 := Aside0.mk hi701_0
                                            have HC701_0 := Aside0.mk hl701_0
                                            clear hi701_0 hl701_0
                                            replace p701 := eq_true p701
                                            replace q701 := eq_true q701
                                            have p702 : 0 ≤ (1 : Int) := (by omega)
                                            have q702 : 1 < ((rd_L1 t654 (rd t657 x15_3)).length : Int) := of_decide_eq_true (by first | (with_reducible assumption) | assumption)
                                            obtain ⟨ad702, e702, hx702_0⟩ := Kd.at_int (by repeat (first | (with_reducible exact HR701_0.out) | (with_reducible refine Kd.C_alloc ?_ _) | (with_reducible refine Kd.C_drewN ?_ _) | (with_reducible refine Kd.C_drew ?_) | exact HR701_0.out)) 1 p702 q702
                                            cases e702
                                            (try simp only [show (1 : Int).toNat = 1 from rfl, Nat.reduceMul, Nat.reduceEqDiff, Go.Addr.add, ↓reduceIte] at hx702_0)
                                            have qi702 : (1 < (rd_L1 t654 (rd t657 x15_3)).length) = True := eq_true (by omega)
                                            (try rw [show ((1 : Int)).toNat = 1 from rfl] at hx702_0)
                                            replace p702 := eq_true p702
                                            replace q702 := eq_true q702
                                            have p703 : 0 ≤ ((ji79) : Int) := of_decide_eq_true (by first | (with_reducible assumption) | assumption)
                                            have q703 : (ji79) < (t660.length : Int) := of_decide_eq_true (by first | (with_reducible assumption) | assumption)
                                            obtain ⟨ad703, e703, hx703_0⟩ := Kd.at_int (Kd.R_reads' HO_6.out).2.2 (ji79) p703 q703
                                            cases e703
                                            replace p703 := eq_true p703
                                            replace q703 := eq_true q703
                                            have p704 : 0 ≤ ((rd t660 (ji79)) : Int) := of_decide_eq_true (by first | (with_reducible assumption) | assumption)
                                            have q704 : (rd t660 (ji79)) < (t654.length : Int) := of_decide_eq_true (by first | (with_reducible assumption) | assumption)
                                            obtain ⟨ad704, A704_0, c704_0, e704, hx704_0, hl704_0, hi704_0⟩ := at_L1 (Kd.N_reads' HO_3.out).2.2 (rd t660 (ji79)) p704 q704
                                            obtain rfl : ad698 = ad704 := (by injection e704)
                                            obtain ⟨ce704, hce704, hMe704, hcc704⟩ := Kd.N_get HO_3.out [] (rd t660 (ji79)) p704 (by first | exact q704 | exact of_decide_eq_true (by first | (with_reducible assumption) | assumption) | (have e_ := (Kd.N_reads' HO_3.out).1; omega))
                                            obtain ⟨ua704_0, uc704_0, rfl, ul704_0, ge704_0⟩ := Kd.FK_slice_open hMe704
                                            have hv704_0 := hcc704 0 _ rfl
                                            rw [Nat.add_zero, show ((Kd.slice 3 (Kd.int .i64))).sz = 1 from rfl, Nat.mul_one] at hv704_0
                                            replace hv704_0 := Option.some.inj (hv704_0.symm.trans hx704_0)
                                            injection hv704_0 with hva_ hvn_ hvc_
                                            rw [hva_] at ge704_0
                                            rw [hvc_] at ul704_0
                                            have HL704_0 := Aside0.mk (show Kd.V (Kd.int .i64) 3 _ w.heap.size _ _ (rd_L1 t654 (rd t660 (ji79))) from Kd.V_mk ul704_0 ge704_0)
                                            clear hva_ hvn_ hvc_ ge704_0 ul704_0
                                            clear hcc704 hce704
                                            have HR704_0 := Aside0.mk hi704_0
                                            have HC704_0 := Aside0.mk hl704_0
                                            clear hi704_0 hl704_0
                                            replace p704 := eq_true p704
                                            replace q704 := eq_true q704
                                            have p705 : 0 ≤ (0 : Int) := (by omega)
                                            have q705 : 0 < ((rd_L1 t654 (rd t660 (ji79))).length : Int) := of_decide_eq_true (by first | (with_reducible assumption) | assumption)
                                            obtain ⟨ad705, e705, hx705_0⟩ := Kd.at_int (by repeat (first | (with_reducible exact HR704_0.out) | (with_reducible refine Kd.C_alloc ?_ _) | (with_reducible refine Kd.C_drewN ?_ _) | (with_reducible refine Kd.C_drew ?_) | exact HR704_0.out)) 0 p705 q705
                                            cases e705
                                            have qi705 : (0 < (rd_L1 t654 (rd t660 (ji79))).length) = True := eq_true (by omega)
                                            (try rw [show ((0 : Int)).toNat = 0 from rfl] at hx705_0)
                                            (try rw [Addr.add_zero'] at hx705_0)
                                            replace p705 := eq_true p705
                                            replace q705 := eq_true q705
                                            have p706 : 0 ≤ (x15_3 : Int) := of_decide_eq_true (by first | (with_reducible assumption) | assumption)
                                            have q706 : x15_3 < (t660.length : Int) := of_decide_eq_true (by first | (with_reducible assumption) | assumption)
                                            obtain ⟨ad706, e706, hx706_0⟩ := Kd.at_int (Kd.R_reads' HO_6.out).2.2 x15_3 p706 q706
                                            obtain rfl : ad703 = ad706 := (by injection e706)
                                            replace p706 := eq_true p706
                                            replace q706 := eq_true q706
                                            have p707 : 0 ≤ ((rd t660 x15_3) : Int) := of_decide_eq_true (by first | (with_reducible assumption) | assumption)
                                            have q707 : (rd t660 x15_3) < (t654.length : Int) := of_decide_eq_true (by first | (with_reducible assumption) | assumption)
                                            obtain ⟨ad707, A707_0, c707_0, e707, hx707_0, hl707_0, hi707_0⟩ := at_L1 (Kd.N_reads' HO_3.out).2.2 (rd t660 x15_3) p707 q707
                                            obtain rfl : ad698 = ad707 := (by injection e707)
                                            obtain ⟨ce707, hce707, hMe707, hcc707⟩ := Kd.N_get HO_3.out [] (rd t660 x15_3) p707 (by first | exact q707 | exact of_decide_eq_true (by first | (with_reducible assumption) | assumption) | (have e_ := (Kd.N_reads' HO_3.out).1; omega))
                                            obtain ⟨ua707_0, uc707_0, rfl, ul707_0, ge707_0⟩ := Kd.FK_slice_open hMe707
                                            have hv707_0 := hcc707 0 _ rfl
                                            rw [Nat.add_zero, show ((Kd.slice 3 (Kd.int .i64))).sz = 1 from rfl, Nat.mul_one] at hv707_0
                                            replace hv707_0 := Option.some.inj (hv707_0.symm.trans hx707_0)
                                            injection hv707_0 with hva_ hvn_ hvc_
                                            rw [hva_] at ge707_0
                                            rw [hvc_] at ul707_0
                                            have HL707_0 := Aside0.mk (show Kd.V (Kd.int .i64) 3 _ w.heap.size _ _ (rd_L1 t654 (rd t660 x15_3)) from Kd.V_mk ul707_0 ge707_0)
                                            clear hva_ hvn_ hvc_ ge707_0 ul707_0
                                            clear hcc707 hce707
                                            have HR707_0 := Aside0.mk hi707_0
                                            have HC707_0 := Aside0.mk hl707_0
                                            clear hi707_0 hl707_0
                                            replace p707 := eq_true p707
                                            replace q707 := eq_true q707
                                            have p708 : 0 ≤ (0 : Int) := (by omega)
                                            have q708 : 0 < ((rd_L1 t654 (rd t660 x15_3)).length : Int) := of_decide_eq_true (by first | (with_reducible assumption) | assumption)
                                            obtain ⟨ad708, e708, hx708_0⟩ := Kd.at_int (by repeat (first | (with_reducible exact HR707_0.out) | (with_reducible refine Kd.C_alloc ?_ _) | (with_reducible refine Kd.C_drewN ?_ _) | (with_reducible refine Kd.C_drew ?_) | exact HR707_0.out)) 0 p708 q708
                                            cases e708
                                            have qi708 : (0 < (rd_L1 t654 (rd t660 x15_3)).length) = True := eq_true (by omega)
                                            (try rw [show ((0 : Int)).toNat = 0 from rfl] at hx708_0)
                                            (try rw [Addr.add_zero'] at hx708_0)
                                            replace p708 := eq_true p708
                                            replace q708 := eq_true q708
                                            refine start_ (n := 42) (S := fun w' => w'.cell? (ad697.add ((ji79)).toNat) = some (.int .i64 (rd t657 (ji79))) ∧ w'.cell? (ad698.add ((rd t657 (ji79))).toNat) = some (.slice (some ad699) (rd_L1 t654 (rd t657 (ji79))).length c698_0) ∧ w'.cell? ⟨ad699.block, ad699.off + 1, none⟩ = some (.int .i64 (rd (rd_L1 t654 (rd t657 (ji79))) 1)) ∧ w'.cell? (ad697.add (x15_3).toNat) = some (.int .i64 (rd t657 x15_3)) ∧ w'.cell? (ad698.add ((rd t657 x15_3)).toNat) = some (.slice (some ad702) (rd_L1 t654 (rd t657 x15_3)).length c701_0) ∧ w'.cell? ⟨ad702.block, ad702.off + 1, none⟩ = some (.int .i64 (rd (rd_L1 t654 (rd t657 x15_3)) 1)) ∧ w'.cell? (ad703.add ((ji79)).toNat) = some (.int .i64 (rd t660 (ji79))) ∧ w'.cell? (ad698.add ((rd t660 (ji79))).toNat) = some (.slice (some ad705) (rd_L1 t654 (rd t660 (ji79))).length c704_0) ∧ w'.cell? ad705 = some (.int .i64 (rd (rd_L1 t654 (rd t660 (ji79))) 0)) ∧ w'.cell? (ad703.add (x15_3).toNat) = some (.int .i64 (rd t660 x15_3)) ∧ w'.cell? (ad698.add ((rd t660 x15_3)).toNat) = some (.slice (some ad708) (rd_L1 t654 (rd t660 x15_3)).length c707_0) ∧ w'.cell? ad708 = some (.int .i64 (rd (rd_L1 t654 (rd t660 x15_3)) 0))) (ds := []) #[false, false, false, false, false, false, false, false, false, false, false, false, false, false, false, false, false, false, false, false, false, false, false, false, false, false, false, false, false, false, false, false, false, false, false, false, false, false, false, false, false, false] (by kernel_rfl) rfl rfl ⟨hx697_0, hx698_0, hx699_0, hx700_0, hx701_0, hx702_0, hx703_0, hx704_0, hx705_0, hx706_0, hx707_0, hx708_0⟩ (fun hHeld => ?_); refine with_tabW laws_FnDays.tab26 laws_FnDays.bits26 (fun HT_ HW_ => ?_)
                                            generalize wr.drew = w100 at HO_3 HO_5 HO_6 HB HL698_0 HL701_0 HL704_0 HL707_0 HR698_0 HR701_0 HR704_0 HR707_0 hx697_0 hx698_0 hx699_0 hx700_0 hx701_0 hx702_0 hx703_0 hx704_0 hx705_0 hx706_0 hx707_0 hx708_0 hHeld ⊢
                                            refine pure_ (i := 0) (N := some 166) (v := ?_) (a' := ?_) #[true, false, false, false, false, false, false, false, false, false, false, false, false, false, false, false, false, false, false, false, false, false, false, false, false, false, false, false, false, false, false, false, false, false, false, false, false, false, false, false, false, false] rfl rfl (any_of HT_.out (by kernel_rfl)) (fun _ _ _ h => h) (Or.inl ⟨by rfl, ?_⟩) ?_ ?_
                                            rotate_left
                                            ·intro w'
                                             go_simp
                                             with_reducible rfl
                                            rotate_left
                                            ·simp only [Act.put, List.setIfInBounds_toArray, List.set_cons_zero, List.set_cons_succ, i64_w, i32_w]
                                             rfl
                                            refine pure_ (i := 1) (N := some 167) (v := ?_) (a' := ?_) #[true, true, false, false, false, false, false, false, false, false, false, false, false, false, false, false, false, false, false, false, false, false, false, false, false, false, false, false, false, false, false, false, false, false, false, false, false, false, false, false, false, false] rfl rfl (any_of HT_.out (by kernel_rfl)) (fun _ _ _ h => h) (Or.inl ⟨by rfl, ?_⟩) ?_ ?_
                                            rotate_left
                                            ·intro w'
                                             go_simp
                                             with_reducible rfl
                                            rotate_left
                                            ·simp only [Act.put, List.setIfInBounds_toArray, List.set_cons_zero, List.set_cons_succ, i64_w, i32_w]
                                             rfl
                                            refine pure_ (i := 2) (N := some 168) (v := ?_) (a' := ?_) #[true, true, true, false, false, false, false, false, false, false, false, false, false, false, false, false, false, false, false, false, false, false, false, false, false, false, false, false, false, false, false, false, false, false, false, false, false, false, false, false, false, false] rfl rfl (any_of HT_.out (by kernel_rfl)) (fun _ _ _ h => h) (Or.inl ⟨by rfl, ?_⟩) ?_ ?_
                                            rotate_left
                                            ·intro w'
                                             go_simp
                                             with_reducible rfl
                                            rotate_left
                                            ·simp only [Act.put, List.setIfInBounds_toArray, List.set_cons_zero, List.set_cons_succ, i64_w, i32_w]
                                             rfl
                                            refine pure_ (i := 3) (N := some 169) (v := ?_) (a' := ?_) #[true, true, true, true, false, false, false, false, false, false, false, false, false, false, false, false, false, false, false, false, false, false, false, false, false, false, false, false, false, false, false, false, false, false, false, false, false, false, false, false, false, false] rfl rfl (any_of HT_.out (by kernel_rfl)) (fun _ _ _ h => h) (Or.inl ⟨by rfl, ?_⟩) ?_ ?_
                                            rotate_left
                                            ·intro w'
                                             go_simp
                                             with_reducible rfl
                                            rotate_left
                                            ·simp only [Act.put, List.setIfInBounds_toArray, List.set_cons_zero, List.set_cons_succ, i64_w, i32_w]
                                             rfl
                                            refine pure_ (i := 4) (N := some 170) (v := ?_) (a' := ?_) #[true, true, true, true, true, false, false, false, false, false, false, false, false, false, false, false, false, false, false, false, false, false, false, false, false, false, false, false, false, false, false, false, false, false, false, false, false, false, false, false, false, false] rfl rfl (any_of HT_.out (by kernel_rfl)) (fun _ _ _ h => h) (Or.inl ⟨by rfl, ?_⟩) ?_ ?_
                                            rotate_left
                                            ·intro w'
                                             go_simp
                                             with_reducible rfl
                                            rotate_left
                                            ·simp only [Act.put, List.setIfInBounds_toArray, List.set_cons_zero, List.set_cons_succ, i64_w, i32_w]
                                             rfl
                                            refine pure_ (i := 10) (N := some 176) (v := ?_) (a' := ?_) #[true, true, true, true, true, false, false, false, false, false, true, false, false, false, false, false, false, false, false, false, false, false, false, false, false, false, false, false, false, false, false, false, false, false, false, false, false, false, false, false, false, false] rfl rfl (any_of HT_.out (by kernel_rfl)) (fun _ _ _ h => h) (Or.inl ⟨by rfl, ?_⟩) ?_ ?_
                                            rotate_left
                                            ·intro w'
                                             go_simp
                                             with_reducible rfl
                                            rotate_left
                                            ·simp only [Act.put, List.setIfInBounds_toArray, List.set_cons_zero, List.set_cons_succ, i64_w, i32_w]
                                             rfl
                                            refine pure_ (i := 11) (N := some 177) (v := ?_) (a' := ?_) #[true, true, true, true, true, false, false, false, false, false, true, true, false, false, false, false, false, false, false, false, false, false, false, false, false, false, false, false, false, false, false, false, false, false, false, false, false, false, false, false, false, false] rfl rfl (any_of HT_.out (by kernel_rfl)) (fun _ _ _ h => h) (Or.inl ⟨by rfl, ?_⟩) ?_ ?_
                                            rotate_left
                                            ·intro w'
                                             go_simp
                                             with_reducible rfl
                                            rotate_left
                                            ·simp only [Act.put, List.setIfInBounds_toArray, List.set_cons_zero, List.set_cons_succ, i64_w, i32_w]
                                             rfl
                                            refine pure_ (i := 12) (N := some 178) (v := ?_) (a' := ?_) #[true, true, true, true, true, false, false, false, false, false, true, true, true, false, false, false, false, false, false, false, false, false, false, false, false, false, false, false, false, false, false, false, false, false, false, false, false, false, false, false, false, false] rfl rfl (any_of HT_.out (by kernel_rfl)) (fun _ _ _ h => h) (Or.inl ⟨by rfl, ?_⟩) ?_ ?_
                                            rotate_left
                                            ·intro w'
                                             go_simp
                                             with_reducible rfl
                                            rotate_left
                                            ·simp only [Act.put, List.setIfInBounds_toArray, List.set_cons_zero, List.set_cons_succ, i64_w, i32_w]
                                             rfl
                                            refine pure_ (i := 13) (N := some 179) (v := ?_) (a' := ?_) #[true, true, true, true, true, false, false, false, false, false, true, true, true, true, false, false, false, false, false, false, false, false, false, false, false, false, false, false, false, false, false, false, false, false, false, false, false, false, false, false, false, false] rfl rfl (any_of HT_.out (by kernel_rfl)) (fun _ _ _ h => h) (Or.inl ⟨by rfl, ?_⟩) ?_ ?_
                                            rotate_left
                                            ·intro w'
                                             go_simp
                                             with_reducible rfl
                                            rotate_left
                                            ·simp only [Act.put, List.setIfInBounds_toArray, List.set_cons_zero, List.set_cons_succ, i64_w, i32_w]
                                             rfl
                                            refine take_ (i := 5) (N := some 171) (v := ?_) (a' := ?_) #[true, true, true, true, true, true, false, false, false, false, true, true, true, true, false, false, false, false, false, false, false, false, false, false, false, false, false, false, false, false, false, false, false, false, false, false, false, false, false, false, false, false] rfl rfl (take_ofW HT_.out HW_.out (by kernel_rfl)) (fun _ _ _ h => h) (Or.inl ⟨by rfl, ?_⟩) hHeld ?_ ?_
                                            rotate_left
                                            ·rintro w' ⟨s0, s1, s2, s3, s4, s5, s6, s7, s8, s9, s10, s11⟩
                                             go_simp
                                             with_reducible rfl
                                            rotate_left
                                            ·simp only [Act.put, List.setIfInBounds_toArray, List.set_cons_zero, List.set_cons_succ, i64_w, i32_w]
                                             rfl
                                            refine pure_ (i := 6) (N := some 172) (v := ?_) (a' := ?_) #[true, true, true, true, true, true, true, false, false, false, true, true, true, true, false, false, false, false, false, false, false, false, false, false, false, false, false, false, false, false, false, false, false, false, false, false, false, false, false, false, false, false] rfl rfl (any_of HT_.out (by kernel_rfl)) (fun _ _ _ h => h) (Or.inl ⟨by rfl, ?_⟩) ?_ ?_
                                            rotate_left
                                            ·intro w'
                                             go_simp
                                             with_reducible rfl
                                            rotate_left
                                            ·simp only [Act.put, List.setIfInBounds_toArray, List.set_cons_zero, List.set_cons_succ, i64_w, i32_w]
                                             rfl
                                            refine take_ (i := 7) (N := some 173) (v := ?_) (a' := ?_) #[true, true, true, true, true, true, true, true, false, false, true, true, true, true, false, false, false, false, false, false, false, false, false, false, false, false, false, false, false, false, false, false, false, false, false, false, false, false, false, false, false, false] rfl rfl (take_ofW HT_.out HW_.out (by kernel_rfl)) (fun _ _ _ h => h) (Or.inl ⟨by rfl, ?_⟩) hHeld ?_ ?_
                                            rotate_left
                                            ·rintro w' ⟨s0, s1, s2, s3, s4, s5, s6, s7, s8, s9, s10, s11⟩
                                             go_simp
                                             with_reducible rfl
                                            rotate_left
                                            ·simp only [Act.put, List.setIfInBounds_toArray, List.set_cons_zero, List.set_cons_succ, i64_w, i32_w]
                                             rfl
                                            refine pure_ (i := 8) (N := some 174) (v := ?_) (a' := ?_) #[true, true, true, true, true, true, true, true, true, false, true, true, true, true, false, false, false, false, false, false, false, false, false, false, false, false, false, false, false, false, false, false, false, false, false, false, false, false, false, false, false, false] rfl rfl (any_of HT_.out (by kernel_rfl)) (fun _ _ _ h => h) (Or.inl ⟨by rfl, ?_⟩) ?_ ?_
                                            rotate_left
                                            ·intro w'
                                             go_simp
                                             with_reducible rfl
                                            rotate_left
                                            ·simp only [Act.put, List.setIfInBounds_toArray, List.set_cons_zero, List.set_cons_succ, i64_w, i32_w]
                                             rfl
                                            refine take_ (i := 9) (N := some 175) (v := ?_) (a' := ?_) #[true, true, true, true, true, true, true, true, true, true, true, true, true, true, false, false, false, false, false, false, false, false, false, false, false, false, false, false, false, false, false, false, false, false, false, false, false, false, false, false, false, false] rfl rfl (take_ofW HT_.out HW_.out (by kernel_rfl)) (fun _ _ _ h => h) (Or.inl ⟨by rfl, ?_⟩) hHeld ?_ ?_
                                            rotate_left
                                            ·rintro w' ⟨s0, s1, s2, s3, s4, s5, s6, s7, s8, s9, s10, s11⟩
                                             go_simp
                                             with_reducible rfl
                                            rotate_left
                                            ·simp only [Act.put, List.setIfInBounds_toArray, List.set_cons_zero, List.set_cons_succ, i64_w, i32_w]
                                             rfl
                                            refine take_ (i := 14) (N := some 180) (v := ?_) (a' := ?_) #[true, true, true, true, true, true, true, true, true, true, true, true, true, true, true, false, false, false, false, false, false, false, false, false, false, false, false, false, false, false, false, false, false, false, false, false, false, false, false, false, false, false] rfl rfl (take_ofW HT_.out HW_.out (by kernel_rfl)) (fun _ _ _ h => h) (Or.inl ⟨by rfl, ?_⟩) hHeld ?_ ?_
                                            rotate_left
                                            ·rintro w' ⟨s0, s1, s2, s3, s4, s5, s6, s7, s8, s9, s10, s11⟩
                                             go_simp
                                             with_reducible rfl
                                            rotate_left
                                            ·simp only [Act.put, List.setIfInBounds_toArray, List.set_cons_zero, List.set_cons_succ, i64_w, i32_w]
                                             rfl
                                            refine pure_ (i := 15) (N := some 181) (v := ?_) (a' := ?_) #[true, true, true, true, true, true, true, true, true, true, true, true, true, true, true, true, false, false, false, false, false, false, false, false, false, false, false, false, false, false, false, false, false, false, false, false, false, false, false, false, false, false] rfl rfl (any_of HT_.out (by kernel_rfl)) (fun _ _ _ h => h) (Or.inl ⟨by rfl, ?_⟩) ?_ ?_
                                            rotate_left
                                            ·intro w'
                                             go_simp
                                             with_reducible rfl
                                            rotate_left
                                            ·simp only [Act.put, List.setIfInBounds_toArray, List.set_cons_zero, List.set_cons_succ, i64_w, i32_w]
                                             rfl
                                            refine take_ (i := 16) (N := some 182) (v := ?_) (a' := ?_) #[true, true, true, true, true, true, true, true, true, true, true, true, true, true, true, true, true, false, false, false, false, false, false, false, false, false, false, false, false, false, false, false, false, false, false, false, false, false, false, false, false, false] rfl rfl (take_ofW HT_.out HW_.out (by kernel_rfl)) (fun _ _ _ h => h) (Or.inl ⟨by rfl, ?_⟩) hHeld ?_ ?_
                                            rotate_left
                                            ·rintro w' ⟨s0, s1, s2, s3, s4, s5, s6, s7, s8, s9, s10, s11⟩
                                             go_simp
                                             with_reducible rfl
                                            rotate_left
                                            ·simp only [Act.put, List.setIfInBounds_toArray, List.set_cons_zero, List.set_cons_succ, i64_w, i32_w]
                                             rfl
                                            refine pure_ (i := 17) (N := some 183) (v := ?_) (a' := ?_) #[true, true, true, true, true, true, true, true, true, true, true, true, true, true, true, true, true, true, false, false, false, false, false, false, false, false, false, false, false, false, false, false, false, false, false, false, false, false, false, false, false, false] rfl rfl (any_of HT_.out (by kernel_rfl)) (fun _ _ _ h => h) (Or.inl ⟨by rfl, ?_⟩) ?_ ?_
                                            rotate_left
                                            ·intro w'
                                             go_simp
                                             with_reducible rfl
                                            rotate_left
                                            ·simp only [Act.put, List.setIfInBounds_toArray, List.set_cons_zero, List.set_cons_succ, i64_w, i32_w]
                                             rfl
                                            refine take_ (i := 18) (N := some 184) (v := ?_) (a' := ?_) #[true, true, true, true, true, true, true, true, true, true, true, true, true, true, true, true, true, true, true, false, false, false, false, false, false, false, false, false, false, false, false, false, false, false, false, false, false, false, false, false, false, false] rfl rfl (take_ofW HT_.out HW_.out (by kernel_rfl)) (fun _ _ _ h => h) (Or.inl ⟨by rfl, ?_⟩) hHeld ?_ ?_
                                            rotate_left
                                            ·rintro w' ⟨s0, s1, s2, s3, s4, s5, s6, s7, s8, s9, s10, s11⟩
                                             go_simp
                                             with_reducible rfl
                                            rotate_left
                                            ·simp only [Act.put, List.setIfInBounds_toArray, List.set_cons_zero, List.set_cons_succ, i64_w, i32_w]
                                             rfl
                                            refine pure_ (i := 19) (N := some 185) (v := ?_) (a' := ?_) #[true, true, true, true, true, true, true, true, true, true, true, true, true, true, true, true, true, true, true, true, false, false, false, false, false, false, false, false, false, false, false, false, false, false, false, false, false, false, false, false, false, false] rfl rfl (any_of HT_.out (by kernel_rfl)) (fun _ _ _ h => h) (Or.inl ⟨by rfl, ?_⟩) ?_ ?_
                                            rotate_left
                                            ·intro w'
                                             go_simp
                                             with_reducible rfl
                                            rotate_left
                                            ·simp only [Act.put, List.setIfInBounds_toArray, List.set_cons_zero, List.set_cons_succ, i64_w, i32_w]
                                             rfl
                                            refine pure_ (i := 20) (N := some 186) (v := ?_) (a' := ?_) #[true, true, true, true, true, true, true, true, true, true, true, true, true, true, true, true, true, true, true, true, true, false, false, false, false, false, false, false, false, false, false, false, false, false, false, false, false, false, false, false, false, false] rfl rfl (any_of HT_.out (by kernel_rfl)) (fun _ _ _ h => h) (Or.inl ⟨by rfl, ?_⟩) ?_ ?_
                                            rotate_left
                                            ·intro w'
                                             go_simp
                                             with_reducible rfl
                                            rotate_left
                                            ·simp only [Act.put, List.setIfInBounds_toArray, List.set_cons_zero, List.set_cons_succ, i64_w, i32_w]
                                             rfl
                                            refine pure_ (i := 21) (N := some 187) (v := ?_) (a' := ?_) #[true, true, true, true, true, true, true, true, true, true, true, true, true, true, true, true, true, true, true, true, true, true, false, false, false, false, false, false, false, false, false, false, false, false, false, false, false, false, false, false, false, false] rfl rfl (any_of HT_.out (by kernel_rfl)) (fun _ _ _ h => h) (Or.inl ⟨by rfl, ?_⟩) ?_ ?_
                                            rotate_left
                                            ·intro w'
                                             go_simp
                                             with_reducible rfl
                                            rotate_left
                                            ·simp only [Act.put, List.setIfInBounds_toArray, List.set_cons_zero, List.set_cons_succ, i64_w, i32_w]
                                             rfl
                                            refine pure_ (i := 22) (N := some 188) (v := ?_) (a' := ?_) #[true, true, true, true, true, true, true, true, true, true, true, true, true, true, true, true, true, true, true, true, true, true, true, false, false, false, false, false, false, false, false, false, false, false, false, false, false, false, false, false, false, false] rfl rfl (any_of HT_.out (by kernel_rfl)) (fun _ _ _ h => h) (Or.inl ⟨by rfl, ?_⟩) ?_ ?_
                                            rotate_left
                                            ·intro w'
                                             go_simp
                                             with_reducible rfl
                                            rotate_left
                                            ·simp only [Act.put, List.setIfInBounds_toArray, List.set_cons_zero, List.set_cons_succ, i64_w, i32_w]
                                             rfl
                                            refine pure_ (i := 23) (N := some 189) (v := ?_) (a' := ?_) #[true, true, true, true, true, true, true, true, true, true, true, true, true, true, true, true, true, true, true, true, true, true, true, true, false, false, false, false, false, false, false, false, false, false, false, false, false, false, false, false, false, false] rfl rfl (any_of HT_.out (by kernel_rfl)) (fun _ _ _ h => h) (Or.inl ⟨by rfl, ?_⟩) ?_ ?_
                                            rotate_left
                                            ·intro w'
                                             go_simp
                                             with_reducible rfl
                                            rotate_left
                                            ·simp only [Act.put, List.setIfInBounds_toArray, List.set_cons_zero, List.set_cons_succ, i64_w, i32_w]
                                             rfl
                                            refine pure_ (i := 24) (N := some 190) (v := ?_) (a' := ?_) #[true, true, true, true, true, true, true, true, true, true, true, true, true, true, true, true, true, true, true, true, true, true, true, true, true, false, false, false, false, false, false, false, false, false, false, false, false, false, false, false, false, false] rfl rfl (any_of HT_.out (by kernel_rfl)) (fun _ _ _ h => h) (Or.inl ⟨by rfl, ?_⟩) ?_ ?_
                                            rotate_left
                                            ·intro w'
                                             go_simp
                                             with_reducible rfl
                                            rotate_left
                                            ·simp only [Act.put, List.setIfInBounds_toArray, List.set_cons_zero, List.set_cons_succ, i64_w, i32_w]
                                             rfl
                                            refine pure_ (i := 25) (N := some 191) (v := ?_) (a' := ?_) #[true, true, true, true, true, true, true, true, true, true, true, true, true, true, true, true, true, true, true, true, true, true, true, true, true, true, false, false, false, false, false, false, false, false, false, false, false, false, false, false, false, false] rfl rfl (any_of HT_.out (by kernel_rfl)) (fun _ _ _ h => h) (Or.inl ⟨by rfl, ?_⟩) ?_ ?_
                                            rotate_left
                                            ·intro w'
                                             go_simp
                                             with_reducible rfl
                                            rotate_left
                                            ·simp only [Act.put, List.setIfInBounds_toArray, List.set_cons_zero, List.set_cons_succ, i64_w, i32_w]
                                             rfl
                                            refine pure_ (i := 31) (N := some 197) (v := ?_) (a' := ?_) #[true, true, true, true, true, true, true, true, true, true, true, true, true, true, true, true, true, true, true, true, true, true, true, true, true, true, false, false, false, false, false, true, false, false, false, false, false, false, false, false, false, false] rfl rfl (any_of HT_.out (by kernel_rfl)) (fun _ _ _ h => h) (Or.inl ⟨by rfl, ?_⟩) ?_ ?_
                                            rotate_left
                                            ·intro w'
                                             go_simp
                                             with_reducible rfl
                                            rotate_left
                                            ·simp only [Act.put, List.setIfInBounds_toArray, List.set_cons_zero, List.set_cons_succ, i64_w, i32_w]
                                             rfl
                                            refine pure_ (i := 32) (N := some 198) (v := ?_) (a' := ?_) #[true, true, true, true, true, true, true, true, true, true, true, true, true, true, true, true, true, true, true, true, true, true, true, true, true, true, false, false, false, false, false, true, true, false, false, false, false, false, false, false, false, false] rfl rfl (any_of HT_.out (by kernel_rfl)) (fun _ _ _ h => h) (Or.inl ⟨by rfl, ?_⟩) ?_ ?_
                                            rotate_left
                                            ·intro w'
                                             go_simp
                                             with_reducible rfl
                                            rotate_left
                                            ·simp only [Act.put, List.setIfInBounds_toArray, List.set_cons_zero, List.set_cons_succ, i64_w, i32_w]
                                             rfl
                                            refine pure_ (i := 33) (N := some 199) (v := ?_) (a' := ?_) #[true, true, true, true, true, true, true, true, true, true, true, true, true, true, true, true, true, true, true, true, true, true, true, true, true, true, false, false, false, false, false, true, true, true, false, false, false, false, false, false, false, false] rfl rfl (any_of HT_.out (by kernel_rfl)) (fun _ _ _ h => h) (Or.inl ⟨by rfl, ?_⟩) ?_ ?_
                                            rotate_left
                                            ·intro w'
                                             go_simp
                                             with_reducible rfl
                                            rotate_left
                                            ·simp only [Act.put, List.setIfInBounds_toArray, List.set_cons_zero, List.set_cons_succ, i64_w, i32_w]
                                             rfl
                                            refine pure_ (i := 34) (N := some 200) (v := ?_) (a' := ?_) #[true, true, true, true, true, true, true, true, true, true, true, true, true, true, true, true, true, true, true, true, true, true, true, true, true, true, false, false, false, false, false, true, true, true, true, false, false, false, false, false, false, false] rfl rfl (any_of HT_.out (by kernel_rfl)) (fun _ _ _ h => h) (Or.inl ⟨by rfl, ?_⟩) ?_ ?_
                                            rotate_left
                                            ·intro w'
                                             go_simp
                                             with_reducible rfl
                                            rotate_left
                                            ·simp only [Act.put, List.setIfInBounds_toArray, List.set_cons_zero, List.set_cons_succ, i64_w, i32_w]
                                             rfl
                                            refine take_ (i := 26) (N := some 192) (v := ?_) (a' := ?_) #[true, true, true, true, true, true, true, true, true, true, true, true, true, true, true, true, true, true, true, true, true, true, true, true, true, true, true, false, false, false, false, true, true, true, true, false, false, false, false, false, false, false] rfl rfl (take_ofW HT_.out HW_.out (by kernel_rfl)) (fun _ _ _ h => h) (Or.inl ⟨by rfl, ?_⟩) hHeld ?_ ?_
                                            rotate_left
                                            ·rintro w' ⟨s0, s1, s2, s3, s4, s5, s6, s7, s8, s9, s10, s11⟩
                                             go_simp
                                             with_reducible rfl
                                            rotate_left
                                            ·simp only [Act.put, List.setIfInBounds_toArray, List.set_cons_zero, List.set_cons_succ, i64_w, i32_w]
                                             rfl
                                            refine pure_ (i := 27) (N := some 193) (v := ?_) (a' := ?_) #[true, true, true, true, true, true, true, true, true, true, true, true, true, true, true, true, true, true, true, true, true, true, true, true, true, true, true, true, false, false, false, true, true, true, true, false, false, false, false, false, false, false] rfl rfl (any_of HT_.out (by kernel_rfl)) (fun _ _ _ h => h) (Or.inl ⟨by rfl, ?_⟩) ?_ ?_
                                            rotate_left
                                            ·intro w'
                                             go_simp
                                             with_reducible rfl
                                            rotate_left
                                            ·simp only [Act.put, List.setIfInBounds_toArray, List.set_cons_zero, List.set_cons_succ, i64_w, i32_w]
                                             rfl
                                            refine take_ (i := 28) (N := some 194) (v := ?_) (a' := ?_) #[true, true, true, true, true, true, true, true, true, true, true, true, true, true, true, true, true, true, true, true, true, true, true, true, true, true, true, true, true, false, false, true, true, true, true, false, false, false, false, false, false, false] rfl rfl (take_ofW HT_.out HW_.out (by kernel_rfl)) (fun _ _ _ h => h) (Or.inl ⟨by rfl, ?_⟩) hHeld ?_ ?_
                                            rotate_left
                                            ·rintro w' ⟨s0, s1, s2, s3, s4, s5, s6, s7, s8, s9, s10, s11⟩
                                             go_simp
                                             with_reducible rfl
                                            rotate_left
                                            ·simp only [Act.put, List.setIfInBounds_toArray, List.set_cons_zero, List.set_cons_succ, i64_w, i32_w]
                                             rfl
                                            refine pure_ (i := 29) (N := some 195) (v := ?_) (a' := ?_) #[true, true, true, true, true, true, true, true, true, true, true, true, true, true, true, true, true, true, true, true, true, true, true, true, true, true, true, true, true, true, false, true, true, true, true, false, false, false, false, false, false, false] rfl rfl (any_of HT_.out (by kernel_rfl)) (fun _ _ _ h => h) (Or.inl ⟨by rfl, ?_⟩) ?_ ?_
                                            rotate_left
                                            ·intro w'
                                             go_simp
                                             with_reducible rfl
                                            rotate_left
                                            ·simp only [Act.put, List.setIfInBounds_toArray, List.set_cons_zero, List.set_cons_succ, i64_w, i32_w]
                                             rfl
                                            refine take_ (i := 30) (N := some 196) (v := ?_) (a' := ?_) #[true, true, true, true, true, true, true, true, true, true, true, true, true, true, true, true, true, true, true, true, true, true, true, true, true, true, true, true, true, true, true, true, true, true, true, false, false, false, false, false, false, false] rfl rfl (take_ofW HT_.out HW_.out (by kernel_rfl)) (fun _ _ _ h => h) (Or.inl ⟨by rfl, ?_⟩) hHeld ?_ ?_
                                            rotate_left
                                            ·rintro w' ⟨s0, s1, s2, s3, s4, s5, s6, s7, s8, s9, s10, s11⟩
                                             go_simp
                                             with_reducible rfl
                                            rotate_left
                                            ·simp only [Act.put, List.setIfInBounds_toArray, List.set_cons_zero, List.set_cons_succ, i64_w, i32_w]
                                             rfl
                                            refine take_ (i := 35) (N := some 201) (v := ?_) (a' := ?_) #[true, true, true, true, true, true, true, true, true, true, true, true, true, true, true, true, true, true, true, true, true, true, true, true, true, true, true, true, true, true, true, true, true, true, true, true, false, false, false, false, false, false] rfl rfl (take_ofW HT_.out HW_.out (by kernel_rfl)) (fun _ _ _ h => h) (Or.inl ⟨by rfl, ?_⟩) hHeld ?_ ?_
                                            rotate_left
                                            ·rintro w' ⟨s0, s1, s2, s3, s4, s5, s6, s7, s8, s9, s10, s11⟩
                                             go_simp
                                             with_reducible rfl
                                            rotate_left
                                            ·simp only [Act.put, List.setIfInBounds_toArray, List.set_cons_zero, List.set_cons_succ, i64_w, i32_w]
                                             rfl
                                            refine pure_ (i := 36) (N := some 202) (v := ?_) (a' := ?_) #[true, true, true, true, true, true, true, true, true, true, true, true, true, true, true, true, true, true, true, true, true, true, true, true, true, true, true, true, true, true, true, true, true, true, true, true, true, false, false, false, false, false] rfl rfl (any_of HT_.out (by kernel_rfl)) (fun _ _ _ h => h) (Or.inl ⟨by rfl, ?_⟩) ?_ ?_
                                            rotate_left
                                            ·intro w'
                                             go_simp
                                             with_reducible rfl
                                            rotate_left
                                            ·simp only [Act.put, List.setIfInBounds_toArray, List.set_cons_zero, List.set_cons_succ, i64_w, i32_w]
                                             rfl
                                            refine take_ (i := 37) (N := some 203) (v := ?_) (a' := ?_) #[true, true, true, true, true, true, true, true, true, true, true, true, true, true, true, true, true, true, true, true, true, true, true, true, true, true, true, true, true, true, true, true, true, true, true, true, true, true, false, false, false, false] rfl rfl (take_ofW HT_.out HW_.out (by kernel_rfl)) (fun _ _ _ h => h) (Or.inl ⟨by rfl, ?_⟩) hHeld ?_ ?_
                                            rotate_left
                                            ·rintro w' ⟨s0, s1, s2, s3, s4, s5, s6, s7, s8, s9, s10, s11⟩
                                             go_simp
                                             with_reducible rfl
                                            rotate_left
                                            ·simp only [Act.put, List.setIfInBounds_toArray, List.set_cons_zero, List.set_cons_succ, i64_w, i32_w]
                                             rfl
                                            refine pure_ (i := 38) (N := some 204) (v := ?_) (a' := ?_) #[true, true, true, true, true, true, true, true, true, true, true, true, true, true, true, true, true, true, true, true, true, true, true, true, true, true, true, true, true, true, true, true, true, true, true, true, true, true, true, false, false, false] rfl rfl (any_of HT_.out (by kernel_rfl)) (fun _ _ _ h => h) (Or.inl ⟨by rfl, ?_⟩) ?_ ?_
                                            rotate_left
                                            ·intro w'
                                             go_simp
                                             with_reducible rfl
                                            rotate_left
                                            ·simp only [Act.put, List.setIfInBounds_toArray, List.set_cons_zero, List.set_cons_succ, i64_w, i32_w]
                                             rfl
                                            refine take_ (i := 39) (N := some 205) (v := ?_) (a' := ?_) #[true, true, true, true, true, true, true, true, true, true, true, true, true, true, true, true, true, true, true, true, true, true, true, true, true, true, true, true, true, true, true, true, true, true, true, true, true, true, true, true, false, false] rfl rfl (take_ofW HT_.out HW_.out (by kernel_rfl)) (fun _ _ _ h => h) (Or.inl ⟨by rfl, ?_⟩) hHeld ?_ ?_
                                            rotate_left
                                            ·rintro w' ⟨s0, s1, s2, s3, s4, s5, s6, s7, s8, s9, s10, s11⟩
                                             go_simp
                                             with_reducible rfl
                                            rotate_left
                                            ·simp only [Act.put, List.setIfInBounds_toArray, List.set_cons_zero, List.set_cons_succ, i64_w, i32_w]
                                             rfl
                                            refine pure_ (i := 40) (N := some 206) (v := ?_) (a' := ?_) #[true, true, true, true, true, true, true, true, true, true, true, true, true, true, true, true, true, true, true, true, true, true, true, true, true, true, true, true, true, true, true, true, true, true, true, true, true, true, true, true, true, false] rfl rfl (any_of HT_.out (by kernel_rfl)) (fun _ _ _ h => h) (Or.inl ⟨by rfl, ?_⟩) ?_ ?_
                                            rotate_left
                                            ·intro w'
                                             go_simp
                                             with_reducible rfl
                                            rotate_left
                                            ·simp only [Act.put, List.setIfInBounds_toArray, List.set_cons_zero, List.set_cons_succ, i64_w, i32_w]
                                             rfl
                                            refine pure_ (i := 41) (N := some 207) (v := ?_) (a' := ?_) #[true, true, true, true, true, true, true, true, true, true, true, true, true, true, true, true, true, true, true, true, true, true, true, true, true, true, true, true, true, true, true, true, true, true, true, true, true, true, true, true, true, true] rfl rfl (any_of HT_.out (by kernel_rfl)) (fun _ _ _ h => h) (Or.inl ⟨by rfl, ?_⟩) ?_ ?_
                                            rotate_left
                                            ·intro w'
                                             go_simp
                                             with_reducible rfl
                                            rotate_left
                                            ·simp only [Act.put, List.setIfInBounds_toArray, List.set_cons_zero, List.set_cons_succ, i64_w, i32_w]
                                             rfl
                                            refine done_ (done_of HT_.out (by kernel_rfl)) ?_
                                            try go_wp2
                                            go_roundg k3
                                            case measure => have := HJ31.out; have := HK2.out; have := HK3.out; omega
                                            case rel => exact ⟨(wrap64 (x15_3 + 1)), (by first | rfl | (simp; done) | (simp [*]; done)), H', ⟨by have := HJ31.out; have := HK2.out; have := HK3.out; omega⟩, ⟨by (with_reducible repeat (first | apply Kd.N_alloc | apply Kd.N_drewN | apply Kd.N_drew)); exact HO_3.out⟩, ⟨by (with_reducible repeat (first | apply Kd.R_alloc | apply Kd.R_drewN | apply Kd.R_drew)); exact HO_5.out⟩, ⟨by (with_reducible repeat (first | apply Kd.R_alloc | apply Kd.R_drewN | apply Kd.R_drew)); exact HO_6.out⟩, ⟨by repeat (first | (with_reducible first | exact HB.out | apply below_alloc | apply pw_below_drewN | apply below_drew1) | exact HB.out)⟩⟩
                                         ·rw [if_neg c98] at H
                                          exact absurd H (by simp)
                                        ·rw [if_neg c97] at H
                                         exact absurd H (by simp)
                                       ·rw [if_neg c96] at H
                                        exact absurd H (by simp)
                                      ·rw [if_neg c95] at H
                                       exact absurd H (by simp)
                                     ·rw [if_neg c94] at H
                                      exact absurd H (by simp)
                                    ·rw [if_neg c93] at H
                                     exact absurd H (by simp)
                                   ·rw [if_neg c92] at H
                                    exact absurd H (by simp)
                                  ·rw [if_neg c91] at H
                                   exact absurd H (by simp)
                                ·rw [if_neg c89] at H
                                 exact absurd H (by simp)
                               ·rw [if_neg c88] at H
                                exact absurd H (by simp)
                              ·rw [if_neg c87] at H
                               exact absurd H (by simp)
                             ·rw [if_neg c86] at H
                              exact absurd H (by simp)
                            ·rw [if_neg c85] at H
                             exact absurd H (by simp)
                           ·rw [if_neg c84] at H
                            exact absurd H (by simp)
                          ·rw [if_neg c83] at H
                           exact absurd H (by simp)
                         ·rw [if_neg c82] at H
                          exact absurd H (by simp)
                        ·rw [if_neg c81] at H
                         exact absurd H (by simp)
                       ·rw [if_neg c80] at H
                        exact absurd H (by simp)
                      ·rw [if_neg c78] at H
                       have c78b0 : decide (x15_3 < (t654.length : Int)) = false := decide_eq_false c78
                       clear c78
                       have HC101 := Aside0.mk H
                       clear H
                       go_upto_region 28 with (fail)
                       go_cut [213] (fun v213 wc => ∃ (kq : Nat) (x213_100 : Bool), v213 = .bool x213_100 ∧ Aside0 (laws_FnDays.j3 kq t654 t657 t672 x213_100 = some r) ∧ Aside0 (kq ≤ k3) ∧ Aside0 (Kd.N (Kd.slice 3 (Kd.int .i64)) 27 wc w.heap.size (fun k_ => some k_ ≠ ((.slice Ao38 t657.length co38) : Value).ownBlock) (.slice Ao34 t654.length co34) t654) ∧ Aside0 (Kd.R (Kd.int .i64) 3 wc w.heap.size (fun _ => True) (.slice Ao38 t657.length co38) t657) ∧ Aside0 (Below w.heap.size w wc))
                       case first =>
                        have H := HC101.out
                        clear HC101
                        by_cases c102 : t672 < 0
                        ·rw [if_pos c102] at H
                         have c102b0 : decide (t672 < 0) = true := decide_eq_true c102
                         clear c102
                         (first | rw [c102b0] | (simp only [i64_w, i32_w]; rw [c102b0]) | skip)
                         as_aux_lemma =>
                          have H' := Aside0.mk H
                          clear H
                          go_wp2
                          go_meet
                          case rel => exact ⟨_, (true), (by first | rfl | (simp; done) | (simp [*]; done)), H', ⟨by have := HJ31.out; have := HK2.out; have := HK3.out; first | omega | exact Nat.le_refl _⟩, ⟨by (with_reducible repeat (first | apply Kd.N_alloc | apply Kd.N_drewN | apply Kd.N_drew)); exact Kd.N_mono HO_3.out (fun _ hk => hk.1)⟩, ⟨by (with_reducible repeat (first | apply Kd.R_alloc | apply Kd.R_drewN | apply Kd.R_drew)); exact Kd.R_mono HO_5.out (fun _ hk => trivial)⟩, ⟨by repeat (first | (with_reducible first | exact HB.out | apply below_alloc | apply pw_below_drewN | apply below_drew1) | exact HB.out)⟩⟩
                        ·rw [if_neg c102] at H
                         have c102b0 : decide (t672 < 0) = false := decide_eq_false c102
                         clear c102
                         (first | rw [c102b0] | (simp only [i64_w, i32_w]; rw [c102b0]) | skip)
                         as_aux_lemma =>
                          have H' := Aside0.mk H
                          clear H
                          go_wp2
                          go_meet
                          case rel => exact ⟨_, (((t654.length : Int) == 0)), (by first | rfl | (simp; done) | (simp [*]; done)), H', ⟨by have := HJ31.out; have := HK2.out; have := HK3.out; first | omega | exact Nat.le_refl _⟩, ⟨by (with_reducible repeat (first | apply Kd.N_alloc | apply Kd.N_drewN | apply Kd.N_drew)); exact Kd.N_mono HO_3.out (fun _ hk => hk.1)⟩, ⟨by (with_reducible repeat (first | apply Kd.R_alloc | apply Kd.R_drewN | apply Kd.R_drew)); exact Kd.R_mono HO_5.out (fun _ hk => trivial)⟩, ⟨by repeat (first | (with_reducible first | exact HB.out | apply below_alloc | apply pw_below_drewN | apply below_drew1) | exact HB.out)⟩⟩
                       case rest =>
                        clear HC101
                        try clear c1
                        try clear p2
                        try clear c6
                        try clear p6
                        try clear q6
                        try clear hx6
                        try clear qi6
                        try clear c7
                        try clear p7
                        try clear q7
                        try clear hx7
                        try clear qi7
                        try clear c8
                        try clear c9
                        try clear c10
                        try clear p64
                        try clear c69
                        try clear p69
                        try clear q69
                        try clear hx69
                        try clear qi69
                        try clear c70
                        try clear p70
                        try clear q70
                        try clear hx70
                        try clear qi70
                        try clear c78
                        try clear c78b0
                        try clear c80
                        try clear c81
                        try clear c82
                        try clear c83
                        try clear c84
                        try clear c85
                        try clear c86
                        try clear c87
                        try clear c88
                        try clear c89
                        try clear c91
                        try clear c92
                        try clear c93
                        try clear c93b0
                        try clear c94
                        try clear c94b0
                        try clear c94b1
                        try clear c95
                        try clear c95b0
                        try clear c96
                        try clear c96b0
                        try clear c97
                        try clear c97b0
                        try clear c98
                        try clear c98b0
                        try clear c98b1
                        try clear c99
                        try clear c99b0
                        try clear c102
                        try clear c102b0
                        try clear hx697_0
                        try clear hx698_0
                        try clear hx699_0
                        try clear hx700_0
                        try clear hx701_0
                        try clear hx702_0
                        try clear hx703_0
                        try clear hx704_0
                        try clear hx705_0
                        try clear hx706_0
                        try clear hx707_0
                        try clear hx708_0
                        try clear p697
                        try clear p698
                        try clear p699
                        try clear p700
                        try clear p701
                        try clear p702
                        try clear p703
                        try clear p704
                        try clear p705
                        try clear p706
                        try clear p707
                        try clear p708
                        try clear q697
                        try clear q698
                        try clear q699
                        try clear q700
                        try clear q701
                        try clear q702
                        try clear q703
                        try clear q704
                        try clear q705
                        try clear q706
                        try clear q707
                        try clear q708
                        obtain ⟨kq, x213_100, rfl, HA, HJ100, HO_3, HO_5, HB⟩ := hcut
                        cases kq with
                        | zero => exact absurd HA.out (by simp [laws_FnDays.j3])
                        | succ kj100 =>
                         have H := HA.out
                         clear HA
                         simp only [laws_FnDays.j3] at H
                         by_cases c103 : x213_100 = true
                         ·subst c103
                          have H1 : (some true) = some r := by rw [if_pos rfl] at H; exact H
                          clear H
                          have H := H1
                          clear H1
                          as_aux_lemma =>
                           obtain rfl := Option.some.inj H
                           go_wp2
                           go_ret
                           exact ⟨by first | rfl | (simp [errW_none, errW_some] <;> rfl) | (simp [*, errW_none, errW_some] <;> rfl), by repeat (first | (with_reducible first | exact HB.out | apply below_alloc | apply pw_below_drewN | apply below_drew1) | exact HB.out)⟩
                         ·replace c103 := Bool.eq_false_iff.mpr c103
                          subst c103
                          have H1 : (laws_FnDays.l2 kj100 t657 t672 (([] : List (List Int))) t654 (t654.length : Int) 0) = some r := by rw [if_neg (show ¬ (false = true) by decide)] at H; exact H
                          clear H
                          have H := H1
                          clear H1
                          obtain ⟨y709, hy709⟩ : ∃ y_ : List (List Int), y_ = (([] : List (List Int))) := ⟨_, rfl⟩
                          replace H : (laws_FnDays.l2 kj100 t657 t672 y709 t654 (t654.length : Int) 0) = some r := by first | (rw [hy709]; with_reducible exact H) | (have H2_ := (Option.bind_some _ _).symm.trans H; rw [hy709]; with_reducible exact H2_) | (have H2_ := (Option.bind_some _ _).symm.trans H; with_reducible exact H2_) | with_reducible exact H | (rw [hy709]; exact H) | exact H
                          have Ny709 := Aside0.mk hy709
                          clear hy709
                          have H' := Aside0.mk H
                          clear H
                          go_wp2_with (first | ((with_reducible refine gate_dst (N := 214) rfl ?_); (try (refine gate_guard (by rfl) ?_; dsimp only)); refine Kd.N_lit (Kd.slice 3 (Kd.int .i64)) _ 27 ?hg (N' := 214) ?hd (xs := ([] : List (List Int))) (inner := []) (ok := (fun k_ => some k_ ≠ (.slice Ao34 t654.length co34 : Value).ownBlock ∧ some k_ ≠ (.slice Ao38 t657.length co38 : Value).ownBlock)) (okp := (fun k_ => some k_ ≠ (.slice Ao34 t654.length co34 : Value).ownBlock ∧ some k_ ≠ (.slice Ao38 t657.length co38 : Value).ownBlock)) ?hr ?hp (fun _ hk => hk) ((show ∀ k_, wc.heap.size ≤ k_ → (fun k_ => some k_ ≠ (.slice Ao34 t654.length co34 : Value).ownBlock ∧ some k_ ≠ (.slice Ao38 t657.length co38 : Value).ownBlock) k_ from fun k_ hk => ⟨Kd.fresh' (Kd.N_lt (by (with_reducible repeat (first | apply Kd.N_alloc | apply Kd.N_drewN | apply Kd.N_drew)); exact HO_3.out)) k_ hk, Kd.fresh' (Kd.R_lt (by (with_reducible repeat (first | apply Kd.R_alloc | apply Kd.R_drewN | apply Kd.R_drew)); exact HO_5.out)) k_ hk⟩) _ (Nat.le_refl _)) (Below.refl _ _) (Nat.le_refl _) (by simp) ?_; (case hd => rfl); (case hg => rfl); (case hr => first | (go_simp; done) | (go_simp; rfl)); (case hp => exact (Reps.none _ _)); intro v710 w104 ho105 hb hg_ hnew_; clear hg_ hnew_; (first | rw [← Ny709.out] at ho105 | (simp only [Int.reduceToNat] at ho105; rw [← Ny709.out] at ho105)); have n0_ := Aside0.mk (Kd.N_elder' (by (with_reducible repeat (first | apply Kd.N_alloc | apply Kd.N_drewN | apply Kd.N_drew)); exact HO_3.out) (Kd.N_base ho105) hb); have n1_ := Aside0.mk (Kd.R_below (by (with_reducible repeat (first | apply Kd.R_alloc | apply Kd.R_drewN | apply Kd.R_drew)); exact HO_5.out) hb); have n2_ := Aside0.mk (Kd.N_lower ho105 (below_size (by repeat (first | (with_reducible first | exact HB.out | apply below_alloc | apply pw_below_drewN | apply below_drew1) | exact HB.out)))); have n3_ := Aside0.mk (below_step (by repeat (first | (with_reducible first | exact HB.out | apply below_alloc | apply pw_below_drewN | apply below_drew1) | exact HB.out)) hb); clear HO_3; clear HO_5; clear HB; have HO_3 := n0_; have HO_5 := n1_; have HO711 := n2_; have HB := n3_; clear n0_ n1_ n2_ n3_; clear hb ho105))
                          (try generalize decide (0 ≤ t672) = bz_t672)
                          go_loopg [16, 217] kj100 (fun kq v16 v217 w' => ∃ (x16_5 : List (List Int)) (x217_5 : Int), v217 = .int .i64 x217_5 ∧ Aside0 (laws_FnDays.l2 kq t657 t672 x16_5 t654 (t654.length : Int) x217_5 = some r) ∧ Aside0 (kq ≤ kj100) ∧ Aside0 (Kd.R (Kd.int .i64) 3 w' w.heap.size (fun _ => True) (.slice Ao38 t657.length co38) t657) ∧ Aside0 (Kd.N (Kd.slice 3 (Kd.int .i64)) 27 w' w.heap.size (fun k_ => some k_ ≠ ((.slice Ao38 t657.length co38) : Value).ownBlock ∧ some k_ ≠ ((.slice Ao34 t654.length co34) : Value).ownBlock) v16 x16_5) ∧ Aside0 (Kd.N (Kd.slice 3 (Kd.int .i64)) 27 w' w.heap.size (fun k_ => some k_ ≠ ((.slice Ao38 t657.length co38) : Value).ownBlock ∧ some k_ ≠ (v16 : Value).ownBlock) (.slice Ao34 t654.length co34) t654) ∧ Aside0 (Below w.heap.size w w'))
                          case atStart => exact ⟨(y709), (0), (by first | rfl | (simp; done) | (simp [*]; done)), H', ⟨Nat.le_refl _⟩, ⟨by (with_reducible repeat (first | apply Kd.R_alloc | apply Kd.R_drewN | apply Kd.R_drew)); exact HO_5.out⟩, ⟨by (with_reducible repeat (first | apply Kd.N_alloc | apply Kd.N_drewN | apply Kd.N_drew)); exact Kd.N_mono HO711.out (fun _ hk => ⟨hk.2, hk.1⟩)⟩, ⟨by (with_reducible repeat (first | apply Kd.N_alloc | apply Kd.N_drewN | apply Kd.N_drew)); exact HO_3.out⟩, ⟨by repeat (first | (with_reducible first | exact HB.out | apply below_alloc | apply pw_below_drewN | apply below_drew1) | exact HB.out)⟩⟩
                          case round =>
                           clear H'
                           try clear c1
                           try clear p2
                           try clear c6
                           try clear p6
                           try clear q6
                           try clear hx6
                           try clear qi6
                           try clear c7
                           try clear p7
                           try clear q7
                           try clear hx7
                           try clear qi7
                           try clear c8
                           try clear c9
                           try clear c10
                           try clear p64
                           try clear c69
                           try clear p69
                           try clear q69
                           try clear hx69
                           try clear qi69
                           try clear c70
                           try clear p70
                           try clear q70
                           try clear hx70
                           try clear qi70
                           try clear c78
                           try clear c78b0
                           try clear c80
                           try clear c81
                           try clear c82
                           try clear c83
                           try clear c84
                           try clear c85
                           try clear c86
                           try clear c87
                           try clear c88
                           try clear c89
                           try clear c91
                           try clear c92
                           try clear c93
                           try clear c93b0
                           try clear c94
                           try clear c94b0
                           try clear c94b1
                           try clear c95
                           try clear c95b0
                           try clear c96
                           try clear c96b0
                           try clear c97
                           try clear c97b0
                           try clear c98
                           try clear c98b0
                           try clear c98b1
                           try clear c99
                           try clear c99b0
                           try clear c102
                           try clear c102b0
                           try clear c103
                           try clear hx697_0
                           try clear hx698_0
                           try clear hx699_0
                           try clear hx700_0
                           try clear hx701_0
                           try clear hx702_0
                           try clear hx703_0
                           try clear hx704_0
                           try clear hx705_0
                           try clear hx706_0
                           try clear hx707_0
                           try clear hx708_0
                           try clear p2
                           try clear p6
                           try clear p64
                           try clear p69
                           try clear p697
                           try clear p698
                           try clear p699
                           try clear p7
                           try clear p70
                           try clear p700
                           try clear p701
                           try clear p702
                           try clear p703
                           try clear p704
                           try clear p705
                           try clear p706
                           try clear p707
                           try clear p708
                           try clear q6
                           try clear q69
                           try clear q697
                           try clear q698
                           try clear q699
                           try clear q7
                           try clear q70
                           try clear q700
                           try clear q701
                           try clear q702
                           try clear q703
                           try clear q704
                           try clear q705
                           try clear q706
                           try clear q707
                           try clear q708
                           obtain ⟨x16_5, x217_5, rfl, HA, HK5, HO_5, HO_16, HO_215, HB⟩ := hrel
                           cases gk with
                           | zero => exact absurd HA.out (by simp [laws_FnDays.l2])
                           | succ k5 =>
                            have H := HA.out
                            clear HA
                            simp only [laws_FnDays.l2] at H
                            by_cases c106 : x217_5 < (t654.length : Int)
                            ·rw [if_pos c106] at H
                             have c106b0 : decide (x217_5 < (t654.length : Int)) = true := decide_eq_true c106
                             clear c106
                             by_cases c107 : 0 ≤ x217_5
                             ·rw [if_pos c107] at H
                              have c107b0 : decide (0 ≤ x217_5) = true := decide_eq_true c107
                              clear c107
                              by_cases c108 : x217_5 < (t654.length : Int)
                              ·rw [if_pos c108] at H
                               have c108b0 : decide (x217_5 < (t654.length : Int)) = true := decide_eq_true c108
                               clear c108
                               by_cases c109 : 0 < ((rd_L1 t654 x217_5).length : Int)
                               ·rw [if_pos c109] at H
                                have c109b0 : decide (0 < ((rd_L1 t654 x217_5).length : Int)) = true := decide_eq_true c109
                                have c109b1 : decide (0 < (rd_L1 t654 x217_5).length) = true := decide_eq_true (by omega)
                                clear c109
                                by_cases c110 : 1 < ((rd_L1 t654 x217_5).length : Int)
                                ·rw [if_pos c110] at H
                                 have c110b0 : decide (1 < ((rd_L1 t654 x217_5).length : Int)) = true := decide_eq_true c110
                                 have c110b1 : decide (1 < (rd_L1 t654 x217_5).length) = true := decide_eq_true (by omega)
                                 clear c110
                                 obtain ⟨y715, hy715⟩ : ∃ y_ : List Int, y_ = (([rd (rd_L1 t654 x217_5) 0, wrap64 ((rd (rd_L1 t654 x217_5) 1) - t672)] : List Int)) := ⟨_, rfl⟩
                                 replace H : (if x16_5.length < 5864062014805 then (laws_FnDays.l2 k5 t657 t672 (x16_5 ++ [y715]) t654 (t654.length : Int) (wrap64 (x217_5 + 1))) else (none)) = some r := by first | (rw [hy715]; with_reducible exact H) | (have H2_ := (Option.bind_some _ _).symm.trans H; rw [hy715]; with_reducible exact H2_) | (have H2_ := (Option.bind_some _ _).symm.trans H; with_reducible exact H2_) | with_reducible exact H | (rw [hy715]; exact H) | exact H
                                 have Ny715 := Aside0.mk hy715
                                 clear hy715
                                 by_cases c111 : x16_5.length < 5864062014805
                                 ·rw [if_pos c111] at H
                                  have LMc111 := Aside0.mk c111
                                  clear c111
                                  obtain ⟨y718, hy718⟩ : ∃ y_ : List (List Int), y_ = (x16_5 ++ [y715]) := ⟨_, rfl⟩
                                  replace H : (laws_FnDays.l2 k5 t657 t672 y718 t654 (t654.length : Int) (wrap64 (x217_5 + 1))) = some r := by first | (rw [hy718]; with_reducible exact H) | (have H2_ := (Option.bind_some _ _).symm.trans H; rw [hy718]; with_reducible exact H2_) | (have H2_ := (Option.bind_some _ _).symm.trans H; with_reducible exact H2_) | with_reducible exact H | (rw [hy718]; exact H) | exact H
                                  have Ny718 := Aside0.mk hy718
                                  clear hy718
                                  as_aux_lemma =>
                                   have H' := Aside0.mk H
                                   clear H
                                   have p712 : 0 ≤ (x217_5 : Int) := of_decide_eq_true (by first | (with_reducible assumption) | assumption)
                                   have q712 : x217_5 < (t654.length : Int) := of_decide_eq_true (by first | (with_reducible assumption) | assumption)
                                   obtain ⟨ad712, A712_0, c712_0, e712, hx712_0, hl712_0, hi712_0⟩ := at_L1 (Kd.N_reads' HO_215.out).2.2 x217_5 p712 q712
                                   cases e712
                                   obtain ⟨ce712, hce712, hMe712, hcc712⟩ := Kd.N_get HO_215.out [] x217_5 p712 (by first | exact q712 | exact of_decide_eq_true (by first | (with_reducible assumption) | assumption) | (have e_ := (Kd.N_reads' HO_215.out).1; omega))
                                   obtain ⟨ua712_0, uc712_0, rfl, ul712_0, ge712_0⟩ := Kd.FK_slice_open hMe712
                                   have hv712_0 := hcc712 0 _ rfl
                                   rw [Nat.add_zero, show ((Kd.slice 3 (Kd.int .i64))).sz = 1 from rfl, Nat.mul_one] at hv712_0
                                   replace hv712_0 := Option.some.inj (hv712_0.symm.trans hx712_0)
                                   injection hv712_0 with hva_ hvn_ hvc_
                                   rw [hva_] at ge712_0
                                   rw [hvc_] at ul712_0
                                   have HL712_0 := Aside0.mk (show Kd.V (Kd.int .i64) 3 _ w.heap.size _ _ (rd_L1 t654 x217_5) from Kd.V_mk ul712_0 ge712_0)
                                   clear hva_ hvn_ hvc_ ge712_0 ul712_0
                                   clear hcc712 hce712
                                   have HR712_0 := Aside0.mk hi712_0
                                   have HC712_0 := Aside0.mk hl712_0
                                   clear hi712_0 hl712_0
                                   replace p712 := eq_true p712
                                   replace q712 := eq_true q712
                                   try go_wp2
                                   have n0_ := Aside0.mk (Kd.R_drew HO_5.out)
                                   have n1_ := Aside0.mk (Kd.N_drew HO_16.out)
                                   have n2_ := Aside0.mk (Kd.N_drew HO_215.out)
                                   have n3_ := Aside0.mk (Kd.V_drew HL712_0.out)
                                   have n4_ := Aside0.mk (Kd.C_drew HR712_0.out)
                                   have n5_ := Aside0.mk (below_drew1 HB.out)
                                   clear HO_5
                                   clear HO_16
                                   clear HO_215
                                   clear HL712_0
                                   clear HR712_0
                                   clear HB
                                   have HO_5 := n0_
                                   have HO_16 := n1_
                                   have HO_215 := n2_
                                   have HL712_0 := n3_
                                   have HR712_0 := n4_
                                   have HB := n5_
                                   clear n0_ n1_ n2_ n3_ n4_ n5_
                                   have p713 : 0 ≤ (0 : Int) := (by omega)
                                   have q713 : 0 < ((rd_L1 t654 x217_5).length : Int) := of_decide_eq_true (by first | (with_reducible assumption) | assumption)
                                   obtain ⟨ad713, e713, hx713_0⟩ := Kd.at_int (by repeat (first | (with_reducible exact HR712_0.out) | (with_reducible refine Kd.C_alloc ?_ _) | (with_reducible refine Kd.C_drewN ?_ _) | (with_reducible refine Kd.C_drew ?_) | exact HR712_0.out)) 0 p713 q713
                                   cases e713
                                   have qi713 : (0 < (rd_L1 t654 x217_5).length) = True := eq_true (by omega)
                                   (try rw [show ((0 : Int)).toNat = 0 from rfl] at hx713_0)
                                   (try rw [Addr.add_zero'] at hx713_0)
                                   replace p713 := eq_true p713
                                   replace q713 := eq_true q713
                                   have p714 : 0 ≤ (1 : Int) := (by omega)
                                   have q714 : 1 < ((rd_L1 t654 x217_5).length : Int) := of_decide_eq_true (by first | (with_reducible assumption) | assumption)
                                   obtain ⟨ad714, e714, hx714_0⟩ := Kd.at_int (by repeat (first | (with_reducible exact HR712_0.out) | (with_reducible refine Kd.C_alloc ?_ _) | (with_reducible refine Kd.C_drewN ?_ _) | (with_reducible refine Kd.C_drew ?_) | exact HR712_0.out)) 1 p714 q714
                                   obtain rfl : ad713 = ad714 := (by injection e714)
                                   (try simp only [show (1 : Int).toNat = 1 from rfl, Nat.reduceMul, Nat.reduceEqDiff, Go.Addr.add, ↓reduceIte] at hx714_0)
                                   have qi714 : (1 < (rd_L1 t654 x217_5).length) = True := eq_true (by omega)
                                   (try rw [show ((1 : Int)).toNat = 1 from rfl] at hx714_0)
                                   replace p714 := eq_true p714
                                   replace q714 := eq_true q714
                                   refine start_ (n := 13) (S := fun w' => w'.cell? ad713 = some (.int .i64 (rd (rd_L1 t654 x217_5) 0)) ∧ w'.cell? ⟨ad713.block, ad713.off + 1, none⟩ = some (.int .i64 (rd (rd_L1 t654 x217_5) 1))) (ds := [10, 11]) #[false, false, false, false, false, false, false, false, false, false, false, false, false] (by kernel_rfl) rfl rfl ⟨hx713_0, hx714_0⟩ (fun hHeld => ?_); refine with_tabW laws_FnDays.tab34 laws_FnDays.bits34 (fun HT_ HW_ => ?_)
                                   generalize wr.drew = w112 at HO_5 HO_16 HO_215 HL712_0 HR712_0 HB hx713_0 hx714_0 hHeld ⊢
                                   refine pure_ (i := 0) (N := some 221) (v := ?_) (a' := ?_) #[true, false, false, false, false, false, false, false, false, false, false, false, false] rfl rfl (any_of HT_.out (by kernel_rfl)) (fun _ _ _ h => h) (Or.inl ⟨by rfl, ?_⟩) ?_ ?_
                                   rotate_left
                                   ·intro w'
                                    go_simp
                                    with_reducible rfl
                                   rotate_left
                                   ·simp only [Act.put, List.setIfInBounds_toArray, List.set_cons_zero, List.set_cons_succ, i64_w, i32_w]
                                    rfl
                                   refine pure_ (i := 1) (N := some 222) (v := ?_) (a' := ?_) #[true, true, false, false, false, false, false, false, false, false, false, false, false] rfl rfl (any_of HT_.out (by kernel_rfl)) (fun _ _ _ h => h) (Or.inl ⟨by rfl, ?_⟩) ?_ ?_
                                   rotate_left
                                   ·intro w'
                                    go_simp
                                    with_reducible rfl
                                   rotate_left
                                   ·simp only [Act.put, List.setIfInBounds_toArray, List.set_cons_zero, List.set_cons_succ, i64_w, i32_w]
                                    rfl
                                   refine pure_ (i := 2) (N := some 223) (v := ?_) (a' := ?_) #[true, true, true, false, false, false, false, false, false, false, false, false, false] rfl rfl (any_of HT_.out (by kernel_rfl)) (fun _ _ _ h => h) (Or.inl ⟨by rfl, ?_⟩) ?_ ?_
                                   rotate_left
                                   ·intro w'
                                    go_simp
                                    with_reducible rfl
                                   rotate_left
                                   ·simp only [Act.put, List.setIfInBounds_toArray, List.set_cons_zero, List.set_cons_succ, i64_w, i32_w]
                                    rfl
                                   refine pure_ (i := 4) (N := some 225) (v := ?_) (a' := ?_) #[true, true, true, false, true, false, false, false, false, false, false, false, false] rfl rfl (any_of HT_.out (by kernel_rfl)) (fun _ _ _ h => h) (Or.inl ⟨by rfl, ?_⟩) ?_ ?_
                                   rotate_left
                                   ·intro w'
                                    go_simp
                                    with_reducible rfl
                                   rotate_left
                                   ·simp only [Act.put, List.setIfInBounds_toArray, List.set_cons_zero, List.set_cons_succ, i64_w, i32_w]
                                    rfl
                                   refine pure_ (i := 5) (N := some 226) (v := ?_) (a' := ?_) #[true, true, true, false, true, true, false, false, false, false, false, false, false] rfl rfl (any_of HT_.out (by kernel_rfl)) (fun _ _ _ h => h) (Or.inl ⟨by rfl, ?_⟩) ?_ ?_
                                   rotate_left
                                   ·intro w'
                                    go_simp
                                    with_reducible rfl
                                   rotate_left
                                   ·simp only [Act.put, List.setIfInBounds_toArray, List.set_cons_zero, List.set_cons_succ, i64_w, i32_w]
                                    rfl
                                   refine pure_ (i := 7) (N := some 228) (v := ?_) (a' := ?_) #[true, true, true, false, true, true, false, true, false, false, false, false, false] rfl rfl (any_of HT_.out (by kernel_rfl)) (fun _ _ _ h => h) (Or.inl ⟨by rfl, ?_⟩) ?_ ?_
                                   rotate_left
                                   ·intro w'
                                    go_simp
                                    with_reducible rfl
                                   rotate_left
                                   ·simp only [Act.put, List.setIfInBounds_toArray, List.set_cons_zero, List.set_cons_succ, i64_w, i32_w]
                                    rfl
                                   refine take_ (i := 3) (N := some 224) (v := ?_) (a' := ?_) #[true, true, true, true, true, true, false, true, false, false, false, false, false] rfl rfl (take_ofW HT_.out HW_.out (by kernel_rfl)) (fun _ _ _ h => h) (Or.inl ⟨by rfl, ?_⟩) hHeld ?_ ?_
                                   rotate_left
                                   ·rintro w' ⟨s0, s1⟩
                                    go_simp
                                    with_reducible rfl
                                   rotate_left
                                   ·simp only [Act.put, List.setIfInBounds_toArray, List.set_cons_zero, List.set_cons_succ, i64_w, i32_w]
                                    rfl
                                   refine take_ (i := 6) (N := some 227) (v := ?_) (a' := ?_) #[true, true, true, true, true, true, true, true, false, false, false, false, false] rfl rfl (take_ofW HT_.out HW_.out (by kernel_rfl)) (fun _ _ _ h => h) (Or.inl ⟨by rfl, ?_⟩) hHeld ?_ ?_
                                   rotate_left
                                   ·rintro w' ⟨s0, s1⟩
                                    go_simp
                                    with_reducible rfl
                                   rotate_left
                                   ·simp only [Act.put, List.setIfInBounds_toArray, List.set_cons_zero, List.set_cons_succ, i64_w, i32_w]
                                    rfl
                                   refine pure_ (i := 8) (N := some 229) (v := ?_) (a' := ?_) #[true, true, true, true, true, true, true, true, true, false, false, false, false] rfl rfl (any_of HT_.out (by kernel_rfl)) (fun _ _ _ h => h) (Or.inl ⟨by rfl, ?_⟩) ?_ ?_
                                   rotate_left
                                   ·intro w'
                                    go_simp
                                    with_reducible rfl
                                   rotate_left
                                   ·simp only [Act.put, List.setIfInBounds_toArray, List.set_cons_zero, List.set_cons_succ, i64_w, i32_w]
                                    rfl
                                   refine one_ (i := 9) (N := some 230) #[true, true, true, true, true, true, true, true, true, true, false, false, false] rfl rfl (one_of HT_.out (by kernel_rfl)) (by decide) (fun K hK => ?_)
                                   refine Kd.R_lit_step (Kd.int .i64) _ 3 ?hg (N := 230) ?hd (xs := ([rd (rd_L1 t654 x217_5) 0, wrap64 ((rd (rd_L1 t654 x217_5) 1) - t672)] : List Int)) (inner := [.int .i64 (rd (rd_L1 t654 x217_5) 0), .int .i64 (wrap64 ((rd (rd_L1 t654 x217_5) 1) - t672))]) (ok := fun _ => True) (okp := fun _ => True) ?hr ?hp (fun _ hk => hk) trivial (Below.refl _ _) (Nat.le_refl _) (by simp) ?_; (case hd => rfl); (case hg => rfl); (case hr => first | (go_simp; done) | (go_simp; rfl)); (case hp => exact (Reps.one (show Kd.M (Kd.int .i64) _ _ _ (rd (rd_L1 t654 x217_5) 0) [.int .i64 (rd (rd_L1 t654 x217_5) 0)] from rfl) (Reps.one (show Kd.M (Kd.int .i64) _ _ _ (wrap64 ((rd (rd_L1 t654 x217_5) 1) - t672)) [.int .i64 (wrap64 ((rd (rd_L1 t654 x217_5) 1) - t672))] from rfl) (Reps.none _ _))))
                                   intro v716 w113 ho114 hb hg_ hnew_
                                   have HS0_ := (hb.cell (World.block_lt_of_cell? _ _ (hHeld.1))).trans (hHeld.1)
                                   have HS1_ := (hb.cell (World.block_lt_of_cell? _ _ (hHeld.2))).trans (hHeld.2)
                                   clear hg_ hnew_
                                   (first | rw [← Ny715.out] at ho114 | (simp only [Int.reduceToNat] at ho114; rw [← Ny715.out] at ho114))
                                   have n0_ := Aside0.mk (Kd.R_elder' (by (with_reducible repeat (first | apply Kd.R_alloc | apply Kd.R_drewN | apply Kd.R_drew)); exact HO_5.out) (Kd.R_base ho114) hb)
                                   have n1_ := Aside0.mk (Kd.N_elder' (by (with_reducible repeat (first | apply Kd.N_alloc | apply Kd.N_drewN | apply Kd.N_drew)); exact HO_16.out) (Kd.R_base ho114) hb)
                                   have n2_ := Aside0.mk (Kd.N_elder' (by (with_reducible repeat (first | apply Kd.N_alloc | apply Kd.N_drewN | apply Kd.N_drew)); exact HO_215.out) (Kd.R_base ho114) hb)
                                   have n3_ := Aside0.mk (Kd.V_elder' (by (with_reducible repeat (first | apply Kd.V_alloc | apply Kd.V_drewN | apply Kd.V_drew)); exact HL712_0.out) (Kd.R_base ho114) hb)
                                   have n4_ := Aside0.mk (Kd.R_lower (Kd.R_new' ho114 (Kd.R_lt (by (with_reducible repeat (first | apply Kd.R_alloc | apply Kd.R_drewN | apply Kd.R_drew)); exact HO_5.out))) (below_size (by repeat (first | (with_reducible first | exact HB.out | apply below_alloc | apply pw_below_drewN | apply below_drew1) | exact HB.out))))
                                   have n5_ := Aside0.mk (Kd.C_below (by repeat (first | (with_reducible exact HR712_0.out) | (with_reducible refine Kd.C_alloc ?_ _) | (with_reducible refine Kd.C_drewN ?_ _) | (with_reducible refine Kd.C_drew ?_) | exact HR712_0.out)) hb)
                                   have n6_ := Aside0.mk (below_step (by repeat (first | (with_reducible first | exact HB.out | apply below_alloc | apply pw_below_drewN | apply below_drew1) | exact HB.out)) hb)
                                   clear HO_5
                                   clear HO_16
                                   clear HO_215
                                   clear HL712_0
                                   clear HR712_0
                                   clear HB
                                   have HO_5 := n0_
                                   have HO_16 := n1_
                                   have HO_215 := n2_
                                   have HL712_0 := n3_
                                   have HO717 := n4_
                                   have HR712_0 := n5_
                                   have HB := n6_
                                   clear n0_ n1_ n2_ n3_ n4_ n5_ n6_
                                   clear hb ho114
                                   obtain ⟨Ao116, co116, eo116⟩ := Kd.R_slice HO717.out
                                   (first | subst eo116 | (injection eo116 with f1_ f2_ f3_; have f4_ := f1_.symm; have f5_ := f3_.symm; clear f1_ f2_ f3_; subst f4_; subst f5_))
                                   refine hK.out _ _ ⟨HS0_, HS1_⟩ (fun hHeld => ?_)
                                   clear hK K
                                   refine norm_ (a' := ?_) ?_ ?_
                                   rotate_left
                                   ·show Act.put _ (some 230) _ = _
                                    simp only [Act.put, List.setIfInBounds_toArray, List.set_cons_zero, List.set_cons_succ, i64_w, i32_w]
                                    rfl
                                   refine last_ (i := 10) (N := some 231) #[true, true, true, true, true, true, true, true, true, true, true, false, false] rfl rfl (one_of HT_.out (by kernel_rfl)) (by decide) (fun K hK => ?_)
                                   refine value_ (w1 := ?_) (v := ?_) (by rfl) rfl ?_ ?_
                                   rotate_left 2
                                   ·go_simp
                                    constructor
                                    ·rfl
                                    ·rfl
                                   refine hK.out _ _ ?_
                                   clear hK K
                                   refine norm_ (a' := ?_) ?_ ?_
                                   rotate_left
                                   ·show Act.put _ (some 231) _ = _
                                    simp only [Act.put, List.setIfInBounds_toArray, List.set_cons_zero, List.set_cons_succ, i64_w, i32_w]
                                    rfl
                                   refine last_ (i := 11) (N := some 232) #[true, true, true, true, true, true, true, true, true, true, true, true, false] rfl rfl (one_of HT_.out (by kernel_rfl)) (by decide) (fun K hK => ?_)
                                   refine Kd.N_append_step (Kd.slice 3 (Kd.int .i64)) (w0 := w) w.heap.size (by rfl) (.tmp 221) (.tmp 231) 22 27 (.slice none 0 0) 24 rfl Try.underlying22 info27 rfl (by decide) (by omega) u16 x16_5 y715 [.slice Ao116 y715.length co116] (fun k_ => some k_ ≠ (.slice Ao38 t657.length co38 : Value).ownBlock ∧ some k_ ≠ (.slice (some ad712) t654.length co34 : Value).ownBlock) (fun k_ => ((fun k_ => some k_ ≠ (.slice Ao38 t657.length co38 : Value).ownBlock ∧ some k_ ≠ (.slice (some ad712) t654.length co34 : Value).ownBlock)) k_ ∧ some k_ ≠ (u16 : Value).ownBlock) rfl rfl ?aP (fun _ hk => hk) ?aF ?aO ?aB ?aS ?aL ?_
                                   (case aP => exact (Kd.FK_slice_mk (Kd.R_reads' (Kd.R_mono (ok' := (fun k_ => ((fun k_ => some k_ ≠ (.slice Ao38 t657.length co38 : Value).ownBlock ∧ some k_ ≠ (.slice (some ad712) t654.length co34 : Value).ownBlock)) k_ ∧ some k_ ≠ (u16 : Value).ownBlock)) (Kd.R_apart' (Kd.R_apart' (HO717.out) (Kd.N_typed HO_215.out) (by decide)) (Kd.N_typed HO_16.out) (by decide)) (fun k_ hk => ⟨⟨hk.1.1.2, hk.1.2⟩, hk.2⟩))).2.1 (Kd.R_F (Kd.R_mono (ok' := (fun k_ => ((fun k_ => some k_ ≠ (.slice Ao38 t657.length co38 : Value).ownBlock ∧ some k_ ≠ (.slice (some ad712) t654.length co34 : Value).ownBlock)) k_ ∧ some k_ ≠ (u16 : Value).ownBlock)) (Kd.R_apart' (Kd.R_apart' (HO717.out) (Kd.N_typed HO_215.out) (by decide)) (Kd.N_typed HO_16.out) (by decide)) (fun k_ hk => ⟨⟨hk.1.1.2, hk.1.2⟩, hk.2⟩)))))
                                   (case aB => exact (by repeat (first | (with_reducible first | exact HB.out | apply below_alloc | apply pw_below_drewN | apply below_drew1) | exact HB.out)))
                                   (case aF => exact (fun k_ hk => ⟨Kd.fresh' (Kd.R_lt (by (with_reducible repeat (first | apply Kd.R_alloc | apply Kd.R_drewN | apply Kd.R_drew)); exact HO_5.out)) k_ hk, Kd.fresh' (Kd.N_lt (by (with_reducible repeat (first | apply Kd.N_alloc | apply Kd.N_drewN | apply Kd.N_drew)); exact HO_215.out)) k_ hk⟩))
                                   (case aO => exact (by (with_reducible repeat (first | apply Kd.N_alloc | apply Kd.N_drewN | apply Kd.N_drew)); exact Kd.N_mono HO_16.out (fun _ hk => ⟨hk.1.1, hk.1.2⟩)))
                                   (case aS => exact (below_size (by repeat (first | (with_reducible first | exact HB.out | apply below_alloc | apply pw_below_drewN | apply below_drew1) | exact HB.out))))
                                   (case aL => have := LMc111.out; omega)
                                   intro v719 w115 ho hb hg hat
                                   rw [← Ny718.out] at ho
                                   have n0_ := Aside0.mk (Kd.R_over' (by (with_reducible repeat (first | apply Kd.R_alloc | apply Kd.R_drewN | apply Kd.R_drew)); exact HO_5.out) (Kd.N_typed (by (with_reducible repeat (first | apply Kd.N_alloc | apply Kd.N_drewN | apply Kd.N_drew)); exact HO_16.out)) (by decide) hg)
                                   have n1_ := Aside0.mk (Kd.N_afterv (ok := (fun k_ => some k_ ≠ (.slice Ao38 t657.length co38 : Value).ownBlock ∧ some k_ ≠ (.slice Ao116 y715.length co116 : Value).ownBlock)) (by (with_reducible repeat (first | apply Kd.N_alloc | apply Kd.N_drewN | apply Kd.N_drew)); exact Kd.N_mono HO_215.out (fun _ hk => ⟨⟨hk.1.1, hk.2⟩, hk.1.2⟩)) hg hat)
                                   have n2_ := Aside0.mk (Kd.V_afterv (ok := (fun k_ => some k_ ≠ (.slice Ao38 t657.length co38 : Value).ownBlock ∧ some k_ ≠ (.slice (some ad712) t654.length co34 : Value).ownBlock ∧ some k_ ≠ (.slice Ao116 y715.length co116 : Value).ownBlock)) (by (with_reducible repeat (first | apply Kd.V_alloc | apply Kd.V_drewN | apply Kd.V_drew)); exact Kd.V_mono HL712_0.out (fun _ hk => ⟨⟨hk.1.1.1, ⟨hk.1.2, hk.2⟩⟩, hk.1.1.2⟩)) hg hat)
                                   have n3_ := Aside0.mk (hb)
                                   have n4_ := Aside0.mk (ho)
                                   clear HO_5
                                   clear HO_215
                                   clear HL712_0
                                   clear HB
                                   clear HO_16
                                   clear HO717
                                   have HO_5 := n0_
                                   have HO_215 := n1_
                                   have HL712_0 := n2_
                                   have HB := n3_
                                   have HO720 := n4_
                                   clear n0_ n1_ n2_ n3_ n4_
                                   clear ho hb hg hat
                                   refine hK.out _ _ ?_
                                   clear hK K
                                   refine norm_ (a' := ?_) ?_ ?_
                                   rotate_left
                                   ·show Act.put _ (some 232) _ = _
                                    simp only [Act.put, List.setIfInBounds_toArray, List.set_cons_zero, List.set_cons_succ, i64_w, i32_w]
                                    rfl
                                   refine pure_ (i := 12) (N := some 16) (v := ?_) (a' := ?_) #[true, true, true, true, true, true, true, true, true, true, true, true, true] rfl rfl (any_of HT_.out (by kernel_rfl)) (fun _ _ _ h => h) (Or.inl ⟨by rfl, ?_⟩) ?_ ?_
                                   rotate_left
                                   ·intro w'
                                    go_simp
                                    with_reducible rfl
                                   rotate_left
                                   ·simp only [Act.put, List.setIfInBounds_toArray, List.set_cons_zero, List.set_cons_succ, i64_w, i32_w]
                                    rfl
                                   refine done_ (done_of HT_.out (by kernel_rfl)) ?_
                                   try go_wp2
                                   go_roundg k5
                                   case measure => have := HJ31.out; have := HK2.out; have := HK3.out; have := HJ100.out; have := HK5.out; omega
                                   case rel => exact ⟨(y718), (wrap64 (x217_5 + 1)), (by first | rfl | (simp; done) | (simp [*]; done)), H', ⟨by have := HJ31.out; have := HK2.out; have := HK3.out; have := HJ100.out; have := HK5.out; omega⟩, ⟨by (with_reducible repeat (first | apply Kd.R_alloc | apply Kd.R_drewN | apply Kd.R_drew)); exact Kd.R_mono HO_5.out (fun _ hk => trivial)⟩, ⟨by (with_reducible repeat (first | apply Kd.N_alloc | apply Kd.N_drewN | apply Kd.N_drew)); exact HO720.out⟩, ⟨by (with_reducible repeat (first | apply Kd.N_alloc | apply Kd.N_drewN | apply Kd.N_drew)); exact Kd.N_mono HO_215.out (fun _ hk => ⟨hk.1.1, hk.2⟩)⟩, ⟨by repeat (first | (with_reducible first | exact HB.out | apply below_alloc | apply pw_below_drewN | apply below_drew1) | exact HB.out)⟩⟩
                                 ·rw [if_neg c111] at H
                                  exact absurd H (by simp)
                                ·rw [if_neg c110] at H
                                 exact absurd H (by simp)
                               ·rw [if_neg c109] at H
                                exact absurd H (by simp)
                              ·rw [if_neg c108] at H
                               exact absurd H (by simp)
                             ·rw [if_neg c107] at H
                              exact absurd H (by simp)
                            ·rw [if_neg c106] at H
                             have c106b0 : decide (x217_5 < (t654.length : Int)) = false := decide_eq_false c106
                             clear c106
                             replace H := Option.bind_eq_some_iff.mp H
                             obtain ⟨t721, A1170, H⟩ := H
                             replace H : (if t721 = 0 then ((impl_SlackOf.f k5 x16_5).bind fun t722 => (some (t722 == 0))) else (none)) = some r := H
                             have A117 := Aside0.mk A1170
                             clear A1170
                             by_cases c118 : t721 = 0
                             ·rw [if_pos c118] at H
                              have c118b0 : (t721 == 0) = true := beq_iff_eq.mpr c118
                              have c118b1 : (t721 != 0) = false := bne_eq_false_iff_eq.mpr c118
                              clear c118
                              replace H := Option.bind_eq_some_iff.mp H
                              obtain ⟨t722, A1190, H⟩ := H
                              replace H : (some (t722 == 0)) = some r := H
                              have A119 := Aside0.mk A1190
                              clear A1190
                              as_aux_lemma =>
                               obtain rfl := Option.some.inj H
                               obtain ⟨Ao120, co120, eo120⟩ := Kd.N_slice HO_16.out
                               subst eo120
                               go_wp2_with (first | ((with_reducible refine gate_callee (f := 33) rfl ?_); refine goesL_ (some 236) rfl rfl Try.func33 (by kernel_rfl) rfl #[.slice Ao120 x16_5.length co120, .slice Ao38 t657.length co38] rfl (by (try simp only [List.map_toArray, List.map_cons, List.map_nil]); first | done | rfl | (simp only [List.length_drop, List.length_take]; rfl)) ?_; (with_reducible refine (impl_LatestBy.calls k5 _ _ x16_5 _ _ t657 t721 _ ?side1 ?side2 ?side3 ?side4 A117.out).mono ?_); (case side1 => repeat (first | exact (Kd.N_reads' HO_16.out).2.2 | (with_reducible refine Kd.C_alloc ?_ _) | (with_reducible refine Kd.C_drewN ?_ _) | (with_reducible refine Kd.C_drew ?_))); (case side2 => exact (Kd.N_reads' HO_16.out).2.1); (case side3 => repeat (first | exact (Kd.R_reads' HO_5.out).2.2 | (with_reducible refine Kd.C_alloc ?_ _) | (with_reducible refine Kd.C_drewN ?_ _) | (with_reducible refine Kd.C_drew ?_))); (case side4 => exact (Kd.R_reads' HO_5.out).2.1); rintro e w121 ⟨rfl, hb⟩; refine ⟨_, rfl, ?_⟩; have n0_ := Aside0.mk (Kd.R_below (by (with_reducible repeat (first | apply Kd.R_alloc | apply Kd.R_drewN | apply Kd.R_drew)); exact HO_5.out) hb); have n1_ := Aside0.mk (Kd.N_below (by (with_reducible repeat (first | apply Kd.N_alloc | apply Kd.N_drewN | apply Kd.N_drew)); exact HO_16.out) hb); have n2_ := Aside0.mk (Kd.N_below (by (with_reducible repeat (first | apply Kd.N_alloc | apply Kd.N_drewN | apply Kd.N_drew)); exact HO_215.out) hb); have n3_ := Aside0.mk (below_step (by repeat (first | (with_reducible first | exact HB.out | apply below_alloc | apply pw_below_drewN | apply below_drew1) | exact HB.out)) hb); clear HO_5; clear HO_16; clear HO_215; clear HB; have HO_5 := n0_; have HO_16 := n1_; have HO_215 := n2_; have HB := n3_; clear n0_ n1_ n2_ n3_; (try clear hb); (try clear hb2); (try clear hk); (try clear hi)) | (go_at_call 39; (with_reducible refine (impl_SlackOf.calls k5 _ _ x16_5 t722 _ ?side1 ?side2 A119.out).mono ?_); (case side1 => repeat (first | exact (Kd.N_reads' HO_16.out).2.2 | (with_reducible refine Kd.C_alloc ?_ _) | (with_reducible refine Kd.C_drewN ?_ _) | (with_reducible refine Kd.C_drew ?_))); (case side2 => exact (Kd.N_reads' HO_16.out).2.1); rintro e w122 ⟨rfl, hb⟩; have n0_ := Aside0.mk (Kd.R_below (by (with_reducible repeat (first | apply Kd.R_alloc | apply Kd.R_drewN | apply Kd.R_drew)); exact HO_5.out) hb); have n1_ := Aside0.mk (Kd.N_below (by (with_reducible repeat (first | apply Kd.N_alloc | apply Kd.N_drewN | apply Kd.N_drew)); exact HO_16.out) hb); have n2_ := Aside0.mk (Kd.N_below (by (with_reducible repeat (first | apply Kd.N_alloc | apply Kd.N_drewN | apply Kd.N_drew)); exact HO_215.out) hb); have n3_ := Aside0.mk (below_step (by repeat (first | (with_reducible first | exact HB.out | apply below_alloc | apply pw_below_drewN | apply below_drew1) | exact HB.out)) hb); clear HO_5; clear HO_16; clear HO_215; clear HB; have HO_5 := n0_; have HO_16 := n1_; have HO_215 := n2_; have HB := n3_; clear n0_ n1_ n2_ n3_; (try clear hb); (try clear hb2); (try clear hk); (try clear hi)))
                               go_ret
                               exact ⟨by first | rfl | (simp [errW_none, errW_some] <;> rfl) | (simp [*, errW_none, errW_some] <;> rfl), by repeat (first | (with_reducible first | exact HB.out | apply below_alloc | apply pw_below_drewN | apply below_drew1) | exact HB.out)⟩
                             ·rw [if_neg c118] at H
                              exact absurd H (by simp)
           ·rw [if_neg c29] at H
            exact absurd H (by simp)
       ·replace c23 := Bool.eq_false_iff.mpr c23
        subst c23
        have H1 : (none) = some r := by rw [if_neg (show ¬ (false = true) by decide)] at H; exact H
        clear H
        have H := H1
        clear H1
        exact absurd H (by simp)
      ·replace c21 := Bool.eq_false_iff.mpr c21
       subst c21
       have H1 : (none) = some r := by rw [if_neg (show ¬ (false = true) by decide)] at H; exact H
       clear H
       have H := H1
       clear H1
       exact absurd H (by simp)
     ·replace c19 := Bool.eq_false_iff.mpr c19
      subst c19
      have H1 : (none) = some r := by rw [if_neg (show ¬ (false = true) by decide)] at H; exact H
      clear H
      have H := H1
      clear H1
      exact absurd H (by simp)
    ·replace c17 := Bool.eq_false_iff.mpr c17
     subst c17
     have H1 : (none) = some r := by rw [if_neg (show ¬ (false = true) by decide)] at H; exact H
     clear H
     have H := H1
     clear H1
     exact absurd H (by simp)
   ·replace c15 := Bool.eq_false_iff.mpr c15
    subst c15
    have H1 : (none) = some r := by rw [if_neg (show ¬ (false = true) by decide)] at H; exact H
    clear H
    have H := H1
    clear H1
    exact absurd H (by simp)
  ·replace c13 := Bool.eq_false_iff.mpr c13
   subst c13
   have H1 : (none) = some r := by rw [if_neg (show ¬ (false = true) by decide)] at H; exact H
   clear H
   have H := H1
   clear H1
   exact absurd H (by simp)
/-- THE ONE PURE STATEMENT of laws_FnDays: yours. -/
def laws_FnDays.Pure : Prop := ∀ (l0 : List Int), l0.length ≤ maxLen → l0.length * 1 ≤ 140737488351232 → (∀ x ∈ l0, (Lit.int .u8 x).wf = true) → ∃ k, laws_FnDays.f k l0 = some true
theorem laws_FnDays.walk (P : laws_FnDays.Pure) (a0 : Option Addr) (len0 cap0 : Nat) (z0 : List Int) (w : World) (w0 : (a0 = none ∧ len0 = 0 ∧ cap0 = 0 ∧ z0 = []) ∨ ∃ x, a0 = some x ∧ len0 ≤ cap0 ∧ cap0 ≤ maxLen ∧ z0.length = cap0 ∧ (∀ i, i < z0.length → w.cell? (x.add i) = some (.int .u8 (z0.getD i 0))) ∧ ∀ n ∈ z0, (Lit.int .u8 n).wf = true) (y0 : len0 * 1 ≤ 140737488351232) :
  Calls Try.prog 13 #[.slice a0 len0 cap0] w fun e w' => e = .returned (.bool true) ∧ Below w.heap.size w w' := by
 obtain ⟨l0, rfl, hr0, hm0, hw0, hc0⟩ := ReadsInt.ofRowC w0
 obtain ⟨k, h⟩ := P l0 hm0 y0 hw0
 refine (laws_FnDays.calls k _ _ l0 true w (Kd.C_of_reads (d := (0 : Int)) (h1 := fun _ => rfl) hr0) hc0 h).mono ?_
 rintro e w' ⟨rfl, hd⟩
 exact ⟨rfl, hd⟩
end Go.Proofs.Ytoonamloihbjnaa.PA
