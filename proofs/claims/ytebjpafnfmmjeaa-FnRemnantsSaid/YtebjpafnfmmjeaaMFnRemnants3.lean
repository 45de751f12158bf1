/- Texts of this claim put together in build order (FnRemnants). -/
import Derived.Test.YtebjpafnfmmjeaaMFnRemnants0
import Derived.Test.YtebjpafnfmmjeaaMFnRemnants1
import Derived.Test.YtebjpafnfmmjeaaMFnRemnants2
-- Written for this claim by a program of this session's (ownprint.py), by way of the kit's print and hand-proved texts. Lean checks it.
namespace Go.Proofs.Ytebjpafnfmmjeaa.PA
open Go.RowKit Go.Proofs.YtebjpafnfmmjeaaW.PrintWords Go.Proofs.YtebjpafnfmmjeaaW.PrintLast Go.Proofs.YtebjpafnfmmjeaaW.PrintMore
attribute [local go_sem] max2_int min2_int max_two min_two max_three min_three max_four min_four   -- for this text's walks alone
set_option linter.unusedVariables false
set_option linter.unusedSimpArgs false
mutual
def laws_FnRemnants.l0 : Nat → List (List Int) → Int → Int → Int → Int → List (List Int) → Bool → List (List Int) → Int → Int → Option (Bool)
 | 0, _, _, _, _, _, _, _, _, _, _ => none
 | k + 1, x3, x4, x5, x6, x7, x8, x10, x85, x86, x87 => if x87 < x86 then (if 0 ≤ x87 then (if x87 < (x85.length : Int) then (if 0 < ((rd_L1 x85 x87).length : Int) then (if (rd (rd_L1 x85 x87) 0) ≥ x4 then (if 1 < ((rd_L1 x85 x87).length : Int) then (if (rd (rd_L1 x85 x87) 1) ≥ x5 then (if x7 < 0 then (none) else (if x7 ≥ (x3.length : Int) then (none) else (if 0 ≤ x7 then (if x7 < (x3.length : Int) then (if 0 < ((rd_L1 x3 x7).length : Int) then (if 1 < ((rd_L1 x3 x7).length : Int) then (if (wrap64 ((rd (rd_L1 x85 x87) 0) * (rd (rd_L1 x85 x87) 1))) < (wrap64 ((rd (rd_L1 x3 x7) 0) * (rd (rd_L1 x3 x7) 1))) then (none) else (if (wrap64 ((rd (rd_L1 x85 x87) 0) * (rd (rd_L1 x85 x87) 1))) = (wrap64 ((rd (rd_L1 x3 x7) 0) * (rd (rd_L1 x3 x7) 1))) then (if x87 < x7 then (none) else (laws_FnRemnants.l0 k x3 x4 x5 x6 x7 x8 x10 x85 x86 (wrap64 (x87 + 1)))) else (laws_FnRemnants.l0 k x3 x4 x5 x6 x7 x8 x10 x85 x86 (wrap64 (x87 + 1))))) else (none)) else (none)) else (none)) else (none)))) else (laws_FnRemnants.l0 k x3 x4 x5 x6 x7 x8 x10 x85 x86 (wrap64 (x87 + 1)))) else (none)) else (laws_FnRemnants.l0 k x3 x4 x5 x6 x7 x8 x10 x85 x86 (wrap64 (x87 + 1)))) else (none)) else (none)) else (none)) else (if x10 = true then ((impl_StoreOk.f x8).bind fun t561 => (if t561 = true then ((impl_StoreArea.f k x8).bind fun t562 => (if t562 = (wrap64 (x6 - (wrap64 (x4 * x5)))) then (if (x8.length : Int) > (wrap64 ((x3.length : Int) + 1)) then (none) else (if x7 < 0 then (none) else (if x7 ≥ (x3.length : Int) then (none) else (if 0 ≤ x7 then (if x7 < (x3.length : Int) then (if 0 < ((rd_L1 x3 x7).length : Int) then (if (rd (rd_L1 x3 x7) 0) < x4 then (none) else (if 1 < ((rd_L1 x3 x7).length : Int) then (laws_FnRemnants.j1 k x3 x4 x5 x6 (decide ((rd (rd_L1 x3 x7) 1) < x5))) else (none))) else (none)) else (none)) else (none))))) else (none))) else (none))) else (laws_FnRemnants.j1 k x3 x4 x5 x6 false))
def laws_FnRemnants.j1 : Nat → List (List Int) → Int → Int → Int → Bool → Option (Bool)
 | 0, _, _, _, _, _ => none
 | k + 1, x3, x4, x5, x6, x220 => if x220 = true then (none) else ((impl_AddRemnant.f k x3 x4 x5).bind fun bt567 => ((impl_SortStore.f k bt567.1).bind fun t571 => (if bt567.2 = true then (if (bt567.1.length : Int) = (wrap64 ((x3.length : Int) + 1)) then ((impl_StoreArea.f k bt567.1).bind fun t574 => (if t574 = (wrap64 (x6 + (wrap64 (x4 * x5)))) then ((impl_CanMake.f k bt567.1 x4 x5 false).bind fun t575 => (if t575 = true then (if (t571.length : Int) = (bt567.1.length : Int) then ((impl_StoreArea.f k t571).bind fun t576 => (if t576 = (wrap64 (x6 + (wrap64 (x4 * x5)))) then ((impl_StoreOk.f t571).bind fun t577 => (if t577 = true then (laws_FnRemnants.l1 k x4 x5 x6 bt567.1 t571 1) else (none))) else (none))) else (none)) else (none))) else (none))) else (none)) else (none))))
def laws_FnRemnants.l1 : Nat → Int → Int → Int → List (List Int) → List (List Int) → Int → Option (Bool)
 | 0, _, _, _, _, _, _ => none
 | k + 1, x4, x5, x6, x14, x16, x17 => if x17 < (x16.length : Int) then (if 0 ≤ (wrap64 (x17 - 1)) then (if (wrap64 (x17 - 1)) < (x16.length : Int) then (if 0 < ((rd_L1 x16 (wrap64 (x17 - 1))).length : Int) then (if 1 < ((rd_L1 x16 (wrap64 (x17 - 1))).length : Int) then (if 0 ≤ x17 then (if 0 < ((rd_L1 x16 x17).length : Int) then (if 1 < ((rd_L1 x16 x17).length : Int) then (if (wrap64 ((rd (rd_L1 x16 (wrap64 (x17 - 1))) 0) * (rd (rd_L1 x16 (wrap64 (x17 - 1))) 1))) > (wrap64 ((rd (rd_L1 x16 x17) 0) * (rd (rd_L1 x16 x17) 1))) then (none) else (if (wrap64 ((rd (rd_L1 x16 (wrap64 (x17 - 1))) 0) * (rd (rd_L1 x16 (wrap64 (x17 - 1))) 1))) = (wrap64 ((rd (rd_L1 x16 x17) 0) * (rd (rd_L1 x16 x17) 1))) then (if (rd (rd_L1 x16 (wrap64 (x17 - 1))) 0) > (rd (rd_L1 x16 x17) 0) then (none) else (laws_FnRemnants.l1 k x4 x5 x6 x14 x16 (wrap64 (x17 + 1)))) else (laws_FnRemnants.l1 k x4 x5 x6 x14 x16 (wrap64 (x17 + 1))))) else (none)) else (none)) else (none)) else (none)) else (none)) else (none)) else (none)) else ((impl_TakeAll.f k x14 (([(([x4, x5] : List Int)), (([x5, x4] : List Int)), (([x4, x5] : List Int))] : List (List Int)))).bind fun bt602 => (if bt602.2 ≥ 1 then (if bt602.2 ≤ 3 then ((impl_StoreArea.f k bt602.1).bind fun t606 => (some (t606 == (wrap64 ((wrap64 (x6 + (wrap64 (x4 * x5)))) - (wrap64 ((wrap64 (bt602.2 * x4)) * x5))))))) else (none)) else (none)))
end
def laws_FnRemnants.f (k : Nat) (l0 : List Int) : Option (Bool) := if (l0.length : Int) > 1048576 then (some true) else ((spec_MakeStore.f k l0 0).bind fun t529 => ((spec_MakeSize.f k l0 30 1 12).bind fun t532 => ((spec_MakeSize.f k l0 31 1 12).bind fun t533 => ((impl_StoreArea.f k t529).bind fun t534 => ((impl_SmallestFor.f k t529 t532 t533).bind fun t535 => ((impl_TakePiece.f k t529 t532 t533).bind fun bt536 => ((impl_StoreOk.f t529).bind fun t541 => (if t541 = true then ((laws_area.f k t529).bind fun t542 => (if t534 = t542 then (if (bt536.2.2 != (decide (t535 ≥ 0))) = true then (none) else (if bt536.2.1 = t535 then ((impl_CanMake.f k t529 t532 t533 false).bind fun t543 => (if (t543 != bt536.2.2) = true then (none) else ((impl_CanMake.f k t529 t533 t532 true).bind fun t544 => ((impl_CanMake.f k t529 t532 t533 true).bind fun t545 => (if (t544 != t545) = true then (none) else (laws_FnRemnants.l0 k t529 t532 t533 t534 t535 bt536.1 bt536.2.2 t529 (t529.length : Int) 0)))))) else (none))) else (none))) else (none)))))))))
set_option maxHeartbeats 8000000 in
set_option maxRecDepth 100000 in
theorem laws_FnRemnants.calls (k : Nat) (A0 : Option Addr) (c0 : Nat) (l0 : List Int) (r : Bool) (w : World) (hr0 : Kd.C (Kd.int .u8) w A0 l0.length l0) (hc0 : l0.length ≤ c0) (h : laws_FnRemnants.f k l0 = some r) :
  Calls Try.prog 11 #[.slice A0 l0.length c0] w fun e w' => e = .returned (.bool r) ∧ Below w.heap.size w w' := by
 have HR0 := Aside0.mk hr0
 have HC0 := Aside0.mk hc0
 clear hr0 hc0
 have HB := Aside0.mk (Below.refl w.heap.size w)
 have H : (if (l0.length : Int) > 1048576 then (some true) else ((spec_MakeStore.f k l0 0).bind fun t529 => ((spec_MakeSize.f k l0 30 1 12).bind fun t532 => ((spec_MakeSize.f k l0 31 1 12).bind fun t533 => ((impl_StoreArea.f k t529).bind fun t534 => ((impl_SmallestFor.f k t529 t532 t533).bind fun t535 => ((impl_TakePiece.f k t529 t532 t533).bind fun bt536 => ((impl_StoreOk.f t529).bind fun t541 => (if t541 = true then ((laws_area.f k t529).bind fun t542 => (if t534 = t542 then (if (bt536.2.2 != (decide (t535 ≥ 0))) = true then (none) else (if bt536.2.1 = t535 then ((impl_CanMake.f k t529 t532 t533 false).bind fun t543 => (if (t543 != bt536.2.2) = true then (none) else ((impl_CanMake.f k t529 t533 t532 true).bind fun t544 => ((impl_CanMake.f k t529 t532 t533 true).bind fun t545 => (if (t544 != t545) = true then (none) else (laws_FnRemnants.l0 k t529 t532 t533 t534 t535 bt536.1 bt536.2.2 t529 (t529.length : Int) 0)))))) else (none))) else (none))) else (none)))))))))) = some r := h
 clear h
 by_cases c2 : (l0.length : Int) > 1048576
 ·rw [if_pos c2] at H
  have c2b0 : decide (1048576 < (l0.length : Int)) = true := decide_eq_true c2
  have c2b1 : decide (1048576 < l0.length) = true := decide_eq_true (by omega)
  clear c2
  as_aux_lemma =>
   obtain rfl := Option.some.inj H
   go_enter Try.func11, Try.ntmps11
   go_wp2
   repeat (go_quiet (fail); try go_wp2)
   go_ret
   exact ⟨by first | rfl | (simp [errW_none, errW_some] <;> rfl) | (simp [*, errW_none, errW_some] <;> rfl), by repeat (first | (with_reducible first | exact HB.out | apply below_alloc | apply pw_below_drewN | apply below_drew1) | exact HB.out)⟩
 ·rw [if_neg c2] at H
  have c2b0 : decide (1048576 < (l0.length : Int)) = false := decide_eq_false c2
  have c2b1 : decide (1048576 < l0.length) = false := decide_eq_false (by omega)
  clear c2
  replace H := Option.bind_eq_some_iff.mp H
  obtain ⟨t529, A30, H⟩ := H
  replace H : ((spec_MakeSize.f k l0 30 1 12).bind fun t532 => ((spec_MakeSize.f k l0 31 1 12).bind fun t533 => ((impl_StoreArea.f k t529).bind fun t534 => ((impl_SmallestFor.f k t529 t532 t533).bind fun t535 => ((impl_TakePiece.f k t529 t532 t533).bind fun bt536 => ((impl_StoreOk.f t529).bind fun t541 => (if t541 = true then ((laws_area.f k t529).bind fun t542 => (if t534 = t542 then (if (bt536.2.2 != (decide (t535 ≥ 0))) = true then (none) else (if bt536.2.1 = t535 then ((impl_CanMake.f k t529 t532 t533 false).bind fun t543 => (if (t543 != bt536.2.2) = true then (none) else ((impl_CanMake.f k t529 t533 t532 true).bind fun t544 => ((impl_CanMake.f k t529 t532 t533 true).bind fun t545 => (if (t544 != t545) = true then (none) else (laws_FnRemnants.l0 k t529 t532 t533 t534 t535 bt536.1 bt536.2.2 t529 (t529.length : Int) 0)))))) else (none))) else (none))) else (none)))))))) = some r := H
  have A3 := Aside0.mk A30
  clear A30
  replace H := Option.bind_eq_some_iff.mp H
  obtain ⟨t532, A40, H⟩ := H
  replace H : ((spec_MakeSize.f k l0 31 1 12).bind fun t533 => ((impl_StoreArea.f k t529).bind fun t534 => ((impl_SmallestFor.f k t529 t532 t533).bind fun t535 => ((impl_TakePiece.f k t529 t532 t533).bind fun bt536 => ((impl_StoreOk.f t529).bind fun t541 => (if t541 = true then ((laws_area.f k t529).bind fun t542 => (if t534 = t542 then (if (bt536.2.2 != (decide (t535 ≥ 0))) = true then (none) else (if bt536.2.1 = t535 then ((impl_CanMake.f k t529 t532 t533 false).bind fun t543 => (if (t543 != bt536.2.2) = true then (none) else ((impl_CanMake.f k t529 t533 t532 true).bind fun t544 => ((impl_CanMake.f k t529 t532 t533 true).bind fun t545 => (if (t544 != t545) = true then (none) else (laws_FnRemnants.l0 k t529 t532 t533 t534 t535 bt536.1 bt536.2.2 t529 (t529.length : Int) 0)))))) else (none))) else (none))) else (none))))))) = some r := H
  have A4 := Aside0.mk A40
  clear A40
  replace H := Option.bind_eq_some_iff.mp H
  obtain ⟨t533, A50, H⟩ := H
  replace H : ((impl_StoreArea.f k t529).bind fun t534 => ((impl_SmallestFor.f k t529 t532 t533).bind fun t535 => ((impl_TakePiece.f k t529 t532 t533).bind fun bt536 => ((impl_StoreOk.f t529).bind fun t541 => (if t541 = true then ((laws_area.f k t529).bind fun t542 => (if t534 = t542 then (if (bt536.2.2 != (decide (t535 ≥ 0))) = true then (none) else (if bt536.2.1 = t535 then ((impl_CanMake.f k t529 t532 t533 false).bind fun t543 => (if (t543 != bt536.2.2) = true then (none) else ((impl_CanMake.f k t529 t533 t532 true).bind fun t544 => ((impl_CanMake.f k t529 t532 t533 true).bind fun t545 => (if (t544 != t545) = true then (none) else (laws_FnRemnants.l0 k t529 t532 t533 t534 t535 bt536.1 bt536.2.2 t529 (t529.length : Int) 0)))))) else (none))) else (none))) else (none)))))) = some r := H
  have A5 := Aside0.mk A50
  clear A50
  replace H := Option.bind_eq_some_iff.mp H
  obtain ⟨t534, A60, H⟩ := H
  replace H : ((impl_SmallestFor.f k t529 t532 t533).bind fun t535 => ((impl_TakePiece.f k t529 t532 t533).bind fun bt536 => ((impl_StoreOk.f t529).bind fun t541 => (if t541 = true then ((laws_area.f k t529).bind fun t542 => (if t534 = t542 then (if (bt536.2.2 != (decide (t535 ≥ 0))) = true then (none) else (if bt536.2.1 = t535 then ((impl_CanMake.f k t529 t532 t533 false).bind fun t543 => (if (t543 != bt536.2.2) = true then (none) else ((impl_CanMake.f k t529 t533 t532 true).bind fun t544 => ((impl_CanMake.f k t529 t532 t533 true).bind fun t545 => (if (t544 != t545) = true then (none) else (laws_FnRemnants.l0 k t529 t532 t533 t534 t535 bt536.1 bt536.2.2 t529 (t529.length : Int) 0)))))) else (none))) else (none))) else (none))))) = some r := H
  have A6 := Aside0.mk A60
  clear A60
  replace H := Option.bind_eq_some_iff.mp H
  obtain ⟨t535, A70, H⟩ := H
  replace H : ((impl_TakePiece.f k t529 t532 t533).bind fun bt536 => ((impl_StoreOk.f t529).bind fun t541 => (if t541 = true then ((laws_area.f k t529).bind fun t542 => (if t534 = t542 then (if (bt536.2.2 != (decide (t535 ≥ 0))) = true then (none) else (if bt536.2.1 = t535 then ((impl_CanMake.f k t529 t532 t533 false).bind fun t543 => (if (t543 != bt536.2.2) = true then (none) else ((impl_CanMake.f k t529 t533 t532 true).bind fun t544 => ((impl_CanMake.f k t529 t532 t533 true).bind fun t545 => (if (t544 != t545) = true then (none) else (laws_FnRemnants.l0 k t529 t532 t533 t534 t535 bt536.1 bt536.2.2 t529 (t529.length : Int) 0)))))) else (none))) else (none))) else (none)))) = some r := H
  have A7 := Aside0.mk A70
  clear A70
  replace H := Option.bind_eq_some_iff.mp H
  obtain ⟨⟨t536, t537, t538⟩, A80, H⟩ := H
  replace H : ((impl_StoreOk.f t529).bind fun t541 => (if t541 = true then ((laws_area.f k t529).bind fun t542 => (if t534 = t542 then (if (t538 != (decide (t535 ≥ 0))) = true then (none) else (if t537 = t535 then ((impl_CanMake.f k t529 t532 t533 false).bind fun t543 => (if (t543 != t538) = true then (none) else ((impl_CanMake.f k t529 t533 t532 true).bind fun t544 => ((impl_CanMake.f k t529 t532 t533 true).bind fun t545 => (if (t544 != t545) = true then (none) else (laws_FnRemnants.l0 k t529 t532 t533 t534 t535 t536 t538 t529 (t529.length : Int) 0)))))) else (none))) else (none))) else (none))) = some r := H
  have A8 := Aside0.mk A80
  clear A80
  replace H := Option.bind_eq_some_iff.mp H
  obtain ⟨t541, A90, H⟩ := H
  replace H : (if t541 = true then ((laws_area.f k t529).bind fun t542 => (if t534 = t542 then (if (t538 != (decide (t535 ≥ 0))) = true then (none) else (if t537 = t535 then ((impl_CanMake.f k t529 t532 t533 false).bind fun t543 => (if (t543 != t538) = true then (none) else ((impl_CanMake.f k t529 t533 t532 true).bind fun t544 => ((impl_CanMake.f k t529 t532 t533 true).bind fun t545 => (if (t544 != t545) = true then (none) else (laws_FnRemnants.l0 k t529 t532 t533 t534 t535 t536 t538 t529 (t529.length : Int) 0)))))) else (none))) else (none))) else (none)) = some r := H
  have A9 := Aside0.mk A90
  clear A90
  by_cases c10 : t541 = true
  ·subst c10
   have H1 : ((laws_area.f k t529).bind fun t542 => (if t534 = t542 then (if (t538 != (decide (t535 ≥ 0))) = true then (none) else (if t537 = t535 then ((impl_CanMake.f k t529 t532 t533 false).bind fun t543 => (if (t543 != t538) = true then (none) else ((impl_CanMake.f k t529 t533 t532 true).bind fun t544 => ((impl_CanMake.f k t529 t532 t533 true).bind fun t545 => (if (t544 != t545) = true then (none) else (laws_FnRemnants.l0 k t529 t532 t533 t534 t535 t536 t538 t529 (t529.length : Int) 0)))))) else (none))) else (none))) = some r := by rw [if_pos rfl] at H; exact H
   clear H
   have H := H1
   clear H1
   replace H := Option.bind_eq_some_iff.mp H
   obtain ⟨t542, A110, H⟩ := H
   replace H : (if t534 = t542 then (if (t538 != (decide (t535 ≥ 0))) = true then (none) else (if t537 = t535 then ((impl_CanMake.f k t529 t532 t533 false).bind fun t543 => (if (t543 != t538) = true then (none) else ((impl_CanMake.f k t529 t533 t532 true).bind fun t544 => ((impl_CanMake.f k t529 t532 t533 true).bind fun t545 => (if (t544 != t545) = true then (none) else (laws_FnRemnants.l0 k t529 t532 t533 t534 t535 t536 t538 t529 (t529.length : Int) 0)))))) else (none))) else (none)) = some r := H
   have A11 := Aside0.mk A110
   clear A110
   by_cases c12 : t534 = t542
   ·rw [if_pos c12] at H
    have c12b0 : (t534 == t542) = true := beq_iff_eq.mpr c12
    have c12b1 : (t534 != t542) = false := bne_eq_false_iff_eq.mpr c12
    clear c12
    by_cases c13 : (t538 != (decide (t535 ≥ 0))) = true
    ·rw [if_pos c13] at H
     exact absurd H (by simp)
    ·rw [if_neg c13] at H
     have c13b0 : (t538 != (decide (t535 ≥ 0))) = false := by simpa using c13
     (try (have c13b1 : decide (t538 = (decide (t535 ≥ 0))) = true := by simpa using c13))
     (try (have c13b2 : (t538 == (decide (t535 ≥ 0))) = true := by simpa using c13))
     clear c13
     by_cases c14 : t537 = t535
     ·rw [if_pos c14] at H
      have c14b0 : (t537 == t535) = true := beq_iff_eq.mpr c14
      have c14b1 : (t537 != t535) = false := bne_eq_false_iff_eq.mpr c14
      clear c14
      replace H := Option.bind_eq_some_iff.mp H
      obtain ⟨t543, A150, H⟩ := H
      replace H : (if (t543 != t538) = true then (none) else ((impl_CanMake.f k t529 t533 t532 true).bind fun t544 => ((impl_CanMake.f k t529 t532 t533 true).bind fun t545 => (if (t544 != t545) = true then (none) else (laws_FnRemnants.l0 k t529 t532 t533 t534 t535 t536 t538 t529 (t529.length : Int) 0))))) = some r := H
      have A15 := Aside0.mk A150
      clear A150
      by_cases c16 : (t543 != t538) = true
      ·rw [if_pos c16] at H
       exact absurd H (by simp)
      ·rw [if_neg c16] at H
       have c16b0 : (t543 != t538) = false := by simpa using c16
       (try (have c16b1 : decide (t543 = t538) = true := by simpa using c16))
       (try (have c16b2 : (t543 == t538) = true := by simpa using c16))
       clear c16
       replace H := Option.bind_eq_some_iff.mp H
       obtain ⟨t544, A170, H⟩ := H
       replace H : ((impl_CanMake.f k t529 t532 t533 true).bind fun t545 => (if (t544 != t545) = true then (none) else (laws_FnRemnants.l0 k t529 t532 t533 t534 t535 t536 t538 t529 (t529.length : Int) 0))) = some r := H
       have A17 := Aside0.mk A170
       clear A170
       replace H := Option.bind_eq_some_iff.mp H
       obtain ⟨t545, A180, H⟩ := H
       replace H : (if (t544 != t545) = true then (none) else (laws_FnRemnants.l0 k t529 t532 t533 t534 t535 t536 t538 t529 (t529.length : Int) 0)) = some r := H
       have A18 := Aside0.mk A180
       clear A180
       by_cases c19 : (t544 != t545) = true
       ·rw [if_pos c19] at H
        exact absurd H (by simp)
       ·rw [if_neg c19] at H
        have c19b0 : (t544 != t545) = false := by simpa using c19
        (try (have c19b1 : decide (t544 = t545) = true := by simpa using c19))
        (try (have c19b2 : (t544 == t545) = true := by simpa using c19))
        clear c19
        have H' := Aside0.mk H
        clear H
        go_enter Try.func11, Try.ntmps11
        go_wp2_with (first | (go_at_call 33; (with_reducible refine (spec_MakeStore.calls k _ _ l0 0 t529 _ ?side1 ?side2 A3.out).mono ?_); (case side1 => repeat (first | exact HR0.out | (with_reducible refine Kd.C_alloc ?_ _) | (with_reducible refine Kd.C_drewN ?_ _) | (with_reducible refine Kd.C_drew ?_))); (case side2 => exact HC0.out); rintro e w20 ⟨v530, rfl, ho0, hb⟩; have n0_ := Aside0.mk (Kd.N_lower (Kd.N_mono (ok' := fun k_ => True) (Kd.S_N (Kd.S_bound ho0)) (fun k_ hk_ => trivial)) (below_size (by repeat (first | (with_reducible first | exact HB.out | apply below_alloc | apply pw_below_drewN | apply below_drew1) | exact HB.out)))); have n1_ := Aside0.mk (below_step (by repeat (first | (with_reducible first | exact HB.out | apply below_alloc | apply pw_below_drewN | apply below_drew1) | exact HB.out)) hb); clear HB; have HO531 := n0_; have HB := n1_; clear n0_ n1_; (try clear hb); (try clear hb2); (try clear hk); (try clear hi); (try clear ho0)) | (go_at_call 34; (with_reducible refine (spec_MakeSize.calls k _ _ l0 30 1 12 t532 _ ?side1 ?side2 A4.out).mono ?_); (case side1 => repeat (first | exact (Kd.C_below HR0.out HB.out) | (with_reducible refine Kd.C_alloc ?_ _) | (with_reducible refine Kd.C_drewN ?_ _) | (with_reducible refine Kd.C_drew ?_))); (case side2 => exact HC0.out); rintro e w21 ⟨rfl, hb⟩; have n0_ := Aside0.mk (Kd.N_below (by (with_reducible repeat (first | apply Kd.N_alloc | apply Kd.N_drewN | apply Kd.N_drew)); exact HO531.out) hb); have n1_ := Aside0.mk (below_step (by repeat (first | (with_reducible first | exact HB.out | apply below_alloc | apply pw_below_drewN | apply below_drew1) | exact HB.out)) hb); clear HO531; clear HB; have HO531 := n0_; have HB := n1_; clear n0_ n1_; (try clear hb); (try clear hb2); (try clear hk); (try clear hi)) | (go_at_call 34; (with_reducible refine (spec_MakeSize.calls k _ _ l0 31 1 12 t533 _ ?side1 ?side2 A5.out).mono ?_); (case side1 => repeat (first | exact (Kd.C_below HR0.out HB.out) | (with_reducible refine Kd.C_alloc ?_ _) | (with_reducible refine Kd.C_drewN ?_ _) | (with_reducible refine Kd.C_drew ?_))); (case side2 => exact HC0.out); rintro e w22 ⟨rfl, hb⟩; have n0_ := Aside0.mk (Kd.N_below (by (with_reducible repeat (first | apply Kd.N_alloc | apply Kd.N_drewN | apply Kd.N_drew)); exact HO531.out) hb); have n1_ := Aside0.mk (below_step (by repeat (first | (with_reducible first | exact HB.out | apply below_alloc | apply pw_below_drewN | apply below_drew1) | exact HB.out)) hb); clear HO531; clear HB; have HO531 := n0_; have HB := n1_; clear n0_ n1_; (try clear hb); (try clear hb2); (try clear hk); (try clear hi); obtain ⟨Ao23, co23, eo23⟩ := Kd.N_slice HO531.out; subst eo23) | (go_at_call 20; (with_reducible refine (impl_StoreArea.calls k _ _ t529 t534 _ ?side1 ?side2 A6.out).mono ?_); (case side1 => repeat (first | exact (Kd.N_reads' HO531.out).2.2 | (with_reducible refine Kd.C_alloc ?_ _) | (with_reducible refine Kd.C_drewN ?_ _) | (with_reducible refine Kd.C_drew ?_))); (case side2 => exact (Kd.N_reads' HO531.out).2.1); rintro e w' ⟨rfl, ⟨nd, rfl⟩⟩; (try first | exact ⟨rfl, _, World.drewN_drewN _ _ _⟩ | exact ⟨rfl, _, Eq.trans (World.drewN_drewN _ _ _) (congrArg (World.drewN _) (Nat.add_assoc _ _ _))⟩)) | (go_at_call 18; (with_reducible refine (impl_SmallestFor.calls k _ _ t529 t532 t533 t535 _ ?side1 ?side2 A7.out).mono ?_); (case side1 => repeat (first | exact (Kd.N_reads' HO531.out).2.2 | (with_reducible refine Kd.C_alloc ?_ _) | (with_reducible refine Kd.C_drewN ?_ _) | (with_reducible refine Kd.C_drew ?_))); (case side2 => exact (Kd.N_reads' HO531.out).2.1); rintro e w' ⟨rfl, ⟨nd, rfl⟩⟩; (try first | exact ⟨rfl, _, World.drewN_drewN _ _ _⟩ | exact ⟨rfl, _, Eq.trans (World.drewN_drewN _ _ _) (congrArg (World.drewN _) (Nat.add_assoc _ _ _))⟩)) | (go_at_call 28; (with_reducible refine (impl_TakePiece.calls k _ _ t529 t532 t533 t536 t537 t538 _ ?side1 ?side2 A8.out).mono ?_); (case side1 => repeat (first | exact (Kd.N_reads' HO531.out).2.2 | (with_reducible refine Kd.C_alloc ?_ _) | (with_reducible refine Kd.C_drewN ?_ _) | (with_reducible refine Kd.C_drew ?_))); (case side2 => exact (Kd.N_reads' HO531.out).2.1); rintro e w24 ⟨v539, rfl, ho0, hb⟩; have n0_ := Aside0.mk (Kd.N_elder' (by (with_reducible repeat (first | apply Kd.N_alloc | apply Kd.N_drewN | apply Kd.N_drew)); exact HO531.out) (by first | exact Kd.N_base ho0 | exact Kd.S_base ho0) hb); have n1_ := Aside0.mk (Kd.N_lower (Kd.N_mono (ok' := fun k_ => some k_ ≠ (.slice Ao23 t529.length co23 : Value).ownBlock) (Kd.S_N (Kd.S_bound ho0)) (fun k_ hk_ => (Kd.fresh' (Kd.N_lt (by (with_reducible repeat (first | apply Kd.N_alloc | apply Kd.N_drewN | apply Kd.N_drew)); exact HO531.out)) k_ hk_.2.1))) (below_size (by repeat (first | (with_reducible first | exact HB.out | apply below_alloc | apply pw_below_drewN | apply below_drew1) | exact HB.out)))); have n2_ := Aside0.mk (below_step (by repeat (first | (with_reducible first | exact HB.out | apply below_alloc | apply pw_below_drewN | apply below_drew1) | exact HB.out)) hb); clear HO531; clear HB; have HO531 := n0_; have HO540 := n1_; have HB := n2_; clear n0_ n1_ n2_; (try clear hb); (try clear hb2); (try clear hk); (try clear hi); (try clear ho0)) | (go_at_call 15; (with_reducible refine (impl_StoreOk.calls _ _ t529 true _ ?side1 ?side2 A9.out).mono ?_); (case side1 => repeat (first | exact (Kd.N_reads' HO531.out).2.2 | (with_reducible refine Kd.C_alloc ?_ _) | (with_reducible refine Kd.C_drewN ?_ _) | (with_reducible refine Kd.C_drew ?_))); (case side2 => exact (Kd.N_reads' HO531.out).2.1); rintro e w' ⟨rfl, ⟨nd, rfl⟩⟩; (try first | exact ⟨rfl, _, World.drewN_drewN _ _ _⟩ | exact ⟨rfl, _, Eq.trans (World.drewN_drewN _ _ _) (congrArg (World.drewN _) (Nat.add_assoc _ _ _))⟩)) | (go_at_call 35; (with_reducible refine (laws_area.calls k _ _ t529 t542 _ ?side1 ?side2 A11.out).mono ?_); (case side1 => repeat (first | exact (Kd.N_reads' HO531.out).2.2 | (with_reducible refine Kd.C_alloc ?_ _) | (with_reducible refine Kd.C_drewN ?_ _) | (with_reducible refine Kd.C_drew ?_))); (case side2 => exact (Kd.N_reads' HO531.out).2.1); rintro e w' ⟨rfl, ⟨nd, rfl⟩⟩; (try first | exact ⟨rfl, _, World.drewN_drewN _ _ _⟩ | exact ⟨rfl, _, Eq.trans (World.drewN_drewN _ _ _) (congrArg (World.drewN _) (Nat.add_assoc _ _ _))⟩)) | (go_at_call 22; (with_reducible refine (impl_CanMake.calls k _ _ t529 t532 t533 false t543 _ ?side1 ?side2 A15.out).mono ?_); (case side1 => repeat (first | exact (Kd.N_reads' HO531.out).2.2 | (with_reducible refine Kd.C_alloc ?_ _) | (with_reducible refine Kd.C_drewN ?_ _) | (with_reducible refine Kd.C_drew ?_))); (case side2 => exact (Kd.N_reads' HO531.out).2.1); rintro e w' ⟨rfl, ⟨nd, rfl⟩⟩; (try first | exact ⟨rfl, _, World.drewN_drewN _ _ _⟩ | exact ⟨rfl, _, Eq.trans (World.drewN_drewN _ _ _) (congrArg (World.drewN _) (Nat.add_assoc _ _ _))⟩)) | (go_at_call 22; (with_reducible refine (impl_CanMake.calls k _ _ t529 t533 t532 true t544 _ ?side1 ?side2 A17.out).mono ?_); (case side1 => repeat (first | exact (Kd.N_reads' HO531.out).2.2 | (with_reducible refine Kd.C_alloc ?_ _) | (with_reducible refine Kd.C_drewN ?_ _) | (with_reducible refine Kd.C_drew ?_))); (case side2 => exact (Kd.N_reads' HO531.out).2.1); rintro e w' ⟨rfl, ⟨nd, rfl⟩⟩; (try first | exact ⟨rfl, _, World.drewN_drewN _ _ _⟩ | exact ⟨rfl, _, Eq.trans (World.drewN_drewN _ _ _) (congrArg (World.drewN _) (Nat.add_assoc _ _ _))⟩)) | (go_at_call 22; (with_reducible refine (impl_CanMake.calls k _ _ t529 t532 t533 true t545 _ ?side1 ?side2 A18.out).mono ?_); (case side1 => repeat (first | exact (Kd.N_reads' HO531.out).2.2 | (with_reducible refine Kd.C_alloc ?_ _) | (with_reducible refine Kd.C_drewN ?_ _) | (with_reducible refine Kd.C_drew ?_))); (case side2 => exact (Kd.N_reads' HO531.out).2.1); rintro e w' ⟨rfl, ⟨nd, rfl⟩⟩; (try first | exact ⟨rfl, _, World.drewN_drewN _ _ _⟩ | exact ⟨rfl, _, Eq.trans (World.drewN_drewN _ _ _) (congrArg (World.drewN _) (Nat.add_assoc _ _ _))⟩)))
        repeat (go_quiet (first | (go_at_call 33; (with_reducible refine (spec_MakeStore.calls k _ _ l0 0 t529 _ ?side1 ?side2 A3.out).mono ?_); (case side1 => repeat (first | exact HR0.out | (with_reducible refine Kd.C_alloc ?_ _) | (with_reducible refine Kd.C_drewN ?_ _) | (with_reducible refine Kd.C_drew ?_))); (case side2 => exact HC0.out); rintro e w20 ⟨v530, rfl, ho0, hb⟩; have n0_ := Aside0.mk (Kd.N_lower (Kd.N_mono (ok' := fun k_ => True) (Kd.S_N (Kd.S_bound ho0)) (fun k_ hk_ => trivial)) (below_size (by repeat (first | (with_reducible first | exact HB.out | apply below_alloc | apply pw_below_drewN | apply below_drew1) | exact HB.out)))); have n1_ := Aside0.mk (below_step (by repeat (first | (with_reducible first | exact HB.out | apply below_alloc | apply pw_below_drewN | apply below_drew1) | exact HB.out)) hb); clear HB; have HO531 := n0_; have HB := n1_; clear n0_ n1_; (try clear hb); (try clear hb2); (try clear hk); (try clear hi); (try clear ho0)) | (go_at_call 34; (with_reducible refine (spec_MakeSize.calls k _ _ l0 30 1 12 t532 _ ?side1 ?side2 A4.out).mono ?_); (case side1 => repeat (first | exact (Kd.C_below HR0.out HB.out) | (with_reducible refine Kd.C_alloc ?_ _) | (with_reducible refine Kd.C_drewN ?_ _) | (with_reducible refine Kd.C_drew ?_))); (case side2 => exact HC0.out); rintro e w21 ⟨rfl, hb⟩; have n0_ := Aside0.mk (Kd.N_below (by (with_reducible repeat (first | apply Kd.N_alloc | apply Kd.N_drewN | apply Kd.N_drew)); exact HO531.out) hb); have n1_ := Aside0.mk (below_step (by repeat (first | (with_reducible first | exact HB.out | apply below_alloc | apply pw_below_drewN | apply below_drew1) | exact HB.out)) hb); clear HO531; clear HB; have HO531 := n0_; have HB := n1_; clear n0_ n1_; (try clear hb); (try clear hb2); (try clear hk); (try clear hi)) | (go_at_call 34; (with_reducible refine (spec_MakeSize.calls k _ _ l0 31 1 12 t533 _ ?side1 ?side2 A5.out).mono ?_); (case side1 => repeat (first | exact (Kd.C_below HR0.out HB.out) | (with_reducible refine Kd.C_alloc ?_ _) | (with_reducible refine Kd.C_drewN ?_ _) | (with_reducible refine Kd.C_drew ?_))); (case side2 => exact HC0.out); rintro e w22 ⟨rfl, hb⟩; have n0_ := Aside0.mk (Kd.N_below (by (with_reducible repeat (first | apply Kd.N_alloc | apply Kd.N_drewN | apply Kd.N_drew)); exact HO531.out) hb); have n1_ := Aside0.mk (below_step (by repeat (first | (with_reducible first | exact HB.out | apply below_alloc | apply pw_below_drewN | apply below_drew1) | exact HB.out)) hb); clear HO531; clear HB; have HO531 := n0_; have HB := n1_; clear n0_ n1_; (try clear hb); (try clear hb2); (try clear hk); (try clear hi); obtain ⟨Ao23, co23, eo23⟩ := Kd.N_slice HO531.out; subst eo23) | (go_at_call 20; (with_reducible refine (impl_StoreArea.calls k _ _ t529 t534 _ ?side1 ?side2 A6.out).mono ?_); (case side1 => repeat (first | exact (Kd.N_reads' HO531.out).2.2 | (with_reducible refine Kd.C_alloc ?_ _) | (with_reducible refine Kd.C_drewN ?_ _) | (with_reducible refine Kd.C_drew ?_))); (case side2 => exact (Kd.N_reads' HO531.out).2.1); rintro e w' ⟨rfl, ⟨nd, rfl⟩⟩; (try first | exact ⟨rfl, _, World.drewN_drewN _ _ _⟩ | exact ⟨rfl, _, Eq.trans (World.drewN_drewN _ _ _) (congrArg (World.drewN _) (Nat.add_assoc _ _ _))⟩)) | (go_at_call 18; (with_reducible refine (impl_SmallestFor.calls k _ _ t529 t532 t533 t535 _ ?side1 ?side2 A7.out).mono ?_); (case side1 => repeat (first | exact (Kd.N_reads' HO531.out).2.2 | (with_reducible refine Kd.C_alloc ?_ _) | (with_reducible refine Kd.C_drewN ?_ _) | (with_reducible refine Kd.C_drew ?_))); (case side2 => exact (Kd.N_reads' HO531.out).2.1); rintro e w' ⟨rfl, ⟨nd, rfl⟩⟩; (try first | exact ⟨rfl, _, World.drewN_drewN _ _ _⟩ | exact ⟨rfl, _, Eq.trans (World.drewN_drewN _ _ _) (congrArg (World.drewN _) (Nat.add_assoc _ _ _))⟩)) | (go_at_call 28; (with_reducible refine (impl_TakePiece.calls k _ _ t529 t532 t533 t536 t537 t538 _ ?side1 ?side2 A8.out).mono ?_); (case side1 => repeat (first | exact (Kd.N_reads' HO531.out).2.2 | (with_reducible refine Kd.C_alloc ?_ _) | (with_reducible refine Kd.C_drewN ?_ _) | (with_reducible refine Kd.C_drew ?_))); (case side2 => exact (Kd.N_reads' HO531.out).2.1); rintro e w24 ⟨v539, rfl, ho0, hb⟩; have n0_ := Aside0.mk (Kd.N_elder' (by (with_reducible repeat (first | apply Kd.N_alloc | apply Kd.N_drewN | apply Kd.N_drew)); exact HO531.out) (by first | exact Kd.N_base ho0 | exact Kd.S_base ho0) hb); have n1_ := Aside0.mk (Kd.N_lower (Kd.N_mono (ok' := fun k_ => some k_ ≠ (.slice Ao23 t529.length co23 : Value).ownBlock) (Kd.S_N (Kd.S_bound ho0)) (fun k_ hk_ => (Kd.fresh' (Kd.N_lt (by (with_reducible repeat (first | apply Kd.N_alloc | apply Kd.N_drewN | apply Kd.N_drew)); exact HO531.out)) k_ hk_.2.1))) (below_size (by repeat (first | (with_reducible first | exact HB.out | apply below_alloc | apply pw_below_drewN | apply below_drew1) | exact HB.out)))); have n2_ := Aside0.mk (below_step (by repeat (first | (with_reducible first | exact HB.out | apply below_alloc | apply pw_below_drewN | apply below_drew1) | exact HB.out)) hb); clear HO531; clear HB; have HO531 := n0_; have HO540 := n1_; have HB := n2_; clear n0_ n1_ n2_; (try clear hb); (try clear hb2); (try clear hk); (try clear hi); (try clear ho0)) | (go_at_call 15; (with_reducible refine (impl_StoreOk.calls _ _ t529 true _ ?side1 ?side2 A9.out).mono ?_); (case side1 => repeat (first | exact (Kd.N_reads' HO531.out).2.2 | (with_reducible refine Kd.C_alloc ?_ _) | (with_reducible refine Kd.C_drewN ?_ _) | (with_reducible refine Kd.C_drew ?_))); (case side2 => exact (Kd.N_reads' HO531.out).2.1); rintro e w' ⟨rfl, ⟨nd, rfl⟩⟩; (try first | exact ⟨rfl, _, World.drewN_drewN _ _ _⟩ | exact ⟨rfl, _, Eq.trans (World.drewN_drewN _ _ _) (congrArg (World.drewN _) (Nat.add_assoc _ _ _))⟩)) | (go_at_call 35; (with_reducible refine (laws_area.calls k _ _ t529 t542 _ ?side1 ?side2 A11.out).mono ?_); (case side1 => repeat (first | exact (Kd.N_reads' HO531.out).2.2 | (with_reducible refine Kd.C_alloc ?_ _) | (with_reducible refine Kd.C_drewN ?_ _) | (with_reducible refine Kd.C_drew ?_))); (case side2 => exact (Kd.N_reads' HO531.out).2.1); rintro e w' ⟨rfl, ⟨nd, rfl⟩⟩; (try first | exact ⟨rfl, _, World.drewN_drewN _ _ _⟩ | exact ⟨rfl, _, Eq.trans (World.drewN_drewN _ _ _) (congrArg (World.drewN _) (Nat.add_assoc _ _ _))⟩)) | (go_at_call 22; (with_reducible refine (impl_CanMake.calls k _ _ t529 t532 t533 false t543 _ ?side1 ?side2 A15.out).mono ?_); (case side1 => repeat (first | exact (Kd.N_reads' HO531.out).2.2 | (with_reducible refine Kd.C_alloc ?_ _) | (with_reducible refine Kd.C_drewN ?_ _) | (with_reducible refine Kd.C_drew ?_))); (case side2 => exact (Kd.N_reads' HO531.out).2.1); rintro e w' ⟨rfl, ⟨nd, rfl⟩⟩; (try first | exact ⟨rfl, _, World.drewN_drewN _ _ _⟩ | exact ⟨rfl, _, Eq.trans (World.drewN_drewN _ _ _) (congrArg (World.drewN _) (Nat.add_assoc _ _ _))⟩)) | (go_at_call 22; (with_reducible refine (impl_CanMake.calls k _ _ t529 t533 t532 true t544 _ ?side1 ?side2 A17.out).mono ?_); (case side1 => repeat (first | exact (Kd.N_reads' HO531.out).2.2 | (with_reducible refine Kd.C_alloc ?_ _) | (with_reducible refine Kd.C_drewN ?_ _) | (with_reducible refine Kd.C_drew ?_))); (case side2 => exact (Kd.N_reads' HO531.out).2.1); rintro e w' ⟨rfl, ⟨nd, rfl⟩⟩; (try first | exact ⟨rfl, _, World.drewN_drewN _ _ _⟩ | exact ⟨rfl, _, Eq.trans (World.drewN_drewN _ _ _) (congrArg (World.drewN _) (Nat.add_assoc _ _ _))⟩)) | (go_at_call 22; (with_reducible refine (impl_CanMake.calls k _ _ t529 t532 t533 true t545 _ ?side1 ?side2 A18.out).mono ?_); (case side1 => repeat (first | exact (Kd.N_reads' HO531.out).2.2 | (with_reducible refine Kd.C_alloc ?_ _) | (with_reducible refine Kd.C_drewN ?_ _) | (with_reducible refine Kd.C_drew ?_))); (case side2 => exact (Kd.N_reads' HO531.out).2.1); rintro e w' ⟨rfl, ⟨nd, rfl⟩⟩; (try first | exact ⟨rfl, _, World.drewN_drewN _ _ _⟩ | exact ⟨rfl, _, Eq.trans (World.drewN_drewN _ _ _) (congrArg (World.drewN _) (Nat.add_assoc _ _ _))⟩))); try go_wp2_with (first | (go_at_call 33; (with_reducible refine (spec_MakeStore.calls k _ _ l0 0 t529 _ ?side1 ?side2 A3.out).mono ?_); (case side1 => repeat (first | exact HR0.out | (with_reducible refine Kd.C_alloc ?_ _) | (with_reducible refine Kd.C_drewN ?_ _) | (with_reducible refine Kd.C_drew ?_))); (case side2 => exact HC0.out); rintro e w20 ⟨v530, rfl, ho0, hb⟩; have n0_ := Aside0.mk (Kd.N_lower (Kd.N_mono (ok' := fun k_ => True) (Kd.S_N (Kd.S_bound ho0)) (fun k_ hk_ => trivial)) (below_size (by repeat (first | (with_reducible first | exact HB.out | apply below_alloc | apply pw_below_drewN | apply below_drew1) | exact HB.out)))); have n1_ := Aside0.mk (below_step (by repeat (first | (with_reducible first | exact HB.out | apply below_alloc | apply pw_below_drewN | apply below_drew1) | exact HB.out)) hb); clear HB; have HO531 := n0_; have HB := n1_; clear n0_ n1_; (try clear hb); (try clear hb2); (try clear hk); (try clear hi); (try clear ho0)) | (go_at_call 34; (with_reducible refine (spec_MakeSize.calls k _ _ l0 30 1 12 t532 _ ?side1 ?side2 A4.out).mono ?_); (case side1 => repeat (first | exact (Kd.C_below HR0.out HB.out) | (with_reducible refine Kd.C_alloc ?_ _) | (with_reducible refine Kd.C_drewN ?_ _) | (with_reducible refine Kd.C_drew ?_))); (case side2 => exact HC0.out); rintro e w21 ⟨rfl, hb⟩; have n0_ := Aside0.mk (Kd.N_below (by (with_reducible repeat (first | apply Kd.N_alloc | apply Kd.N_drewN | apply Kd.N_drew)); exact HO531.out) hb); have n1_ := Aside0.mk (below_step (by repeat (first | (with_reducible first | exact HB.out | apply below_alloc | apply pw_below_drewN | apply below_drew1) | exact HB.out)) hb); clear HO531; clear HB; have HO531 := n0_; have HB := n1_; clear n0_ n1_; (try clear hb); (try clear hb2); (try clear hk); (try clear hi)) | (go_at_call 34; (with_reducible refine (spec_MakeSize.calls k _ _ l0 31 1 12 t533 _ ?side1 ?side2 A5.out).mono ?_); (case side1 => repeat (first | exact (Kd.C_below HR0.out HB.out) | (with_reducible refine Kd.C_alloc ?_ _) | (with_reducible refine Kd.C_drewN ?_ _) | (with_reducible refine Kd.C_drew ?_))); (case side2 => exact HC0.out); rintro e w22 ⟨rfl, hb⟩; have n0_ := Aside0.mk (Kd.N_below (by (with_reducible repeat (first | apply Kd.N_alloc | apply Kd.N_drewN | apply Kd.N_drew)); exact HO531.out) hb); have n1_ := Aside0.mk (below_step (by repeat (first | (with_reducible first | exact HB.out | apply below_alloc | apply pw_below_drewN | apply below_drew1) | exact HB.out)) hb); clear HO531; clear HB; have HO531 := n0_; have HB := n1_; clear n0_ n1_; (try clear hb); (try clear hb2); (try clear hk); (try clear hi); obtain ⟨Ao23, co23, eo23⟩ := Kd.N_slice HO531.out; subst eo23) | (go_at_call 20; (with_reducible refine (impl_StoreArea.calls k _ _ t529 t534 _ ?side1 ?side2 A6.out).mono ?_); (case side1 => repeat (first | exact (Kd.N_reads' HO531.out).2.2 | (with_reducible refine Kd.C_alloc ?_ _) | (with_reducible refine Kd.C_drewN ?_ _) | (with_reducible refine Kd.C_drew ?_))); (case side2 => exact (Kd.N_reads' HO531.out).2.1); rintro e w' ⟨rfl, ⟨nd, rfl⟩⟩; (try first | exact ⟨rfl, _, World.drewN_drewN _ _ _⟩ | exact ⟨rfl, _, Eq.trans (World.drewN_drewN _ _ _) (congrArg (World.drewN _) (Nat.add_assoc _ _ _))⟩)) | (go_at_call 18; (with_reducible refine (impl_SmallestFor.calls k _ _ t529 t532 t533 t535 _ ?side1 ?side2 A7.out).mono ?_); (case side1 => repeat (first | exact (Kd.N_reads' HO531.out).2.2 | (with_reducible refine Kd.C_alloc ?_ _) | (with_reducible refine Kd.C_drewN ?_ _) | (with_reducible refine Kd.C_drew ?_))); (case side2 => exact (Kd.N_reads' HO531.out).2.1); rintro e w' ⟨rfl, ⟨nd, rfl⟩⟩; (try first | exact ⟨rfl, _, World.drewN_drewN _ _ _⟩ | exact ⟨rfl, _, Eq.trans (World.drewN_drewN _ _ _) (congrArg (World.drewN _) (Nat.add_assoc _ _ _))⟩)) | (go_at_call 28; (with_reducible refine (impl_TakePiece.calls k _ _ t529 t532 t533 t536 t537 t538 _ ?side1 ?side2 A8.out).mono ?_); (case side1 => repeat (first | exact (Kd.N_reads' HO531.out).2.2 | (with_reducible refine Kd.C_alloc ?_ _) | (with_reducible refine Kd.C_drewN ?_ _) | (with_reducible refine Kd.C_drew ?_))); (case side2 => exact (Kd.N_reads' HO531.out).2.1); rintro e w24 ⟨v539, rfl, ho0, hb⟩; have n0_ := Aside0.mk (Kd.N_elder' (by (with_reducible repeat (first | apply Kd.N_alloc | apply Kd.N_drewN | apply Kd.N_drew)); exact HO531.out) (by first | exact Kd.N_base ho0 | exact Kd.S_base ho0) hb); have n1_ := Aside0.mk (Kd.N_lower (Kd.N_mono (ok' := fun k_ => some k_ ≠ (.slice Ao23 t529.length co23 : Value).ownBlock) (Kd.S_N (Kd.S_bound ho0)) (fun k_ hk_ => (Kd.fresh' (Kd.N_lt (by (with_reducible repeat (first | apply Kd.N_alloc | apply Kd.N_drewN | apply Kd.N_drew)); exact HO531.out)) k_ hk_.2.1))) (below_size (by repeat (first | (with_reducible first | exact HB.out | apply below_alloc | apply pw_below_drewN | apply below_drew1) | exact HB.out)))); have n2_ := Aside0.mk (below_step (by repeat (first | (with_reducible first | exact HB.out | apply below_alloc | apply pw_below_drewN | apply below_drew1) | exact HB.out)) hb); clear HO531; clear HB; have HO531 := n0_; have HO540 := n1_; have HB := n2_; clear n0_ n1_ n2_; (try clear hb); (try clear hb2); (try clear hk); (try clear hi); (try clear ho0)) | (go_at_call 15; (with_reducible refine (impl_StoreOk.calls _ _ t529 true _ ?side1 ?side2 A9.out).mono ?_); (case side1 => repeat (first | exact (Kd.N_reads' HO531.out).2.2 | (with_reducible refine Kd.C_alloc ?_ _) | (with_reducible refine Kd.C_drewN ?_ _) | (with_reducible refine Kd.C_drew ?_))); (case side2 => exact (Kd.N_reads' HO531.out).2.1); rintro e w' ⟨rfl, ⟨nd, rfl⟩⟩; (try first | exact ⟨rfl, _, World.drewN_drewN _ _ _⟩ | exact ⟨rfl, _, Eq.trans (World.drewN_drewN _ _ _) (congrArg (World.drewN _) (Nat.add_assoc _ _ _))⟩)) | (go_at_call 35; (with_reducible refine (laws_area.calls k _ _ t529 t542 _ ?side1 ?side2 A11.out).mono ?_); (case side1 => repeat (first | exact (Kd.N_reads' HO531.out).2.2 | (with_reducible refine Kd.C_alloc ?_ _) | (with_reducible refine Kd.C_drewN ?_ _) | (with_reducible refine Kd.C_drew ?_))); (case side2 => exact (Kd.N_reads' HO531.out).2.1); rintro e w' ⟨rfl, ⟨nd, rfl⟩⟩; (try first | exact ⟨rfl, _, World.drewN_drewN _ _ _⟩ | exact ⟨rfl, _, Eq.trans (World.drewN_drewN _ _ _) (congrArg (World.drewN _) (Nat.add_assoc _ _ _))⟩)) | (go_at_call 22; (with_reducible refine (impl_CanMake.calls k _ _ t529 t532 t533 false t543 _ ?side1 ?side2 A15.out).mono ?_); (case side1 => repeat (first | exact (Kd.N_reads' HO531.out).2.2 | (with_reducible refine Kd.C_alloc ?_ _) | (with_reducible refine Kd.C_drewN ?_ _) | (with_reducible refine Kd.C_drew ?_))); (case side2 => exact (Kd.N_reads' HO531.out).2.1); rintro e w' ⟨rfl, ⟨nd, rfl⟩⟩; (try first | exact ⟨rfl, _, World.drewN_drewN _ _ _⟩ | exact ⟨rfl, _, Eq.trans (World.drewN_drewN _ _ _) (congrArg (World.drewN _) (Nat.add_assoc _ _ _))⟩)) | (go_at_call 22; (with_reducible refine (impl_CanMake.calls k _ _ t529 t533 t532 true t544 _ ?side1 ?side2 A17.out).mono ?_); (case side1 => repeat (first | exact (Kd.N_reads' HO531.out).2.2 | (with_reducible refine Kd.C_alloc ?_ _) | (with_reducible refine Kd.C_drewN ?_ _) | (with_reducible refine Kd.C_drew ?_))); (case side2 => exact (Kd.N_reads' HO531.out).2.1); rintro e w' ⟨rfl, ⟨nd, rfl⟩⟩; (try first | exact ⟨rfl, _, World.drewN_drewN _ _ _⟩ | exact ⟨rfl, _, Eq.trans (World.drewN_drewN _ _ _) (congrArg (World.drewN _) (Nat.add_assoc _ _ _))⟩)) | (go_at_call 22; (with_reducible refine (impl_CanMake.calls k _ _ t529 t532 t533 true t545 _ ?side1 ?side2 A18.out).mono ?_); (case side1 => repeat (first | exact (Kd.N_reads' HO531.out).2.2 | (with_reducible refine Kd.C_alloc ?_ _) | (with_reducible refine Kd.C_drewN ?_ _) | (with_reducible refine Kd.C_drew ?_))); (case side2 => exact (Kd.N_reads' HO531.out).2.1); rintro e w' ⟨rfl, ⟨nd, rfl⟩⟩; (try first | exact ⟨rfl, _, World.drewN_drewN _ _ _⟩ | exact ⟨rfl, _, Eq.trans (World.drewN_drewN _ _ _) (congrArg (World.drewN _) (Nat.add_assoc _ _ _))⟩))))
        (try generalize decide (0 ≤ t535) = bz_t535)
        go_loopg [87] k (fun kq v87 w' => ∃ (x87_1 : Int), v87 = .int .i64 x87_1 ∧ Aside0 (laws_FnRemnants.l0 kq t529 t532 t533 t534 t535 t536 t538 t529 (t529.length : Int) x87_1 = some r) ∧ Aside0 (kq ≤ k) ∧ Aside0 (Kd.N (Kd.slice 3 (Kd.int .i64)) 40 w' w.heap.size (fun k_ => some k_ ≠ (v539 : Value).ownBlock) (.slice Ao23 t529.length co23) t529) ∧ Aside0 (Kd.N (Kd.slice 3 (Kd.int .i64)) 40 w' w.heap.size (fun k_ => some k_ ≠ ((.slice Ao23 t529.length co23) : Value).ownBlock ∧ some k_ ≠ ((.slice Ao23 t529.length co23) : Value).ownBlock) v539 t536) ∧ Aside0 (Kd.N (Kd.slice 3 (Kd.int .i64)) 40 w' w.heap.size (fun k_ => some k_ ≠ (v539 : Value).ownBlock) (.slice Ao23 t529.length co23) t529) ∧ Aside0 (Below w.heap.size w w'))
        case atStart => exact ⟨(0), (by first | rfl | (simp; done) | (simp [*]; done)), H', ⟨Nat.le_refl _⟩, ⟨by (with_reducible repeat (first | apply Kd.N_alloc | apply Kd.N_drewN | apply Kd.N_drew)); exact Kd.N_mono HO531.out (fun _ hk => hk.2)⟩, ⟨by (with_reducible repeat (first | apply Kd.N_alloc | apply Kd.N_drewN | apply Kd.N_drew)); exact Kd.N_mono HO540.out (fun _ hk => ⟨hk, hk⟩)⟩, ⟨by (with_reducible repeat (first | apply Kd.N_alloc | apply Kd.N_drewN | apply Kd.N_drew)); exact Kd.N_mono HO531.out (fun _ hk => hk.2)⟩, ⟨by repeat (first | (with_reducible first | exact HB.out | apply below_alloc | apply pw_below_drewN | apply below_drew1) | exact HB.out)⟩⟩
        case round =>
         clear H'
         try clear c1
         try clear c2
         try clear c2b0
         try clear c2b1
         try clear p2
         try clear c10
         try clear c11
         try clear c12
         try clear c12b0
         try clear c12b1
         try clear c13
         try clear c13b0
         try clear c13b1
         try clear c13b2
         try clear c14
         try clear c14b0
         try clear c14b1
         try clear c16
         try clear c16b0
         try clear c16b1
         try clear c16b2
         try clear c19
         try clear c19b0
         try clear c19b1
         try clear c19b2
         obtain ⟨x87_1, rfl, HA, HK1, HO_3, HO_8, HO_85, HB⟩ := hrel
         cases gk with
         | zero => exact absurd HA.out (by simp [laws_FnRemnants.l0])
         | succ k1 =>
          have H := HA.out
          clear HA
          simp only [laws_FnRemnants.l0] at H
          by_cases c25 : x87_1 < (t529.length : Int)
          ·rw [if_pos c25] at H
           have c25b0 : decide (x87_1 < (t529.length : Int)) = true := decide_eq_true c25
           clear c25
           by_cases c26 : 0 ≤ x87_1
           ·rw [if_pos c26] at H
            have c26b0 : decide (0 ≤ x87_1) = true := decide_eq_true c26
            clear c26
            by_cases c27 : x87_1 < (t529.length : Int)
            ·rw [if_pos c27] at H
             have c27b0 : decide (x87_1 < (t529.length : Int)) = true := decide_eq_true c27
             clear c27
             by_cases c28 : 0 < ((rd_L1 t529 x87_1).length : Int)
             ·rw [if_pos c28] at H
              have c28b0 : decide (0 < ((rd_L1 t529 x87_1).length : Int)) = true := decide_eq_true c28
              have c28b1 : decide (0 < (rd_L1 t529 x87_1).length) = true := decide_eq_true (by omega)
              clear c28
              by_cases c29 : (rd (rd_L1 t529 x87_1) 0) ≥ t532
              ·rw [if_pos c29] at H
               have c29b0 : decide (t532 ≤ (rd (rd_L1 t529 x87_1) 0)) = true := decide_eq_true c29
               clear c29
               by_cases c30 : 1 < ((rd_L1 t529 x87_1).length : Int)
               ·rw [if_pos c30] at H
                have c30b0 : decide (1 < ((rd_L1 t529 x87_1).length : Int)) = true := decide_eq_true c30
                have c30b1 : decide (1 < (rd_L1 t529 x87_1).length) = true := decide_eq_true (by omega)
                clear c30
                by_cases c31 : (rd (rd_L1 t529 x87_1) 1) ≥ t533
                ·rw [if_pos c31] at H
                 have c31b0 : decide (t533 ≤ (rd (rd_L1 t529 x87_1) 1)) = true := decide_eq_true c31
                 clear c31
                 by_cases c32 : t535 < 0
                 ·rw [if_pos c32] at H
                  exact absurd H (by simp)
                 ·rw [if_neg c32] at H
                  have c32b0 : decide (t535 < 0) = false := decide_eq_false c32
                  clear c32
                  by_cases c33 : t535 ≥ (t529.length : Int)
                  ·rw [if_pos c33] at H
                   exact absurd H (by simp)
                  ·rw [if_neg c33] at H
                   have c33b0 : decide ((t529.length : Int) ≤ t535) = false := decide_eq_false c33
                   clear c33
                   by_cases c34 : 0 ≤ t535
                   ·rw [if_pos c34] at H
                    have c34b0 : decide (0 ≤ t535) = true := decide_eq_true c34
                    clear c34
                    by_cases c35 : t535 < (t529.length : Int)
                    ·rw [if_pos c35] at H
                     have c35b0 : decide (t535 < (t529.length : Int)) = true := decide_eq_true c35
                     clear c35
                     by_cases c36 : 0 < ((rd_L1 t529 t535).length : Int)
                     ·rw [if_pos c36] at H
                      have c36b0 : decide (0 < ((rd_L1 t529 t535).length : Int)) = true := decide_eq_true c36
                      have c36b1 : decide (0 < (rd_L1 t529 t535).length) = true := decide_eq_true (by omega)
                      clear c36
                      by_cases c37 : 1 < ((rd_L1 t529 t535).length : Int)
                      ·rw [if_pos c37] at H
                       have c37b0 : decide (1 < ((rd_L1 t529 t535).length : Int)) = true := decide_eq_true c37
                       have c37b1 : decide (1 < (rd_L1 t529 t535).length) = true := decide_eq_true (by omega)
                       clear c37
                       by_cases c38 : (wrap64 ((rd (rd_L1 t529 x87_1) 0) * (rd (rd_L1 t529 x87_1) 1))) < (wrap64 ((rd (rd_L1 t529 t535) 0) * (rd (rd_L1 t529 t535) 1)))
                       ·rw [if_pos c38] at H
                        exact absurd H (by simp)
                       ·rw [if_neg c38] at H
                        have c38b0 : decide ((wrap64 ((rd (rd_L1 t529 x87_1) 0) * (rd (rd_L1 t529 x87_1) 1))) < (wrap64 ((rd (rd_L1 t529 t535) 0) * (rd (rd_L1 t529 t535) 1)))) = false := decide_eq_false c38
                        clear c38
                        by_cases c39 : (wrap64 ((rd (rd_L1 t529 x87_1) 0) * (rd (rd_L1 t529 x87_1) 1))) = (wrap64 ((rd (rd_L1 t529 t535) 0) * (rd (rd_L1 t529 t535) 1)))
                        ·rw [if_pos c39] at H
                         have c39b0 : ((wrap64 ((rd (rd_L1 t529 x87_1) 0) * (rd (rd_L1 t529 x87_1) 1))) == (wrap64 ((rd (rd_L1 t529 t535) 0) * (rd (rd_L1 t529 t535) 1)))) = true := beq_iff_eq.mpr c39
                         have c39b1 : ((wrap64 ((rd (rd_L1 t529 x87_1) 0) * (rd (rd_L1 t529 x87_1) 1))) != (wrap64 ((rd (rd_L1 t529 t535) 0) * (rd (rd_L1 t529 t535) 1)))) = false := bne_eq_false_iff_eq.mpr c39
                         clear c39
                         by_cases c40 : x87_1 < t535
                         ·rw [if_pos c40] at H
                          exact absurd H (by simp)
                         ·rw [if_neg c40] at H
                          have c40b0 : decide (x87_1 < t535) = false := decide_eq_false c40
                          clear c40
                          as_aux_lemma =>
                           have H' := Aside0.mk H
                           clear H
                           have p546 : 0 ≤ (x87_1 : Int) := of_decide_eq_true (by first | (with_reducible assumption) | assumption)
                           have q546 : x87_1 < (t529.length : Int) := of_decide_eq_true (by first | (with_reducible assumption) | assumption)
                           obtain ⟨ad546, A546_0, c546_0, e546, hx546_0, hl546_0, hi546_0⟩ := at_L1 (Kd.N_reads' HO_85.out).2.2 x87_1 p546 q546
                           cases e546
                           obtain ⟨ce546, hce546, hMe546, hcc546⟩ := Kd.N_get HO_85.out [] x87_1 p546 (by first | exact q546 | exact of_decide_eq_true (by first | (with_reducible assumption) | assumption) | (have e_ := (Kd.N_reads' HO_85.out).1; omega))
                           obtain ⟨ua546_0, uc546_0, rfl, ul546_0, ge546_0⟩ := Kd.FK_slice_open hMe546
                           have hv546_0 := hcc546 0 _ rfl
                           rw [Nat.add_zero, show ((Kd.slice 3 (Kd.int .i64))).sz = 1 from rfl, Nat.mul_one] at hv546_0
                           replace hv546_0 := Option.some.inj (hv546_0.symm.trans hx546_0)
                           injection hv546_0 with hva_ hvn_ hvc_
                           rw [hva_] at ge546_0
                           rw [hvc_] at ul546_0
                           have HL546_0 := Aside0.mk (show Kd.V (Kd.int .i64) 3 _ w.heap.size _ _ (rd_L1 t529 x87_1) from Kd.V_mk ul546_0 ge546_0)
                           clear hva_ hvn_ hvc_ ge546_0 ul546_0
                           clear hcc546 hce546
                           have HR546_0 := Aside0.mk hi546_0
                           have HC546_0 := Aside0.mk hl546_0
                           clear hi546_0 hl546_0
                           replace p546 := eq_true p546
                           replace q546 := eq_true q546
                           have p547 : 0 ≤ (0 : Int) := (by omega)
                           have q547 : 0 < ((rd_L1 t529 x87_1).length : Int) := of_decide_eq_true (by first | (with_reducible assumption) | assumption)
                           obtain ⟨ad547, e547, hx547_0⟩ := Kd.at_int (by repeat (first | (with_reducible exact HR546_0.out) | (with_reducible refine Kd.C_alloc ?_ _) | (with_reducible refine Kd.C_drewN ?_ _) | (with_reducible refine Kd.C_drew ?_) | exact HR546_0.out)) 0 p547 q547
                           cases e547
                           have qi547 : (0 < (rd_L1 t529 x87_1).length) = True := eq_true (by omega)
                           (try rw [show ((0 : Int)).toNat = 0 from rfl] at hx547_0)
                           (try rw [Addr.add_zero'] at hx547_0)
                           replace p547 := eq_true p547
                           replace q547 := eq_true q547
                           have p548 : 0 ≤ (1 : Int) := (by omega)
                           have q548 : 1 < ((rd_L1 t529 x87_1).length : Int) := of_decide_eq_true (by first | (with_reducible assumption) | assumption)
                           obtain ⟨ad548, e548, hx548_0⟩ := Kd.at_int (by repeat (first | (with_reducible exact HR546_0.out) | (with_reducible refine Kd.C_alloc ?_ _) | (with_reducible refine Kd.C_drewN ?_ _) | (with_reducible refine Kd.C_drew ?_) | exact HR546_0.out)) 1 p548 q548
                           obtain rfl : ad547 = ad548 := (by injection e548)
                           (try simp only [show (1 : Int).toNat = 1 from rfl, Nat.reduceMul, Nat.reduceEqDiff, Go.Addr.add, ↓reduceIte] at hx548_0)
                           have qi548 : (1 < (rd_L1 t529 x87_1).length) = True := eq_true (by omega)
                           (try rw [show ((1 : Int)).toNat = 1 from rfl] at hx548_0)
                           replace p548 := eq_true p548
                           replace q548 := eq_true q548
                           have p549 : 0 ≤ (0 : Int) := (by omega)
                           have q549 : 0 < ((rd_L1 t529 x87_1).length : Int) := of_decide_eq_true (by first | (with_reducible assumption) | assumption)
                           obtain ⟨ad549, e549, hx549_0⟩ := Kd.at_int (by repeat (first | (with_reducible exact HR546_0.out) | (with_reducible refine Kd.C_alloc ?_ _) | (with_reducible refine Kd.C_drewN ?_ _) | (with_reducible refine Kd.C_drew ?_) | exact HR546_0.out)) 0 p549 q549
                           obtain rfl : ad547 = ad549 := (by injection e549)
                           have qi549 : (0 < (rd_L1 t529 x87_1).length) = True := eq_true (by omega)
                           (try rw [show ((0 : Int)).toNat = 0 from rfl] at hx549_0)
                           (try rw [Addr.add_zero'] at hx549_0)
                           replace p549 := eq_true p549
                           replace q549 := eq_true q549
                           have p550 : 0 ≤ (1 : Int) := (by omega)
                           have q550 : 1 < ((rd_L1 t529 x87_1).length : Int) := of_decide_eq_true (by first | (with_reducible assumption) | assumption)
                           obtain ⟨ad550, e550, hx550_0⟩ := Kd.at_int (by repeat (first | (with_reducible exact HR546_0.out) | (with_reducible refine Kd.C_alloc ?_ _) | (with_reducible refine Kd.C_drewN ?_ _) | (with_reducible refine Kd.C_drew ?_) | exact HR546_0.out)) 1 p550 q550
                           obtain rfl : ad547 = ad550 := (by injection e550)
                           (try simp only [show (1 : Int).toNat = 1 from rfl, Nat.reduceMul, Nat.reduceEqDiff, Go.Addr.add, ↓reduceIte] at hx550_0)
                           have qi550 : (1 < (rd_L1 t529 x87_1).length) = True := eq_true (by omega)
                           (try rw [show ((1 : Int)).toNat = 1 from rfl] at hx550_0)
                           replace p550 := eq_true p550
                           replace q550 := eq_true q550
                           have p551 : 0 ≤ (t535 : Int) := of_decide_eq_true (by first | (with_reducible assumption) | assumption)
                           have q551 : t535 < (t529.length : Int) := of_decide_eq_true (by first | (with_reducible assumption) | assumption)
                           obtain ⟨ad551, A551_0, c551_0, e551, hx551_0, hl551_0, hi551_0⟩ := at_L1 (Kd.N_reads' HO_3.out).2.2 t535 p551 q551
                           obtain rfl : ad546 = ad551 := (by injection e551)
                           obtain ⟨ce551, hce551, hMe551, hcc551⟩ := Kd.N_get HO_3.out [] t535 p551 (by first | exact q551 | exact of_decide_eq_true (by first | (with_reducible assumption) | assumption) | (have e_ := (Kd.N_reads' HO_3.out).1; omega))
                           obtain ⟨ua551_0, uc551_0, rfl, ul551_0, ge551_0⟩ := Kd.FK_slice_open hMe551
                           have hv551_0 := hcc551 0 _ rfl
                           rw [Nat.add_zero, show ((Kd.slice 3 (Kd.int .i64))).sz = 1 from rfl, Nat.mul_one] at hv551_0
                           replace hv551_0 := Option.some.inj (hv551_0.symm.trans hx551_0)
                           injection hv551_0 with hva_ hvn_ hvc_
                           rw [hva_] at ge551_0
                           rw [hvc_] at ul551_0
                           have HL551_0 := Aside0.mk (show Kd.V (Kd.int .i64) 3 _ w.heap.size _ _ (rd_L1 t529 t535) from Kd.V_mk ul551_0 ge551_0)
                           clear hva_ hvn_ hvc_ ge551_0 ul551_0
                           clear hcc551 hce551
                           have HR551_0 := Aside0.mk hi551_0
                           have HC551_0 := Aside0.mk hl551_0
                           clear hi551_0 hl551_0
                           replace p551 := eq_true p551
                           replace q551 := eq_true q551
                           have p552 : 0 ≤ (0 : Int) := (by omega)
                           have q552 : 0 < ((rd_L1 t529 t535).length : Int) := of_decide_eq_true (by first | (with_reducible assumption) | assumption)
                           obtain ⟨ad552, e552, hx552_0⟩ := Kd.at_int (by repeat (first | (with_reducible exact HR551_0.out) | (with_reducible refine Kd.C_alloc ?_ _) | (with_reducible refine Kd.C_drewN ?_ _) | (with_reducible refine Kd.C_drew ?_) | exact HR551_0.out)) 0 p552 q552
                           cases e552
                           have qi552 : (0 < (rd_L1 t529 t535).length) = True := eq_true (by omega)
                           (try rw [show ((0 : Int)).toNat = 0 from rfl] at hx552_0)
                           (try rw [Addr.add_zero'] at hx552_0)
                           replace p552 := eq_true p552
                           replace q552 := eq_true q552
                           have p553 : 0 ≤ (t535 : Int) := of_decide_eq_true (by first | (with_reducible assumption) | assumption)
                           have q553 : t535 < (t529.length : Int) := of_decide_eq_true (by first | (with_reducible assumption) | assumption)
                           obtain ⟨ad553, A553_0, c553_0, e553, hx553_0, hl553_0, hi553_0⟩ := at_L1 (Kd.N_reads' HO_3.out).2.2 t535 p553 q553
                           obtain rfl : ad546 = ad553 := (by injection e553)
                           obtain ⟨ce553, hce553, hMe553, hcc553⟩ := Kd.N_get HO_3.out [] t535 p553 (by first | exact q553 | exact of_decide_eq_true (by first | (with_reducible assumption) | assumption) | (have e_ := (Kd.N_reads' HO_3.out).1; omega))
                           obtain ⟨ua553_0, uc553_0, rfl, ul553_0, ge553_0⟩ := Kd.FK_slice_open hMe553
                           have hv553_0 := hcc553 0 _ rfl
                           rw [Nat.add_zero, show ((Kd.slice 3 (Kd.int .i64))).sz = 1 from rfl, Nat.mul_one] at hv553_0
                           replace hv553_0 := Option.some.inj (hv553_0.symm.trans hx553_0)
                           injection hv553_0 with hva_ hvn_ hvc_
                           rw [hva_] at ge553_0
                           rw [hvc_] at ul553_0
                           have HL553_0 := Aside0.mk (show Kd.V (Kd.int .i64) 3 _ w.heap.size _ _ (rd_L1 t529 t535) from Kd.V_mk ul553_0 ge553_0)
                           clear hva_ hvn_ hvc_ ge553_0 ul553_0
                           clear hcc553 hce553
                           have HR553_0 := Aside0.mk hi553_0
                           have HC553_0 := Aside0.mk hl553_0
                           clear hi553_0 hl553_0
                           replace p553 := eq_true p553
                           replace q553 := eq_true q553
                           have ea_ := Option.some.inj (hx551_0.symm.trans hx553_0)
                           injection ea_ with ea_ en_ ec_
                           subst ea_
                           subst ec_
                           clear en_
                           have p554 : 0 ≤ (1 : Int) := (by omega)
                           have q554 : 1 < ((rd_L1 t529 t535).length : Int) := of_decide_eq_true (by first | (with_reducible assumption) | assumption)
                           obtain ⟨ad554, e554, hx554_0⟩ := Kd.at_int (by repeat (first | (with_reducible exact HR553_0.out) | (with_reducible refine Kd.C_alloc ?_ _) | (with_reducible refine Kd.C_drewN ?_ _) | (with_reducible refine Kd.C_drew ?_) | exact HR553_0.out)) 1 p554 q554
                           cases e554
                           (try simp only [show (1 : Int).toNat = 1 from rfl, Nat.reduceMul, Nat.reduceEqDiff, Go.Addr.add, ↓reduceIte] at hx554_0)
                           have qi554 : (1 < (rd_L1 t529 t535).length) = True := eq_true (by omega)
                           (try rw [show ((1 : Int)).toNat = 1 from rfl] at hx554_0)
                           replace p554 := eq_true p554
                           replace q554 := eq_true q554
                           have p555 : 0 ≤ (0 : Int) := (by omega)
                           have q555 : 0 < ((rd_L1 t529 x87_1).length : Int) := of_decide_eq_true (by first | (with_reducible assumption) | assumption)
                           obtain ⟨ad555, e555, hx555_0⟩ := Kd.at_int (by repeat (first | (with_reducible exact HR546_0.out) | (with_reducible refine Kd.C_alloc ?_ _) | (with_reducible refine Kd.C_drewN ?_ _) | (with_reducible refine Kd.C_drew ?_) | exact HR546_0.out)) 0 p555 q555
                           obtain rfl : ad547 = ad555 := (by injection e555)
                           have qi555 : (0 < (rd_L1 t529 x87_1).length) = True := eq_true (by omega)
                           (try rw [show ((0 : Int)).toNat = 0 from rfl] at hx555_0)
                           (try rw [Addr.add_zero'] at hx555_0)
                           replace p555 := eq_true p555
                           replace q555 := eq_true q555
                           have p556 : 0 ≤ (1 : Int) := (by omega)
                           have q556 : 1 < ((rd_L1 t529 x87_1).length : Int) := of_decide_eq_true (by first | (with_reducible assumption) | assumption)
                           obtain ⟨ad556, e556, hx556_0⟩ := Kd.at_int (by repeat (first | (with_reducible exact HR546_0.out) | (with_reducible refine Kd.C_alloc ?_ _) | (with_reducible refine Kd.C_drewN ?_ _) | (with_reducible refine Kd.C_drew ?_) | exact HR546_0.out)) 1 p556 q556
                           obtain rfl : ad547 = ad556 := (by injection e556)
                           (try simp only [show (1 : Int).toNat = 1 from rfl, Nat.reduceMul, Nat.reduceEqDiff, Go.Addr.add, ↓reduceIte] at hx556_0)
                           have qi556 : (1 < (rd_L1 t529 x87_1).length) = True := eq_true (by omega)
                           (try rw [show ((1 : Int)).toNat = 1 from rfl] at hx556_0)
                           replace p556 := eq_true p556
                           replace q556 := eq_true q556
                           have p557 : 0 ≤ (t535 : Int) := of_decide_eq_true (by first | (with_reducible assumption) | assumption)
                           have q557 : t535 < (t529.length : Int) := of_decide_eq_true (by first | (with_reducible assumption) | assumption)
                           obtain ⟨ad557, A557_0, c557_0, e557, hx557_0, hl557_0, hi557_0⟩ := at_L1 (Kd.N_reads' HO_3.out).2.2 t535 p557 q557
                           obtain rfl : ad546 = ad557 := (by injection e557)
                           obtain ⟨ce557, hce557, hMe557, hcc557⟩ := Kd.N_get HO_3.out [] t535 p557 (by first | exact q557 | exact of_decide_eq_true (by first | (with_reducible assumption) | assumption) | (have e_ := (Kd.N_reads' HO_3.out).1; omega))
                           obtain ⟨ua557_0, uc557_0, rfl, ul557_0, ge557_0⟩ := Kd.FK_slice_open hMe557
                           have hv557_0 := hcc557 0 _ rfl
                           rw [Nat.add_zero, show ((Kd.slice 3 (Kd.int .i64))).sz = 1 from rfl, Nat.mul_one] at hv557_0
                           replace hv557_0 := Option.some.inj (hv557_0.symm.trans hx557_0)
                           injection hv557_0 with hva_ hvn_ hvc_
                           rw [hva_] at ge557_0
                           rw [hvc_] at ul557_0
                           have HL557_0 := Aside0.mk (show Kd.V (Kd.int .i64) 3 _ w.heap.size _ _ (rd_L1 t529 t535) from Kd.V_mk ul557_0 ge557_0)
                           clear hva_ hvn_ hvc_ ge557_0 ul557_0
                           clear hcc557 hce557
                           have HR557_0 := Aside0.mk hi557_0
                           have HC557_0 := Aside0.mk hl557_0
                           clear hi557_0 hl557_0
                           replace p557 := eq_true p557
                           replace q557 := eq_true q557
                           have ea_ := Option.some.inj (hx551_0.symm.trans hx557_0)
                           injection ea_ with ea_ en_ ec_
                           subst ea_
                           subst ec_
                           clear en_
                           have p558 : 0 ≤ (0 : Int) := (by omega)
                           have q558 : 0 < ((rd_L1 t529 t535).length : Int) := of_decide_eq_true (by first | (with_reducible assumption) | assumption)
                           obtain ⟨ad558, e558, hx558_0⟩ := Kd.at_int (by repeat (first | (with_reducible exact HR557_0.out) | (with_reducible refine Kd.C_alloc ?_ _) | (with_reducible refine Kd.C_drewN ?_ _) | (with_reducible refine Kd.C_drew ?_) | exact HR557_0.out)) 0 p558 q558
                           cases e558
                           have qi558 : (0 < (rd_L1 t529 t535).length) = True := eq_true (by omega)
                           (try rw [show ((0 : Int)).toNat = 0 from rfl] at hx558_0)
                           (try rw [Addr.add_zero'] at hx558_0)
                           replace p558 := eq_true p558
                           replace q558 := eq_true q558
                           have p559 : 0 ≤ (t535 : Int) := of_decide_eq_true (by first | (with_reducible assumption) | assumption)
                           have q559 : t535 < (t529.length : Int) := of_decide_eq_true (by first | (with_reducible assumption) | assumption)
                           obtain ⟨ad559, A559_0, c559_0, e559, hx559_0, hl559_0, hi559_0⟩ := at_L1 (Kd.N_reads' HO_3.out).2.2 t535 p559 q559
                           obtain rfl : ad546 = ad559 := (by injection e559)
                           obtain ⟨ce559, hce559, hMe559, hcc559⟩ := Kd.N_get HO_3.out [] t535 p559 (by first | exact q559 | exact of_decide_eq_true (by first | (with_reducible assumption) | assumption) | (have e_ := (Kd.N_reads' HO_3.out).1; omega))
                           obtain ⟨ua559_0, uc559_0, rfl, ul559_0, ge559_0⟩ := Kd.FK_slice_open hMe559
                           have hv559_0 := hcc559 0 _ rfl
                           rw [Nat.add_zero, show ((Kd.slice 3 (Kd.int .i64))).sz = 1 from rfl, Nat.mul_one] at hv559_0
                           replace hv559_0 := Option.some.inj (hv559_0.symm.trans hx559_0)
                           injection hv559_0 with hva_ hvn_ hvc_
                           rw [hva_] at ge559_0
                           rw [hvc_] at ul559_0
                           have HL559_0 := Aside0.mk (show Kd.V (Kd.int .i64) 3 _ w.heap.size _ _ (rd_L1 t529 t535) from Kd.V_mk ul559_0 ge559_0)
                           clear hva_ hvn_ hvc_ ge559_0 ul559_0
                           clear hcc559 hce559
                           have HR559_0 := Aside0.mk hi559_0
                           have HC559_0 := Aside0.mk hl559_0
                           clear hi559_0 hl559_0
                           replace p559 := eq_true p559
                           replace q559 := eq_true q559
                           have ea_ := Option.some.inj (hx551_0.symm.trans hx559_0)
                           injection ea_ with ea_ en_ ec_
                           subst ea_
                           subst ec_
                           clear en_
                           have p560 : 0 ≤ (1 : Int) := (by omega)
                           have q560 : 1 < ((rd_L1 t529 t535).length : Int) := of_decide_eq_true (by first | (with_reducible assumption) | assumption)
                           obtain ⟨ad560, e560, hx560_0⟩ := Kd.at_int (by repeat (first | (with_reducible exact HR559_0.out) | (with_reducible refine Kd.C_alloc ?_ _) | (with_reducible refine Kd.C_drewN ?_ _) | (with_reducible refine Kd.C_drew ?_) | exact HR559_0.out)) 1 p560 q560
                           cases e560
                           (try simp only [show (1 : Int).toNat = 1 from rfl, Nat.reduceMul, Nat.reduceEqDiff, Go.Addr.add, ↓reduceIte] at hx560_0)
                           have qi560 : (1 < (rd_L1 t529 t535).length) = True := eq_true (by omega)
                           (try rw [show ((1 : Int)).toNat = 1 from rfl] at hx560_0)
                           replace p560 := eq_true p560
                           replace q560 := eq_true q560
                           go_wp2
                           repeat (go_quiet (fail); try go_wp2)
                           go_roundg k1
                           case measure => have := HK1.out; omega
                           case rel => exact ⟨(wrap64 (x87_1 + 1)), (by first | rfl | (simp; done) | (simp [*]; done)), H', ⟨by have := HK1.out; omega⟩, ⟨by (with_reducible repeat (first | apply Kd.N_alloc | apply Kd.N_drewN | apply Kd.N_drew)); exact HO_3.out⟩, ⟨by (with_reducible repeat (first | apply Kd.N_alloc | apply Kd.N_drewN | apply Kd.N_drew)); exact HO_8.out⟩, ⟨by (with_reducible repeat (first | apply Kd.N_alloc | apply Kd.N_drewN | apply Kd.N_drew)); exact HO_85.out⟩, ⟨by repeat (first | (with_reducible first | exact HB.out | apply below_alloc | apply pw_below_drewN | apply below_drew1) | exact HB.out)⟩⟩
                        ·rw [if_neg c39] at H
                         have c39b0 : ((wrap64 ((rd (rd_L1 t529 x87_1) 0) * (rd (rd_L1 t529 x87_1) 1))) == (wrap64 ((rd (rd_L1 t529 t535) 0) * (rd (rd_L1 t529 t535) 1)))) = false := beq_eq_false_iff_ne.mpr c39
                         have c39b1 : ((wrap64 ((rd (rd_L1 t529 x87_1) 0) * (rd (rd_L1 t529 x87_1) 1))) != (wrap64 ((rd (rd_L1 t529 t535) 0) * (rd (rd_L1 t529 t535) 1)))) = true := bne_iff_ne.mpr c39
                         as_aux_lemma =>
                          have H' := Aside0.mk H
                          clear H
                          have p546 : 0 ≤ (x87_1 : Int) := of_decide_eq_true (by first | (with_reducible assumption) | assumption)
                          have q546 : x87_1 < (t529.length : Int) := of_decide_eq_true (by first | (with_reducible assumption) | assumption)
                          obtain ⟨ad546, A546_0, c546_0, e546, hx546_0, hl546_0, hi546_0⟩ := at_L1 (Kd.N_reads' HO_85.out).2.2 x87_1 p546 q546
                          cases e546
                          obtain ⟨ce546, hce546, hMe546, hcc546⟩ := Kd.N_get HO_85.out [] x87_1 p546 (by first | exact q546 | exact of_decide_eq_true (by first | (with_reducible assumption) | assumption) | (have e_ := (Kd.N_reads' HO_85.out).1; omega))
                          obtain ⟨ua546_0, uc546_0, rfl, ul546_0, ge546_0⟩ := Kd.FK_slice_open hMe546
                          have hv546_0 := hcc546 0 _ rfl
                          rw [Nat.add_zero, show ((Kd.slice 3 (Kd.int .i64))).sz = 1 from rfl, Nat.mul_one] at hv546_0
                          replace hv546_0 := Option.some.inj (hv546_0.symm.trans hx546_0)
                          injection hv546_0 with hva_ hvn_ hvc_
                          rw [hva_] at ge546_0
                          rw [hvc_] at ul546_0
                          have HL546_0 := Aside0.mk (show Kd.V (Kd.int .i64) 3 _ w.heap.size _ _ (rd_L1 t529 x87_1) from Kd.V_mk ul546_0 ge546_0)
                          clear hva_ hvn_ hvc_ ge546_0 ul546_0
                          clear hcc546 hce546
                          have HR546_0 := Aside0.mk hi546_0
                          have HC546_0 := Aside0.mk hl546_0
                          clear hi546_0 hl546_0
                          replace p546 := eq_true p546
                          replace q546 := eq_true q546
                          have p547 : 0 ≤ (0 : Int) := (by omega)
                          have q547 : 0 < ((rd_L1 t529 x87_1).length : Int) := of_decide_eq_true (by first | (with_reducible assumption) | assumption)
                          obtain ⟨ad547, e547, hx547_0⟩ := Kd.at_int (by repeat (first | (with_reducible exact HR546_0.out) | (with_reducible refine Kd.C_alloc ?_ _) | (with_reducible refine Kd.C_drewN ?_ _) | (with_reducible refine Kd.C_drew ?_) | exact HR546_0.out)) 0 p547 q547
                          cases e547
                          have qi547 : (0 < (rd_L1 t529 x87_1).length) = True := eq_true (by omega)
                          (try rw [show ((0 : Int)).toNat = 0 from rfl] at hx547_0)
                          (try rw [Addr.add_zero'] at hx547_0)
                          replace p547 := eq_true p547
                          replace q547 := eq_true q547
                          have p548 : 0 ≤ (1 : Int) := (by omega)
                          have q548 : 1 < ((rd_L1 t529 x87_1).length : Int) := of_decide_eq_true (by first | (with_reducible assumption) | assumption)
                          obtain ⟨ad548, e548, hx548_0⟩ := Kd.at_int (by repeat (first | (with_reducible exact HR546_0.out) | (with_reducible refine Kd.C_alloc ?_ _) | (with_reducible refine Kd.C_drewN ?_ _) | (with_reducible refine Kd.C_drew ?_) | exact HR546_0.out)) 1 p548 q548
                          obtain rfl : ad547 = ad548 := (by injection e548)
                          (try simp only [show (1 : Int).toNat = 1 from rfl, Nat.reduceMul, Nat.reduceEqDiff, Go.Addr.add, ↓reduceIte] at hx548_0)
                          have qi548 : (1 < (rd_L1 t529 x87_1).length) = True := eq_true (by omega)
                          (try rw [show ((1 : Int)).toNat = 1 from rfl] at hx548_0)
                          replace p548 := eq_true p548
                          replace q548 := eq_true q548
                          have p549 : 0 ≤ (0 : Int) := (by omega)
                          have q549 : 0 < ((rd_L1 t529 x87_1).length : Int) := of_decide_eq_true (by first | (with_reducible assumption) | assumption)
                          obtain ⟨ad549, e549, hx549_0⟩ := Kd.at_int (by repeat (first | (with_reducible exact HR546_0.out) | (with_reducible refine Kd.C_alloc ?_ _) | (with_reducible refine Kd.C_drewN ?_ _) | (with_reducible refine Kd.C_drew ?_) | exact HR546_0.out)) 0 p549 q549
                          obtain rfl : ad547 = ad549 := (by injection e549)
                          have qi549 : (0 < (rd_L1 t529 x87_1).length) = True := eq_true (by omega)
                          (try rw [show ((0 : Int)).toNat = 0 from rfl] at hx549_0)
                          (try rw [Addr.add_zero'] at hx549_0)
                          replace p549 := eq_true p549
                          replace q549 := eq_true q549
                          have p550 : 0 ≤ (1 : Int) := (by omega)
                          have q550 : 1 < ((rd_L1 t529 x87_1).length : Int) := of_decide_eq_true (by first | (with_reducible assumption) | assumption)
                          obtain ⟨ad550, e550, hx550_0⟩ := Kd.at_int (by repeat (first | (with_reducible exact HR546_0.out) | (with_reducible refine Kd.C_alloc ?_ _) | (with_reducible refine Kd.C_drewN ?_ _) | (with_reducible refine Kd.C_drew ?_) | exact HR546_0.out)) 1 p550 q550
                          obtain rfl : ad547 = ad550 := (by injection e550)
                          (try simp only [show (1 : Int).toNat = 1 from rfl, Nat.reduceMul, Nat.reduceEqDiff, Go.Addr.add, ↓reduceIte] at hx550_0)
                          have qi550 : (1 < (rd_L1 t529 x87_1).length) = True := eq_true (by omega)
                          (try rw [show ((1 : Int)).toNat = 1 from rfl] at hx550_0)
                          replace p550 := eq_true p550
                          replace q550 := eq_true q550
                          have p551 : 0 ≤ (t535 : Int) := of_decide_eq_true (by first | (with_reducible assumption) | assumption)
                          have q551 : t535 < (t529.length : Int) := of_decide_eq_true (by first | (with_reducible assumption) | assumption)
                          obtain ⟨ad551, A551_0, c551_0, e551, hx551_0, hl551_0, hi551_0⟩ := at_L1 (Kd.N_reads' HO_3.out).2.2 t535 p551 q551
                          obtain rfl : ad546 = ad551 := (by injection e551)
                          obtain ⟨ce551, hce551, hMe551, hcc551⟩ := Kd.N_get HO_3.out [] t535 p551 (by first | exact q551 | exact of_decide_eq_true (by first | (with_reducible assumption) | assumption) | (have e_ := (Kd.N_reads' HO_3.out).1; omega))
                          obtain ⟨ua551_0, uc551_0, rfl, ul551_0, ge551_0⟩ := Kd.FK_slice_open hMe551
                          have hv551_0 := hcc551 0 _ rfl
                          rw [Nat.add_zero, show ((Kd.slice 3 (Kd.int .i64))).sz = 1 from rfl, Nat.mul_one] at hv551_0
                          replace hv551_0 := Option.some.inj (hv551_0.symm.trans hx551_0)
                          injection hv551_0 with hva_ hvn_ hvc_
                          rw [hva_] at ge551_0
                          rw [hvc_] at ul551_0
                          have HL551_0 := Aside0.mk (show Kd.V (Kd.int .i64) 3 _ w.heap.size _ _ (rd_L1 t529 t535) from Kd.V_mk ul551_0 ge551_0)
                          clear hva_ hvn_ hvc_ ge551_0 ul551_0
                          clear hcc551 hce551
                          have HR551_0 := Aside0.mk hi551_0
                          have HC551_0 := Aside0.mk hl551_0
                          clear hi551_0 hl551_0
                          replace p551 := eq_true p551
                          replace q551 := eq_true q551
                          have p552 : 0 ≤ (0 : Int) := (by omega)
                          have q552 : 0 < ((rd_L1 t529 t535).length : Int) := of_decide_eq_true (by first | (with_reducible assumption) | assumption)
                          obtain ⟨ad552, e552, hx552_0⟩ := Kd.at_int (by repeat (first | (with_reducible exact HR551_0.out) | (with_reducible refine Kd.C_alloc ?_ _) | (with_reducible refine Kd.C_drewN ?_ _) | (with_reducible refine Kd.C_drew ?_) | exact HR551_0.out)) 0 p552 q552
                          cases e552
                          have qi552 : (0 < (rd_L1 t529 t535).length) = True := eq_true (by omega)
                          (try rw [show ((0 : Int)).toNat = 0 from rfl] at hx552_0)
                          (try rw [Addr.add_zero'] at hx552_0)
                          replace p552 := eq_true p552
                          replace q552 := eq_true q552
                          have p553 : 0 ≤ (t535 : Int) := of_decide_eq_true (by first | (with_reducible assumption) | assumption)
                          have q553 : t535 < (t529.length : Int) := of_decide_eq_true (by first | (with_reducible assumption) | assumption)
                          obtain ⟨ad553, A553_0, c553_0, e553, hx553_0, hl553_0, hi553_0⟩ := at_L1 (Kd.N_reads' HO_3.out).2.2 t535 p553 q553
                          obtain rfl : ad546 = ad553 := (by injection e553)
                          obtain ⟨ce553, hce553, hMe553, hcc553⟩ := Kd.N_get HO_3.out [] t535 p553 (by first | exact q553 | exact of_decide_eq_true (by first | (with_reducible assumption) | assumption) | (have e_ := (Kd.N_reads' HO_3.out).1; omega))
                          obtain ⟨ua553_0, uc553_0, rfl, ul553_0, ge553_0⟩ := Kd.FK_slice_open hMe553
                          have hv553_0 := hcc553 0 _ rfl
                          rw [Nat.add_zero, show ((Kd.slice 3 (Kd.int .i64))).sz = 1 from rfl, Nat.mul_one] at hv553_0
                          replace hv553_0 := Option.some.inj (hv553_0.symm.trans hx553_0)
                          injection hv553_0 with hva_ hvn_ hvc_
                          rw [hva_] at ge553_0
                          rw [hvc_] at ul553_0
                          have HL553_0 := Aside0.mk (show Kd.V (Kd.int .i64) 3 _ w.heap.size _ _ (rd_L1 t529 t535) from Kd.V_mk ul553_0 ge553_0)
                          clear hva_ hvn_ hvc_ ge553_0 ul553_0
                          clear hcc553 hce553
                          have HR553_0 := Aside0.mk hi553_0
                          have HC553_0 := Aside0.mk hl553_0
                          clear hi553_0 hl553_0
                          replace p553 := eq_true p553
                          replace q553 := eq_true q553
                          have ea_ := Option.some.inj (hx551_0.symm.trans hx553_0)
                          injection ea_ with ea_ en_ ec_
                          subst ea_
                          subst ec_
                          clear en_
                          have p554 : 0 ≤ (1 : Int) := (by omega)
                          have q554 : 1 < ((rd_L1 t529 t535).length : Int) := of_decide_eq_true (by first | (with_reducible assumption) | assumption)
                          obtain ⟨ad554, e554, hx554_0⟩ := Kd.at_int (by repeat (first | (with_reducible exact HR553_0.out) | (with_reducible refine Kd.C_alloc ?_ _) | (with_reducible refine Kd.C_drewN ?_ _) | (with_reducible refine Kd.C_drew ?_) | exact HR553_0.out)) 1 p554 q554
                          cases e554
                          (try simp only [show (1 : Int).toNat = 1 from rfl, Nat.reduceMul, Nat.reduceEqDiff, Go.Addr.add, ↓reduceIte] at hx554_0)
                          have qi554 : (1 < (rd_L1 t529 t535).length) = True := eq_true (by omega)
                          (try rw [show ((1 : Int)).toNat = 1 from rfl] at hx554_0)
                          replace p554 := eq_true p554
                          replace q554 := eq_true q554
                          have p555 : 0 ≤ (0 : Int) := (by omega)
                          have q555 : 0 < ((rd_L1 t529 x87_1).length : Int) := of_decide_eq_true (by first | (with_reducible assumption) | assumption)
                          obtain ⟨ad555, e555, hx555_0⟩ := Kd.at_int (by repeat (first | (with_reducible exact HR546_0.out) | (with_reducible refine Kd.C_alloc ?_ _) | (with_reducible refine Kd.C_drewN ?_ _) | (with_reducible refine Kd.C_drew ?_) | exact HR546_0.out)) 0 p555 q555
                          obtain rfl : ad547 = ad555 := (by injection e555)
                          have qi555 : (0 < (rd_L1 t529 x87_1).length) = True := eq_true (by omega)
                          (try rw [show ((0 : Int)).toNat = 0 from rfl] at hx555_0)
                          (try rw [Addr.add_zero'] at hx555_0)
                          replace p555 := eq_true p555
                          replace q555 := eq_true q555
                          have p556 : 0 ≤ (1 : Int) := (by omega)
                          have q556 : 1 < ((rd_L1 t529 x87_1).length : Int) := of_decide_eq_true (by first | (with_reducible assumption) | assumption)
                          obtain ⟨ad556, e556, hx556_0⟩ := Kd.at_int (by repeat (first | (with_reducible exact HR546_0.out) | (with_reducible refine Kd.C_alloc ?_ _) | (with_reducible refine Kd.C_drewN ?_ _) | (with_reducible refine Kd.C_drew ?_) | exact HR546_0.out)) 1 p556 q556
                          obtain rfl : ad547 = ad556 := (by injection e556)
                          (try simp only [show (1 : Int).toNat = 1 from rfl, Nat.reduceMul, Nat.reduceEqDiff, Go.Addr.add, ↓reduceIte] at hx556_0)
                          have qi556 : (1 < (rd_L1 t529 x87_1).length) = True := eq_true (by omega)
                          (try rw [show ((1 : Int)).toNat = 1 from rfl] at hx556_0)
                          replace p556 := eq_true p556
                          replace q556 := eq_true q556
                          have p557 : 0 ≤ (t535 : Int) := of_decide_eq_true (by first | (with_reducible assumption) | assumption)
                          have q557 : t535 < (t529.length : Int) := of_decide_eq_true (by first | (with_reducible assumption) | assumption)
                          obtain ⟨ad557, A557_0, c557_0, e557, hx557_0, hl557_0, hi557_0⟩ := at_L1 (Kd.N_reads' HO_3.out).2.2 t535 p557 q557
                          obtain rfl : ad546 = ad557 := (by injection e557)
                          obtain ⟨ce557, hce557, hMe557, hcc557⟩ := Kd.N_get HO_3.out [] t535 p557 (by first | exact q557 | exact of_decide_eq_true (by first | (with_reducible assumption) | assumption) | (have e_ := (Kd.N_reads' HO_3.out).1; omega))
                          obtain ⟨ua557_0, uc557_0, rfl, ul557_0, ge557_0⟩ := Kd.FK_slice_open hMe557
                          have hv557_0 := hcc557 0 _ rfl
                          rw [Nat.add_zero, show ((Kd.slice 3 (Kd.int .i64))).sz = 1 from rfl, Nat.mul_one] at hv557_0
                          replace hv557_0 := Option.some.inj (hv557_0.symm.trans hx557_0)
                          injection hv557_0 with hva_ hvn_ hvc_
                          rw [hva_] at ge557_0
                          rw [hvc_] at ul557_0
                          have HL557_0 := Aside0.mk (show Kd.V (Kd.int .i64) 3 _ w.heap.size _ _ (rd_L1 t529 t535) from Kd.V_mk ul557_0 ge557_0)
                          clear hva_ hvn_ hvc_ ge557_0 ul557_0
                          clear hcc557 hce557
                          have HR557_0 := Aside0.mk hi557_0
                          have HC557_0 := Aside0.mk hl557_0
                          clear hi557_0 hl557_0
                          replace p557 := eq_true p557
                          replace q557 := eq_true q557
                          have ea_ := Option.some.inj (hx551_0.symm.trans hx557_0)
                          injection ea_ with ea_ en_ ec_
                          subst ea_
                          subst ec_
                          clear en_
                          have p558 : 0 ≤ (0 : Int) := (by omega)
                          have q558 : 0 < ((rd_L1 t529 t535).length : Int) := of_decide_eq_true (by first | (with_reducible assumption) | assumption)
                          obtain ⟨ad558, e558, hx558_0⟩ := Kd.at_int (by repeat (first | (with_reducible exact HR557_0.out) | (with_reducible refine Kd.C_alloc ?_ _) | (with_reducible refine Kd.C_drewN ?_ _) | (with_reducible refine Kd.C_drew ?_) | exact HR557_0.out)) 0 p558 q558
                          cases e558
                          have qi558 : (0 < (rd_L1 t529 t535).length) = True := eq_true (by omega)
                          (try rw [show ((0 : Int)).toNat = 0 from rfl] at hx558_0)
                          (try rw [Addr.add_zero'] at hx558_0)
                          replace p558 := eq_true p558
                          replace q558 := eq_true q558
                          have p559 : 0 ≤ (t535 : Int) := of_decide_eq_true (by first | (with_reducible assumption) | assumption)
                          have q559 : t535 < (t529.length : Int) := of_decide_eq_true (by first | (with_reducible assumption) | assumption)
                          obtain ⟨ad559, A559_0, c559_0, e559, hx559_0, hl559_0, hi559_0⟩ := at_L1 (Kd.N_reads' HO_3.out).2.2 t535 p559 q559
                          obtain rfl : ad546 = ad559 := (by injection e559)
                          obtain ⟨ce559, hce559, hMe559, hcc559⟩ := Kd.N_get HO_3.out [] t535 p559 (by first | exact q559 | exact of_decide_eq_true (by first | (with_reducible assumption) | assumption) | (have e_ := (Kd.N_reads' HO_3.out).1; omega))
                          obtain ⟨ua559_0, uc559_0, rfl, ul559_0, ge559_0⟩ := Kd.FK_slice_open hMe559
                          have hv559_0 := hcc559 0 _ rfl
                          rw [Nat.add_zero, show ((Kd.slice 3 (Kd.int .i64))).sz = 1 from rfl, Nat.mul_one] at hv559_0
                          replace hv559_0 := Option.some.inj (hv559_0.symm.trans hx559_0)
                          injection hv559_0 with hva_ hvn_ hvc_
                          rw [hva_] at ge559_0
                          rw [hvc_] at ul559_0
                          have HL559_0 := Aside0.mk (show Kd.V (Kd.int .i64) 3 _ w.heap.size _ _ (rd_L1 t529 t535) from Kd.V_mk ul559_0 ge559_0)
                          clear hva_ hvn_ hvc_ ge559_0 ul559_0
                          clear hcc559 hce559
                          have HR559_0 := Aside0.mk hi559_0
                          have HC559_0 := Aside0.mk hl559_0
                          clear hi559_0 hl559_0
                          replace p559 := eq_true p559
                          replace q559 := eq_true q559
                          have ea_ := Option.some.inj (hx551_0.symm.trans hx559_0)
                          injection ea_ with ea_ en_ ec_
                          subst ea_
                          subst ec_
                          clear en_
                          have p560 : 0 ≤ (1 : Int) := (by omega)
                          have q560 : 1 < ((rd_L1 t529 t535).length : Int) := of_decide_eq_true (by first | (with_reducible assumption) | assumption)
                          obtain ⟨ad560, e560, hx560_0⟩ := Kd.at_int (by repeat (first | (with_reducible exact HR559_0.out) | (with_reducible refine Kd.C_alloc ?_ _) | (with_reducible refine Kd.C_drewN ?_ _) | (with_reducible refine Kd.C_drew ?_) | exact HR559_0.out)) 1 p560 q560
                          cases e560
                          (try simp only [show (1 : Int).toNat = 1 from rfl, Nat.reduceMul, Nat.reduceEqDiff, Go.Addr.add, ↓reduceIte] at hx560_0)
                          have qi560 : (1 < (rd_L1 t529 t535).length) = True := eq_true (by omega)
                          (try rw [show ((1 : Int)).toNat = 1 from rfl] at hx560_0)
                          replace p560 := eq_true p560
                          replace q560 := eq_true q560
                          go_wp2
                          repeat (go_quiet (fail); try go_wp2)
                          go_roundg k1
                          case measure => have := HK1.out; omega
                          case rel => exact ⟨(wrap64 (x87_1 + 1)), (by first | rfl | (simp; done) | (simp [*]; done)), H', ⟨by have := HK1.out; omega⟩, ⟨by (with_reducible repeat (first | apply Kd.N_alloc | apply Kd.N_drewN | apply Kd.N_drew)); exact HO_3.out⟩, ⟨by (with_reducible repeat (first | apply Kd.N_alloc | apply Kd.N_drewN | apply Kd.N_drew)); exact HO_8.out⟩, ⟨by (with_reducible repeat (first | apply Kd.N_alloc | apply Kd.N_drewN | apply Kd.N_drew)); exact HO_85.out⟩, ⟨by repeat (first | (with_reducible first | exact HB.out | apply below_alloc | apply pw_below_drewN | apply below_drew1) | exact HB.out)⟩⟩
                      ·rw [if_neg c37] at H
                       exact absurd H (by simp)
                     ·rw [if_neg c36] at H
                      exact absurd H (by simp)
                    ·rw [if_neg c35] at H
                     exact absurd H (by simp)
                   ·rw [if_neg c34] at H
                    exact absurd H (by simp)
                ·rw [if_neg c31] at H
                 have c31b0 : decide (t533 ≤ (rd (rd_L1 t529 x87_1) 1)) = false := decide_eq_false c31
                 clear c31
                 as_aux_lemma =>
                  have H' := Aside0.mk H
                  clear H
                  have p546 : 0 ≤ (x87_1 : Int) := of_decide_eq_true (by first | (with_reducible assumption) | assumption)
                  have q546 : x87_1 < (t529.length : Int) := of_decide_eq_true (by first | (with_reducible assumption) | assumption)
                  obtain ⟨ad546, A546_0, c546_0, e546, hx546_0, hl546_0, hi546_0⟩ := at_L1 (Kd.N_reads' HO_85.out).2.2 x87_1 p546 q546
                  cases e546
                  obtain ⟨ce546, hce546, hMe546, hcc546⟩ := Kd.N_get HO_85.out [] x87_1 p546 (by first | exact q546 | exact of_decide_eq_true (by first | (with_reducible assumption) | assumption) | (have e_ := (Kd.N_reads' HO_85.out).1; omega))
                  obtain ⟨ua546_0, uc546_0, rfl, ul546_0, ge546_0⟩ := Kd.FK_slice_open hMe546
                  have hv546_0 := hcc546 0 _ rfl
                  rw [Nat.add_zero, show ((Kd.slice 3 (Kd.int .i64))).sz = 1 from rfl, Nat.mul_one] at hv546_0
                  replace hv546_0 := Option.some.inj (hv546_0.symm.trans hx546_0)
                  injection hv546_0 with hva_ hvn_ hvc_
                  rw [hva_] at ge546_0
                  rw [hvc_] at ul546_0
                  have HL546_0 := Aside0.mk (show Kd.V (Kd.int .i64) 3 _ w.heap.size _ _ (rd_L1 t529 x87_1) from Kd.V_mk ul546_0 ge546_0)
                  clear hva_ hvn_ hvc_ ge546_0 ul546_0
                  clear hcc546 hce546
                  have HR546_0 := Aside0.mk hi546_0
                  have HC546_0 := Aside0.mk hl546_0
                  clear hi546_0 hl546_0
                  replace p546 := eq_true p546
                  replace q546 := eq_true q546
                  have p547 : 0 ≤ (0 : Int) := (by omega)
                  have q547 : 0 < ((rd_L1 t529 x87_1).length : Int) := of_decide_eq_true (by first | (with_reducible assumption) | assumption)
                  obtain ⟨ad547, e547, hx547_0⟩ := Kd.at_int (by repeat (first | (with_reducible exact HR546_0.out) | (with_reducible refine Kd.C_alloc ?_ _) | (with_reducible refine Kd.C_drewN ?_ _) | (with_reducible refine Kd.C_drew ?_) | exact HR546_0.out)) 0 p547 q547
                  cases e547
                  have qi547 : (0 < (rd_L1 t529 x87_1).length) = True := eq_true (by omega)
                  (try rw [show ((0 : Int)).toNat = 0 from rfl] at hx547_0)
                  (try rw [Addr.add_zero'] at hx547_0)
                  replace p547 := eq_true p547
                  replace q547 := eq_true q547
                  have p548 : 0 ≤ (1 : Int) := (by omega)
                  have q548 : 1 < ((rd_L1 t529 x87_1).length : Int) := of_decide_eq_true (by first | (with_reducible assumption) | assumption)
                  obtain ⟨ad548, e548, hx548_0⟩ := Kd.at_int (by repeat (first | (with_reducible exact HR546_0.out) | (with_reducible refine Kd.C_alloc ?_ _) | (with_reducible refine Kd.C_drewN ?_ _) | (with_reducible refine Kd.C_drew ?_) | exact HR546_0.out)) 1 p548 q548
                  obtain rfl : ad547 = ad548 := (by injection e548)
                  (try simp only [show (1 : Int).toNat = 1 from rfl, Nat.reduceMul, Nat.reduceEqDiff, Go.Addr.add, ↓reduceIte] at hx548_0)
                  have qi548 : (1 < (rd_L1 t529 x87_1).length) = True := eq_true (by omega)
                  (try rw [show ((1 : Int)).toNat = 1 from rfl] at hx548_0)
                  replace p548 := eq_true p548
                  replace q548 := eq_true q548
                  go_wp2
                  repeat (go_quiet (fail); try go_wp2)
                  go_roundg k1
                  case measure => have := HK1.out; omega
                  case rel => exact ⟨(wrap64 (x87_1 + 1)), (by first | rfl | (simp; done) | (simp [*]; done)), H', ⟨by have := HK1.out; omega⟩, ⟨by (with_reducible repeat (first | apply Kd.N_alloc | apply Kd.N_drewN | apply Kd.N_drew)); exact HO_3.out⟩, ⟨by (with_reducible repeat (first | apply Kd.N_alloc | apply Kd.N_drewN | apply Kd.N_drew)); exact HO_8.out⟩, ⟨by (with_reducible repeat (first | apply Kd.N_alloc | apply Kd.N_drewN | apply Kd.N_drew)); exact HO_85.out⟩, ⟨by repeat (first | (with_reducible first | exact HB.out | apply below_alloc | apply pw_below_drewN | apply below_drew1) | exact HB.out)⟩⟩
               ·rw [if_neg c30] at H
                exact absurd H (by simp)
              ·rw [if_neg c29] at H
               have c29b0 : decide (t532 ≤ (rd (rd_L1 t529 x87_1) 0)) = false := decide_eq_false c29
               clear c29
               as_aux_lemma =>
                have H' := Aside0.mk H
                clear H
                have p546 : 0 ≤ (x87_1 : Int) := of_decide_eq_true (by first | (with_reducible assumption) | assumption)
                have q546 : x87_1 < (t529.length : Int) := of_decide_eq_true (by first | (with_reducible assumption) | assumption)
                obtain ⟨ad546, A546_0, c546_0, e546, hx546_0, hl546_0, hi546_0⟩ := at_L1 (Kd.N_reads' HO_85.out).2.2 x87_1 p546 q546
                cases e546
                obtain ⟨ce546, hce546, hMe546, hcc546⟩ := Kd.N_get HO_85.out [] x87_1 p546 (by first | exact q546 | exact of_decide_eq_true (by first | (with_reducible assumption) | assumption) | (have e_ := (Kd.N_reads' HO_85.out).1; omega))
                obtain ⟨ua546_0, uc546_0, rfl, ul546_0, ge546_0⟩ := Kd.FK_slice_open hMe546
                have hv546_0 := hcc546 0 _ rfl
                rw [Nat.add_zero, show ((Kd.slice 3 (Kd.int .i64))).sz = 1 from rfl, Nat.mul_one] at hv546_0
                replace hv546_0 := Option.some.inj (hv546_0.symm.trans hx546_0)
                injection hv546_0 with hva_ hvn_ hvc_
                rw [hva_] at ge546_0
                rw [hvc_] at ul546_0
                have HL546_0 := Aside0.mk (show Kd.V (Kd.int .i64) 3 _ w.heap.size _ _ (rd_L1 t529 x87_1) from Kd.V_mk ul546_0 ge546_0)
                clear hva_ hvn_ hvc_ ge546_0 ul546_0
                clear hcc546 hce546
                have HR546_0 := Aside0.mk hi546_0
                have HC546_0 := Aside0.mk hl546_0
                clear hi546_0 hl546_0
                replace p546 := eq_true p546
                replace q546 := eq_true q546
                have p547 : 0 ≤ (0 : Int) := (by omega)
                have q547 : 0 < ((rd_L1 t529 x87_1).length : Int) := of_decide_eq_true (by first | (with_reducible assumption) | assumption)
                obtain ⟨ad547, e547, hx547_0⟩ := Kd.at_int (by repeat (first | (with_reducible exact HR546_0.out) | (with_reducible refine Kd.C_alloc ?_ _) | (with_reducible refine Kd.C_drewN ?_ _) | (with_reducible refine Kd.C_drew ?_) | exact HR546_0.out)) 0 p547 q547
                cases e547
                have qi547 : (0 < (rd_L1 t529 x87_1).length) = True := eq_true (by omega)
                (try rw [show ((0 : Int)).toNat = 0 from rfl] at hx547_0)
                (try rw [Addr.add_zero'] at hx547_0)
                replace p547 := eq_true p547
                replace q547 := eq_true q547
                go_wp2
                repeat (go_quiet (fail); try go_wp2)
                go_roundg k1
                case measure => have := HK1.out; omega
                case rel => exact ⟨(wrap64 (x87_1 + 1)), (by first | rfl | (simp; done) | (simp [*]; done)), H', ⟨by have := HK1.out; omega⟩, ⟨by (with_reducible repeat (first | apply Kd.N_alloc | apply Kd.N_drewN | apply Kd.N_drew)); exact HO_3.out⟩, ⟨by (with_reducible repeat (first | apply Kd.N_alloc | apply Kd.N_drewN | apply Kd.N_drew)); exact HO_8.out⟩, ⟨by (with_reducible repeat (first | apply Kd.N_alloc | apply Kd.N_drewN | apply Kd.N_drew)); exact HO_85.out⟩, ⟨by repeat (first | (with_reducible first | exact HB.out | apply below_alloc | apply pw_below_drewN | apply below_drew1) | exact HB.out)⟩⟩
             ·rw [if_neg c28] at H
              exact absurd H (by simp)
            ·rw [if_neg c27] at H
             exact absurd H (by simp)
           ·rw [if_neg c26] at H
            exact absurd H (by simp)
          ·rw [if_neg c25] at H
           have c25b0 : decide (x87_1 < (t529.length : Int)) = false := decide_eq_false c25
           clear c25
           have HC41 := Aside0.mk H
           clear H
           go_upto_region 18 with (fail)
           repeat (go_quiet (fail); go_upto_region 18 with (fail))
           go_cut [220] (fun v220 wc => ∃ (kq : Nat) (x220_40 : Bool), v220 = .bool x220_40 ∧ Aside0 (laws_FnRemnants.j1 kq t529 t532 t533 t534 x220_40 = some r) ∧ Aside0 (kq ≤ k1) ∧ Aside0 (Kd.N (Kd.slice 3 (Kd.int .i64)) 40 wc w.heap.size (fun _ => True) (.slice Ao23 t529.length co23) t529) ∧ Aside0 (Below w.heap.size w wc))
           case first =>
            have H := HC41.out
            clear HC41
            by_cases c42 : t538 = true
            ·subst c42
             have H1 : ((impl_StoreOk.f t536).bind fun t561 => (if t561 = true then ((impl_StoreArea.f k1 t536).bind fun t562 => (if t562 = (wrap64 (t534 - (wrap64 (t532 * t533)))) then (if (t536.length : Int) > (wrap64 ((t529.length : Int) + 1)) then (none) else (if t535 < 0 then (none) else (if t535 ≥ (t529.length : Int) then (none) else (if 0 ≤ t535 then (if t535 < (t529.length : Int) then (if 0 < ((rd_L1 t529 t535).length : Int) then (if (rd (rd_L1 t529 t535) 0) < t532 then (none) else (if 1 < ((rd_L1 t529 t535).length : Int) then (laws_FnRemnants.j1 k1 t529 t532 t533 t534 (decide ((rd (rd_L1 t529 t535) 1) < t533))) else (none))) else (none)) else (none)) else (none))))) else (none))) else (none))) = some r := by rw [if_pos rfl] at H; exact H
             clear H
             have H := H1
             clear H1
             replace H := Option.bind_eq_some_iff.mp H
             obtain ⟨t561, A430, H⟩ := H
             replace H : (if t561 = true then ((impl_StoreArea.f k1 t536).bind fun t562 => (if t562 = (wrap64 (t534 - (wrap64 (t532 * t533)))) then (if (t536.length : Int) > (wrap64 ((t529.length : Int) + 1)) then (none) else (if t535 < 0 then (none) else (if t535 ≥ (t529.length : Int) then (none) else (if 0 ≤ t535 then (if t535 < (t529.length : Int) then (if 0 < ((rd_L1 t529 t535).length : Int) then (if (rd (rd_L1 t529 t535) 0) < t532 then (none) else (if 1 < ((rd_L1 t529 t535).length : Int) then (laws_FnRemnants.j1 k1 t529 t532 t533 t534 (decide ((rd (rd_L1 t529 t535) 1) < t533))) else (none))) else (none)) else (none)) else (none))))) else (none))) else (none)) = some r := H
             have A43 := Aside0.mk A430
             clear A430
             by_cases c44 : t561 = true
             ·subst c44
              have H1 : ((impl_StoreArea.f k1 t536).bind fun t562 => (if t562 = (wrap64 (t534 - (wrap64 (t532 * t533)))) then (if (t536.length : Int) > (wrap64 ((t529.length : Int) + 1)) then (none) else (if t535 < 0 then (none) else (if t535 ≥ (t529.length : Int) then (none) else (if 0 ≤ t535 then (if t535 < (t529.length : Int) then (if 0 < ((rd_L1 t529 t535).length : Int) then (if (rd (rd_L1 t529 t535) 0) < t532 then (none) else (if 1 < ((rd_L1 t529 t535).length : Int) then (laws_FnRemnants.j1 k1 t529 t532 t533 t534 (decide ((rd (rd_L1 t529 t535) 1) < t533))) else (none))) else (none)) else (none)) else (none))))) else (none))) = some r := by rw [if_pos rfl] at H; exact H
              clear H
              have H := H1
              clear H1
              replace H := Option.bind_eq_some_iff.mp H
              obtain ⟨t562, A450, H⟩ := H
              replace H : (if t562 = (wrap64 (t534 - (wrap64 (t532 * t533)))) then (if (t536.length : Int) > (wrap64 ((t529.length : Int) + 1)) then (none) else (if t535 < 0 then (none) else (if t535 ≥ (t529.length : Int) then (none) else (if 0 ≤ t535 then (if t535 < (t529.length : Int) then (if 0 < ((rd_L1 t529 t535).length : Int) then (if (rd (rd_L1 t529 t535) 0) < t532 then (none) else (if 1 < ((rd_L1 t529 t535).length : Int) then (laws_FnRemnants.j1 k1 t529 t532 t533 t534 (decide ((rd (rd_L1 t529 t535) 1) < t533))) else (none))) else (none)) else (none)) else (none))))) else (none)) = some r := H
              have A45 := Aside0.mk A450
              clear A450
              by_cases c46 : t562 = (wrap64 (t534 - (wrap64 (t532 * t533))))
              ·rw [if_pos c46] at H
               have c46b0 : (t562 == (wrap64 (t534 - (wrap64 (t532 * t533))))) = true := beq_iff_eq.mpr c46
               have c46b1 : (t562 != (wrap64 (t534 - (wrap64 (t532 * t533))))) = false := bne_eq_false_iff_eq.mpr c46
               clear c46
               (first | rw [c46b0] | (simp only [i64_w, i32_w]; rw [c46b0]) | skip)
               by_cases c47 : (t536.length : Int) > (wrap64 ((t529.length : Int) + 1))
               ·rw [if_pos c47] at H
                exact absurd H (by simp)
               ·rw [if_neg c47] at H
                have c47b0 : decide ((wrap64 ((t529.length : Int) + 1)) < (t536.length : Int)) = false := decide_eq_false c47
                clear c47
                by_cases c48 : t535 < 0
                ·rw [if_pos c48] at H
                 exact absurd H (by simp)
                ·rw [if_neg c48] at H
                 have c48b0 : decide (t535 < 0) = false := decide_eq_false c48
                 clear c48
                 by_cases c49 : t535 ≥ (t529.length : Int)
                 ·rw [if_pos c49] at H
                  exact absurd H (by simp)
                 ·rw [if_neg c49] at H
                  have c49b0 : decide ((t529.length : Int) ≤ t535) = false := decide_eq_false c49
                  clear c49
                  by_cases c50 : 0 ≤ t535
                  ·rw [if_pos c50] at H
                   have c50b0 : decide (0 ≤ t535) = true := decide_eq_true c50
                   clear c50
                   by_cases c51 : t535 < (t529.length : Int)
                   ·rw [if_pos c51] at H
                    have c51b0 : decide (t535 < (t529.length : Int)) = true := decide_eq_true c51
                    clear c51
                    by_cases c52 : 0 < ((rd_L1 t529 t535).length : Int)
                    ·rw [if_pos c52] at H
                     have c52b0 : decide (0 < ((rd_L1 t529 t535).length : Int)) = true := decide_eq_true c52
                     have c52b1 : decide (0 < (rd_L1 t529 t535).length) = true := decide_eq_true (by omega)
                     clear c52
                     by_cases c53 : (rd (rd_L1 t529 t535) 0) < t532
                     ·rw [if_pos c53] at H
                      exact absurd H (by simp)
                     ·rw [if_neg c53] at H
                      have c53b0 : decide ((rd (rd_L1 t529 t535) 0) < t532) = false := decide_eq_false c53
                      clear c53
                      by_cases c54 : 1 < ((rd_L1 t529 t535).length : Int)
                      ·rw [if_pos c54] at H
                       have c54b0 : decide (1 < ((rd_L1 t529 t535).length : Int)) = true := decide_eq_true c54
                       have c54b1 : decide (1 < (rd_L1 t529 t535).length) = true := decide_eq_true (by omega)
                       clear c54
                       as_aux_lemma =>
                        have H' := Aside0.mk H
                        clear H
                        obtain ⟨Ao55, co55, eo55⟩ := Kd.N_slice HO_8.out
                        subst eo55
                        go_wp2_with (first | (go_at_call 15; (with_reducible refine (impl_StoreOk.calls _ _ t536 true _ ?side1 ?side2 A43.out).mono ?_); (case side1 => repeat (first | exact (Kd.N_reads' HO_8.out).2.2 | (with_reducible refine Kd.C_alloc ?_ _) | (with_reducible refine Kd.C_drewN ?_ _) | (with_reducible refine Kd.C_drew ?_))); (case side2 => exact (Kd.N_reads' HO_8.out).2.1); rintro e w' ⟨rfl, ⟨nd, rfl⟩⟩; (try first | exact ⟨rfl, _, World.drewN_drewN _ _ _⟩ | exact ⟨rfl, _, Eq.trans (World.drewN_drewN _ _ _) (congrArg (World.drewN _) (Nat.add_assoc _ _ _))⟩)) | (go_at_call 20; (with_reducible refine (impl_StoreArea.calls k1 _ _ t536 t562 _ ?side1 ?side2 A45.out).mono ?_); (case side1 => repeat (first | exact (Kd.N_reads' HO_8.out).2.2 | (with_reducible refine Kd.C_alloc ?_ _) | (with_reducible refine Kd.C_drewN ?_ _) | (with_reducible refine Kd.C_drew ?_))); (case side2 => exact (Kd.N_reads' HO_8.out).2.1); rintro e w' ⟨rfl, ⟨nd, rfl⟩⟩; (try first | exact ⟨rfl, _, World.drewN_drewN _ _ _⟩ | exact ⟨rfl, _, Eq.trans (World.drewN_drewN _ _ _) (congrArg (World.drewN _) (Nat.add_assoc _ _ _))⟩); have p563 : 0 ≤ (t535 : Int) := of_decide_eq_true (by first | (with_reducible assumption) | assumption); have q563 : t535 < (t529.length : Int) := of_decide_eq_true (by first | (with_reducible assumption) | assumption); obtain ⟨ad563, A563_0, c563_0, e563, hx563_0, hl563_0, hi563_0⟩ := at_L1 (Kd.N_reads' HO_3.out).2.2 t535 p563 q563; cases e563; obtain ⟨ce563, hce563, hMe563, hcc563⟩ := Kd.N_get HO_3.out [] t535 p563 (by first | exact q563 | exact of_decide_eq_true (by first | (with_reducible assumption) | assumption) | (have e_ := (Kd.N_reads' HO_3.out).1; omega)); obtain ⟨ua563_0, uc563_0, rfl, ul563_0, ge563_0⟩ := Kd.FK_slice_open hMe563; have hv563_0 := hcc563 0 _ rfl; rw [Nat.add_zero, show ((Kd.slice 3 (Kd.int .i64))).sz = 1 from rfl, Nat.mul_one] at hv563_0; replace hv563_0 := Option.some.inj (hv563_0.symm.trans hx563_0); injection hv563_0 with hva_ hvn_ hvc_; rw [hva_] at ge563_0; rw [hvc_] at ul563_0; have HL563_0 := Aside0.mk (show Kd.V (Kd.int .i64) 3 _ w.heap.size _ _ (rd_L1 t529 t535) from Kd.V_mk ul563_0 ge563_0); clear hva_ hvn_ hvc_ ge563_0 ul563_0; clear hcc563 hce563; have HR563_0 := Aside0.mk hi563_0; have HC563_0 := Aside0.mk hl563_0; clear hi563_0 hl563_0; replace p563 := eq_true p563; replace q563 := eq_true q563; have p564 : 0 ≤ (0 : Int) := (by omega); have q564 : 0 < ((rd_L1 t529 t535).length : Int) := of_decide_eq_true (by first | (with_reducible assumption) | assumption); obtain ⟨ad564, e564, hx564_0⟩ := Kd.at_int (by repeat (first | (with_reducible exact HR563_0.out) | (with_reducible refine Kd.C_alloc ?_ _) | (with_reducible refine Kd.C_drewN ?_ _) | (with_reducible refine Kd.C_drew ?_) | exact HR563_0.out)) 0 p564 q564; cases e564; have qi564 : (0 < (rd_L1 t529 t535).length) = True := eq_true (by omega); (try rw [show ((0 : Int)).toNat = 0 from rfl] at hx564_0); (try rw [Addr.add_zero'] at hx564_0); replace p564 := eq_true p564; replace q564 := eq_true q564; have p565 : 0 ≤ (t535 : Int) := of_decide_eq_true (by first | (with_reducible assumption) | assumption); have q565 : t535 < (t529.length : Int) := of_decide_eq_true (by first | (with_reducible assumption) | assumption); obtain ⟨ad565, A565_0, c565_0, e565, hx565_0, hl565_0, hi565_0⟩ := at_L1 (Kd.N_reads' HO_3.out).2.2 t535 p565 q565; obtain rfl : ad563 = ad565 := (by injection e565); obtain ⟨ce565, hce565, hMe565, hcc565⟩ := Kd.N_get HO_3.out [] t535 p565 (by first | exact q565 | exact of_decide_eq_true (by first | (with_reducible assumption) | assumption) | (have e_ := (Kd.N_reads' HO_3.out).1; omega)); obtain ⟨ua565_0, uc565_0, rfl, ul565_0, ge565_0⟩ := Kd.FK_slice_open hMe565; have hv565_0 := hcc565 0 _ rfl; rw [Nat.add_zero, show ((Kd.slice 3 (Kd.int .i64))).sz = 1 from rfl, Nat.mul_one] at hv565_0; replace hv565_0 := Option.some.inj (hv565_0.symm.trans hx565_0); injection hv565_0 with hva_ hvn_ hvc_; rw [hva_] at ge565_0; rw [hvc_] at ul565_0; have HL565_0 := Aside0.mk (show Kd.V (Kd.int .i64) 3 _ w.heap.size _ _ (rd_L1 t529 t535) from Kd.V_mk ul565_0 ge565_0); clear hva_ hvn_ hvc_ ge565_0 ul565_0; clear hcc565 hce565; have HR565_0 := Aside0.mk hi565_0; have HC565_0 := Aside0.mk hl565_0; clear hi565_0 hl565_0; replace p565 := eq_true p565; replace q565 := eq_true q565; have ea_ := Option.some.inj (hx563_0.symm.trans hx565_0); injection ea_ with ea_ en_ ec_; subst ea_; subst ec_; clear en_; have p566 : 0 ≤ (1 : Int) := (by omega); have q566 : 1 < ((rd_L1 t529 t535).length : Int) := of_decide_eq_true (by first | (with_reducible assumption) | assumption); obtain ⟨ad566, e566, hx566_0⟩ := Kd.at_int (by repeat (first | (with_reducible exact HR565_0.out) | (with_reducible refine Kd.C_alloc ?_ _) | (with_reducible refine Kd.C_drewN ?_ _) | (with_reducible refine Kd.C_drew ?_) | exact HR565_0.out)) 1 p566 q566; cases e566; (try simp only [show (1 : Int).toNat = 1 from rfl, Nat.reduceMul, Nat.reduceEqDiff, Go.Addr.add, ↓reduceIte] at hx566_0); have qi566 : (1 < (rd_L1 t529 t535).length) = True := eq_true (by omega); (try rw [show ((1 : Int)).toNat = 1 from rfl] at hx566_0); replace p566 := eq_true p566; replace q566 := eq_true q566))
                        repeat (go_quiet (first | (go_at_call 15; (with_reducible refine (impl_StoreOk.calls _ _ t536 true _ ?side1 ?side2 A43.out).mono ?_); (case side1 => repeat (first | exact (Kd.N_reads' HO_8.out).2.2 | (with_reducible refine Kd.C_alloc ?_ _) | (with_reducible refine Kd.C_drewN ?_ _) | (with_reducible refine Kd.C_drew ?_))); (case side2 => exact (Kd.N_reads' HO_8.out).2.1); rintro e w' ⟨rfl, ⟨nd, rfl⟩⟩; (try first | exact ⟨rfl, _, World.drewN_drewN _ _ _⟩ | exact ⟨rfl, _, Eq.trans (World.drewN_drewN _ _ _) (congrArg (World.drewN _) (Nat.add_assoc _ _ _))⟩)) | (go_at_call 20; (with_reducible refine (impl_StoreArea.calls k1 _ _ t536 t562 _ ?side1 ?side2 A45.out).mono ?_); (case side1 => repeat (first | exact (Kd.N_reads' HO_8.out).2.2 | (with_reducible refine Kd.C_alloc ?_ _) | (with_reducible refine Kd.C_drewN ?_ _) | (with_reducible refine Kd.C_drew ?_))); (case side2 => exact (Kd.N_reads' HO_8.out).2.1); rintro e w' ⟨rfl, ⟨nd, rfl⟩⟩; (try first | exact ⟨rfl, _, World.drewN_drewN _ _ _⟩ | exact ⟨rfl, _, Eq.trans (World.drewN_drewN _ _ _) (congrArg (World.drewN _) (Nat.add_assoc _ _ _))⟩); have p563 : 0 ≤ (t535 : Int) := of_decide_eq_true (by first | (with_reducible assumption) | assumption); have q563 : t535 < (t529.length : Int) := of_decide_eq_true (by first | (with_reducible assumption) | assumption); obtain ⟨ad563, A563_0, c563_0, e563, hx563_0, hl563_0, hi563_0⟩ := at_L1 (Kd.N_reads' HO_3.out).2.2 t535 p563 q563; cases e563; obtain ⟨ce563, hce563, hMe563, hcc563⟩ := Kd.N_get HO_3.out [] t535 p563 (by first | exact q563 | exact of_decide_eq_true (by first | (with_reducible assumption) | assumption) | (have e_ := (Kd.N_reads' HO_3.out).1; omega)); obtain ⟨ua563_0, uc563_0, rfl, ul563_0, ge563_0⟩ := Kd.FK_slice_open hMe563; have hv563_0 := hcc563 0 _ rfl; rw [Nat.add_zero, show ((Kd.slice 3 (Kd.int .i64))).sz = 1 from rfl, Nat.mul_one] at hv563_0; replace hv563_0 := Option.some.inj (hv563_0.symm.trans hx563_0); injection hv563_0 with hva_ hvn_ hvc_; rw [hva_] at ge563_0; rw [hvc_] at ul563_0; have HL563_0 := Aside0.mk (show Kd.V (Kd.int .i64) 3 _ w.heap.size _ _ (rd_L1 t529 t535) from Kd.V_mk ul563_0 ge563_0); clear hva_ hvn_ hvc_ ge563_0 ul563_0; clear hcc563 hce563; have HR563_0 := Aside0.mk hi563_0; have HC563_0 := Aside0.mk hl563_0; clear hi563_0 hl563_0; replace p563 := eq_true p563; replace q563 := eq_true q563; have p564 : 0 ≤ (0 : Int) := (by omega); have q564 : 0 < ((rd_L1 t529 t535).length : Int) := of_decide_eq_true (by first | (with_reducible assumption) | assumption); obtain ⟨ad564, e564, hx564_0⟩ := Kd.at_int (by repeat (first | (with_reducible exact HR563_0.out) | (with_reducible refine Kd.C_alloc ?_ _) | (with_reducible refine Kd.C_drewN ?_ _) | (with_reducible refine Kd.C_drew ?_) | exact HR563_0.out)) 0 p564 q564; cases e564; have qi564 : (0 < (rd_L1 t529 t535).length) = True := eq_true (by omega); (try rw [show ((0 : Int)).toNat = 0 from rfl] at hx564_0); (try rw [Addr.add_zero'] at hx564_0); replace p564 := eq_true p564; replace q564 := eq_true q564; have p565 : 0 ≤ (t535 : Int) := of_decide_eq_true (by first | (with_reducible assumption) | assumption); have q565 : t535 < (t529.length : Int) := of_decide_eq_true (by first | (with_reducible assumption) | assumption); obtain ⟨ad565, A565_0, c565_0, e565, hx565_0, hl565_0, hi565_0⟩ := at_L1 (Kd.N_reads' HO_3.out).2.2 t535 p565 q565; obtain rfl : ad563 = ad565 := (by injection e565); obtain ⟨ce565, hce565, hMe565, hcc565⟩ := Kd.N_get HO_3.out [] t535 p565 (by first | exact q565 | exact of_decide_eq_true (by first | (with_reducible assumption) | assumption) | (have e_ := (Kd.N_reads' HO_3.out).1; omega)); obtain ⟨ua565_0, uc565_0, rfl, ul565_0, ge565_0⟩ := Kd.FK_slice_open hMe565; have hv565_0 := hcc565 0 _ rfl; rw [Nat.add_zero, show ((Kd.slice 3 (Kd.int .i64))).sz = 1 from rfl, Nat.mul_one] at hv565_0; replace hv565_0 := Option.some.inj (hv565_0.symm.trans hx565_0); injection hv565_0 with hva_ hvn_ hvc_; rw [hva_] at ge565_0; rw [hvc_] at ul565_0; have HL565_0 := Aside0.mk (show Kd.V (Kd.int .i64) 3 _ w.heap.size _ _ (rd_L1 t529 t535) from Kd.V_mk ul565_0 ge565_0); clear hva_ hvn_ hvc_ ge565_0 ul565_0; clear hcc565 hce565; have HR565_0 := Aside0.mk hi565_0; have HC565_0 := Aside0.mk hl565_0; clear hi565_0 hl565_0; replace p565 := eq_true p565; replace q565 := eq_true q565; have ea_ := Option.some.inj (hx563_0.symm.trans hx565_0); injection ea_ with ea_ en_ ec_; subst ea_; subst ec_; clear en_; have p566 : 0 ≤ (1 : Int) := (by omega); have q566 : 1 < ((rd_L1 t529 t535).length : Int) := of_decide_eq_true (by first | (with_reducible assumption) | assumption); obtain ⟨ad566, e566, hx566_0⟩ := Kd.at_int (by repeat (first | (with_reducible exact HR565_0.out) | (with_reducible refine Kd.C_alloc ?_ _) | (with_reducible refine Kd.C_drewN ?_ _) | (with_reducible refine Kd.C_drew ?_) | exact HR565_0.out)) 1 p566 q566; cases e566; (try simp only [show (1 : Int).toNat = 1 from rfl, Nat.reduceMul, Nat.reduceEqDiff, Go.Addr.add, ↓reduceIte] at hx566_0); have qi566 : (1 < (rd_L1 t529 t535).length) = True := eq_true (by omega); (try rw [show ((1 : Int)).toNat = 1 from rfl] at hx566_0); replace p566 := eq_true p566; replace q566 := eq_true q566)); try go_wp2_with (first | (go_at_call 15; (with_reducible refine (impl_StoreOk.calls _ _ t536 true _ ?side1 ?side2 A43.out).mono ?_); (case side1 => repeat (first | exact (Kd.N_reads' HO_8.out).2.2 | (with_reducible refine Kd.C_alloc ?_ _) | (with_reducible refine Kd.C_drewN ?_ _) | (with_reducible refine Kd.C_drew ?_))); (case side2 => exact (Kd.N_reads' HO_8.out).2.1); rintro e w' ⟨rfl, ⟨nd, rfl⟩⟩; (try first | exact ⟨rfl, _, World.drewN_drewN _ _ _⟩ | exact ⟨rfl, _, Eq.trans (World.drewN_drewN _ _ _) (congrArg (World.drewN _) (Nat.add_assoc _ _ _))⟩)) | (go_at_call 20; (with_reducible refine (impl_StoreArea.calls k1 _ _ t536 t562 _ ?side1 ?side2 A45.out).mono ?_); (case side1 => repeat (first | exact (Kd.N_reads' HO_8.out).2.2 | (with_reducible refine Kd.C_alloc ?_ _) | (with_reducible refine Kd.C_drewN ?_ _) | (with_reducible refine Kd.C_drew ?_))); (case side2 => exact (Kd.N_reads' HO_8.out).2.1); rintro e w' ⟨rfl, ⟨nd, rfl⟩⟩; (try first | exact ⟨rfl, _, World.drewN_drewN _ _ _⟩ | exact ⟨rfl, _, Eq.trans (World.drewN_drewN _ _ _) (congrArg (World.drewN _) (Nat.add_assoc _ _ _))⟩); have p563 : 0 ≤ (t535 : Int) := of_decide_eq_true (by first | (with_reducible assumption) | assumption); have q563 : t535 < (t529.length : Int) := of_decide_eq_true (by first | (with_reducible assumption) | assumption); obtain ⟨ad563, A563_0, c563_0, e563, hx563_0, hl563_0, hi563_0⟩ := at_L1 (Kd.N_reads' HO_3.out).2.2 t535 p563 q563; cases e563; obtain ⟨ce563, hce563, hMe563, hcc563⟩ := Kd.N_get HO_3.out [] t535 p563 (by first | exact q563 | exact of_decide_eq_true (by first | (with_reducible assumption) | assumption) | (have e_ := (Kd.N_reads' HO_3.out).1; omega)); obtain ⟨ua563_0, uc563_0, rfl, ul563_0, ge563_0⟩ := Kd.FK_slice_open hMe563; have hv563_0 := hcc563 0 _ rfl; rw [Nat.add_zero, show ((Kd.slice 3 (Kd.int .i64))).sz = 1 from rfl, Nat.mul_one] at hv563_0; replace hv563_0 := Option.some.inj (hv563_0.symm.trans hx563_0); injection hv563_0 with hva_ hvn_ hvc_; rw [hva_] at ge563_0; rw [hvc_] at ul563_0; have HL563_0 := Aside0.mk (show Kd.V (Kd.int .i64) 3 _ w.heap.size _ _ (rd_L1 t529 t535) from Kd.V_mk ul563_0 ge563_0); clear hva_ hvn_ hvc_ ge563_0 ul563_0; clear hcc563 hce563; have HR563_0 := Aside0.mk hi563_0; have HC563_0 := Aside0.mk hl563_0; clear hi563_0 hl563_0; replace p563 := eq_true p563; replace q563 := eq_true q563; have p564 : 0 ≤ (0 : Int) := (by omega); have q564 : 0 < ((rd_L1 t529 t535).length : Int) := of_decide_eq_true (by first | (with_reducible assumption) | assumption); obtain ⟨ad564, e564, hx564_0⟩ := Kd.at_int (by repeat (first | (with_reducible exact HR563_0.out) | (with_reducible refine Kd.C_alloc ?_ _) | (with_reducible refine Kd.C_drewN ?_ _) | (with_reducible refine Kd.C_drew ?_) | exact HR563_0.out)) 0 p564 q564; cases e564; have qi564 : (0 < (rd_L1 t529 t535).length) = True := eq_true (by omega); (try rw [show ((0 : Int)).toNat = 0 from rfl] at hx564_0); (try rw [Addr.add_zero'] at hx564_0); replace p564 := eq_true p564; replace q564 := eq_true q564; have p565 : 0 ≤ (t535 : Int) := of_decide_eq_true (by first | (with_reducible assumption) | assumption); have q565 : t535 < (t529.length : Int) := of_decide_eq_true (by first | (with_reducible assumption) | assumption); obtain ⟨ad565, A565_0, c565_0, e565, hx565_0, hl565_0, hi565_0⟩ := at_L1 (Kd.N_reads' HO_3.out).2.2 t535 p565 q565; obtain rfl : ad563 = ad565 := (by injection e565); obtain ⟨ce565, hce565, hMe565, hcc565⟩ := Kd.N_get HO_3.out [] t535 p565 (by first | exact q565 | exact of_decide_eq_true (by first | (with_reducible assumption) | assumption) | (have e_ := (Kd.N_reads' HO_3.out).1; omega)); obtain ⟨ua565_0, uc565_0, rfl, ul565_0, ge565_0⟩ := Kd.FK_slice_open hMe565; have hv565_0 := hcc565 0 _ rfl; rw [Nat.add_zero, show ((Kd.slice 3 (Kd.int .i64))).sz = 1 from rfl, Nat.mul_one] at hv565_0; replace hv565_0 := Option.some.inj (hv565_0.symm.trans hx565_0); injection hv565_0 with hva_ hvn_ hvc_; rw [hva_] at ge565_0; rw [hvc_] at ul565_0; have HL565_0 := Aside0.mk (show Kd.V (Kd.int .i64) 3 _ w.heap.size _ _ (rd_L1 t529 t535) from Kd.V_mk ul565_0 ge565_0); clear hva_ hvn_ hvc_ ge565_0 ul565_0; clear hcc565 hce565; have HR565_0 := Aside0.mk hi565_0; have HC565_0 := Aside0.mk hl565_0; clear hi565_0 hl565_0; replace p565 := eq_true p565; replace q565 := eq_true q565; have ea_ := Option.some.inj (hx563_0.symm.trans hx565_0); injection ea_ with ea_ en_ ec_; subst ea_; subst ec_; clear en_; have p566 : 0 ≤ (1 : Int) := (by omega); have q566 : 1 < ((rd_L1 t529 t535).length : Int) := of_decide_eq_true (by first | (with_reducible assumption) | assumption); obtain ⟨ad566, e566, hx566_0⟩ := Kd.at_int (by repeat (first | (with_reducible exact HR565_0.out) | (with_reducible refine Kd.C_alloc ?_ _) | (with_reducible refine Kd.C_drewN ?_ _) | (with_reducible refine Kd.C_drew ?_) | exact HR565_0.out)) 1 p566 q566; cases e566; (try simp only [show (1 : Int).toNat = 1 from rfl, Nat.reduceMul, Nat.reduceEqDiff, Go.Addr.add, ↓reduceIte] at hx566_0); have qi566 : (1 < (rd_L1 t529 t535).length) = True := eq_true (by omega); (try rw [show ((1 : Int)).toNat = 1 from rfl] at hx566_0); replace p566 := eq_true p566; replace q566 := eq_true q566)))
                        go_meet
                        case rel => exact ⟨_, (decide ((rd (rd_L1 t529 t535) 1) < t533)), (by first | rfl | (simp; done) | (simp [*]; done)), H', ⟨by have := HK1.out; first | omega | exact Nat.le_refl _⟩, ⟨by (with_reducible repeat (first | apply Kd.N_alloc | apply Kd.N_drewN | apply Kd.N_drew)); exact Kd.N_mono HO_3.out (fun _ hk => trivial)⟩, ⟨by repeat (first | (with_reducible first | exact HB.out | apply below_alloc | apply pw_below_drewN | apply below_drew1) | exact HB.out)⟩⟩
                      ·rw [if_neg c54] at H
                       exact absurd H (by simp)
                    ·rw [if_neg c52] at H
                     exact absurd H (by simp)
                   ·rw [if_neg c51] at H
                    exact absurd H (by simp)
                  ·rw [if_neg c50] at H
                   exact absurd H (by simp)
              ·rw [if_neg c46] at H
               exact absurd H (by simp)
             ·replace c44 := Bool.eq_false_iff.mpr c44
              subst c44
              have H1 : (none) = some r := by rw [if_neg (show ¬ (false = true) by decide)] at H; exact H
              clear H
              have H := H1
              clear H1
              exact absurd H (by simp)
            ·replace c42 := Bool.eq_false_iff.mpr c42
             subst c42
             have H1 : (laws_FnRemnants.j1 k1 t529 t532 t533 t534 false) = some r := by rw [if_neg (show ¬ (false = true) by decide)] at H; exact H
             clear H
             have H := H1
             clear H1
             as_aux_lemma =>
              have H' := Aside0.mk H
              clear H
              go_wp2
              repeat (go_quiet (fail); try go_wp2)
              go_meet
              case rel => exact ⟨_, (false), (by first | rfl | (simp; done) | (simp [*]; done)), H', ⟨by have := HK1.out; first | omega | exact Nat.le_refl _⟩, ⟨by (with_reducible repeat (first | apply Kd.N_alloc | apply Kd.N_drewN | apply Kd.N_drew)); exact Kd.N_mono HO_3.out (fun _ hk => trivial)⟩, ⟨by repeat (first | (with_reducible first | exact HB.out | apply below_alloc | apply pw_below_drewN | apply below_drew1) | exact HB.out)⟩⟩
           case rest =>
            clear HC41
            try clear c2
            try clear p2
            try clear c3
            try clear c4
            try clear c5
            try clear p5
            try clear q5
            try clear hx5
            try clear qi5
            try clear p6
            try clear c25
            try clear c25b0
            try clear c26
            try clear c27
            try clear c28
            try clear c29
            try clear c29b0
            try clear c30
            try clear c31
            try clear c31b0
            try clear c34
            try clear c35
            try clear c36
            try clear c37
            try clear c39
            try clear c39b0
            try clear c39b1
            try clear c42
            try clear c44
            try clear c46
            try clear c46b0
            try clear c46b1
            try clear c47
            try clear c47b0
            try clear c48
            try clear c48b0
            try clear c49
            try clear c49b0
            try clear c50
            try clear c50b0
            try clear c51
            try clear c51b0
            try clear c52
            try clear c52b0
            try clear c52b1
            try clear c53
            try clear c53b0
            try clear c54
            try clear c54b0
            try clear c54b1
            try clear p54
            try clear q54
            try clear hx54
            try clear qi54
            try clear c55
            try clear p55
            try clear q55
            try clear hx55
            try clear qi55
            try clear hx546_0
            try clear hx547_0
            try clear hx548_0
            try clear hx549_0
            try clear hx550_0
            try clear hx551_0
            try clear hx552_0
            try clear hx553_0
            try clear hx554_0
            try clear hx555_0
            try clear hx556_0
            try clear hx557_0
            try clear hx558_0
            try clear hx559_0
            try clear hx560_0
            try clear hx563_0
            try clear hx564_0
            try clear hx565_0
            try clear hx566_0
            try clear p546
            try clear p547
            try clear p548
            try clear p549
            try clear p550
            try clear p551
            try clear p552
            try clear p553
            try clear p554
            try clear p555
            try clear p556
            try clear p557
            try clear p558
            try clear p559
            try clear p560
            try clear p563
            try clear p564
            try clear p565
            try clear p566
            try clear q546
            try clear q547
            try clear q548
            try clear q549
            try clear q550
            try clear q551
            try clear q552
            try clear q553
            try clear q554
            try clear q555
            try clear q556
            try clear q557
            try clear q558
            try clear q559
            try clear q560
            try clear q563
            try clear q564
            try clear q565
            try clear q566
            obtain ⟨kq, x220_40, rfl, HA, HJ40, HO_3, HB⟩ := hcut
            cases kq with
            | zero => exact absurd HA.out (by simp [laws_FnRemnants.j1])
            | succ kj40 =>
             have H := HA.out
             clear HA
             simp only [laws_FnRemnants.j1] at H
             by_cases c56 : x220_40 = true
             ·subst c56
              have H1 : (none) = some r := by rw [if_pos rfl] at H; exact H
              clear H
              have H := H1
              clear H1
              exact absurd H (by simp)
             ·replace c56 := Bool.eq_false_iff.mpr c56
              subst c56
              have H1 : ((impl_AddRemnant.f kj40 t529 t532 t533).bind fun bt567 => ((impl_SortStore.f kj40 bt567.1).bind fun t571 => (if bt567.2 = true then (if (bt567.1.length : Int) = (wrap64 ((t529.length : Int) + 1)) then ((impl_StoreArea.f kj40 bt567.1).bind fun t574 => (if t574 = (wrap64 (t534 + (wrap64 (t532 * t533)))) then ((impl_CanMake.f kj40 bt567.1 t532 t533 false).bind fun t575 => (if t575 = true then (if (t571.length : Int) = (bt567.1.length : Int) then ((impl_StoreArea.f kj40 t571).bind fun t576 => (if t576 = (wrap64 (t534 + (wrap64 (t532 * t533)))) then ((impl_StoreOk.f t571).bind fun t577 => (if t577 = true then (laws_FnRemnants.l1 kj40 t532 t533 t534 bt567.1 t571 1) else (none))) else (none))) else (none)) else (none))) else (none))) else (none)) else (none)))) = some r := by rw [if_neg (show ¬ (false = true) by decide)] at H; exact H
              clear H
              have H := H1
              clear H1
              replace H := Option.bind_eq_some_iff.mp H
              obtain ⟨⟨t567, t568⟩, A570, H⟩ := H
              replace H : ((impl_SortStore.f kj40 t567).bind fun t571 => (if t568 = true then (if (t567.length : Int) = (wrap64 ((t529.length : Int) + 1)) then ((impl_StoreArea.f kj40 t567).bind fun t574 => (if t574 = (wrap64 (t534 + (wrap64 (t532 * t533)))) then ((impl_CanMake.f kj40 t567 t532 t533 false).bind fun t575 => (if t575 = true then (if (t571.length : Int) = (t567.length : Int) then ((impl_StoreArea.f kj40 t571).bind fun t576 => (if t576 = (wrap64 (t534 + (wrap64 (t532 * t533)))) then ((impl_StoreOk.f t571).bind fun t577 => (if t577 = true then (laws_FnRemnants.l1 kj40 t532 t533 t534 t567 t571 1) else (none))) else (none))) else (none)) else (none))) else (none))) else (none)) else (none))) = some r := H
              have A57 := Aside0.mk A570
              clear A570
              replace H := Option.bind_eq_some_iff.mp H
              obtain ⟨t571, A580, H⟩ := H
              replace H : (if t568 = true then (if (t567.length : Int) = (wrap64 ((t529.length : Int) + 1)) then ((impl_StoreArea.f kj40 t567).bind fun t574 => (if t574 = (wrap64 (t534 + (wrap64 (t532 * t533)))) then ((impl_CanMake.f kj40 t567 t532 t533 false).bind fun t575 => (if t575 = true then (if (t571.length : Int) = (t567.length : Int) then ((impl_StoreArea.f kj40 t571).bind fun t576 => (if t576 = (wrap64 (t534 + (wrap64 (t532 * t533)))) then ((impl_StoreOk.f t571).bind fun t577 => (if t577 = true then (laws_FnRemnants.l1 kj40 t532 t533 t534 t567 t571 1) else (none))) else (none))) else (none)) else (none))) else (none))) else (none)) else (none)) = some r := H
              have A58 := Aside0.mk A580
              clear A580
              by_cases c59 : t568 = true
              ·subst c59
               have H1 : (if (t567.length : Int) = (wrap64 ((t529.length : Int) + 1)) then ((impl_StoreArea.f kj40 t567).bind fun t574 => (if t574 = (wrap64 (t534 + (wrap64 (t532 * t533)))) then ((impl_CanMake.f kj40 t567 t532 t533 false).bind fun t575 => (if t575 = true then (if (t571.length : Int) = (t567.length : Int) then ((impl_StoreArea.f kj40 t571).bind fun t576 => (if t576 = (wrap64 (t534 + (wrap64 (t532 * t533)))) then ((impl_StoreOk.f t571).bind fun t577 => (if t577 = true then (laws_FnRemnants.l1 kj40 t532 t533 t534 t567 t571 1) else (none))) else (none))) else (none)) else (none))) else (none))) else (none)) = some r := by rw [if_pos rfl] at H; exact H
               clear H
               have H := H1
               clear H1
               by_cases c60 : (t567.length : Int) = (wrap64 ((t529.length : Int) + 1))
               ·rw [if_pos c60] at H
                have c60b0 : ((t567.length : Int) == (wrap64 ((t529.length : Int) + 1))) = true := beq_iff_eq.mpr c60
                have c60b1 : ((t567.length : Int) != (wrap64 ((t529.length : Int) + 1))) = false := bne_eq_false_iff_eq.mpr c60
                clear c60
                replace H := Option.bind_eq_some_iff.mp H
                obtain ⟨t574, A610, H⟩ := H
                replace H : (if t574 = (wrap64 (t534 + (wrap64 (t532 * t533)))) then ((impl_CanMake.f kj40 t567 t532 t533 false).bind fun t575 => (if t575 = true then (if (t571.length : Int) = (t567.length : Int) then ((impl_StoreArea.f kj40 t571).bind fun t576 => (if t576 = (wrap64 (t534 + (wrap64 (t532 * t533)))) then ((impl_StoreOk.f t571).bind fun t577 => (if t577 = true then (laws_FnRemnants.l1 kj40 t532 t533 t534 t567 t571 1) else (none))) else (none))) else (none)) else (none))) else (none)) = some r := H
                have A61 := Aside0.mk A610
                clear A610
                by_cases c62 : t574 = (wrap64 (t534 + (wrap64 (t532 * t533))))
                ·rw [if_pos c62] at H
                 have c62b0 : (t574 == (wrap64 (t534 + (wrap64 (t532 * t533))))) = true := beq_iff_eq.mpr c62
                 have c62b1 : (t574 != (wrap64 (t534 + (wrap64 (t532 * t533))))) = false := bne_eq_false_iff_eq.mpr c62
                 clear c62
                 replace H := Option.bind_eq_some_iff.mp H
                 obtain ⟨t575, A630, H⟩ := H
                 replace H : (if t575 = true then (if (t571.length : Int) = (t567.length : Int) then ((impl_StoreArea.f kj40 t571).bind fun t576 => (if t576 = (wrap64 (t534 + (wrap64 (t532 * t533)))) then ((impl_StoreOk.f t571).bind fun t577 => (if t577 = true then (laws_FnRemnants.l1 kj40 t532 t533 t534 t567 t571 1) else (none))) else (none))) else (none)) else (none)) = some r := H
                 have A63 := Aside0.mk A630
                 clear A630
                 by_cases c64 : t575 = true
                 ·subst c64
                  have H1 : (if (t571.length : Int) = (t567.length : Int) then ((impl_StoreArea.f kj40 t571).bind fun t576 => (if t576 = (wrap64 (t534 + (wrap64 (t532 * t533)))) then ((impl_StoreOk.f t571).bind fun t577 => (if t577 = true then (laws_FnRemnants.l1 kj40 t532 t533 t534 t567 t571 1) else (none))) else (none))) else (none)) = some r := by rw [if_pos rfl] at H; exact H
                  clear H
                  have H := H1
                  clear H1
                  by_cases c65 : (t571.length : Int) = (t567.length : Int)
                  ·rw [if_pos c65] at H
                   have c65b0 : ((t571.length : Int) == (t567.length : Int)) = true := beq_iff_eq.mpr c65
                   have c65b1 : ((t571.length : Int) != (t567.length : Int)) = false := bne_eq_false_iff_eq.mpr c65
                   have c65b2 : (t571.length == t567.length) = true := by first | simpa using c65 | (simp at c65 ⊢; omega)
                   clear c65
                   replace H := Option.bind_eq_some_iff.mp H
                   obtain ⟨t576, A660, H⟩ := H
                   replace H : (if t576 = (wrap64 (t534 + (wrap64 (t532 * t533)))) then ((impl_StoreOk.f t571).bind fun t577 => (if t577 = true then (laws_FnRemnants.l1 kj40 t532 t533 t534 t567 t571 1) else (none))) else (none)) = some r := H
                   have A66 := Aside0.mk A660
                   clear A660
                   by_cases c67 : t576 = (wrap64 (t534 + (wrap64 (t532 * t533))))
                   ·rw [if_pos c67] at H
                    have c67b0 : (t576 == (wrap64 (t534 + (wrap64 (t532 * t533))))) = true := beq_iff_eq.mpr c67
                    have c67b1 : (t576 != (wrap64 (t534 + (wrap64 (t532 * t533))))) = false := bne_eq_false_iff_eq.mpr c67
                    clear c67
                    replace H := Option.bind_eq_some_iff.mp H
                    obtain ⟨t577, A680, H⟩ := H
                    replace H : (if t577 = true then (laws_FnRemnants.l1 kj40 t532 t533 t534 t567 t571 1) else (none)) = some r := H
                    have A68 := Aside0.mk A680
                    clear A680
                    by_cases c69 : t577 = true
                    ·subst c69
                     have H1 : (laws_FnRemnants.l1 kj40 t532 t533 t534 t567 t571 1) = some r := by rw [if_pos rfl] at H; exact H
                     clear H
                     have H := H1
                     clear H1
                     have H' := Aside0.mk H
                     clear H
                     go_wp2_with (first | (go_at_call 24; (with_reducible refine (impl_AddRemnant.calls kj40 _ _ t529 t532 t533 t567 true _ ?side1 ?side2 A57.out).mono ?_); (case side1 => repeat (first | exact (Kd.N_reads' HO_3.out).2.2 | (with_reducible refine Kd.C_alloc ?_ _) | (with_reducible refine Kd.C_drewN ?_ _) | (with_reducible refine Kd.C_drew ?_))); (case side2 => exact (Kd.N_reads' HO_3.out).2.1); rintro e w70 ⟨v569, rfl, ho0, hb⟩; have n0_ := Aside0.mk (Kd.N_elder' (by (with_reducible repeat (first | apply Kd.N_alloc | apply Kd.N_drewN | apply Kd.N_drew)); exact HO_3.out) (by first | exact Kd.N_base ho0 | exact Kd.S_base ho0) hb); have n1_ := Aside0.mk (Kd.N_lower (Kd.N_mono (ok' := fun k_ => some k_ ≠ (.slice Ao23 t529.length co23 : Value).ownBlock) (Kd.S_N (Kd.S_bound ho0)) (fun k_ hk_ => (Kd.fresh' (Kd.N_lt (by (with_reducible repeat (first | apply Kd.N_alloc | apply Kd.N_drewN | apply Kd.N_drew)); exact HO_3.out)) k_ hk_.2.1))) (below_size (by repeat (first | (with_reducible first | exact HB.out | apply below_alloc | apply pw_below_drewN | apply below_drew1) | exact HB.out)))); have n2_ := Aside0.mk (below_step (by repeat (first | (with_reducible first | exact HB.out | apply below_alloc | apply pw_below_drewN | apply below_drew1) | exact HB.out)) hb); clear HO_3; clear HB; have HO_3 := n0_; have HO570 := n1_; have HB := n2_; clear n0_ n1_ n2_; (try clear hb); (try clear hb2); (try clear hk); (try clear hi); (try clear ho0); obtain ⟨Ao71, co71, eo71⟩ := Kd.N_slice HO570.out; subst eo71) | (go_at_call 32; (with_reducible refine (impl_SortStore.calls kj40 _ _ t567 t571 _ ?side1 ?side2 A58.out).mono ?_); (case side1 => repeat (first | exact (Kd.N_reads' HO570.out).2.2 | (with_reducible refine Kd.C_alloc ?_ _) | (with_reducible refine Kd.C_drewN ?_ _) | (with_reducible refine Kd.C_drew ?_))); (case side2 => exact (Kd.N_reads' HO570.out).2.1); rintro e w72 ⟨v572, rfl, ho0, hb⟩; have n0_ := Aside0.mk (Kd.N_elder' (by (with_reducible repeat (first | apply Kd.N_alloc | apply Kd.N_drewN | apply Kd.N_drew)); exact HO_3.out) (by first | exact Kd.N_base ho0 | exact Kd.S_base ho0) hb); have n1_ := Aside0.mk (Kd.N_elder' (by (with_reducible repeat (first | apply Kd.N_alloc | apply Kd.N_drewN | apply Kd.N_drew)); exact HO570.out) (by first | exact Kd.N_base ho0 | exact Kd.S_base ho0) hb); have n2_ := Aside0.mk (Kd.N_lower (Kd.N_mono (ok' := fun k_ => some k_ ≠ (.slice Ao23 t529.length co23 : Value).ownBlock ∧ some k_ ≠ (.slice Ao71 t567.length co71 : Value).ownBlock) (Kd.S_N (Kd.S_bound ho0)) (fun k_ hk_ => ⟨(Kd.fresh' (Kd.N_lt (by (with_reducible repeat (first | apply Kd.N_alloc | apply Kd.N_drewN | apply Kd.N_drew)); exact HO_3.out)) k_ hk_.2.1), (Kd.fresh' (Kd.N_lt (by (with_reducible repeat (first | apply Kd.N_alloc | apply Kd.N_drewN | apply Kd.N_drew)); exact HO570.out)) k_ hk_.2.1)⟩)) (below_size (by repeat (first | (with_reducible first | exact HB.out | apply below_alloc | apply pw_below_drewN | apply below_drew1) | exact HB.out)))); have n3_ := Aside0.mk (below_step (by repeat (first | (with_reducible first | exact HB.out | apply below_alloc | apply pw_below_drewN | apply below_drew1) | exact HB.out)) hb); clear HO_3; clear HO570; clear HB; have HO_3 := n0_; have HO570 := n1_; have HO573 := n2_; have HB := n3_; clear n0_ n1_ n2_ n3_; (try clear hb); (try clear hb2); (try clear hk); (try clear hi); (try clear ho0)) | (go_at_call 20; (with_reducible refine (impl_StoreArea.calls kj40 _ _ t567 t574 _ ?side1 ?side2 A61.out).mono ?_); (case side1 => repeat (first | exact (Kd.N_reads' HO570.out).2.2 | (with_reducible refine Kd.C_alloc ?_ _) | (with_reducible refine Kd.C_drewN ?_ _) | (with_reducible refine Kd.C_drew ?_))); (case side2 => exact (Kd.N_reads' HO570.out).2.1); rintro e w' ⟨rfl, ⟨nd, rfl⟩⟩; (try first | exact ⟨rfl, _, World.drewN_drewN _ _ _⟩ | exact ⟨rfl, _, Eq.trans (World.drewN_drewN _ _ _) (congrArg (World.drewN _) (Nat.add_assoc _ _ _))⟩)) | (go_at_call 22; (with_reducible refine (impl_CanMake.calls kj40 _ _ t567 t532 t533 false true _ ?side1 ?side2 A63.out).mono ?_); (case side1 => repeat (first | exact (Kd.N_reads' HO570.out).2.2 | (with_reducible refine Kd.C_alloc ?_ _) | (with_reducible refine Kd.C_drewN ?_ _) | (with_reducible refine Kd.C_drew ?_))); (case side2 => exact (Kd.N_reads' HO570.out).2.1); rintro e w' ⟨rfl, ⟨nd, rfl⟩⟩; (try first | exact ⟨rfl, _, World.drewN_drewN _ _ _⟩ | exact ⟨rfl, _, Eq.trans (World.drewN_drewN _ _ _) (congrArg (World.drewN _) (Nat.add_assoc _ _ _))⟩); obtain ⟨Ao73, co73, eo73⟩ := Kd.N_slice HO573.out; subst eo73) | (go_at_call 20; (with_reducible refine (impl_StoreArea.calls kj40 _ _ t571 t576 _ ?side1 ?side2 A66.out).mono ?_); (case side1 => repeat (first | exact (Kd.N_reads' HO573.out).2.2 | (with_reducible refine Kd.C_alloc ?_ _) | (with_reducible refine Kd.C_drewN ?_ _) | (with_reducible refine Kd.C_drew ?_))); (case side2 => exact (Kd.N_reads' HO573.out).2.1); rintro e w' ⟨rfl, ⟨nd, rfl⟩⟩; (try first | exact ⟨rfl, _, World.drewN_drewN _ _ _⟩ | exact ⟨rfl, _, Eq.trans (World.drewN_drewN _ _ _) (congrArg (World.drewN _) (Nat.add_assoc _ _ _))⟩)) | (go_at_call 15; (with_reducible refine (impl_StoreOk.calls _ _ t571 true _ ?side1 ?side2 A68.out).mono ?_); (case side1 => repeat (first | exact (Kd.N_reads' HO573.out).2.2 | (with_reducible refine Kd.C_alloc ?_ _) | (with_reducible refine Kd.C_drewN ?_ _) | (with_reducible refine Kd.C_drew ?_))); (case side2 => exact (Kd.N_reads' HO573.out).2.1); rintro e w' ⟨rfl, ⟨nd, rfl⟩⟩; (try first | exact ⟨rfl, _, World.drewN_drewN _ _ _⟩ | exact ⟨rfl, _, Eq.trans (World.drewN_drewN _ _ _) (congrArg (World.drewN _) (Nat.add_assoc _ _ _))⟩)))
                     repeat (go_quiet (first | (go_at_call 24; (with_reducible refine (impl_AddRemnant.calls kj40 _ _ t529 t532 t533 t567 true _ ?side1 ?side2 A57.out).mono ?_); (case side1 => repeat (first | exact (Kd.N_reads' HO_3.out).2.2 | (with_reducible refine Kd.C_alloc ?_ _) | (with_reducible refine Kd.C_drewN ?_ _) | (with_reducible refine Kd.C_drew ?_))); (case side2 => exact (Kd.N_reads' HO_3.out).2.1); rintro e w70 ⟨v569, rfl, ho0, hb⟩; have n0_ := Aside0.mk (Kd.N_elder' (by (with_reducible repeat (first | apply Kd.N_alloc | apply Kd.N_drewN | apply Kd.N_drew)); exact HO_3.out) (by first | exact Kd.N_base ho0 | exact Kd.S_base ho0) hb); have n1_ := Aside0.mk (Kd.N_lower (Kd.N_mono (ok' := fun k_ => some k_ ≠ (.slice Ao23 t529.length co23 : Value).ownBlock) (Kd.S_N (Kd.S_bound ho0)) (fun k_ hk_ => (Kd.fresh' (Kd.N_lt (by (with_reducible repeat (first | apply Kd.N_alloc | apply Kd.N_drewN | apply Kd.N_drew)); exact HO_3.out)) k_ hk_.2.1))) (below_size (by repeat (first | (with_reducible first | exact HB.out | apply below_alloc | apply pw_below_drewN | apply below_drew1) | exact HB.out)))); have n2_ := Aside0.mk (below_step (by repeat (first | (with_reducible first | exact HB.out | apply below_alloc | apply pw_below_drewN | apply below_drew1) | exact HB.out)) hb); clear HO_3; clear HB; have HO_3 := n0_; have HO570 := n1_; have HB := n2_; clear n0_ n1_ n2_; (try clear hb); (try clear hb2); (try clear hk); (try clear hi); (try clear ho0); obtain ⟨Ao71, co71, eo71⟩ := Kd.N_slice HO570.out; subst eo71) | (go_at_call 32; (with_reducible refine (impl_SortStore.calls kj40 _ _ t567 t571 _ ?side1 ?side2 A58.out).mono ?_); (case side1 => repeat (first | exact (Kd.N_reads' HO570.out).2.2 | (with_reducible refine Kd.C_alloc ?_ _) | (with_reducible refine Kd.C_drewN ?_ _) | (with_reducible refine Kd.C_drew ?_))); (case side2 => exact (Kd.N_reads' HO570.out).2.1); rintro e w72 ⟨v572, rfl, ho0, hb⟩; have n0_ := Aside0.mk (Kd.N_elder' (by (with_reducible repeat (first | apply Kd.N_alloc | apply Kd.N_drewN | apply Kd.N_drew)); exact HO_3.out) (by first | exact Kd.N_base ho0 | exact Kd.S_base ho0) hb); have n1_ := Aside0.mk (Kd.N_elder' (by (with_reducible repeat (first | apply Kd.N_alloc | apply Kd.N_drewN | apply Kd.N_drew)); exact HO570.out) (by first | exact Kd.N_base ho0 | exact Kd.S_base ho0) hb); have n2_ := Aside0.mk (Kd.N_lower (Kd.N_mono (ok' := fun k_ => some k_ ≠ (.slice Ao23 t529.length co23 : Value).ownBlock ∧ some k_ ≠ (.slice Ao71 t567.length co71 : Value).ownBlock) (Kd.S_N (Kd.S_bound ho0)) (fun k_ hk_ => ⟨(Kd.fresh' (Kd.N_lt (by (with_reducible repeat (first | apply Kd.N_alloc | apply Kd.N_drewN | apply Kd.N_drew)); exact HO_3.out)) k_ hk_.2.1), (Kd.fresh' (Kd.N_lt (by (with_reducible repeat (first | apply Kd.N_alloc | apply Kd.N_drewN | apply Kd.N_drew)); exact HO570.out)) k_ hk_.2.1)⟩)) (below_size (by repeat (first | (with_reducible first | exact HB.out | apply below_alloc | apply pw_below_drewN | apply below_drew1) | exact HB.out)))); have n3_ := Aside0.mk (below_step (by repeat (first | (with_reducible first | exact HB.out | apply below_alloc | apply pw_below_drewN | apply below_drew1) | exact HB.out)) hb); clear HO_3; clear HO570; clear HB; have HO_3 := n0_; have HO570 := n1_; have HO573 := n2_; have HB := n3_; clear n0_ n1_ n2_ n3_; (try clear hb); (try clear hb2); (try clear hk); (try clear hi); (try clear ho0)) | (go_at_call 20; (with_reducible refine (impl_StoreArea.calls kj40 _ _ t567 t574 _ ?side1 ?side2 A61.out).mono ?_); (case side1 => repeat (first | exact (Kd.N_reads' HO570.out).2.2 | (with_reducible refine Kd.C_alloc ?_ _) | (with_reducible refine Kd.C_drewN ?_ _) | (with_reducible refine Kd.C_drew ?_))); (case side2 => exact (Kd.N_reads' HO570.out).2.1); rintro e w' ⟨rfl, ⟨nd, rfl⟩⟩; (try first | exact ⟨rfl, _, World.drewN_drewN _ _ _⟩ | exact ⟨rfl, _, Eq.trans (World.drewN_drewN _ _ _) (congrArg (World.drewN _) (Nat.add_assoc _ _ _))⟩)) | (go_at_call 22; (with_reducible refine (impl_CanMake.calls kj40 _ _ t567 t532 t533 false true _ ?side1 ?side2 A63.out).mono ?_); (case side1 => repeat (first | exact (Kd.N_reads' HO570.out).2.2 | (with_reducible refine Kd.C_alloc ?_ _) | (with_reducible refine Kd.C_drewN ?_ _) | (with_reducible refine Kd.C_drew ?_))); (case side2 => exact (Kd.N_reads' HO570.out).2.1); rintro e w' ⟨rfl, ⟨nd, rfl⟩⟩; (try first | exact ⟨rfl, _, World.drewN_drewN _ _ _⟩ | exact ⟨rfl, _, Eq.trans (World.drewN_drewN _ _ _) (congrArg (World.drewN _) (Nat.add_assoc _ _ _))⟩); obtain ⟨Ao73, co73, eo73⟩ := Kd.N_slice HO573.out; subst eo73) | (go_at_call 20; (with_reducible refine (impl_StoreArea.calls kj40 _ _ t571 t576 _ ?side1 ?side2 A66.out).mono ?_); (case side1 => repeat (first | exact (Kd.N_reads' HO573.out).2.2 | (with_reducible refine Kd.C_alloc ?_ _) | (with_reducible refine Kd.C_drewN ?_ _) | (with_reducible refine Kd.C_drew ?_))); (case side2 => exact (Kd.N_reads' HO573.out).2.1); rintro e w' ⟨rfl, ⟨nd, rfl⟩⟩; (try first | exact ⟨rfl, _, World.drewN_drewN _ _ _⟩ | exact ⟨rfl, _, Eq.trans (World.drewN_drewN _ _ _) (congrArg (World.drewN _) (Nat.add_assoc _ _ _))⟩)) | (go_at_call 15; (with_reducible refine (impl_StoreOk.calls _ _ t571 true _ ?side1 ?side2 A68.out).mono ?_); (case side1 => repeat (first | exact (Kd.N_reads' HO573.out).2.2 | (with_reducible refine Kd.C_alloc ?_ _) | (with_reducible refine Kd.C_drewN ?_ _) | (with_reducible refine Kd.C_drew ?_))); (case side2 => exact (Kd.N_reads' HO573.out).2.1); rintro e w' ⟨rfl, ⟨nd, rfl⟩⟩; (try first | exact ⟨rfl, _, World.drewN_drewN _ _ _⟩ | exact ⟨rfl, _, Eq.trans (World.drewN_drewN _ _ _) (congrArg (World.drewN _) (Nat.add_assoc _ _ _))⟩))); try go_wp2_with (first | (go_at_call 24; (with_reducible refine (impl_AddRemnant.calls kj40 _ _ t529 t532 t533 t567 true _ ?side1 ?side2 A57.out).mono ?_); (case side1 => repeat (first | exact (Kd.N_reads' HO_3.out).2.2 | (with_reducible refine Kd.C_alloc ?_ _) | (with_reducible refine Kd.C_drewN ?_ _) | (with_reducible refine Kd.C_drew ?_))); (case side2 => exact (Kd.N_reads' HO_3.out).2.1); rintro e w70 ⟨v569, rfl, ho0, hb⟩; have n0_ := Aside0.mk (Kd.N_elder' (by (with_reducible repeat (first | apply Kd.N_alloc | apply Kd.N_drewN | apply Kd.N_drew)); exact HO_3.out) (by first | exact Kd.N_base ho0 | exact Kd.S_base ho0) hb); have n1_ := Aside0.mk (Kd.N_lower (Kd.N_mono (ok' := fun k_ => some k_ ≠ (.slice Ao23 t529.length co23 : Value).ownBlock) (Kd.S_N (Kd.S_bound ho0)) (fun k_ hk_ => (Kd.fresh' (Kd.N_lt (by (with_reducible repeat (first | apply Kd.N_alloc | apply Kd.N_drewN | apply Kd.N_drew)); exact HO_3.out)) k_ hk_.2.1))) (below_size (by repeat (first | (with_reducible first | exact HB.out | apply below_alloc | apply pw_below_drewN | apply below_drew1) | exact HB.out)))); have n2_ := Aside0.mk (below_step (by repeat (first | (with_reducible first | exact HB.out | apply below_alloc | apply pw_below_drewN | apply below_drew1) | exact HB.out)) hb); clear HO_3; clear HB; have HO_3 := n0_; have HO570 := n1_; have HB := n2_; clear n0_ n1_ n2_; (try clear hb); (try clear hb2); (try clear hk); (try clear hi); (try clear ho0); obtain ⟨Ao71, co71, eo71⟩ := Kd.N_slice HO570.out; subst eo71) | (go_at_call 32; (with_reducible refine (impl_SortStore.calls kj40 _ _ t567 t571 _ ?side1 ?side2 A58.out).mono ?_); (case side1 => repeat (first | exact (Kd.N_reads' HO570.out).2.2 | (with_reducible refine Kd.C_alloc ?_ _) | (with_reducible refine Kd.C_drewN ?_ _) | (with_reducible refine Kd.C_drew ?_))); (case side2 => exact (Kd.N_reads' HO570.out).2.1); rintro e w72 ⟨v572, rfl, ho0, hb⟩; have n0_ := Aside0.mk (Kd.N_elder' (by (with_reducible repeat (first | apply Kd.N_alloc | apply Kd.N_drewN | apply Kd.N_drew)); exact HO_3.out) (by first | exact Kd.N_base ho0 | exact Kd.S_base ho0) hb); have n1_ := Aside0.mk (Kd.N_elder' (by (with_reducible repeat (first | apply Kd.N_alloc | apply Kd.N_drewN | apply Kd.N_drew)); exact HO570.out) (by first | exact Kd.N_base ho0 | exact Kd.S_base ho0) hb); have n2_ := Aside0.mk (Kd.N_lower (Kd.N_mono (ok' := fun k_ => some k_ ≠ (.slice Ao23 t529.length co23 : Value).ownBlock ∧ some k_ ≠ (.slice Ao71 t567.length co71 : Value).ownBlock) (Kd.S_N (Kd.S_bound ho0)) (fun k_ hk_ => ⟨(Kd.fresh' (Kd.N_lt (by (with_reducible repeat (first | apply Kd.N_alloc | apply Kd.N_drewN | apply Kd.N_drew)); exact HO_3.out)) k_ hk_.2.1), (Kd.fresh' (Kd.N_lt (by (with_reducible repeat (first | apply Kd.N_alloc | apply Kd.N_drewN | apply Kd.N_drew)); exact HO570.out)) k_ hk_.2.1)⟩)) (below_size (by repeat (first | (with_reducible first | exact HB.out | apply below_alloc | apply pw_below_drewN | apply below_drew1) | exact HB.out)))); have n3_ := Aside0.mk (below_step (by repeat (first | (with_reducible first | exact HB.out | apply below_alloc | apply pw_below_drewN | apply below_drew1) | exact HB.out)) hb); clear HO_3; clear HO570; clear HB; have HO_3 := n0_; have HO570 := n1_; have HO573 := n2_; have HB := n3_; clear n0_ n1_ n2_ n3_; (try clear hb); (try clear hb2); (try clear hk); (try clear hi); (try clear ho0)) | (go_at_call 20; (with_reducible refine (impl_StoreArea.calls kj40 _ _ t567 t574 _ ?side1 ?side2 A61.out).mono ?_); (case side1 => repeat (first | exact (Kd.N_reads' HO570.out).2.2 | (with_reducible refine Kd.C_alloc ?_ _) | (with_reducible refine Kd.C_drewN ?_ _) | (with_reducible refine Kd.C_drew ?_))); (case side2 => exact (Kd.N_reads' HO570.out).2.1); rintro e w' ⟨rfl, ⟨nd, rfl⟩⟩; (try first | exact ⟨rfl, _, World.drewN_drewN _ _ _⟩ | exact ⟨rfl, _, Eq.trans (World.drewN_drewN _ _ _) (congrArg (World.drewN _) (Nat.add_assoc _ _ _))⟩)) | (go_at_call 22; (with_reducible refine (impl_CanMake.calls kj40 _ _ t567 t532 t533 false true _ ?side1 ?side2 A63.out).mono ?_); (case side1 => repeat (first | exact (Kd.N_reads' HO570.out).2.2 | (with_reducible refine Kd.C_alloc ?_ _) | (with_reducible refine Kd.C_drewN ?_ _) | (with_reducible refine Kd.C_drew ?_))); (case side2 => exact (Kd.N_reads' HO570.out).2.1); rintro e w' ⟨rfl, ⟨nd, rfl⟩⟩; (try first | exact ⟨rfl, _, World.drewN_drewN _ _ _⟩ | exact ⟨rfl, _, Eq.trans (World.drewN_drewN _ _ _) (congrArg (World.drewN _) (Nat.add_assoc _ _ _))⟩); obtain ⟨Ao73, co73, eo73⟩ := Kd.N_slice HO573.out; subst eo73) | (go_at_call 20; (with_reducible refine (impl_StoreArea.calls kj40 _ _ t571 t576 _ ?side1 ?side2 A66.out).mono ?_); (case side1 => repeat (first | exact (Kd.N_reads' HO573.out).2.2 | (with_reducible refine Kd.C_alloc ?_ _) | (with_reducible refine Kd.C_drewN ?_ _) | (with_reducible refine Kd.C_drew ?_))); (case side2 => exact (Kd.N_reads' HO573.out).2.1); rintro e w' ⟨rfl, ⟨nd, rfl⟩⟩; (try first | exact ⟨rfl, _, World.drewN_drewN _ _ _⟩ | exact ⟨rfl, _, Eq.trans (World.drewN_drewN _ _ _) (congrArg (World.drewN _) (Nat.add_assoc _ _ _))⟩)) | (go_at_call 15; (with_reducible refine (impl_StoreOk.calls _ _ t571 true _ ?side1 ?side2 A68.out).mono ?_); (case side1 => repeat (first | exact (Kd.N_reads' HO573.out).2.2 | (with_reducible refine Kd.C_alloc ?_ _) | (with_reducible refine Kd.C_drewN ?_ _) | (with_reducible refine Kd.C_drew ?_))); (case side2 => exact (Kd.N_reads' HO573.out).2.1); rintro e w' ⟨rfl, ⟨nd, rfl⟩⟩; (try first | exact ⟨rfl, _, World.drewN_drewN _ _ _⟩ | exact ⟨rfl, _, Eq.trans (World.drewN_drewN _ _ _) (congrArg (World.drewN _) (Nat.add_assoc _ _ _))⟩))))
                     (try generalize decide (0 ≤ t535) = bz_t535)
                     go_loopg [17] kj40 (fun kq v17 w' => ∃ (x17_3 : Int), v17 = .int .i64 x17_3 ∧ Aside0 (laws_FnRemnants.l1 kq t532 t533 t534 t567 t571 x17_3 = some r) ∧ Aside0 (kq ≤ kj40) ∧ Aside0 (Kd.N (Kd.slice 3 (Kd.int .i64)) 40 w' w.heap.size (fun k_ => some k_ ≠ ((.slice Ao73 t571.length co73) : Value).ownBlock) (.slice Ao71 t567.length co71) t567) ∧ Aside0 (Kd.N (Kd.slice 3 (Kd.int .i64)) 40 w' w.heap.size (fun k_ => some k_ ≠ ((.slice Ao71 t567.length co71) : Value).ownBlock) (.slice Ao73 t571.length co73) t571) ∧ Aside0 (Below w.heap.size w w'))
                     case atStart => exact ⟨(1), (by first | rfl | (simp; done) | (simp [*]; done)), H', ⟨Nat.le_refl _⟩, ⟨by (with_reducible repeat (first | apply Kd.N_alloc | apply Kd.N_drewN | apply Kd.N_drew)); exact Kd.N_mono HO570.out (fun _ hk => hk.2)⟩, ⟨by (with_reducible repeat (first | apply Kd.N_alloc | apply Kd.N_drewN | apply Kd.N_drew)); exact Kd.N_mono HO573.out (fun _ hk => hk.2)⟩, ⟨by repeat (first | (with_reducible first | exact HB.out | apply below_alloc | apply pw_below_drewN | apply below_drew1) | exact HB.out)⟩⟩
                     case round =>
                      clear H'
                      try clear c2
                      try clear p2
                      try clear c3
                      try clear c4
                      try clear c5
                      try clear p5
                      try clear q5
                      try clear hx5
                      try clear qi5
                      try clear c6
                      try clear p6
                      try clear c25
                      try clear c25b0
                      try clear c26
                      try clear c27
                      try clear c28
                      try clear c29
                      try clear c29b0
                      try clear c30
                      try clear c31
                      try clear c31b0
                      try clear c34
                      try clear c35
                      try clear c36
                      try clear c37
                      try clear c39
                      try clear c39b0
                      try clear c39b1
                      try clear c42
                      try clear c44
                      try clear c46
                      try clear c46b0
                      try clear c46b1
                      try clear c47
                      try clear c47b0
                      try clear c48
                      try clear c48b0
                      try clear c49
                      try clear c49b0
                      try clear c50
                      try clear c50b0
                      try clear c51
                      try clear c51b0
                      try clear c52
                      try clear c52b0
                      try clear c52b1
                      try clear c53
                      try clear c53b0
                      try clear c54
                      try clear c54b0
                      try clear c54b1
                      try clear p54
                      try clear q54
                      try clear hx54
                      try clear qi54
                      try clear c55
                      try clear p55
                      try clear q55
                      try clear hx55
                      try clear qi55
                      try clear c56
                      try clear p56
                      try clear q56
                      try clear hx56
                      try clear qi56
                      try clear c59
                      try clear c60
                      try clear c60b0
                      try clear c60b1
                      try clear c62
                      try clear c62b0
                      try clear c62b1
                      try clear c64
                      try clear p64
                      try clear c65
                      try clear c65b0
                      try clear c65b1
                      try clear c65b2
                      try clear c67
                      try clear c67b0
                      try clear c67b1
                      try clear c69
                      try clear hx546_0
                      try clear hx547_0
                      try clear hx548_0
                      try clear hx549_0
                      try clear hx550_0
                      try clear hx551_0
                      try clear hx552_0
                      try clear hx553_0
                      try clear hx554_0
                      try clear hx555_0
                      try clear hx556_0
                      try clear hx557_0
                      try clear hx558_0
                      try clear hx559_0
                      try clear hx560_0
                      try clear hx563_0
                      try clear hx564_0
                      try clear hx565_0
                      try clear hx566_0
                      try clear p2
                      try clear p5
                      try clear p54
                      try clear p546
                      try clear p547
                      try clear p548
                      try clear p549
                      try clear p55
                      try clear p550
                      try clear p551
                      try clear p552
                      try clear p553
                      try clear p554
                      try clear p555
                      try clear p556
                      try clear p557
                      try clear p558
                      try clear p559
                      try clear p560
                      try clear p563
                      try clear p564
                      try clear p565
                      try clear p566
                      try clear p6
                      try clear q5
                      try clear q54
                      try clear q546
                      try clear q547
                      try clear q548
                      try clear q549
                      try clear q55
                      try clear q550
                      try clear q551
                      try clear q552
                      try clear q553
                      try clear q554
                      try clear q555
                      try clear q556
                      try clear q557
                      try clear q558
                      try clear q559
                      try clear q560
                      try clear q563
                      try clear q564
                      try clear q565
                      try clear q566
                      obtain ⟨x17_3, rfl, HA, HK3, HO_14, HO_16, HB⟩ := hrel
                      cases gk with
                      | zero => exact absurd HA.out (by simp [laws_FnRemnants.l1])
                      | succ k3 =>
                       have H := HA.out
                       clear HA
                       simp only [laws_FnRemnants.l1] at H
                       by_cases c74 : x17_3 < (t571.length : Int)
                       ·rw [if_pos c74] at H
                        have c74b0 : decide (x17_3 < (t571.length : Int)) = true := decide_eq_true c74
                        clear c74
                        obtain ⟨ji75, hji75⟩ : ∃ j_ : Int, (wrap64 (x17_3 - 1)) = j_ := ⟨_, rfl⟩
                        replace H : (if 0 ≤ (ji75) then (if (ji75) < (t571.length : Int) then (if 0 < ((rd_L1 t571 (ji75)).length : Int) then (if 1 < ((rd_L1 t571 (ji75)).length : Int) then (if 0 ≤ x17_3 then (if 0 < ((rd_L1 t571 x17_3).length : Int) then (if 1 < ((rd_L1 t571 x17_3).length : Int) then (if (wrap64 ((rd (rd_L1 t571 (ji75)) 0) * (rd (rd_L1 t571 (ji75)) 1))) > (wrap64 ((rd (rd_L1 t571 x17_3) 0) * (rd (rd_L1 t571 x17_3) 1))) then (none) else (if (wrap64 ((rd (rd_L1 t571 (ji75)) 0) * (rd (rd_L1 t571 (ji75)) 1))) = (wrap64 ((rd (rd_L1 t571 x17_3) 0) * (rd (rd_L1 t571 x17_3) 1))) then (if (rd (rd_L1 t571 (ji75)) 0) > (rd (rd_L1 t571 x17_3) 0) then (none) else (laws_FnRemnants.l1 k3 t532 t533 t534 t567 t571 (wrap64 (x17_3 + 1)))) else (laws_FnRemnants.l1 k3 t532 t533 t534 t567 t571 (wrap64 (x17_3 + 1))))) else (none)) else (none)) else (none)) else (none)) else (none)) else (none)) else (none)) = some r := by first | (rw [hji75] at H; exact H) | (simp only [hji75] at H ⊢; exact H)
                        have hji75w : (IntKind.i64.wrap (x17_3 - 1)) = ji75 := (i64_w _).trans hji75
                        by_cases c76 : 0 ≤ (ji75)
                        ·rw [if_pos c76] at H
                         have c76b0 : decide (0 ≤ (ji75)) = true := decide_eq_true c76
                         clear c76
                         by_cases c77 : (ji75) < (t571.length : Int)
                         ·rw [if_pos c77] at H
                          have c77b0 : decide ((ji75) < (t571.length : Int)) = true := decide_eq_true c77
                          clear c77
                          by_cases c78 : 0 < ((rd_L1 t571 (ji75)).length : Int)
                          ·rw [if_pos c78] at H
                           have c78b0 : decide (0 < ((rd_L1 t571 (ji75)).length : Int)) = true := decide_eq_true c78
                           have c78b1 : decide (0 < (rd_L1 t571 (ji75)).length) = true := decide_eq_true (by omega)
                           clear c78
                           by_cases c79 : 1 < ((rd_L1 t571 (ji75)).length : Int)
                           ·rw [if_pos c79] at H
                            have c79b0 : decide (1 < ((rd_L1 t571 (ji75)).length : Int)) = true := decide_eq_true c79
                            have c79b1 : decide (1 < (rd_L1 t571 (ji75)).length) = true := decide_eq_true (by omega)
                            clear c79
                            by_cases c80 : 0 ≤ x17_3
                            ·rw [if_pos c80] at H
                             have c80b0 : decide (0 ≤ x17_3) = true := decide_eq_true c80
                             clear c80
                             by_cases c81 : 0 < ((rd_L1 t571 x17_3).length : Int)
                             ·rw [if_pos c81] at H
                              have c81b0 : decide (0 < ((rd_L1 t571 x17_3).length : Int)) = true := decide_eq_true c81
                              have c81b1 : decide (0 < (rd_L1 t571 x17_3).length) = true := decide_eq_true (by omega)
                              clear c81
                              by_cases c82 : 1 < ((rd_L1 t571 x17_3).length : Int)
                              ·rw [if_pos c82] at H
                               have c82b0 : decide (1 < ((rd_L1 t571 x17_3).length : Int)) = true := decide_eq_true c82
                               have c82b1 : decide (1 < (rd_L1 t571 x17_3).length) = true := decide_eq_true (by omega)
                               clear c82
                               by_cases c83 : (wrap64 ((rd (rd_L1 t571 (ji75)) 0) * (rd (rd_L1 t571 (ji75)) 1))) > (wrap64 ((rd (rd_L1 t571 x17_3) 0) * (rd (rd_L1 t571 x17_3) 1)))
                               ·rw [if_pos c83] at H
                                exact absurd H (by simp)
                               ·rw [if_neg c83] at H
                                have c83b0 : decide ((wrap64 ((rd (rd_L1 t571 x17_3) 0) * (rd (rd_L1 t571 x17_3) 1))) < (wrap64 ((rd (rd_L1 t571 (ji75)) 0) * (rd (rd_L1 t571 (ji75)) 1)))) = false := decide_eq_false c83
                                clear c83
                                by_cases c84 : (wrap64 ((rd (rd_L1 t571 (ji75)) 0) * (rd (rd_L1 t571 (ji75)) 1))) = (wrap64 ((rd (rd_L1 t571 x17_3) 0) * (rd (rd_L1 t571 x17_3) 1)))
                                ·rw [if_pos c84] at H
                                 have c84b0 : ((wrap64 ((rd (rd_L1 t571 (ji75)) 0) * (rd (rd_L1 t571 (ji75)) 1))) == (wrap64 ((rd (rd_L1 t571 x17_3) 0) * (rd (rd_L1 t571 x17_3) 1)))) = true := beq_iff_eq.mpr c84
                                 have c84b1 : ((wrap64 ((rd (rd_L1 t571 (ji75)) 0) * (rd (rd_L1 t571 (ji75)) 1))) != (wrap64 ((rd (rd_L1 t571 x17_3) 0) * (rd (rd_L1 t571 x17_3) 1)))) = false := bne_eq_false_iff_eq.mpr c84
                                 clear c84
                                 by_cases c85 : (rd (rd_L1 t571 (ji75)) 0) > (rd (rd_L1 t571 x17_3) 0)
                                 ·rw [if_pos c85] at H
                                  exact absurd H (by simp)
                                 ·rw [if_neg c85] at H
                                  have c85b0 : decide ((rd (rd_L1 t571 x17_3) 0) < (rd (rd_L1 t571 (ji75)) 0)) = false := decide_eq_false c85
                                  clear c85
                                  as_aux_lemma =>
                                   have H' := Aside0.mk H
                                   clear H
                                   have p578 : 0 ≤ ((ji75) : Int) := of_decide_eq_true (by first | (with_reducible assumption) | assumption)
                                   have q578 : (ji75) < (t571.length : Int) := of_decide_eq_true (by first | (with_reducible assumption) | assumption)
                                   obtain ⟨ad578, A578_0, c578_0, e578, hx578_0, hl578_0, hi578_0⟩ := at_L1 (Kd.N_reads' HO_16.out).2.2 (ji75) p578 q578
                                   cases e578
                                   obtain ⟨ce578, hce578, hMe578, hcc578⟩ := Kd.N_get HO_16.out [] (ji75) p578 (by first | exact q578 | exact of_decide_eq_true (by first | (with_reducible assumption) | assumption) | (have e_ := (Kd.N_reads' HO_16.out).1; omega))
                                   obtain ⟨ua578_0, uc578_0, rfl, ul578_0, ge578_0⟩ := Kd.FK_slice_open hMe578
                                   have hv578_0 := hcc578 0 _ rfl
                                   rw [Nat.add_zero, show ((Kd.slice 3 (Kd.int .i64))).sz = 1 from rfl, Nat.mul_one] at hv578_0
                                   replace hv578_0 := Option.some.inj (hv578_0.symm.trans hx578_0)
                                   injection hv578_0 with hva_ hvn_ hvc_
                                   rw [hva_] at ge578_0
                                   rw [hvc_] at ul578_0
                                   have HL578_0 := Aside0.mk (show Kd.V (Kd.int .i64) 3 _ w.heap.size _ _ (rd_L1 t571 (ji75)) from Kd.V_mk ul578_0 ge578_0)
                                   clear hva_ hvn_ hvc_ ge578_0 ul578_0
                                   clear hcc578 hce578
                                   have HR578_0 := Aside0.mk hi578_0
                                   have HC578_0 := Aside0.mk hl578_0
                                   clear hi578_0 hl578_0
                                   replace p578 := eq_true p578
                                   replace q578 := eq_true q578
                                   have p579 : 0 ≤ (0 : Int) := (by omega)
                                   have q579 : 0 < ((rd_L1 t571 (ji75)).length : Int) := of_decide_eq_true (by first | (with_reducible assumption) | assumption)
                                   obtain ⟨ad579, e579, hx579_0⟩ := Kd.at_int (by repeat (first | (with_reducible exact HR578_0.out) | (with_reducible refine Kd.C_alloc ?_ _) | (with_reducible refine Kd.C_drewN ?_ _) | (with_reducible refine Kd.C_drew ?_) | exact HR578_0.out)) 0 p579 q579
                                   cases e579
                                   have qi579 : (0 < (rd_L1 t571 (ji75)).length) = True := eq_true (by omega)
                                   (try rw [show ((0 : Int)).toNat = 0 from rfl] at hx579_0)
                                   (try rw [Addr.add_zero'] at hx579_0)
                                   replace p579 := eq_true p579
                                   replace q579 := eq_true q579
                                   have p580 : 0 ≤ ((ji75) : Int) := of_decide_eq_true (by first | (with_reducible assumption) | assumption)
                                   have q580 : (ji75) < (t571.length : Int) := of_decide_eq_true (by first | (with_reducible assumption) | assumption)
                                   obtain ⟨ad580, A580_0, c580_0, e580, hx580_0, hl580_0, hi580_0⟩ := at_L1 (Kd.N_reads' HO_16.out).2.2 (ji75) p580 q580
                                   obtain rfl : ad578 = ad580 := (by injection e580)
                                   obtain ⟨ce580, hce580, hMe580, hcc580⟩ := Kd.N_get HO_16.out [] (ji75) p580 (by first | exact q580 | exact of_decide_eq_true (by first | (with_reducible assumption) | assumption) | (have e_ := (Kd.N_reads' HO_16.out).1; omega))
                                   obtain ⟨ua580_0, uc580_0, rfl, ul580_0, ge580_0⟩ := Kd.FK_slice_open hMe580
                                   have hv580_0 := hcc580 0 _ rfl
                                   rw [Nat.add_zero, show ((Kd.slice 3 (Kd.int .i64))).sz = 1 from rfl, Nat.mul_one] at hv580_0
                                   replace hv580_0 := Option.some.inj (hv580_0.symm.trans hx580_0)
                                   injection hv580_0 with hva_ hvn_ hvc_
                                   rw [hva_] at ge580_0
                                   rw [hvc_] at ul580_0
                                   have HL580_0 := Aside0.mk (show Kd.V (Kd.int .i64) 3 _ w.heap.size _ _ (rd_L1 t571 (ji75)) from Kd.V_mk ul580_0 ge580_0)
                                   clear hva_ hvn_ hvc_ ge580_0 ul580_0
                                   clear hcc580 hce580
                                   have HR580_0 := Aside0.mk hi580_0
                                   have HC580_0 := Aside0.mk hl580_0
                                   clear hi580_0 hl580_0
                                   replace p580 := eq_true p580
                                   replace q580 := eq_true q580
                                   have ea_ := Option.some.inj (hx578_0.symm.trans hx580_0)
                                   injection ea_ with ea_ en_ ec_
                                   subst ea_
                                   subst ec_
                                   clear en_
                                   have p581 : 0 ≤ (1 : Int) := (by omega)
                                   have q581 : 1 < ((rd_L1 t571 (ji75)).length : Int) := of_decide_eq_true (by first | (with_reducible assumption) | assumption)
                                   obtain ⟨ad581, e581, hx581_0⟩ := Kd.at_int (by repeat (first | (with_reducible exact HR580_0.out) | (with_reducible refine Kd.C_alloc ?_ _) | (with_reducible refine Kd.C_drewN ?_ _) | (with_reducible refine Kd.C_drew ?_) | exact HR580_0.out)) 1 p581 q581
                                   cases e581
                                   (try simp only [show (1 : Int).toNat = 1 from rfl, Nat.reduceMul, Nat.reduceEqDiff, Go.Addr.add, ↓reduceIte] at hx581_0)
                                   have qi581 : (1 < (rd_L1 t571 (ji75)).length) = True := eq_true (by omega)
                                   (try rw [show ((1 : Int)).toNat = 1 from rfl] at hx581_0)
                                   replace p581 := eq_true p581
                                   replace q581 := eq_true q581
                                   have p582 : 0 ≤ (x17_3 : Int) := of_decide_eq_true (by first | (with_reducible assumption) | assumption)
                                   have q582 : x17_3 < (t571.length : Int) := of_decide_eq_true (by first | (with_reducible assumption) | assumption)
                                   obtain ⟨ad582, A582_0, c582_0, e582, hx582_0, hl582_0, hi582_0⟩ := at_L1 (Kd.N_reads' HO_16.out).2.2 x17_3 p582 q582
                                   obtain rfl : ad578 = ad582 := (by injection e582)
                                   obtain ⟨ce582, hce582, hMe582, hcc582⟩ := Kd.N_get HO_16.out [] x17_3 p582 (by first | exact q582 | exact of_decide_eq_true (by first | (with_reducible assumption) | assumption) | (have e_ := (Kd.N_reads' HO_16.out).1; omega))
                                   obtain ⟨ua582_0, uc582_0, rfl, ul582_0, ge582_0⟩ := Kd.FK_slice_open hMe582
                                   have hv582_0 := hcc582 0 _ rfl
                                   rw [Nat.add_zero, show ((Kd.slice 3 (Kd.int .i64))).sz = 1 from rfl, Nat.mul_one] at hv582_0
                                   replace hv582_0 := Option.some.inj (hv582_0.symm.trans hx582_0)
                                   injection hv582_0 with hva_ hvn_ hvc_
                                   rw [hva_] at ge582_0
                                   rw [hvc_] at ul582_0
                                   have HL582_0 := Aside0.mk (show Kd.V (Kd.int .i64) 3 _ w.heap.size _ _ (rd_L1 t571 x17_3) from Kd.V_mk ul582_0 ge582_0)
                                   clear hva_ hvn_ hvc_ ge582_0 ul582_0
                                   clear hcc582 hce582
                                   have HR582_0 := Aside0.mk hi582_0
                                   have HC582_0 := Aside0.mk hl582_0
                                   clear hi582_0 hl582_0
                                   replace p582 := eq_true p582
                                   replace q582 := eq_true q582
                                   have p583 : 0 ≤ (0 : Int) := (by omega)
                                   have q583 : 0 < ((rd_L1 t571 x17_3).length : Int) := of_decide_eq_true (by first | (with_reducible assumption) | assumption)
                                   obtain ⟨ad583, e583, hx583_0⟩ := Kd.at_int (by repeat (first | (with_reducible exact HR582_0.out) | (with_reducible refine Kd.C_alloc ?_ _) | (with_reducible refine Kd.C_drewN ?_ _) | (with_reducible refine Kd.C_drew ?_) | exact HR582_0.out)) 0 p583 q583
                                   cases e583
                                   have qi583 : (0 < (rd_L1 t571 x17_3).length) = True := eq_true (by omega)
                                   (try rw [show ((0 : Int)).toNat = 0 from rfl] at hx583_0)
                                   (try rw [Addr.add_zero'] at hx583_0)
                                   replace p583 := eq_true p583
                                   replace q583 := eq_true q583
                                   have p584 : 0 ≤ (x17_3 : Int) := of_decide_eq_true (by first | (with_reducible assumption) | assumption)
                                   have q584 : x17_3 < (t571.length : Int) := of_decide_eq_true (by first | (with_reducible assumption) | assumption)
                                   obtain ⟨ad584, A584_0, c584_0, e584, hx584_0, hl584_0, hi584_0⟩ := at_L1 (Kd.N_reads' HO_16.out).2.2 x17_3 p584 q584
                                   obtain rfl : ad578 = ad584 := (by injection e584)
                                   obtain ⟨ce584, hce584, hMe584, hcc584⟩ := Kd.N_get HO_16.out [] x17_3 p584 (by first | exact q584 | exact of_decide_eq_true (by first | (with_reducible assumption) | assumption) | (have e_ := (Kd.N_reads' HO_16.out).1; omega))
                                   obtain ⟨ua584_0, uc584_0, rfl, ul584_0, ge584_0⟩ := Kd.FK_slice_open hMe584
                                   have hv584_0 := hcc584 0 _ rfl
                                   rw [Nat.add_zero, show ((Kd.slice 3 (Kd.int .i64))).sz = 1 from rfl, Nat.mul_one] at hv584_0
                                   replace hv584_0 := Option.some.inj (hv584_0.symm.trans hx584_0)
                                   injection hv584_0 with hva_ hvn_ hvc_
                                   rw [hva_] at ge584_0
                                   rw [hvc_] at ul584_0
                                   have HL584_0 := Aside0.mk (show Kd.V (Kd.int .i64) 3 _ w.heap.size _ _ (rd_L1 t571 x17_3) from Kd.V_mk ul584_0 ge584_0)
                                   clear hva_ hvn_ hvc_ ge584_0 ul584_0
                                   clear hcc584 hce584
                                   have HR584_0 := Aside0.mk hi584_0
                                   have HC584_0 := Aside0.mk hl584_0
                                   clear hi584_0 hl584_0
                                   replace p584 := eq_true p584
                                   replace q584 := eq_true q584
                                   have ea_ := Option.some.inj (hx582_0.symm.trans hx584_0)
                                   injection ea_ with ea_ en_ ec_
                                   subst ea_
                                   subst ec_
                                   clear en_
                                   have p585 : 0 ≤ (1 : Int) := (by omega)
                                   have q585 : 1 < ((rd_L1 t571 x17_3).length : Int) := of_decide_eq_true (by first | (with_reducible assumption) | assumption)
                                   obtain ⟨ad585, e585, hx585_0⟩ := Kd.at_int (by repeat (first | (with_reducible exact HR584_0.out) | (with_reducible refine Kd.C_alloc ?_ _) | (with_reducible refine Kd.C_drewN ?_ _) | (with_reducible refine Kd.C_drew ?_) | exact HR584_0.out)) 1 p585 q585
                                   cases e585
                                   (try simp only [show (1 : Int).toNat = 1 from rfl, Nat.reduceMul, Nat.reduceEqDiff, Go.Addr.add, ↓reduceIte] at hx585_0)
                                   have qi585 : (1 < (rd_L1 t571 x17_3).length) = True := eq_true (by omega)
                                   (try rw [show ((1 : Int)).toNat = 1 from rfl] at hx585_0)
                                   replace p585 := eq_true p585
                                   replace q585 := eq_true q585
                                   have p586 : 0 ≤ ((ji75) : Int) := of_decide_eq_true (by first | (with_reducible assumption) | assumption)
                                   have q586 : (ji75) < (t571.length : Int) := of_decide_eq_true (by first | (with_reducible assumption) | assumption)
                                   obtain ⟨ad586, A586_0, c586_0, e586, hx586_0, hl586_0, hi586_0⟩ := at_L1 (Kd.N_reads' HO_16.out).2.2 (ji75) p586 q586
                                   obtain rfl : ad578 = ad586 := (by injection e586)
                                   obtain ⟨ce586, hce586, hMe586, hcc586⟩ := Kd.N_get HO_16.out [] (ji75) p586 (by first | exact q586 | exact of_decide_eq_true (by first | (with_reducible assumption) | assumption) | (have e_ := (Kd.N_reads' HO_16.out).1; omega))
                                   obtain ⟨ua586_0, uc586_0, rfl, ul586_0, ge586_0⟩ := Kd.FK_slice_open hMe586
                                   have hv586_0 := hcc586 0 _ rfl
                                   rw [Nat.add_zero, show ((Kd.slice 3 (Kd.int .i64))).sz = 1 from rfl, Nat.mul_one] at hv586_0
                                   replace hv586_0 := Option.some.inj (hv586_0.symm.trans hx586_0)
                                   injection hv586_0 with hva_ hvn_ hvc_
                                   rw [hva_] at ge586_0
                                   rw [hvc_] at ul586_0
                                   have HL586_0 := Aside0.mk (show Kd.V (Kd.int .i64) 3 _ w.heap.size _ _ (rd_L1 t571 (ji75)) from Kd.V_mk ul586_0 ge586_0)
                                   clear hva_ hvn_ hvc_ ge586_0 ul586_0
                                   clear hcc586 hce586
                                   have HR586_0 := Aside0.mk hi586_0
                                   have HC586_0 := Aside0.mk hl586_0
                                   clear hi586_0 hl586_0
                                   replace p586 := eq_true p586
                                   replace q586 := eq_true q586
                                   have ea_ := Option.some.inj (hx578_0.symm.trans hx586_0)
                                   injection ea_ with ea_ en_ ec_
                                   subst ea_
                                   subst ec_
                                   clear en_
                                   have p587 : 0 ≤ (0 : Int) := (by omega)
                                   have q587 : 0 < ((rd_L1 t571 (ji75)).length : Int) := of_decide_eq_true (by first | (with_reducible assumption) | assumption)
                                   obtain ⟨ad587, e587, hx587_0⟩ := Kd.at_int (by repeat (first | (with_reducible exact HR586_0.out) | (with_reducible refine Kd.C_alloc ?_ _) | (with_reducible refine Kd.C_drewN ?_ _) | (with_reducible refine Kd.C_drew ?_) | exact HR586_0.out)) 0 p587 q587
                                   cases e587
                                   have qi587 : (0 < (rd_L1 t571 (ji75)).length) = True := eq_true (by omega)
                                   (try rw [show ((0 : Int)).toNat = 0 from rfl] at hx587_0)
                                   (try rw [Addr.add_zero'] at hx587_0)
                                   replace p587 := eq_true p587
                                   replace q587 := eq_true q587
                                   have p588 : 0 ≤ (x17_3 : Int) := of_decide_eq_true (by first | (with_reducible assumption) | assumption)
                                   have q588 : x17_3 < (t571.length : Int) := of_decide_eq_true (by first | (with_reducible assumption) | assumption)
                                   obtain ⟨ad588, A588_0, c588_0, e588, hx588_0, hl588_0, hi588_0⟩ := at_L1 (Kd.N_reads' HO_16.out).2.2 x17_3 p588 q588
                                   obtain rfl : ad578 = ad588 := (by injection e588)
                                   obtain ⟨ce588, hce588, hMe588, hcc588⟩ := Kd.N_get HO_16.out [] x17_3 p588 (by first | exact q588 | exact of_decide_eq_true (by first | (with_reducible assumption) | assumption) | (have e_ := (Kd.N_reads' HO_16.out).1; omega))
                                   obtain ⟨ua588_0, uc588_0, rfl, ul588_0, ge588_0⟩ := Kd.FK_slice_open hMe588
                                   have hv588_0 := hcc588 0 _ rfl
                                   rw [Nat.add_zero, show ((Kd.slice 3 (Kd.int .i64))).sz = 1 from rfl, Nat.mul_one] at hv588_0
                                   replace hv588_0 := Option.some.inj (hv588_0.symm.trans hx588_0)
                                   injection hv588_0 with hva_ hvn_ hvc_
                                   rw [hva_] at ge588_0
                                   rw [hvc_] at ul588_0
                                   have HL588_0 := Aside0.mk (show Kd.V (Kd.int .i64) 3 _ w.heap.size _ _ (rd_L1 t571 x17_3) from Kd.V_mk ul588_0 ge588_0)
                                   clear hva_ hvn_ hvc_ ge588_0 ul588_0
                                   clear hcc588 hce588
                                   have HR588_0 := Aside0.mk hi588_0
                                   have HC588_0 := Aside0.mk hl588_0
                                   clear hi588_0 hl588_0
                                   replace p588 := eq_true p588
                                   replace q588 := eq_true q588
                                   have ea_ := Option.some.inj (hx582_0.symm.trans hx588_0)
                                   injection ea_ with ea_ en_ ec_
                                   subst ea_
                                   subst ec_
                                   clear en_
                                   have p589 : 0 ≤ (0 : Int) := (by omega)
                                   have q589 : 0 < ((rd_L1 t571 x17_3).length : Int) := of_decide_eq_true (by first | (with_reducible assumption) | assumption)
                                   obtain ⟨ad589, e589, hx589_0⟩ := Kd.at_int (by repeat (first | (with_reducible exact HR588_0.out) | (with_reducible refine Kd.C_alloc ?_ _) | (with_reducible refine Kd.C_drewN ?_ _) | (with_reducible refine Kd.C_drew ?_) | exact HR588_0.out)) 0 p589 q589
                                   cases e589
                                   have qi589 : (0 < (rd_L1 t571 x17_3).length) = True := eq_true (by omega)
                                   (try rw [show ((0 : Int)).toNat = 0 from rfl] at hx589_0)
                                   (try rw [Addr.add_zero'] at hx589_0)
                                   replace p589 := eq_true p589
                                   replace q589 := eq_true q589
                                   go_wp2
                                   repeat (go_quiet (fail); try go_wp2)
                                   go_roundg k3
                                   case measure => have := HK1.out; have := HJ40.out; have := HK3.out; omega
                                   case rel => exact ⟨(wrap64 (x17_3 + 1)), (by first | rfl | (simp; done) | (simp [*]; done)), H', ⟨by have := HK1.out; have := HJ40.out; have := HK3.out; omega⟩, ⟨by (with_reducible repeat (first | apply Kd.N_alloc | apply Kd.N_drewN | apply Kd.N_drew)); exact HO_14.out⟩, ⟨by (with_reducible repeat (first | apply Kd.N_alloc | apply Kd.N_drewN | apply Kd.N_drew)); exact HO_16.out⟩, ⟨by repeat (first | (with_reducible first | exact HB.out | apply below_alloc | apply pw_below_drewN | apply below_drew1) | exact HB.out)⟩⟩
                                ·rw [if_neg c84] at H
                                 have c84b0 : ((wrap64 ((rd (rd_L1 t571 (ji75)) 0) * (rd (rd_L1 t571 (ji75)) 1))) == (wrap64 ((rd (rd_L1 t571 x17_3) 0) * (rd (rd_L1 t571 x17_3) 1)))) = false := beq_eq_false_iff_ne.mpr c84
                                 have c84b1 : ((wrap64 ((rd (rd_L1 t571 (ji75)) 0) * (rd (rd_L1 t571 (ji75)) 1))) != (wrap64 ((rd (rd_L1 t571 x17_3) 0) * (rd (rd_L1 t571 x17_3) 1)))) = true := bne_iff_ne.mpr c84
                                 as_aux_lemma =>
                                  have H' := Aside0.mk H
                                  clear H
                                  have p578 : 0 ≤ ((ji75) : Int) := of_decide_eq_true (by first | (with_reducible assumption) | assumption)
                                  have q578 : (ji75) < (t571.length : Int) := of_decide_eq_true (by first | (with_reducible assumption) | assumption)
                                  obtain ⟨ad578, A578_0, c578_0, e578, hx578_0, hl578_0, hi578_0⟩ := at_L1 (Kd.N_reads' HO_16.out).2.2 (ji75) p578 q578
                                  cases e578
                                  obtain ⟨ce578, hce578, hMe578, hcc578⟩ := Kd.N_get HO_16.out [] (ji75) p578 (by first | exact q578 | exact of_decide_eq_true (by first | (with_reducible assumption) | assumption) | (have e_ := (Kd.N_reads' HO_16.out).1; omega))
                                  obtain ⟨ua578_0, uc578_0, rfl, ul578_0, ge578_0⟩ := Kd.FK_slice_open hMe578
                                  have hv578_0 := hcc578 0 _ rfl
                                  rw [Nat.add_zero, show ((Kd.slice 3 (Kd.int .i64))).sz = 1 from rfl, Nat.mul_one] at hv578_0
                                  replace hv578_0 := Option.some.inj (hv578_0.symm.trans hx578_0)
                                  injection hv578_0 with hva_ hvn_ hvc_
                                  rw [hva_] at ge578_0
                                  rw [hvc_] at ul578_0
                                  have HL578_0 := Aside0.mk (show Kd.V (Kd.int .i64) 3 _ w.heap.size _ _ (rd_L1 t571 (ji75)) from Kd.V_mk ul578_0 ge578_0)
                                  clear hva_ hvn_ hvc_ ge578_0 ul578_0
                                  clear hcc578 hce578
                                  have HR578_0 := Aside0.mk hi578_0
                                  have HC578_0 := Aside0.mk hl578_0
                                  clear hi578_0 hl578_0
                                  replace p578 := eq_true p578
                                  replace q578 := eq_true q578
                                  have p579 : 0 ≤ (0 : Int) := (by omega)
                                  have q579 : 0 < ((rd_L1 t571 (ji75)).length : Int) := of_decide_eq_true (by first | (with_reducible assumption) | assumption)
                                  obtain ⟨ad579, e579, hx579_0⟩ := Kd.at_int (by repeat (first | (with_reducible exact HR578_0.out) | (with_reducible refine Kd.C_alloc ?_ _) | (with_reducible refine Kd.C_drewN ?_ _) | (with_reducible refine Kd.C_drew ?_) | exact HR578_0.out)) 0 p579 q579
                                  cases e579
                                  have qi579 : (0 < (rd_L1 t571 (ji75)).length) = True := eq_true (by omega)
                                  (try rw [show ((0 : Int)).toNat = 0 from rfl] at hx579_0)
                                  (try rw [Addr.add_zero'] at hx579_0)
                                  replace p579 := eq_true p579
                                  replace q579 := eq_true q579
                                  have p580 : 0 ≤ ((ji75) : Int) := of_decide_eq_true (by first | (with_reducible assumption) | assumption)
                                  have q580 : (ji75) < (t571.length : Int) := of_decide_eq_true (by first | (with_reducible assumption) | assumption)
                                  obtain ⟨ad580, A580_0, c580_0, e580, hx580_0, hl580_0, hi580_0⟩ := at_L1 (Kd.N_reads' HO_16.out).2.2 (ji75) p580 q580
                                  obtain rfl : ad578 = ad580 := (by injection e580)
                                  obtain ⟨ce580, hce580, hMe580, hcc580⟩ := Kd.N_get HO_16.out [] (ji75) p580 (by first | exact q580 | exact of_decide_eq_true (by first | (with_reducible assumption) | assumption) | (have e_ := (Kd.N_reads' HO_16.out).1; omega))
                                  obtain ⟨ua580_0, uc580_0, rfl, ul580_0, ge580_0⟩ := Kd.FK_slice_open hMe580
                                  have hv580_0 := hcc580 0 _ rfl
                                  rw [Nat.add_zero, show ((Kd.slice 3 (Kd.int .i64))).sz = 1 from rfl, Nat.mul_one] at hv580_0
                                  replace hv580_0 := Option.some.inj (hv580_0.symm.trans hx580_0)
                                  injection hv580_0 with hva_ hvn_ hvc_
                                  rw [hva_] at ge580_0
                                  rw [hvc_] at ul580_0
                                  have HL580_0 := Aside0.mk (show Kd.V (Kd.int .i64) 3 _ w.heap.size _ _ (rd_L1 t571 (ji75)) from Kd.V_mk ul580_0 ge580_0)
                                  clear hva_ hvn_ hvc_ ge580_0 ul580_0
                                  clear hcc580 hce580
                                  have HR580_0 := Aside0.mk hi580_0
                                  have HC580_0 := Aside0.mk hl580_0
                                  clear hi580_0 hl580_0
                                  replace p580 := eq_true p580
                                  replace q580 := eq_true q580
                                  have ea_ := Option.some.inj (hx578_0.symm.trans hx580_0)
                                  injection ea_ with ea_ en_ ec_
                                  subst ea_
                                  subst ec_
                                  clear en_
                                  have p581 : 0 ≤ (1 : Int) := (by omega)
                                  have q581 : 1 < ((rd_L1 t571 (ji75)).length : Int) := of_decide_eq_true (by first | (with_reducible assumption) | assumption)
                                  obtain ⟨ad581, e581, hx581_0⟩ := Kd.at_int (by repeat (first | (with_reducible exact HR580_0.out) | (with_reducible refine Kd.C_alloc ?_ _) | (with_reducible refine Kd.C_drewN ?_ _) | (with_reducible refine Kd.C_drew ?_) | exact HR580_0.out)) 1 p581 q581
                                  cases e581
                                  (try simp only [show (1 : Int).toNat = 1 from rfl, Nat.reduceMul, Nat.reduceEqDiff, Go.Addr.add, ↓reduceIte] at hx581_0)
                                  have qi581 : (1 < (rd_L1 t571 (ji75)).length) = True := eq_true (by omega)
                                  (try rw [show ((1 : Int)).toNat = 1 from rfl] at hx581_0)
                                  replace p581 := eq_true p581
                                  replace q581 := eq_true q581
                                  have p582 : 0 ≤ (x17_3 : Int) := of_decide_eq_true (by first | (with_reducible assumption) | assumption)
                                  have q582 : x17_3 < (t571.length : Int) := of_decide_eq_true (by first | (with_reducible assumption) | assumption)
                                  obtain ⟨ad582, A582_0, c582_0, e582, hx582_0, hl582_0, hi582_0⟩ := at_L1 (Kd.N_reads' HO_16.out).2.2 x17_3 p582 q582
                                  obtain rfl : ad578 = ad582 := (by injection e582)
                                  obtain ⟨ce582, hce582, hMe582, hcc582⟩ := Kd.N_get HO_16.out [] x17_3 p582 (by first | exact q582 | exact of_decide_eq_true (by first | (with_reducible assumption) | assumption) | (have e_ := (Kd.N_reads' HO_16.out).1; omega))
                                  obtain ⟨ua582_0, uc582_0, rfl, ul582_0, ge582_0⟩ := Kd.FK_slice_open hMe582
                                  have hv582_0 := hcc582 0 _ rfl
                                  rw [Nat.add_zero, show ((Kd.slice 3 (Kd.int .i64))).sz = 1 from rfl, Nat.mul_one] at hv582_0
                                  replace hv582_0 := Option.some.inj (hv582_0.symm.trans hx582_0)
                                  injection hv582_0 with hva_ hvn_ hvc_
                                  rw [hva_] at ge582_0
                                  rw [hvc_] at ul582_0
                                  have HL582_0 := Aside0.mk (show Kd.V (Kd.int .i64) 3 _ w.heap.size _ _ (rd_L1 t571 x17_3) from Kd.V_mk ul582_0 ge582_0)
                                  clear hva_ hvn_ hvc_ ge582_0 ul582_0
                                  clear hcc582 hce582
                                  have HR582_0 := Aside0.mk hi582_0
                                  have HC582_0 := Aside0.mk hl582_0
                                  clear hi582_0 hl582_0
                                  replace p582 := eq_true p582
                                  replace q582 := eq_true q582
                                  have p583 : 0 ≤ (0 : Int) := (by omega)
                                  have q583 : 0 < ((rd_L1 t571 x17_3).length : Int) := of_decide_eq_true (by first | (with_reducible assumption) | assumption)
                                  obtain ⟨ad583, e583, hx583_0⟩ := Kd.at_int (by repeat (first | (with_reducible exact HR582_0.out) | (with_reducible refine Kd.C_alloc ?_ _) | (with_reducible refine Kd.C_drewN ?_ _) | (with_reducible refine Kd.C_drew ?_) | exact HR582_0.out)) 0 p583 q583
                                  cases e583
                                  have qi583 : (0 < (rd_L1 t571 x17_3).length) = True := eq_true (by omega)
                                  (try rw [show ((0 : Int)).toNat = 0 from rfl] at hx583_0)
                                  (try rw [Addr.add_zero'] at hx583_0)
                                  replace p583 := eq_true p583
                                  replace q583 := eq_true q583
                                  have p584 : 0 ≤ (x17_3 : Int) := of_decide_eq_true (by first | (with_reducible assumption) | assumption)
                                  have q584 : x17_3 < (t571.length : Int) := of_decide_eq_true (by first | (with_reducible assumption) | assumption)
                                  obtain ⟨ad584, A584_0, c584_0, e584, hx584_0, hl584_0, hi584_0⟩ := at_L1 (Kd.N_reads' HO_16.out).2.2 x17_3 p584 q584
                                  obtain rfl : ad578 = ad584 := (by injection e584)
                                  obtain ⟨ce584, hce584, hMe584, hcc584⟩ := Kd.N_get HO_16.out [] x17_3 p584 (by first | exact q584 | exact of_decide_eq_true (by first | (with_reducible assumption) | assumption) | (have e_ := (Kd.N_reads' HO_16.out).1; omega))
                                  obtain ⟨ua584_0, uc584_0, rfl, ul584_0, ge584_0⟩ := Kd.FK_slice_open hMe584
                                  have hv584_0 := hcc584 0 _ rfl
                                  rw [Nat.add_zero, show ((Kd.slice 3 (Kd.int .i64))).sz = 1 from rfl, Nat.mul_one] at hv584_0
                                  replace hv584_0 := Option.some.inj (hv584_0.symm.trans hx584_0)
                                  injection hv584_0 with hva_ hvn_ hvc_
                                  rw [hva_] at ge584_0
                                  rw [hvc_] at ul584_0
                                  have HL584_0 := Aside0.mk (show Kd.V (Kd.int .i64) 3 _ w.heap.size _ _ (rd_L1 t571 x17_3) from Kd.V_mk ul584_0 ge584_0)
                                  clear hva_ hvn_ hvc_ ge584_0 ul584_0
                                  clear hcc584 hce584
                                  have HR584_0 := Aside0.mk hi584_0
                                  have HC584_0 := Aside0.mk hl584_0
                                  clear hi584_0 hl584_0
                                  replace p584 := eq_true p584
                                  replace q584 := eq_true q584
                                  have ea_ := Option.some.inj (hx582_0.symm.trans hx584_0)
                                  injection ea_ with ea_ en_ ec_
                                  subst ea_
                                  subst ec_
                                  clear en_
                                  have p585 : 0 ≤ (1 : Int) := (by omega)
                                  have q585 : 1 < ((rd_L1 t571 x17_3).length : Int) := of_decide_eq_true (by first | (with_reducible assumption) | assumption)
                                  obtain ⟨ad585, e585, hx585_0⟩ := Kd.at_int (by repeat (first | (with_reducible exact HR584_0.out) | (with_reducible refine Kd.C_alloc ?_ _) | (with_reducible refine Kd.C_drewN ?_ _) | (with_reducible refine Kd.C_drew ?_) | exact HR584_0.out)) 1 p585 q585
                                  cases e585
                                  (try simp only [show (1 : Int).toNat = 1 from rfl, Nat.reduceMul, Nat.reduceEqDiff, Go.Addr.add, ↓reduceIte] at hx585_0)
                                  have qi585 : (1 < (rd_L1 t571 x17_3).length) = True := eq_true (by omega)
                                  (try rw [show ((1 : Int)).toNat = 1 from rfl] at hx585_0)
                                  replace p585 := eq_true p585
                                  replace q585 := eq_true q585
                                  go_wp2
                                  repeat (go_quiet (fail); try go_wp2)
                                  go_roundg k3
                                  case measure => have := HK1.out; have := HJ40.out; have := HK3.out; omega
                                  case rel => exact ⟨(wrap64 (x17_3 + 1)), (by first | rfl | (simp; done) | (simp [*]; done)), H', ⟨by have := HK1.out; have := HJ40.out; have := HK3.out; omega⟩, ⟨by (with_reducible repeat (first | apply Kd.N_alloc | apply Kd.N_drewN | apply Kd.N_drew)); exact HO_14.out⟩, ⟨by (with_reducible repeat (first | apply Kd.N_alloc | apply Kd.N_drewN | apply Kd.N_drew)); exact HO_16.out⟩, ⟨by repeat (first | (with_reducible first | exact HB.out | apply below_alloc | apply pw_below_drewN | apply below_drew1) | exact HB.out)⟩⟩
                              ·rw [if_neg c82] at H
                               exact absurd H (by simp)
                             ·rw [if_neg c81] at H
                              exact absurd H (by simp)
                            ·rw [if_neg c80] at H
                             exact absurd H (by simp)
                           ·rw [if_neg c79] at H
                            exact absurd H (by simp)
                          ·rw [if_neg c78] at H
                           exact absurd H (by simp)
                         ·rw [if_neg c77] at H
                          exact absurd H (by simp)
                        ·rw [if_neg c76] at H
                         exact absurd H (by simp)
                       ·rw [if_neg c74] at H
                        have c74b0 : decide (x17_3 < (t571.length : Int)) = false := decide_eq_false c74
                        clear c74
                        obtain ⟨y590, hy590⟩ : ∃ y_ : List Int, y_ = (([t532, t533] : List Int)) := ⟨_, rfl⟩
                        replace H : ((impl_TakeAll.f k3 t567 (([y590, (([t533, t532] : List Int)), (([t532, t533] : List Int))] : List (List Int)))).bind fun bt602 => (if bt602.2 ≥ 1 then (if bt602.2 ≤ 3 then ((impl_StoreArea.f k3 bt602.1).bind fun t606 => (some (t606 == (wrap64 ((wrap64 (t534 + (wrap64 (t532 * t533)))) - (wrap64 ((wrap64 (bt602.2 * t532)) * t533))))))) else (none)) else (none))) = some r := by first | (rw [hy590]; with_reducible exact H) | (have H2_ := (Option.bind_some _ _).symm.trans H; rw [hy590]; with_reducible exact H2_) | (have H2_ := (Option.bind_some _ _).symm.trans H; with_reducible exact H2_) | with_reducible exact H | (rw [hy590]; exact H) | exact H
                        have Ny590 := Aside0.mk hy590
                        clear hy590
                        obtain ⟨y593, hy593⟩ : ∃ y_ : List Int, y_ = (([t533, t532] : List Int)) := ⟨_, rfl⟩
                        replace H : ((impl_TakeAll.f k3 t567 (([y590, y593, (([t532, t533] : List Int))] : List (List Int)))).bind fun bt602 => (if bt602.2 ≥ 1 then (if bt602.2 ≤ 3 then ((impl_StoreArea.f k3 bt602.1).bind fun t606 => (some (t606 == (wrap64 ((wrap64 (t534 + (wrap64 (t532 * t533)))) - (wrap64 ((wrap64 (bt602.2 * t532)) * t533))))))) else (none)) else (none))) = some r := by first | (rw [hy593]; with_reducible exact H) | (have H2_ := (Option.bind_some _ _).symm.trans H; rw [hy593]; with_reducible exact H2_) | (have H2_ := (Option.bind_some _ _).symm.trans H; with_reducible exact H2_) | with_reducible exact H | (rw [hy593]; exact H) | exact H
                        have Ny593 := Aside0.mk hy593
                        clear hy593
                        obtain ⟨y596, hy596⟩ : ∃ y_ : List Int, y_ = (([t532, t533] : List Int)) := ⟨_, rfl⟩
                        replace H : ((impl_TakeAll.f k3 t567 (([y590, y593, y596] : List (List Int)))).bind fun bt602 => (if bt602.2 ≥ 1 then (if bt602.2 ≤ 3 then ((impl_StoreArea.f k3 bt602.1).bind fun t606 => (some (t606 == (wrap64 ((wrap64 (t534 + (wrap64 (t532 * t533)))) - (wrap64 ((wrap64 (bt602.2 * t532)) * t533))))))) else (none)) else (none))) = some r := by first | (rw [hy596]; with_reducible exact H) | (have H2_ := (Option.bind_some _ _).symm.trans H; rw [hy596]; with_reducible exact H2_) | (have H2_ := (Option.bind_some _ _).symm.trans H; with_reducible exact H2_) | with_reducible exact H | (rw [hy596]; exact H) | exact H
                        have Ny596 := Aside0.mk hy596
                        clear hy596
                        obtain ⟨y599, hy599⟩ : ∃ y_ : List (List Int), y_ = (([y590, y593, y596] : List (List Int))) := ⟨_, rfl⟩
                        replace H : ((impl_TakeAll.f k3 t567 y599).bind fun bt602 => (if bt602.2 ≥ 1 then (if bt602.2 ≤ 3 then ((impl_StoreArea.f k3 bt602.1).bind fun t606 => (some (t606 == (wrap64 ((wrap64 (t534 + (wrap64 (t532 * t533)))) - (wrap64 ((wrap64 (bt602.2 * t532)) * t533))))))) else (none)) else (none))) = some r := by first | (rw [hy599]; with_reducible exact H) | (have H2_ := (Option.bind_some _ _).symm.trans H; rw [hy599]; with_reducible exact H2_) | (have H2_ := (Option.bind_some _ _).symm.trans H; with_reducible exact H2_) | with_reducible exact H | (rw [hy599]; exact H) | exact H
                        have Ny599 := Aside0.mk hy599
                        clear hy599
                        replace H := Option.bind_eq_some_iff.mp H
                        obtain ⟨⟨t602, t603⟩, A860, H⟩ := H
                        replace H : (if t603 ≥ 1 then (if t603 ≤ 3 then ((impl_StoreArea.f k3 t602).bind fun t606 => (some (t606 == (wrap64 ((wrap64 (t534 + (wrap64 (t532 * t533)))) - (wrap64 ((wrap64 (t603 * t532)) * t533))))))) else (none)) else (none)) = some r := H
                        have A86 := Aside0.mk A860
                        clear A860
                        by_cases c87 : t603 ≥ 1
                        ·rw [if_pos c87] at H
                         have c87b0 : decide (1 ≤ t603) = true := decide_eq_true c87
                         clear c87
                         by_cases c88 : t603 ≤ 3
                         ·rw [if_pos c88] at H
                          have c88b0 : decide (t603 ≤ 3) = true := decide_eq_true c88
                          clear c88
                          replace H := Option.bind_eq_some_iff.mp H
                          obtain ⟨t606, A890, H⟩ := H
                          replace H : (some (t606 == (wrap64 ((wrap64 (t534 + (wrap64 (t532 * t533)))) - (wrap64 ((wrap64 (t603 * t532)) * t533)))))) = some r := H
                          have A89 := Aside0.mk A890
                          clear A890
                          as_aux_lemma =>
                           obtain rfl := Option.some.inj H
                           go_wp2_with (first | ((with_reducible refine gate_dst (N := 339) rfl ?_); (try (refine gate_guard (by rfl) ?_; dsimp only)); refine Kd.R_lit (Kd.int .i64) _ 3 ?hg (N := 339) ?hd (xs := ([t532, t533] : List Int)) (inner := [.int .i64 t532, .int .i64 t533]) (ok := fun _ => True) (okp := fun _ => True) ?hr ?hp (fun _ hk => hk) trivial (Below.refl _ _) (Nat.le_refl _) (by simp) ?_; (case hd => rfl); (case hg => rfl); (case hr => first | (go_simp; done) | (go_simp; rfl)); (case hp => exact (Reps.one (show Kd.M (Kd.int .i64) _ _ _ t532 [.int .i64 t532] from rfl) (Reps.one (show Kd.M (Kd.int .i64) _ _ _ t533 [.int .i64 t533] from rfl) (Reps.none _ _)))); intro v591 w90 ho91 hb hg_ hnew_; clear hg_ hnew_; (first | rw [← Ny590.out] at ho91 | (simp only [Int.reduceToNat] at ho91; rw [← Ny590.out] at ho91)); have n0_ := Aside0.mk (Kd.N_elder' (by (with_reducible repeat (first | apply Kd.N_alloc | apply Kd.N_drewN | apply Kd.N_drew)); exact HO_14.out) (Kd.R_base ho91) hb); have n1_ := Aside0.mk (Kd.N_elder' (by (with_reducible repeat (first | apply Kd.N_alloc | apply Kd.N_drewN | apply Kd.N_drew)); exact HO_16.out) (Kd.R_base ho91) hb); have n2_ := Aside0.mk (Kd.R_lower ho91 (below_size (by repeat (first | (with_reducible first | exact HB.out | apply below_alloc | apply pw_below_drewN | apply below_drew1) | exact HB.out)))); have n3_ := Aside0.mk (below_step (by repeat (first | (with_reducible first | exact HB.out | apply below_alloc | apply pw_below_drewN | apply below_drew1) | exact HB.out)) hb); clear HO_14; clear HO_16; clear HB; have HO_14 := n0_; have HO_16 := n1_; have HO592 := n2_; have HB := n3_; clear n0_ n1_ n2_ n3_; clear hb ho91) | ((with_reducible refine gate_dst (N := 342) rfl ?_); (try (refine gate_guard (by rfl) ?_; dsimp only)); refine Kd.R_lit (Kd.int .i64) _ 3 ?hg (N := 342) ?hd (xs := ([t533, t532] : List Int)) (inner := [.int .i64 t533, .int .i64 t532]) (ok := fun _ => True) (okp := fun _ => True) ?hr ?hp (fun _ hk => hk) trivial (Below.refl _ _) (Nat.le_refl _) (by simp) ?_; (case hd => rfl); (case hg => rfl); (case hr => first | (go_simp; done) | (go_simp; rfl)); (case hp => exact (Reps.one (show Kd.M (Kd.int .i64) _ _ _ t533 [.int .i64 t533] from rfl) (Reps.one (show Kd.M (Kd.int .i64) _ _ _ t532 [.int .i64 t532] from rfl) (Reps.none _ _)))); intro v594 w92 ho93 hb hg_ hnew_; clear hg_ hnew_; (first | rw [← Ny593.out] at ho93 | (simp only [Int.reduceToNat] at ho93; rw [← Ny593.out] at ho93)); have n0_ := Aside0.mk (Kd.N_elder' (by (with_reducible repeat (first | apply Kd.N_alloc | apply Kd.N_drewN | apply Kd.N_drew)); exact HO_14.out) (Kd.R_base ho93) hb); have n1_ := Aside0.mk (Kd.N_elder' (by (with_reducible repeat (first | apply Kd.N_alloc | apply Kd.N_drewN | apply Kd.N_drew)); exact HO_16.out) (Kd.R_base ho93) hb); have n2_ := Aside0.mk (Kd.R_elder' (by (with_reducible repeat (first | apply Kd.R_alloc | apply Kd.R_drewN | apply Kd.R_drew)); exact HO592.out) (Kd.R_base ho93) hb); have n3_ := Aside0.mk (Kd.R_lower (Kd.R_new' ho93 (Kd.R_lt (by (with_reducible repeat (first | apply Kd.R_alloc | apply Kd.R_drewN | apply Kd.R_drew)); exact HO592.out))) (below_size (by repeat (first | (with_reducible first | exact HB.out | apply below_alloc | apply pw_below_drewN | apply below_drew1) | exact HB.out)))); have n4_ := Aside0.mk (below_step (by repeat (first | (with_reducible first | exact HB.out | apply below_alloc | apply pw_below_drewN | apply below_drew1) | exact HB.out)) hb); clear HO_14; clear HO_16; clear HO592; clear HB; have HO_14 := n0_; have HO_16 := n1_; have HO592 := n2_; have HO595 := n3_; have HB := n4_; clear n0_ n1_ n2_ n3_ n4_; clear hb ho93) | ((with_reducible refine gate_dst (N := 345) rfl ?_); (try (refine gate_guard (by rfl) ?_; dsimp only)); refine Kd.R_lit (Kd.int .i64) _ 3 ?hg (N := 345) ?hd (xs := ([t532, t533] : List Int)) (inner := [.int .i64 t532, .int .i64 t533]) (ok := fun _ => True) (okp := fun _ => True) ?hr ?hp (fun _ hk => hk) trivial (Below.refl _ _) (Nat.le_refl _) (by simp) ?_; (case hd => rfl); (case hg => rfl); (case hr => first | (go_simp; done) | (go_simp; rfl)); (case hp => exact (Reps.one (show Kd.M (Kd.int .i64) _ _ _ t532 [.int .i64 t532] from rfl) (Reps.one (show Kd.M (Kd.int .i64) _ _ _ t533 [.int .i64 t533] from rfl) (Reps.none _ _)))); intro v597 w94 ho95 hb hg_ hnew_; clear hg_ hnew_; (first | rw [← Ny596.out] at ho95 | (simp only [Int.reduceToNat] at ho95; rw [← Ny596.out] at ho95)); have n0_ := Aside0.mk (Kd.N_elder' (by (with_reducible repeat (first | apply Kd.N_alloc | apply Kd.N_drewN | apply Kd.N_drew)); exact HO_14.out) (Kd.R_base ho95) hb); have n1_ := Aside0.mk (Kd.N_elder' (by (with_reducible repeat (first | apply Kd.N_alloc | apply Kd.N_drewN | apply Kd.N_drew)); exact HO_16.out) (Kd.R_base ho95) hb); have n2_ := Aside0.mk (Kd.R_elder' (by (with_reducible repeat (first | apply Kd.R_alloc | apply Kd.R_drewN | apply Kd.R_drew)); exact HO592.out) (Kd.R_base ho95) hb); have n3_ := Aside0.mk (Kd.R_elder' (by (with_reducible repeat (first | apply Kd.R_alloc | apply Kd.R_drewN | apply Kd.R_drew)); exact HO595.out) (Kd.R_base ho95) hb); have n4_ := Aside0.mk (Kd.R_lower (Kd.R_new' (Kd.R_new' ho95 (Kd.R_lt (by (with_reducible repeat (first | apply Kd.R_alloc | apply Kd.R_drewN | apply Kd.R_drew)); exact HO592.out))) (Kd.R_lt (by (with_reducible repeat (first | apply Kd.R_alloc | apply Kd.R_drewN | apply Kd.R_drew)); exact HO595.out))) (below_size (by repeat (first | (with_reducible first | exact HB.out | apply below_alloc | apply pw_below_drewN | apply below_drew1) | exact HB.out)))); have n5_ := Aside0.mk (below_step (by repeat (first | (with_reducible first | exact HB.out | apply below_alloc | apply pw_below_drewN | apply below_drew1) | exact HB.out)) hb); clear HO_14; clear HO_16; clear HO592; clear HO595; clear HB; have HO_14 := n0_; have HO_16 := n1_; have HO592 := n2_; have HO595 := n3_; have HO598 := n4_; have HB := n5_; clear n0_ n1_ n2_ n3_ n4_ n5_; clear hb ho95; obtain ⟨Ao96, co96, eo96⟩ := Kd.R_slice HO592.out; subst eo96; obtain ⟨Ao97, co97, eo97⟩ := Kd.R_slice HO595.out; subst eo97; obtain ⟨Ao98, co98, eo98⟩ := Kd.R_slice HO598.out; subst eo98) | ((with_reducible refine gate_dst (N := 346) rfl ?_); (try (refine gate_guard (by rfl) ?_; dsimp only)); refine Kd.N_lit (Kd.slice 3 (Kd.int .i64)) _ 40 ?hg (N' := 346) ?hd (xs := ([y590, y593, y596] : List (List Int))) (inner := [.slice Ao96 y590.length co96, .slice Ao97 y593.length co97, .slice Ao98 y596.length co98]) (ok := (fun k_ => some k_ ≠ (.slice Ao71 t567.length co71 : Value).ownBlock ∧ some k_ ≠ (.slice Ao73 t571.length co73 : Value).ownBlock)) (okp := (fun k_ => some k_ ≠ (.slice Ao71 t567.length co71 : Value).ownBlock ∧ some k_ ≠ (.slice Ao73 t571.length co73 : Value).ownBlock)) ?hr ?hp (fun _ hk => hk) ((show ∀ k_, w94.heap.size ≤ k_ → (fun k_ => some k_ ≠ (.slice Ao71 t567.length co71 : Value).ownBlock ∧ some k_ ≠ (.slice Ao73 t571.length co73 : Value).ownBlock) k_ from fun k_ hk => ⟨Kd.fresh' (Kd.N_lt (by (with_reducible repeat (first | apply Kd.N_alloc | apply Kd.N_drewN | apply Kd.N_drew)); exact HO_14.out)) k_ hk, Kd.fresh' (Kd.N_lt (by (with_reducible repeat (first | apply Kd.N_alloc | apply Kd.N_drewN | apply Kd.N_drew)); exact HO_16.out)) k_ hk⟩) _ (Nat.le_refl _)) (Below.refl _ _) (Nat.le_refl _) (by simp) ?_; (case hd => rfl); (case hg => rfl); (case hr => first | (go_simp; done) | (go_simp; rfl)); (case hp => exact (Reps.one (show Kd.FK (Kd.slice 3 (Kd.int .i64)) _ _ y590 [.slice Ao96 y590.length co96] from (Kd.FK_slice_mk (Kd.R_reads' (Kd.R_mono (ok' := (fun k_ => some k_ ≠ (.slice Ao71 t567.length co71 : Value).ownBlock ∧ some k_ ≠ (.slice Ao73 t571.length co73 : Value).ownBlock)) (Kd.R_apart' (Kd.R_apart' (HO592.out) (Kd.N_typed HO_14.out) (by decide)) (Kd.N_typed HO_16.out) (by decide)) (fun k_ hk => ⟨hk.1.2, hk.2⟩))).2.1 (Kd.R_F (Kd.R_mono (ok' := (fun k_ => some k_ ≠ (.slice Ao71 t567.length co71 : Value).ownBlock ∧ some k_ ≠ (.slice Ao73 t571.length co73 : Value).ownBlock)) (Kd.R_apart' (Kd.R_apart' (HO592.out) (Kd.N_typed HO_14.out) (by decide)) (Kd.N_typed HO_16.out) (by decide)) (fun k_ hk => ⟨hk.1.2, hk.2⟩))))) (Reps.one (show Kd.FK (Kd.slice 3 (Kd.int .i64)) _ _ y593 [.slice Ao97 y593.length co97] from (Kd.FK_slice_mk (Kd.R_reads' (Kd.R_mono (ok' := (fun k_ => some k_ ≠ (.slice Ao71 t567.length co71 : Value).ownBlock ∧ some k_ ≠ (.slice Ao73 t571.length co73 : Value).ownBlock)) (Kd.R_apart' (Kd.R_apart' (HO595.out) (Kd.N_typed HO_14.out) (by decide)) (Kd.N_typed HO_16.out) (by decide)) (fun k_ hk => ⟨hk.1.2, hk.2⟩))).2.1 (Kd.R_F (Kd.R_mono (ok' := (fun k_ => some k_ ≠ (.slice Ao71 t567.length co71 : Value).ownBlock ∧ some k_ ≠ (.slice Ao73 t571.length co73 : Value).ownBlock)) (Kd.R_apart' (Kd.R_apart' (HO595.out) (Kd.N_typed HO_14.out) (by decide)) (Kd.N_typed HO_16.out) (by decide)) (fun k_ hk => ⟨hk.1.2, hk.2⟩))))) (Reps.one (show Kd.FK (Kd.slice 3 (Kd.int .i64)) _ _ y596 [.slice Ao98 y596.length co98] from (Kd.FK_slice_mk (Kd.R_reads' (Kd.R_mono (ok' := (fun k_ => some k_ ≠ (.slice Ao71 t567.length co71 : Value).ownBlock ∧ some k_ ≠ (.slice Ao73 t571.length co73 : Value).ownBlock)) (Kd.R_apart' (Kd.R_apart' (HO598.out) (Kd.N_typed HO_14.out) (by decide)) (Kd.N_typed HO_16.out) (by decide)) (fun k_ hk => ⟨hk.1.2, hk.2⟩))).2.1 (Kd.R_F (Kd.R_mono (ok' := (fun k_ => some k_ ≠ (.slice Ao71 t567.length co71 : Value).ownBlock ∧ some k_ ≠ (.slice Ao73 t571.length co73 : Value).ownBlock)) (Kd.R_apart' (Kd.R_apart' (HO598.out) (Kd.N_typed HO_14.out) (by decide)) (Kd.N_typed HO_16.out) (by decide)) (fun k_ hk => ⟨hk.1.2, hk.2⟩))))) (Reps.none _ _))))); intro v600 w99 ho100 hb hg_ hnew_; clear hg_ hnew_; (first | rw [← Ny599.out] at ho100 | (simp only [Int.reduceToNat] at ho100; rw [← Ny599.out] at ho100)); have n0_ := Aside0.mk (Kd.N_elder' (by (with_reducible repeat (first | apply Kd.N_alloc | apply Kd.N_drewN | apply Kd.N_drew)); exact HO_14.out) (Kd.N_base ho100) hb); have n1_ := Aside0.mk (Kd.N_elder' (by (with_reducible repeat (first | apply Kd.N_alloc | apply Kd.N_drewN | apply Kd.N_drew)); exact HO_16.out) (Kd.N_base ho100) hb); have n2_ := Aside0.mk (Kd.N_lower ho100 (below_size (by repeat (first | (with_reducible first | exact HB.out | apply below_alloc | apply pw_below_drewN | apply below_drew1) | exact HB.out)))); have n3_ := Aside0.mk (below_step (by repeat (first | (with_reducible first | exact HB.out | apply below_alloc | apply pw_below_drewN | apply below_drew1) | exact HB.out)) hb); clear HO_14; clear HO_16; clear HB; clear HO592; clear HO595; clear HO598; have HO_14 := n0_; have HO_16 := n1_; have HO601 := n2_; have HB := n3_; clear n0_ n1_ n2_ n3_; clear hb ho100; obtain ⟨Ao101, co101, eo101⟩ := Kd.N_slice HO601.out; subst eo101) | (go_at_call 30; (with_reducible refine (impl_TakeAll.calls k3 _ _ t567 _ _ y599 t602 t603 _ ?side1 ?side2 ?side3 ?side4 A86.out).mono ?_); (case side1 => repeat (first | exact (Kd.N_reads' HO_14.out).2.2 | (with_reducible refine Kd.C_alloc ?_ _) | (with_reducible refine Kd.C_drewN ?_ _) | (with_reducible refine Kd.C_drew ?_))); (case side2 => exact (Kd.N_reads' HO_14.out).2.1); (case side3 => repeat (first | exact (Kd.N_reads' HO601.out).2.2 | (with_reducible refine Kd.C_alloc ?_ _) | (with_reducible refine Kd.C_drewN ?_ _) | (with_reducible refine Kd.C_drew ?_))); (case side4 => exact (Kd.N_reads' HO601.out).2.1); rintro e w102 ⟨v604, rfl, ho0, hb⟩; have n0_ := Aside0.mk (Kd.N_elder' (by (with_reducible repeat (first | apply Kd.N_alloc | apply Kd.N_drewN | apply Kd.N_drew)); exact HO_14.out) (by first | exact Kd.N_base ho0 | exact Kd.S_base ho0) hb); have n1_ := Aside0.mk (Kd.N_elder' (by (with_reducible repeat (first | apply Kd.N_alloc | apply Kd.N_drewN | apply Kd.N_drew)); exact HO_16.out) (by first | exact Kd.N_base ho0 | exact Kd.S_base ho0) hb); have n2_ := Aside0.mk (Kd.N_elder' (by (with_reducible repeat (first | apply Kd.N_alloc | apply Kd.N_drewN | apply Kd.N_drew)); exact HO601.out) (by first | exact Kd.N_base ho0 | exact Kd.S_base ho0) hb); have n3_ := Aside0.mk (Kd.N_lower (Kd.N_mono (ok' := fun k_ => some k_ ≠ (.slice Ao71 t567.length co71 : Value).ownBlock ∧ some k_ ≠ (.slice Ao73 t571.length co73 : Value).ownBlock ∧ some k_ ≠ (.slice Ao101 y599.length co101 : Value).ownBlock) (Kd.S_N (Kd.S_bound ho0)) (fun k_ hk_ => ⟨(Kd.fresh' (Kd.N_lt (by (with_reducible repeat (first | apply Kd.N_alloc | apply Kd.N_drewN | apply Kd.N_drew)); exact HO_14.out)) k_ hk_.2.1), (Kd.fresh' (Kd.N_lt (by (with_reducible repeat (first | apply Kd.N_alloc | apply Kd.N_drewN | apply Kd.N_drew)); exact HO_16.out)) k_ hk_.2.1), (Kd.fresh' (Kd.N_lt (by (with_reducible repeat (first | apply Kd.N_alloc | apply Kd.N_drewN | apply Kd.N_drew)); exact HO601.out)) k_ hk_.2.1)⟩)) (below_size (by repeat (first | (with_reducible first | exact HB.out | apply below_alloc | apply pw_below_drewN | apply below_drew1) | exact HB.out)))); have n4_ := Aside0.mk (below_step (by repeat (first | (with_reducible first | exact HB.out | apply below_alloc | apply pw_below_drewN | apply below_drew1) | exact HB.out)) hb); clear HO_14; clear HO_16; clear HO601; clear HB; have HO_14 := n0_; have HO_16 := n1_; have HO601 := n2_; have HO605 := n3_; have HB := n4_; clear n0_ n1_ n2_ n3_ n4_; (try clear hb); (try clear hb2); (try clear hk); (try clear hi); (try clear ho0); obtain ⟨Ao103, co103, eo103⟩ := Kd.N_slice HO605.out; subst eo103) | (go_at_call 20; (with_reducible refine (impl_StoreArea.calls k3 _ _ t602 t606 _ ?side1 ?side2 A89.out).mono ?_); (case side1 => repeat (first | exact (Kd.N_reads' HO605.out).2.2 | (with_reducible refine Kd.C_alloc ?_ _) | (with_reducible refine Kd.C_drewN ?_ _) | (with_reducible refine Kd.C_drew ?_))); (case side2 => exact (Kd.N_reads' HO605.out).2.1); rintro e w' ⟨rfl, ⟨nd, rfl⟩⟩; (try first | exact ⟨rfl, _, World.drewN_drewN _ _ _⟩ | exact ⟨rfl, _, Eq.trans (World.drewN_drewN _ _ _) (congrArg (World.drewN _) (Nat.add_assoc _ _ _))⟩)))
                           repeat (go_quiet (first | ((with_reducible refine gate_dst (N := 339) rfl ?_); (try (refine gate_guard (by rfl) ?_; dsimp only)); refine Kd.R_lit (Kd.int .i64) _ 3 ?hg (N := 339) ?hd (xs := ([t532, t533] : List Int)) (inner := [.int .i64 t532, .int .i64 t533]) (ok := fun _ => True) (okp := fun _ => True) ?hr ?hp (fun _ hk => hk) trivial (Below.refl _ _) (Nat.le_refl _) (by simp) ?_; (case hd => rfl); (case hg => rfl); (case hr => first | (go_simp; done) | (go_simp; rfl)); (case hp => exact (Reps.one (show Kd.M (Kd.int .i64) _ _ _ t532 [.int .i64 t532] from rfl) (Reps.one (show Kd.M (Kd.int .i64) _ _ _ t533 [.int .i64 t533] from rfl) (Reps.none _ _)))); intro v591 w90 ho91 hb hg_ hnew_; clear hg_ hnew_; (first | rw [← Ny590.out] at ho91 | (simp only [Int.reduceToNat] at ho91; rw [← Ny590.out] at ho91)); have n0_ := Aside0.mk (Kd.N_elder' (by (with_reducible repeat (first | apply Kd.N_alloc | apply Kd.N_drewN | apply Kd.N_drew)); exact HO_14.out) (Kd.R_base ho91) hb); have n1_ := Aside0.mk (Kd.N_elder' (by (with_reducible repeat (first | apply Kd.N_alloc | apply Kd.N_drewN | apply Kd.N_drew)); exact HO_16.out) (Kd.R_base ho91) hb); have n2_ := Aside0.mk (Kd.R_lower ho91 (below_size (by repeat (first | (with_reducible first | exact HB.out | apply below_alloc | apply pw_below_drewN | apply below_drew1) | exact HB.out)))); have n3_ := Aside0.mk (below_step (by repeat (first | (with_reducible first | exact HB.out | apply below_alloc | apply pw_below_drewN | apply below_drew1) | exact HB.out)) hb); clear HO_14; clear HO_16; clear HB; have HO_14 := n0_; have HO_16 := n1_; have HO592 := n2_; have HB := n3_; clear n0_ n1_ n2_ n3_; clear hb ho91) | ((with_reducible refine gate_dst (N := 342) rfl ?_); (try (refine gate_guard (by rfl) ?_; dsimp only)); refine Kd.R_lit (Kd.int .i64) _ 3 ?hg (N := 342) ?hd (xs := ([t533, t532] : List Int)) (inner := [.int .i64 t533, .int .i64 t532]) (ok := fun _ => True) (okp := fun _ => True) ?hr ?hp (fun _ hk => hk) trivial (Below.refl _ _) (Nat.le_refl _) (by simp) ?_; (case hd => rfl); (case hg => rfl); (case hr => first | (go_simp; done) | (go_simp; rfl)); (case hp => exact (Reps.one (show Kd.M (Kd.int .i64) _ _ _ t533 [.int .i64 t533] from rfl) (Reps.one (show Kd.M (Kd.int .i64) _ _ _ t532 [.int .i64 t532] from rfl) (Reps.none _ _)))); intro v594 w92 ho93 hb hg_ hnew_; clear hg_ hnew_; (first | rw [← Ny593.out] at ho93 | (simp only [Int.reduceToNat] at ho93; rw [← Ny593.out] at ho93)); have n0_ := Aside0.mk (Kd.N_elder' (by (with_reducible repeat (first | apply Kd.N_alloc | apply Kd.N_drewN | apply Kd.N_drew)); exact HO_14.out) (Kd.R_base ho93) hb); have n1_ := Aside0.mk (Kd.N_elder' (by (with_reducible repeat (first | apply Kd.N_alloc | apply Kd.N_drewN | apply Kd.N_drew)); exact HO_16.out) (Kd.R_base ho93) hb); have n2_ := Aside0.mk (Kd.R_elder' (by (with_reducible repeat (first | apply Kd.R_alloc | apply Kd.R_drewN | apply Kd.R_drew)); exact HO592.out) (Kd.R_base ho93) hb); have n3_ := Aside0.mk (Kd.R_lower (Kd.R_new' ho93 (Kd.R_lt (by (with_reducible repeat (first | apply Kd.R_alloc | apply Kd.R_drewN | apply Kd.R_drew)); exact HO592.out))) (below_size (by repeat (first | (with_reducible first | exact HB.out | apply below_alloc | apply pw_below_drewN | apply below_drew1) | exact HB.out)))); have n4_ := Aside0.mk (below_step (by repeat (first | (with_reducible first | exact HB.out | apply below_alloc | apply pw_below_drewN | apply below_drew1) | exact HB.out)) hb); clear HO_14; clear HO_16; clear HO592; clear HB; have HO_14 := n0_; have HO_16 := n1_; have HO592 := n2_; have HO595 := n3_; have HB := n4_; clear n0_ n1_ n2_ n3_ n4_; clear hb ho93) | ((with_reducible refine gate_dst (N := 345) rfl ?_); (try (refine gate_guard (by rfl) ?_; dsimp only)); refine Kd.R_lit (Kd.int .i64) _ 3 ?hg (N := 345) ?hd (xs := ([t532, t533] : List Int)) (inner := [.int .i64 t532, .int .i64 t533]) (ok := fun _ => True) (okp := fun _ => True) ?hr ?hp (fun _ hk => hk) trivial (Below.refl _ _) (Nat.le_refl _) (by simp) ?_; (case hd => rfl); (case hg => rfl); (case hr => first | (go_simp; done) | (go_simp; rfl)); (case hp => exact (Reps.one (show Kd.M (Kd.int .i64) _ _ _ t532 [.int .i64 t532] from rfl) (Reps.one (show Kd.M (Kd.int .i64) _ _ _ t533 [.int .i64 t533] from rfl) (Reps.none _ _)))); intro v597 w94 ho95 hb hg_ hnew_; clear hg_ hnew_; (first | rw [← Ny596.out] at ho95 | (simp only [Int.reduceToNat] at ho95; rw [← Ny596.out] at ho95)); have n0_ := Aside0.mk (Kd.N_elder' (by (with_reducible repeat (first | apply Kd.N_alloc | apply Kd.N_drewN | apply Kd.N_drew)); exact HO_14.out) (Kd.R_base ho95) hb); have n1_ := Aside0.mk (Kd.N_elder' (by (with_reducible repeat (first | apply Kd.N_alloc | apply Kd.N_drewN | apply Kd.N_drew)); exact HO_16.out) (Kd.R_base ho95) hb); have n2_ := Aside0.mk (Kd.R_elder' (by (with_reducible repeat (first | apply Kd.R_alloc | apply Kd.R_drewN | apply Kd.R_drew)); exact HO592.out) (Kd.R_base ho95) hb); have n3_ := Aside0.mk (Kd.R_elder' (by (with_reducible repeat (first | apply Kd.R_alloc | apply Kd.R_drewN | apply Kd.R_drew)); exact HO595.out) (Kd.R_base ho95) hb); have n4_ := Aside0.mk (Kd.R_lower (Kd.R_new' (Kd.R_new' ho95 (Kd.R_lt (by (with_reducible repeat (first | apply Kd.R_alloc | apply Kd.R_drewN | apply Kd.R_drew)); exact HO592.out))) (Kd.R_lt (by (with_reducible repeat (first | apply Kd.R_alloc | apply Kd.R_drewN | apply Kd.R_drew)); exact HO595.out))) (below_size (by repeat (first | (with_reducible first | exact HB.out | apply below_alloc | apply pw_below_drewN | apply below_drew1) | exact HB.out)))); have n5_ := Aside0.mk (below_step (by repeat (first | (with_reducible first | exact HB.out | apply below_alloc | apply pw_below_drewN | apply below_drew1) | exact HB.out)) hb); clear HO_14; clear HO_16; clear HO592; clear HO595; clear HB; have HO_14 := n0_; have HO_16 := n1_; have HO592 := n2_; have HO595 := n3_; have HO598 := n4_; have HB := n5_; clear n0_ n1_ n2_ n3_ n4_ n5_; clear hb ho95; obtain ⟨Ao96, co96, eo96⟩ := Kd.R_slice HO592.out; subst eo96; obtain ⟨Ao97, co97, eo97⟩ := Kd.R_slice HO595.out; subst eo97; obtain ⟨Ao98, co98, eo98⟩ := Kd.R_slice HO598.out; subst eo98) | ((with_reducible refine gate_dst (N := 346) rfl ?_); (try (refine gate_guard (by rfl) ?_; dsimp only)); refine Kd.N_lit (Kd.slice 3 (Kd.int .i64)) _ 40 ?hg (N' := 346) ?hd (xs := ([y590, y593, y596] : List (List Int))) (inner := [.slice Ao96 y590.length co96, .slice Ao97 y593.length co97, .slice Ao98 y596.length co98]) (ok := (fun k_ => some k_ ≠ (.slice Ao71 t567.length co71 : Value).ownBlock ∧ some k_ ≠ (.slice Ao73 t571.length co73 : Value).ownBlock)) (okp := (fun k_ => some k_ ≠ (.slice Ao71 t567.length co71 : Value).ownBlock ∧ some k_ ≠ (.slice Ao73 t571.length co73 : Value).ownBlock)) ?hr ?hp (fun _ hk => hk) ((show ∀ k_, w94.heap.size ≤ k_ → (fun k_ => some k_ ≠ (.slice Ao71 t567.length co71 : Value).ownBlock ∧ some k_ ≠ (.slice Ao73 t571.length co73 : Value).ownBlock) k_ from fun k_ hk => ⟨Kd.fresh' (Kd.N_lt (by (with_reducible repeat (first | apply Kd.N_alloc | apply Kd.N_drewN | apply Kd.N_drew)); exact HO_14.out)) k_ hk, Kd.fresh' (Kd.N_lt (by (with_reducible repeat (first | apply Kd.N_alloc | apply Kd.N_drewN | apply Kd.N_drew)); exact HO_16.out)) k_ hk⟩) _ (Nat.le_refl _)) (Below.refl _ _) (Nat.le_refl _) (by simp) ?_; (case hd => rfl); (case hg => rfl); (case hr => first | (go_simp; done) | (go_simp; rfl)); (case hp => exact (Reps.one (show Kd.FK (Kd.slice 3 (Kd.int .i64)) _ _ y590 [.slice Ao96 y590.length co96] from (Kd.FK_slice_mk (Kd.R_reads' (Kd.R_mono (ok' := (fun k_ => some k_ ≠ (.slice Ao71 t567.length co71 : Value).ownBlock ∧ some k_ ≠ (.slice Ao73 t571.length co73 : Value).ownBlock)) (Kd.R_apart' (Kd.R_apart' (HO592.out) (Kd.N_typed HO_14.out) (by decide)) (Kd.N_typed HO_16.out) (by decide)) (fun k_ hk => ⟨hk.1.2, hk.2⟩))).2.1 (Kd.R_F (Kd.R_mono (ok' := (fun k_ => some k_ ≠ (.slice Ao71 t567.length co71 : Value).ownBlock ∧ some k_ ≠ (.slice Ao73 t571.length co73 : Value).ownBlock)) (Kd.R_apart' (Kd.R_apart' (HO592.out) (Kd.N_typed HO_14.out) (by decide)) (Kd.N_typed HO_16.out) (by decide)) (fun k_ hk => ⟨hk.1.2, hk.2⟩))))) (Reps.one (show Kd.FK (Kd.slice 3 (Kd.int .i64)) _ _ y593 [.slice Ao97 y593.length co97] from (Kd.FK_slice_mk (Kd.R_reads' (Kd.R_mono (ok' := (fun k_ => some k_ ≠ (.slice Ao71 t567.length co71 : Value).ownBlock ∧ some k_ ≠ (.slice Ao73 t571.length co73 : Value).ownBlock)) (Kd.R_apart' (Kd.R_apart' (HO595.out) (Kd.N_typed HO_14.out) (by decide)) (Kd.N_typed HO_16.out) (by decide)) (fun k_ hk => ⟨hk.1.2, hk.2⟩))).2.1 (Kd.R_F (Kd.R_mono (ok' := (fun k_ => some k_ ≠ (.slice Ao71 t567.length co71 : Value).ownBlock ∧ some k_ ≠ (.slice Ao73 t571.length co73 : Value).ownBlock)) (Kd.R_apart' (Kd.R_apart' (HO595.out) (Kd.N_typed HO_14.out) (by decide)) (Kd.N_typed HO_16.out) (by decide)) (fun k_ hk => ⟨hk.1.2, hk.2⟩))))) (Reps.one (show Kd.FK (Kd.slice 3 (Kd.int .i64)) _ _ y596 [.slice Ao98 y596.length co98] from (Kd.FK_slice_mk (Kd.R_reads' (Kd.R_mono (ok' := (fun k_ => some k_ ≠ (.slice Ao71 t567.length co71 : Value).ownBlock ∧ some k_ ≠ (.slice Ao73 t571.length co73 : Value).ownBlock)) (Kd.R_apart' (Kd.R_apart' (HO598.out) (Kd.N_typed HO_14.out) (by decide)) (Kd.N_typed HO_16.out) (by decide)) (fun k_ hk => ⟨hk.1.2, hk.2⟩))).2.1 (Kd.R_F (Kd.R_mono (ok' := (fun k_ => some k_ ≠ (.slice Ao71 t567.length co71 : Value).ownBlock ∧ some k_ ≠ (.slice Ao73 t571.length co73 : Value).ownBlock)) (Kd.R_apart' (Kd.R_apart' (HO598.out) (Kd.N_typed HO_14.out) (by decide)) (Kd.N_typed HO_16.out) (by decide)) (fun k_ hk => ⟨hk.1.2, hk.2⟩))))) (Reps.none _ _))))); intro v600 w99 ho100 hb hg_ hnew_; clear hg_ hnew_; (first | rw [← Ny599.out] at ho100 | (simp only [Int.reduceToNat] at ho100; rw [← Ny599.out] at ho100)); have n0_ := Aside0.mk (Kd.N_elder' (by (with_reducible repeat (first | apply Kd.N_alloc | apply Kd.N_drewN | apply Kd.N_drew)); exact HO_14.out) (Kd.N_base ho100) hb); have n1_ := Aside0.mk (Kd.N_elder' (by (with_reducible repeat (first | apply Kd.N_alloc | apply Kd.N_drewN | apply Kd.N_drew)); exact HO_16.out) (Kd.N_base ho100) hb); have n2_ := Aside0.mk (Kd.N_lower ho100 (below_size (by repeat (first | (with_reducible first | exact HB.out | apply below_alloc | apply pw_below_drewN | apply below_drew1) | exact HB.out)))); have n3_ := Aside0.mk (below_step (by repeat (first | (with_reducible first | exact HB.out | apply below_alloc | apply pw_below_drewN | apply below_drew1) | exact HB.out)) hb); clear HO_14; clear HO_16; clear HB; clear HO592; clear HO595; clear HO598; have HO_14 := n0_; have HO_16 := n1_; have HO601 := n2_; have HB := n3_; clear n0_ n1_ n2_ n3_; clear hb ho100; obtain ⟨Ao101, co101, eo101⟩ := Kd.N_slice HO601.out; subst eo101) | (go_at_call 30; (with_reducible refine (impl_TakeAll.calls k3 _ _ t567 _ _ y599 t602 t603 _ ?side1 ?side2 ?side3 ?side4 A86.out).mono ?_); (case side1 => repeat (first | exact (Kd.N_reads' HO_14.out).2.2 | (with_reducible refine Kd.C_alloc ?_ _) | (with_reducible refine Kd.C_drewN ?_ _) | (with_reducible refine Kd.C_drew ?_))); (case side2 => exact (Kd.N_reads' HO_14.out).2.1); (case side3 => repeat (first | exact (Kd.N_reads' HO601.out).2.2 | (with_reducible refine Kd.C_alloc ?_ _) | (with_reducible refine Kd.C_drewN ?_ _) | (with_reducible refine Kd.C_drew ?_))); (case side4 => exact (Kd.N_reads' HO601.out).2.1); rintro e w102 ⟨v604, rfl, ho0, hb⟩; have n0_ := Aside0.mk (Kd.N_elder' (by (with_reducible repeat (first | apply Kd.N_alloc | apply Kd.N_drewN | apply Kd.N_drew)); exact HO_14.out) (by first | exact Kd.N_base ho0 | exact Kd.S_base ho0) hb); have n1_ := Aside0.mk (Kd.N_elder' (by (with_reducible repeat (first | apply Kd.N_alloc | apply Kd.N_drewN | apply Kd.N_drew)); exact HO_16.out) (by first | exact Kd.N_base ho0 | exact Kd.S_base ho0) hb); have n2_ := Aside0.mk (Kd.N_elder' (by (with_reducible repeat (first | apply Kd.N_alloc | apply Kd.N_drewN | apply Kd.N_drew)); exact HO601.out) (by first | exact Kd.N_base ho0 | exact Kd.S_base ho0) hb); have n3_ := Aside0.mk (Kd.N_lower (Kd.N_mono (ok' := fun k_ => some k_ ≠ (.slice Ao71 t567.length co71 : Value).ownBlock ∧ some k_ ≠ (.slice Ao73 t571.length co73 : Value).ownBlock ∧ some k_ ≠ (.slice Ao101 y599.length co101 : Value).ownBlock) (Kd.S_N (Kd.S_bound ho0)) (fun k_ hk_ => ⟨(Kd.fresh' (Kd.N_lt (by (with_reducible repeat (first | apply Kd.N_alloc | apply Kd.N_drewN | apply Kd.N_drew)); exact HO_14.out)) k_ hk_.2.1), (Kd.fresh' (Kd.N_lt (by (with_reducible repeat (first | apply Kd.N_alloc | apply Kd.N_drewN | apply Kd.N_drew)); exact HO_16.out)) k_ hk_.2.1), (Kd.fresh' (Kd.N_lt (by (with_reducible repeat (first | apply Kd.N_alloc | apply Kd.N_drewN | apply Kd.N_drew)); exact HO601.out)) k_ hk_.2.1)⟩)) (below_size (by repeat (first | (with_reducible first | exact HB.out | apply below_alloc | apply pw_below_drewN | apply below_drew1) | exact HB.out)))); have n4_ := Aside0.mk (below_step (by repeat (first | (with_reducible first | exact HB.out | apply below_alloc | apply pw_below_drewN | apply below_drew1) | exact HB.out)) hb); clear HO_14; clear HO_16; clear HO601; clear HB; have HO_14 := n0_; have HO_16 := n1_; have HO601 := n2_; have HO605 := n3_; have HB := n4_; clear n0_ n1_ n2_ n3_ n4_; (try clear hb); (try clear hb2); (try clear hk); (try clear hi); (try clear ho0); obtain ⟨Ao103, co103, eo103⟩ := Kd.N_slice HO605.out; subst eo103) | (go_at_call 20; (with_reducible refine (impl_StoreArea.calls k3 _ _ t602 t606 _ ?side1 ?side2 A89.out).mono ?_); (case side1 => repeat (first | exact (Kd.N_reads' HO605.out).2.2 | (with_reducible refine Kd.C_alloc ?_ _) | (with_reducible refine Kd.C_drewN ?_ _) | (with_reducible refine Kd.C_drew ?_))); (case side2 => exact (Kd.N_reads' HO605.out).2.1); rintro e w' ⟨rfl, ⟨nd, rfl⟩⟩; (try first | exact ⟨rfl, _, World.drewN_drewN _ _ _⟩ | exact ⟨rfl, _, Eq.trans (World.drewN_drewN _ _ _) (congrArg (World.drewN _) (Nat.add_assoc _ _ _))⟩))); try go_wp2_with (first | ((with_reducible refine gate_dst (N := 339) rfl ?_); (try (refine gate_guard (by rfl) ?_; dsimp only)); refine Kd.R_lit (Kd.int .i64) _ 3 ?hg (N := 339) ?hd (xs := ([t532, t533] : List Int)) (inner := [.int .i64 t532, .int .i64 t533]) (ok := fun _ => True) (okp := fun _ => True) ?hr ?hp (fun _ hk => hk) trivial (Below.refl _ _) (Nat.le_refl _) (by simp) ?_; (case hd => rfl); (case hg => rfl); (case hr => first | (go_simp; done) | (go_simp; rfl)); (case hp => exact (Reps.one (show Kd.M (Kd.int .i64) _ _ _ t532 [.int .i64 t532] from rfl) (Reps.one (show Kd.M (Kd.int .i64) _ _ _ t533 [.int .i64 t533] from rfl) (Reps.none _ _)))); intro v591 w90 ho91 hb hg_ hnew_; clear hg_ hnew_; (first | rw [← Ny590.out] at ho91 | (simp only [Int.reduceToNat] at ho91; rw [← Ny590.out] at ho91)); have n0_ := Aside0.mk (Kd.N_elder' (by (with_reducible repeat (first | apply Kd.N_alloc | apply Kd.N_drewN | apply Kd.N_drew)); exact HO_14.out) (Kd.R_base ho91) hb); have n1_ := Aside0.mk (Kd.N_elder' (by (with_reducible repeat (first | apply Kd.N_alloc | apply Kd.N_drewN | apply Kd.N_drew)); exact HO_16.out) (Kd.R_base ho91) hb); have n2_ := Aside0.mk (Kd.R_lower ho91 (below_size (by repeat (first | (with_reducible first | exact HB.out | apply below_alloc | apply pw_below_drewN | apply below_drew1) | exact HB.out)))); have n3_ := Aside0.mk (below_step (by repeat (first | (with_reducible first | exact HB.out | apply below_alloc | apply pw_below_drewN | apply below_drew1) | exact HB.out)) hb); clear HO_14; clear HO_16; clear HB; have HO_14 := n0_; have HO_16 := n1_; have HO592 := n2_; have HB := n3_; clear n0_ n1_ n2_ n3_; clear hb ho91) | ((with_reducible refine gate_dst (N := 342) rfl ?_); (try (refine gate_guard (by rfl) ?_; dsimp only)); refine Kd.R_lit (Kd.int .i64) _ 3 ?hg (N := 342) ?hd (xs := ([t533, t532] : List Int)) (inner := [.int .i64 t533, .int .i64 t532]) (ok := fun _ => True) (okp := fun _ => True) ?hr ?hp (fun _ hk => hk) trivial (Below.refl _ _) (Nat.le_refl _) (by simp) ?_; (case hd => rfl); (case hg => rfl); (case hr => first | (go_simp; done) | (go_simp; rfl)); (case hp => exact (Reps.one (show Kd.M (Kd.int .i64) _ _ _ t533 [.int .i64 t533] from rfl) (Reps.one (show Kd.M (Kd.int .i64) _ _ _ t532 [.int .i64 t532] from rfl) (Reps.none _ _)))); intro v594 w92 ho93 hb hg_ hnew_; clear hg_ hnew_; (first | rw [← Ny593.out] at ho93 | (simp only [Int.reduceToNat] at ho93; rw [← Ny593.out] at ho93)); have n0_ := Aside0.mk (Kd.N_elder' (by (with_reducible repeat (first | apply Kd.N_alloc | apply Kd.N_drewN | apply Kd.N_drew)); exact HO_14.out) (Kd.R_base ho93) hb); have n1_ := Aside0.mk (Kd.N_elder' (by (with_reducible repeat (first | apply Kd.N_alloc | apply Kd.N_drewN | apply Kd.N_drew)); exact HO_16.out) (Kd.R_base ho93) hb); have n2_ := Aside0.mk (Kd.R_elder' (by (with_reducible repeat (first | apply Kd.R_alloc | apply Kd.R_drewN | apply Kd.R_drew)); exact HO592.out) (Kd.R_base ho93) hb); have n3_ := Aside0.mk (Kd.R_lower (Kd.R_new' ho93 (Kd.R_lt (by (with_reducible repeat (first | apply Kd.R_alloc | apply Kd.R_drewN | apply Kd.R_drew)); exact HO592.out))) (below_size (by repeat (first | (with_reducible first | exact HB.out | apply below_alloc | apply pw_below_drewN | apply below_drew1) | exact HB.out)))); have n4_ := Aside0.mk (below_step (by repeat (first | (with_reducible first | exact HB.out | apply below_alloc | apply pw_below_drewN | apply below_drew1) | exact HB.out)) hb); clear HO_14; clear HO_16; clear HO592; clear HB; have HO_14 := n0_; have HO_16 := n1_; have HO592 := n2_; have HO595 := n3_; have HB := n4_; clear n0_ n1_ n2_ n3_ n4_; clear hb ho93) | ((with_reducible refine gate_dst (N := 345) rfl ?_); (try (refine gate_guard (by rfl) ?_; dsimp only)); refine Kd.R_lit (Kd.int .i64) _ 3 ?hg (N := 345) ?hd (xs := ([t532, t533] : List Int)) (inner := [.int .i64 t532, .int .i64 t533]) (ok := fun _ => True) (okp := fun _ => True) ?hr ?hp (fun _ hk => hk) trivial (Below.refl _ _) (Nat.le_refl _) (by simp) ?_; (case hd => rfl); (case hg => rfl); (case hr => first | (go_simp; done) | (go_simp; rfl)); (case hp => exact (Reps.one (show Kd.M (Kd.int .i64) _ _ _ t532 [.int .i64 t532] from rfl) (Reps.one (show Kd.M (Kd.int .i64) _ _ _ t533 [.int .i64 t533] from rfl) (Reps.none _ _)))); intro v597 w94 ho95 hb hg_ hnew_; clear hg_ hnew_; (first | rw [← Ny596.out] at ho95 | (simp only [Int.reduceToNat] at ho95; rw [← Ny596.out] at ho95)); have n0_ := Aside0.mk (Kd.N_elder' (by (with_reducible repeat (first | apply Kd.N_alloc | apply Kd.N_drewN | apply Kd.N_drew)); exact HO_14.out) (Kd.R_base ho95) hb); have n1_ := Aside0.mk (Kd.N_elder' (by (with_reducible repeat (first | apply Kd.N_alloc | apply Kd.N_drewN | apply Kd.N_drew)); exact HO_16.out) (Kd.R_base ho95) hb); have n2_ := Aside0.mk (Kd.R_elder' (by (with_reducible repeat (first | apply Kd.R_alloc | apply Kd.R_drewN | apply Kd.R_drew)); exact HO592.out) (Kd.R_base ho95) hb); have n3_ := Aside0.mk (Kd.R_elder' (by (with_reducible repeat (first | apply Kd.R_alloc | apply Kd.R_drewN | apply Kd.R_drew)); exact HO595.out) (Kd.R_base ho95) hb); have n4_ := Aside0.mk (Kd.R_lower (Kd.R_new' (Kd.R_new' ho95 (Kd.R_lt (by (with_reducible repeat (first | apply Kd.R_alloc | apply Kd.R_drewN | apply Kd.R_drew)); exact HO592.out))) (Kd.R_lt (by (with_reducible repeat (first | apply Kd.R_alloc | apply Kd.R_drewN | apply Kd.R_drew)); exact HO595.out))) (below_size (by repeat (first | (with_reducible first | exact HB.out | apply below_alloc | apply pw_below_drewN | apply below_drew1) | exact HB.out)))); have n5_ := Aside0.mk (below_step (by repeat (first | (with_reducible first | exact HB.out | apply below_alloc | apply pw_below_drewN | apply below_drew1) | exact HB.out)) hb); clear HO_14; clear HO_16; clear HO592; clear HO595; clear HB; have HO_14 := n0_; have HO_16 := n1_; have HO592 := n2_; have HO595 := n3_; have HO598 := n4_; have HB := n5_; clear n0_ n1_ n2_ n3_ n4_ n5_; clear hb ho95; obtain ⟨Ao96, co96, eo96⟩ := Kd.R_slice HO592.out; subst eo96; obtain ⟨Ao97, co97, eo97⟩ := Kd.R_slice HO595.out; subst eo97; obtain ⟨Ao98, co98, eo98⟩ := Kd.R_slice HO598.out; subst eo98) | ((with_reducible refine gate_dst (N := 346) rfl ?_); (try (refine gate_guard (by rfl) ?_; dsimp only)); refine Kd.N_lit (Kd.slice 3 (Kd.int .i64)) _ 40 ?hg (N' := 346) ?hd (xs := ([y590, y593, y596] : List (List Int))) (inner := [.slice Ao96 y590.length co96, .slice Ao97 y593.length co97, .slice Ao98 y596.length co98]) (ok := (fun k_ => some k_ ≠ (.slice Ao71 t567.length co71 : Value).ownBlock ∧ some k_ ≠ (.slice Ao73 t571.length co73 : Value).ownBlock)) (okp := (fun k_ => some k_ ≠ (.slice Ao71 t567.length co71 : Value).ownBlock ∧ some k_ ≠ (.slice Ao73 t571.length co73 : Value).ownBlock)) ?hr ?hp (fun _ hk => hk) ((show ∀ k_, w94.heap.size ≤ k_ → (fun k_ => some k_ ≠ (.slice Ao71 t567.length co71 : Value).ownBlock ∧ some k_ ≠ (.slice Ao73 t571.length co73 : Value).ownBlock) k_ from fun k_ hk => ⟨Kd.fresh' (Kd.N_lt (by (with_reducible repeat (first | apply Kd.N_alloc | apply Kd.N_drewN | apply Kd.N_drew)); exact HO_14.out)) k_ hk, Kd.fresh' (Kd.N_lt (by (with_reducible repeat (first | apply Kd.N_alloc | apply Kd.N_drewN | apply Kd.N_drew)); exact HO_16.out)) k_ hk⟩) _ (Nat.le_refl _)) (Below.refl _ _) (Nat.le_refl _) (by simp) ?_; (case hd => rfl); (case hg => rfl); (case hr => first | (go_simp; done) | (go_simp; rfl)); (case hp => exact (Reps.one (show Kd.FK (Kd.slice 3 (Kd.int .i64)) _ _ y590 [.slice Ao96 y590.length co96] from (Kd.FK_slice_mk (Kd.R_reads' (Kd.R_mono (ok' := (fun k_ => some k_ ≠ (.slice Ao71 t567.length co71 : Value).ownBlock ∧ some k_ ≠ (.slice Ao73 t571.length co73 : Value).ownBlock)) (Kd.R_apart' (Kd.R_apart' (HO592.out) (Kd.N_typed HO_14.out) (by decide)) (Kd.N_typed HO_16.out) (by decide)) (fun k_ hk => ⟨hk.1.2, hk.2⟩))).2.1 (Kd.R_F (Kd.R_mono (ok' := (fun k_ => some k_ ≠ (.slice Ao71 t567.length co71 : Value).ownBlock ∧ some k_ ≠ (.slice Ao73 t571.length co73 : Value).ownBlock)) (Kd.R_apart' (Kd.R_apart' (HO592.out) (Kd.N_typed HO_14.out) (by decide)) (Kd.N_typed HO_16.out) (by decide)) (fun k_ hk => ⟨hk.1.2, hk.2⟩))))) (Reps.one (show Kd.FK (Kd.slice 3 (Kd.int .i64)) _ _ y593 [.slice Ao97 y593.length co97] from (Kd.FK_slice_mk (Kd.R_reads' (Kd.R_mono (ok' := (fun k_ => some k_ ≠ (.slice Ao71 t567.length co71 : Value).ownBlock ∧ some k_ ≠ (.slice Ao73 t571.length co73 : Value).ownBlock)) (Kd.R_apart' (Kd.R_apart' (HO595.out) (Kd.N_typed HO_14.out) (by decide)) (Kd.N_typed HO_16.out) (by decide)) (fun k_ hk => ⟨hk.1.2, hk.2⟩))).2.1 (Kd.R_F (Kd.R_mono (ok' := (fun k_ => some k_ ≠ (.slice Ao71 t567.length co71 : Value).ownBlock ∧ some k_ ≠ (.slice Ao73 t571.length co73 : Value).ownBlock)) (Kd.R_apart' (Kd.R_apart' (HO595.out) (Kd.N_typed HO_14.out) (by decide)) (Kd.N_typed HO_16.out) (by decide)) (fun k_ hk => ⟨hk.1.2, hk.2⟩))))) (Reps.one (show Kd.FK (Kd.slice 3 (Kd.int .i64)) _ _ y596 [.slice Ao98 y596.length co98] from (Kd.FK_slice_mk (Kd.R_reads' (Kd.R_mono (ok' := (fun k_ => some k_ ≠ (.slice Ao71 t567.length co71 : Value).ownBlock ∧ some k_ ≠ (.slice Ao73 t571.length co73 : Value).ownBlock)) (Kd.R_apart' (Kd.R_apart' (HO598.out) (Kd.N_typed HO_14.out) (by decide)) (Kd.N_typed HO_16.out) (by decide)) (fun k_ hk => ⟨hk.1.2, hk.2⟩))).2.1 (Kd.R_F (Kd.R_mono (ok' := (fun k_ => some k_ ≠ (.slice Ao71 t567.length co71 : Value).ownBlock ∧ some k_ ≠ (.slice Ao73 t571.length co73 : Value).ownBlock)) (Kd.R_apart' (Kd.R_apart' (HO598.out) (Kd.N_typed HO_14.out) (by decide)) (Kd.N_typed HO_16.out) (by decide)) (fun k_ hk => ⟨hk.1.2, hk.2⟩))))) (Reps.none _ _))))); intro v600 w99 ho100 hb hg_ hnew_; clear hg_ hnew_; (first | rw [← Ny599.out] at ho100 | (simp only [Int.reduceToNat] at ho100; rw [← Ny599.out] at ho100)); have n0_ := Aside0.mk (Kd.N_elder' (by (with_reducible repeat (first | apply Kd.N_alloc | apply Kd.N_drewN | apply Kd.N_drew)); exact HO_14.out) (Kd.N_base ho100) hb); have n1_ := Aside0.mk (Kd.N_elder' (by (with_reducible repeat (first | apply Kd.N_alloc | apply Kd.N_drewN | apply Kd.N_drew)); exact HO_16.out) (Kd.N_base ho100) hb); have n2_ := Aside0.mk (Kd.N_lower ho100 (below_size (by repeat (first | (with_reducible first | exact HB.out | apply below_alloc | apply pw_below_drewN | apply below_drew1) | exact HB.out)))); have n3_ := Aside0.mk (below_step (by repeat (first | (with_reducible first | exact HB.out | apply below_alloc | apply pw_below_drewN | apply below_drew1) | exact HB.out)) hb); clear HO_14; clear HO_16; clear HB; clear HO592; clear HO595; clear HO598; have HO_14 := n0_; have HO_16 := n1_; have HO601 := n2_; have HB := n3_; clear n0_ n1_ n2_ n3_; clear hb ho100; obtain ⟨Ao101, co101, eo101⟩ := Kd.N_slice HO601.out; subst eo101) | (go_at_call 30; (with_reducible refine (impl_TakeAll.calls k3 _ _ t567 _ _ y599 t602 t603 _ ?side1 ?side2 ?side3 ?side4 A86.out).mono ?_); (case side1 => repeat (first | exact (Kd.N_reads' HO_14.out).2.2 | (with_reducible refine Kd.C_alloc ?_ _) | (with_reducible refine Kd.C_drewN ?_ _) | (with_reducible refine Kd.C_drew ?_))); (case side2 => exact (Kd.N_reads' HO_14.out).2.1); (case side3 => repeat (first | exact (Kd.N_reads' HO601.out).2.2 | (with_reducible refine Kd.C_alloc ?_ _) | (with_reducible refine Kd.C_drewN ?_ _) | (with_reducible refine Kd.C_drew ?_))); (case side4 => exact (Kd.N_reads' HO601.out).2.1); rintro e w102 ⟨v604, rfl, ho0, hb⟩; have n0_ := Aside0.mk (Kd.N_elder' (by (with_reducible repeat (first | apply Kd.N_alloc | apply Kd.N_drewN | apply Kd.N_drew)); exact HO_14.out) (by first | exact Kd.N_base ho0 | exact Kd.S_base ho0) hb); have n1_ := Aside0.mk (Kd.N_elder' (by (with_reducible repeat (first | apply Kd.N_alloc | apply Kd.N_drewN | apply Kd.N_drew)); exact HO_16.out) (by first | exact Kd.N_base ho0 | exact Kd.S_base ho0) hb); have n2_ := Aside0.mk (Kd.N_elder' (by (with_reducible repeat (first | apply Kd.N_alloc | apply Kd.N_drewN | apply Kd.N_drew)); exact HO601.out) (by first | exact Kd.N_base ho0 | exact Kd.S_base ho0) hb); have n3_ := Aside0.mk (Kd.N_lower (Kd.N_mono (ok' := fun k_ => some k_ ≠ (.slice Ao71 t567.length co71 : Value).ownBlock ∧ some k_ ≠ (.slice Ao73 t571.length co73 : Value).ownBlock ∧ some k_ ≠ (.slice Ao101 y599.length co101 : Value).ownBlock) (Kd.S_N (Kd.S_bound ho0)) (fun k_ hk_ => ⟨(Kd.fresh' (Kd.N_lt (by (with_reducible repeat (first | apply Kd.N_alloc | apply Kd.N_drewN | apply Kd.N_drew)); exact HO_14.out)) k_ hk_.2.1), (Kd.fresh' (Kd.N_lt (by (with_reducible repeat (first | apply Kd.N_alloc | apply Kd.N_drewN | apply Kd.N_drew)); exact HO_16.out)) k_ hk_.2.1), (Kd.fresh' (Kd.N_lt (by (with_reducible repeat (first | apply Kd.N_alloc | apply Kd.N_drewN | apply Kd.N_drew)); exact HO601.out)) k_ hk_.2.1)⟩)) (below_size (by repeat (first | (with_reducible first | exact HB.out | apply below_alloc | apply pw_below_drewN | apply below_drew1) | exact HB.out)))); have n4_ := Aside0.mk (below_step (by repeat (first | (with_reducible first | exact HB.out | apply below_alloc | apply pw_below_drewN | apply below_drew1) | exact HB.out)) hb); clear HO_14; clear HO_16; clear HO601; clear HB; have HO_14 := n0_; have HO_16 := n1_; have HO601 := n2_; have HO605 := n3_; have HB := n4_; clear n0_ n1_ n2_ n3_ n4_; (try clear hb); (try clear hb2); (try clear hk); (try clear hi); (try clear ho0); obtain ⟨Ao103, co103, eo103⟩ := Kd.N_slice HO605.out; subst eo103) | (go_at_call 20; (with_reducible refine (impl_StoreArea.calls k3 _ _ t602 t606 _ ?side1 ?side2 A89.out).mono ?_); (case side1 => repeat (first | exact (Kd.N_reads' HO605.out).2.2 | (with_reducible refine Kd.C_alloc ?_ _) | (with_reducible refine Kd.C_drewN ?_ _) | (with_reducible refine Kd.C_drew ?_))); (case side2 => exact (Kd.N_reads' HO605.out).2.1); rintro e w' ⟨rfl, ⟨nd, rfl⟩⟩; (try first | exact ⟨rfl, _, World.drewN_drewN _ _ _⟩ | exact ⟨rfl, _, Eq.trans (World.drewN_drewN _ _ _) (congrArg (World.drewN _) (Nat.add_assoc _ _ _))⟩))))
                           go_ret
                           exact ⟨by first | rfl | (simp [errW_none, errW_some] <;> rfl) | (simp [*, errW_none, errW_some] <;> rfl), by repeat (first | (with_reducible first | exact HB.out | apply below_alloc | apply pw_below_drewN | apply below_drew1) | exact HB.out)⟩
                         ·rw [if_neg c88] at H
                          exact absurd H (by simp)
                        ·rw [if_neg c87] at H
                         exact absurd H (by simp)
                    ·replace c69 := Bool.eq_false_iff.mpr c69
                     subst c69
                     have H1 : (none) = some r := by rw [if_neg (show ¬ (false = true) by decide)] at H; exact H
                     clear H
                     have H := H1
                     clear H1
                     exact absurd H (by simp)
                   ·rw [if_neg c67] at H
                    exact absurd H (by simp)
                  ·rw [if_neg c65] at H
                   exact absurd H (by simp)
                 ·replace c64 := Bool.eq_false_iff.mpr c64
                  subst c64
                  have H1 : (none) = some r := by rw [if_neg (show ¬ (false = true) by decide)] at H; exact H
                  clear H
                  have H := H1
                  clear H1
                  exact absurd H (by simp)
                ·rw [if_neg c62] at H
                 exact absurd H (by simp)
               ·rw [if_neg c60] at H
                exact absurd H (by simp)
              ·replace c59 := Bool.eq_false_iff.mpr c59
               subst c59
               have H1 : (none) = some r := by rw [if_neg (show ¬ (false = true) by decide)] at H; exact H
               clear H
               have H := H1
               clear H1
               exact absurd H (by simp)
     ·rw [if_neg c14] at H
      exact absurd H (by simp)
   ·rw [if_neg c12] at H
    exact absurd H (by simp)
  ·replace c10 := Bool.eq_false_iff.mpr c10
   subst c10
   have H1 : (none) = some r := by rw [if_neg (show ¬ (false = true) by decide)] at H; exact H
   clear H
   have H := H1
   clear H1
   exact absurd H (by simp)
/-- THE ONE PURE STATEMENT of laws_FnRemnants: yours. -/
def laws_FnRemnants.Pure : Prop := ∀ (l0 : List Int), l0.length ≤ maxLen → l0.length * 1 ≤ 140737488351232 → (∀ x ∈ l0, (Lit.int .u8 x).wf = true) → ∃ k, laws_FnRemnants.f k l0 = some true
theorem laws_FnRemnants.walk (P : laws_FnRemnants.Pure) (a0 : Option Addr) (len0 cap0 : Nat) (z0 : List Int) (w : World) (w0 : (a0 = none ∧ len0 = 0 ∧ cap0 = 0 ∧ z0 = []) ∨ ∃ x, a0 = some x ∧ len0 ≤ cap0 ∧ cap0 ≤ maxLen ∧ z0.length = cap0 ∧ (∀ i, i < z0.length → w.cell? (x.add i) = some (.int .u8 (z0.getD i 0))) ∧ ∀ n ∈ z0, (Lit.int .u8 n).wf = true) (y0 : len0 * 1 ≤ 140737488351232) :
  Calls Try.prog 11 #[.slice a0 len0 cap0] w fun e w' => e = .returned (.bool true) ∧ Below w.heap.size w w' := by
 obtain ⟨l0, rfl, hr0, hm0, hw0, hc0⟩ := ReadsInt.ofRowC w0
 obtain ⟨k, h⟩ := P l0 hm0 y0 hw0
 refine (laws_FnRemnants.calls k _ _ l0 true w (Kd.C_of_reads (d := (0 : Int)) (h1 := fun _ => rfl) hr0) hc0 h).mono ?_
 rintro e w' ⟨rfl, hd⟩
 exact ⟨rfl, hd⟩
end Go.Proofs.Ytebjpafnfmmjeaa.PA
