/- Texts of this claim put together in build order (FnExactFewestLate). -/
import Derived.Test.YtoonamloihbjnaaMFewestLate0
import Derived.Test.YtoonamloihbjnaaMFewestLate2
import Derived.Test.YtoonamloihbjnaaMFewestLate4
import Derived.Test.YtoonamloihbjnaaMFewestLate5
import Derived.Test.YtoonamloihbjnaaMFewestLate1
import Derived.Test.YtoonamloihbjnaaMFewestLate3
-- Written for this claim by a program of this session's (ownprint.py), by way of the kit's print and hand-proved texts. Lean checks it.
namespace Go.Proofs.Ytoonamloihbjnaa.PA
open Go.RowKit Go.Proofs.YtoonamloihbjnaaW.PrintWords Go.Proofs.YtoonamloihbjnaaW.PrintLast Go.Proofs.YtoonamloihbjnaaW.PrintMore
attribute [local go_sem] max2_int min2_int max_two min_two max_three min_three max_four min_four   -- for this text's walks alone
set_option linter.unusedVariables false
set_option linter.unusedSimpArgs false
def spec_FewestLate.f (k : Nat) (l0 : List (List Int)) : Option (Int) := (spec_WorksOk.f k l0).bind fun t553 => (if t553 = true then ((spec_OnTimeOrder.f k l0).bind fun t554 => ((spec_CountLate.f k l0 t554).bind fun t557 => (some t557))) else (some (-1)))
set_option maxHeartbeats 8000000 in
set_option maxRecDepth 100000 in
theorem spec_FewestLate.calls (k : Nat) (A0 : Option Addr) (c0 : Nat) (l0 : List (List Int)) (r : Int) (w : World) (hr0 : Kd.C (Kd.slice 3 (Kd.int .i64)) w A0 l0.length l0) (hc0 : l0.length ≤ c0) (h : spec_FewestLate.f k l0 = some r) :
    Calls Try.prog 40 #[.slice A0 l0.length c0] w fun e w' => e = .returned (.int .i64 r) ∧ Below w.heap.size w w' := by
  have HR0 := Aside0.mk hr0
  have HC0 := Aside0.mk hc0
  clear hr0 hc0
  have HB := Aside0.mk (Below.refl w.heap.size w)
  have H : ((spec_WorksOk.f k l0).bind fun t553 => (if t553 = true then ((spec_OnTimeOrder.f k l0).bind fun t554 => ((spec_CountLate.f k l0 t554).bind fun t557 => (some t557))) else (some (-1)))) = some r := h
  clear h
  replace H := Option.bind_eq_some_iff.mp H
  obtain ⟨t553, A20, H⟩ := H
  replace H : (if t553 = true then ((spec_OnTimeOrder.f k l0).bind fun t554 => ((spec_CountLate.f k l0 t554).bind fun t557 => (some t557))) else (some (-1))) = some r := H
  have A2 := Aside0.mk A20
  clear A20
  by_cases c3 : t553 = true
  · subst c3
    have H1 : ((spec_OnTimeOrder.f k l0).bind fun t554 => ((spec_CountLate.f k l0 t554).bind fun t557 => (some t557))) = some r := by rw [if_pos rfl] at H; exact H
    clear H
    have H := H1
    clear H1
    replace H := Option.bind_eq_some_iff.mp H
    obtain ⟨t554, A40, H⟩ := H
    replace H : ((spec_CountLate.f k l0 t554).bind fun t557 => (some t557)) = some r := H
    have A4 := Aside0.mk A40
    clear A40
    replace H := Option.bind_eq_some_iff.mp H
    obtain ⟨t557, A50, H⟩ := H
    replace H : (some t557) = some r := H
    have A5 := Aside0.mk A50
    clear A50
    obtain rfl := Option.some.inj H
    go_enter Try.func40, Try.ntmps40
    go_wp2_with (first | ((with_reducible refine gate_callee (f := 15) rfl ?_); refine goesL_ (some 4) rfl rfl Try.func15 (by kernel_rfl) rfl #[.slice A0 l0.length c0] rfl (by (try simp only [List.map_toArray, List.map_cons, List.map_nil]); first | done | rfl | (simp only [List.length_drop, List.length_take]; rfl)) ?_; (with_reducible refine (spec_WorksOk.calls k _ _ l0 true _ ?side1 ?side2 A2.out).mono ?_); (case side1 => repeat (first | exact HR0.out | (with_reducible refine Kd.C_alloc ?_ _) | (with_reducible refine Kd.C_drewN ?_ _) | (with_reducible refine Kd.C_drew ?_))); (case side2 => exact HC0.out); rintro e w' ⟨rfl, ⟨nd, rfl⟩⟩; refine ⟨_, rfl, ?_⟩) | ((with_reducible refine gate_callee (f := 27) rfl ?_); refine goesL_ (some 8) rfl rfl Try.func27 (by kernel_rfl) rfl #[.slice A0 l0.length c0] rfl (by (try simp only [List.map_toArray, List.map_cons, List.map_nil]); first | done | rfl | (simp only [List.length_drop, List.length_take]; rfl)) ?_; (with_reducible refine (spec_OnTimeOrder.calls k _ _ l0 t554 _ ?side1 ?side2 A4.out).mono ?_); (case side1 => repeat (first | exact HR0.out | (with_reducible refine Kd.C_alloc ?_ _) | (with_reducible refine Kd.C_drewN ?_ _) | (with_reducible refine Kd.C_drew ?_))); (case side2 => exact HC0.out); rintro e w6 ⟨v555, rfl, ho0, hb⟩; refine ⟨_, rfl, ?_⟩; have n0_ := Aside0.mk (Kd.R_lower ho0 (below_size (by repeat (first | (with_reducible first | exact HB.out | apply below_alloc | apply pw_below_drewN | apply below_drew1) | exact HB.out)))); have n1_ := Aside0.mk (below_step (by repeat (first | (with_reducible first | exact HB.out | apply below_alloc | apply pw_below_drewN | apply below_drew1) | exact HB.out)) hb); clear HB; have HO556 := n0_; have HB := n1_; clear n0_ n1_; (try clear hb); (try clear hb2); (try clear hk); (try clear hi); (try clear ho0); obtain ⟨Ao7, co7, eo7⟩ := Kd.R_slice HO556.out; subst eo7) | ((with_reducible refine gate_callee (f := 36) rfl ?_); refine goesL_ (some 9) rfl rfl Try.func36 (by kernel_rfl) rfl #[.slice A0 l0.length c0, .slice Ao7 t554.length co7] rfl (by (try simp only [List.map_toArray, List.map_cons, List.map_nil]); first | done | rfl | (simp only [List.length_drop, List.length_take]; rfl)) ?_; (with_reducible refine (spec_CountLate.calls k _ _ l0 _ _ t554 t557 _ ?side1 ?side2 ?side3 ?side4 A5.out).mono ?_); (case side1 => repeat (first | exact (Kd.C_below HR0.out HB.out) | (with_reducible refine Kd.C_alloc ?_ _) | (with_reducible refine Kd.C_drewN ?_ _) | (with_reducible refine Kd.C_drew ?_))); (case side2 => exact HC0.out); (case side3 => repeat (first | exact (Kd.R_reads' HO556.out).2.2 | (with_reducible refine Kd.C_alloc ?_ _) | (with_reducible refine Kd.C_drewN ?_ _) | (with_reducible refine Kd.C_drew ?_))); (case side4 => exact (Kd.R_reads' HO556.out).2.1); rintro e w8 ⟨rfl, hb⟩; refine ⟨_, rfl, ?_⟩; have n0_ := Aside0.mk (Kd.R_below (by (with_reducible repeat (first | apply Kd.R_alloc | apply Kd.R_drewN | apply Kd.R_drew)); exact HO556.out) hb); have n1_ := Aside0.mk (below_step (by repeat (first | (with_reducible first | exact HB.out | apply below_alloc | apply pw_below_drewN | apply below_drew1) | exact HB.out)) hb); clear HO556; clear HB; have HO556 := n0_; have HB := n1_; clear n0_ n1_; (try clear hb); (try clear hb2); (try clear hk); (try clear hi)))
    go_ret
    exact ⟨by first | rfl | (simp [errW_none, errW_some] <;> rfl) | (simp [*, errW_none, errW_some] <;> rfl), by repeat (first | (with_reducible first | exact HB.out | apply below_alloc | apply pw_below_drewN | apply below_drew1) | exact HB.out)⟩
  · replace c3 := Bool.eq_false_iff.mpr c3
    subst c3
    have H1 : (some (-1)) = some r := by rw [if_neg (show ¬ (false = true) by decide)] at H; exact H
    clear H
    have H := H1
    clear H1
    obtain rfl := Option.some.inj H
    go_enter Try.func40, Try.ntmps40
    go_wp2_with (first | ((with_reducible refine gate_callee (f := 15) rfl ?_); refine goesL_ (some 4) rfl rfl Try.func15 (by kernel_rfl) rfl #[.slice A0 l0.length c0] rfl (by (try simp only [List.map_toArray, List.map_cons, List.map_nil]); first | done | rfl | (simp only [List.length_drop, List.length_take]; rfl)) ?_; (with_reducible refine (spec_WorksOk.calls k _ _ l0 false _ ?side1 ?side2 A2.out).mono ?_); (case side1 => repeat (first | exact HR0.out | (with_reducible refine Kd.C_alloc ?_ _) | (with_reducible refine Kd.C_drewN ?_ _) | (with_reducible refine Kd.C_drew ?_))); (case side2 => exact HC0.out); rintro e w' ⟨rfl, ⟨nd, rfl⟩⟩; refine ⟨_, rfl, ?_⟩))
    go_ret
    exact ⟨by first | rfl | (simp [errW_none, errW_some] <;> rfl) | (simp [*, errW_none, errW_some] <;> rfl), by repeat (first | (with_reducible first | exact HB.out | apply below_alloc | apply pw_below_drewN | apply below_drew1) | exact HB.out)⟩
def impl_FewestLate.f (k : Nat) (l0 : List (List Int)) : Option (Int) := (impl_WorksOk.f l0).bind fun t558 => (if t558 = true then ((impl_OnTimeOrder.f k l0).bind fun t559 => ((impl_CountLate.f k l0 t559).bind fun t562 => (some t562))) else (some (-1)))
set_option maxHeartbeats 8000000 in
set_option maxRecDepth 100000 in
theorem impl_FewestLate.calls (k : Nat) (A0 : Option Addr) (c0 : Nat) (l0 : List (List Int)) (r : Int) (w : World) (hr0 : Kd.C (Kd.slice 3 (Kd.int .i64)) w A0 l0.length l0) (hc0 : l0.length ≤ c0) (h : impl_FewestLate.f k l0 = some r) :
    Calls Try.prog 41 #[.slice A0 l0.length c0] w fun e w' => e = .returned (.int .i64 r) ∧ Below w.heap.size w w' := by
  have HR0 := Aside0.mk hr0
  have HC0 := Aside0.mk hc0
  clear hr0 hc0
  have HB := Aside0.mk (Below.refl w.heap.size w)
  have H : ((impl_WorksOk.f l0).bind fun t558 => (if t558 = true then ((impl_OnTimeOrder.f k l0).bind fun t559 => ((impl_CountLate.f k l0 t559).bind fun t562 => (some t562))) else (some (-1)))) = some r := h
  clear h
  replace H := Option.bind_eq_some_iff.mp H
  obtain ⟨t558, A20, H⟩ := H
  replace H : (if t558 = true then ((impl_OnTimeOrder.f k l0).bind fun t559 => ((impl_CountLate.f k l0 t559).bind fun t562 => (some t562))) else (some (-1))) = some r := H
  have A2 := Aside0.mk A20
  clear A20
  by_cases c3 : t558 = true
  · subst c3
    have H1 : ((impl_OnTimeOrder.f k l0).bind fun t559 => ((impl_CountLate.f k l0 t559).bind fun t562 => (some t562))) = some r := by rw [if_pos rfl] at H; exact H
    clear H
    have H := H1
    clear H1
    replace H := Option.bind_eq_some_iff.mp H
    obtain ⟨t559, A40, H⟩ := H
    replace H : ((impl_CountLate.f k l0 t559).bind fun t562 => (some t562)) = some r := H
    have A4 := Aside0.mk A40
    clear A40
    replace H := Option.bind_eq_some_iff.mp H
    obtain ⟨t562, A50, H⟩ := H
    replace H : (some t562) = some r := H
    have A5 := Aside0.mk A50
    clear A50
    obtain rfl := Option.some.inj H
    go_enter Try.func41, Try.ntmps41
    go_wp2_with (first | ((with_reducible refine gate_callee (f := 17) rfl ?_); refine goesL_ (some 4) rfl rfl Try.func17 (by kernel_rfl) rfl #[.slice A0 l0.length c0] rfl (by (try simp only [List.map_toArray, List.map_cons, List.map_nil]); first | done | rfl | (simp only [List.length_drop, List.length_take]; rfl)) ?_; (with_reducible refine (impl_WorksOk.calls _ _ l0 true _ ?side1 ?side2 A2.out).mono ?_); (case side1 => repeat (first | exact HR0.out | (with_reducible refine Kd.C_alloc ?_ _) | (with_reducible refine Kd.C_drewN ?_ _) | (with_reducible refine Kd.C_drew ?_))); (case side2 => exact HC0.out); rintro e w' ⟨rfl, ⟨nd, rfl⟩⟩; refine ⟨_, rfl, ?_⟩) | ((with_reducible refine gate_callee (f := 28) rfl ?_); refine goesL_ (some 8) rfl rfl Try.func28 (by kernel_rfl) rfl #[.slice A0 l0.length c0] rfl (by (try simp only [List.map_toArray, List.map_cons, List.map_nil]); first | done | rfl | (simp only [List.length_drop, List.length_take]; rfl)) ?_; (with_reducible refine (impl_OnTimeOrder.calls k _ _ l0 t559 _ ?side1 ?side2 A4.out).mono ?_); (case side1 => repeat (first | exact HR0.out | (with_reducible refine Kd.C_alloc ?_ _) | (with_reducible refine Kd.C_drewN ?_ _) | (with_reducible refine Kd.C_drew ?_))); (case side2 => exact HC0.out); rintro e w6 ⟨v560, rfl, ho0, hb⟩; refine ⟨_, rfl, ?_⟩; have n0_ := Aside0.mk (Kd.R_lower ho0 (below_size (by repeat (first | (with_reducible first | exact HB.out | apply below_alloc | apply pw_below_drewN | apply below_drew1) | exact HB.out)))); have n1_ := Aside0.mk (below_step (by repeat (first | (with_reducible first | exact HB.out | apply below_alloc | apply pw_below_drewN | apply below_drew1) | exact HB.out)) hb); clear HB; have HO561 := n0_; have HB := n1_; clear n0_ n1_; (try clear hb); (try clear hb2); (try clear hk); (try clear hi); (try clear ho0); obtain ⟨Ao7, co7, eo7⟩ := Kd.R_slice HO561.out; subst eo7) | ((with_reducible refine gate_callee (f := 37) rfl ?_); refine goesL_ (some 9) rfl rfl Try.func37 (by kernel_rfl) rfl #[.slice A0 l0.length c0, .slice Ao7 t559.length co7] rfl (by (try simp only [List.map_toArray, List.map_cons, List.map_nil]); first | done | rfl | (simp only [List.length_drop, List.length_take]; rfl)) ?_; (with_reducible refine (impl_CountLate.calls k _ _ l0 _ _ t559 t562 _ ?side1 ?side2 ?side3 ?side4 A5.out).mono ?_); (case side1 => repeat (first | exact (Kd.C_below HR0.out HB.out) | (with_reducible refine Kd.C_alloc ?_ _) | (with_reducible refine Kd.C_drewN ?_ _) | (with_reducible refine Kd.C_drew ?_))); (case side2 => exact HC0.out); (case side3 => repeat (first | exact (Kd.R_reads' HO561.out).2.2 | (with_reducible refine Kd.C_alloc ?_ _) | (with_reducible refine Kd.C_drewN ?_ _) | (with_reducible refine Kd.C_drew ?_))); (case side4 => exact (Kd.R_reads' HO561.out).2.1); rintro e w8 ⟨rfl, hb⟩; refine ⟨_, rfl, ?_⟩; have n0_ := Aside0.mk (Kd.R_below (by (with_reducible repeat (first | apply Kd.R_alloc | apply Kd.R_drewN | apply Kd.R_drew)); exact HO561.out) hb); have n1_ := Aside0.mk (below_step (by repeat (first | (with_reducible first | exact HB.out | apply below_alloc | apply pw_below_drewN | apply below_drew1) | exact HB.out)) hb); clear HO561; clear HB; have HO561 := n0_; have HB := n1_; clear n0_ n1_; (try clear hb); (try clear hb2); (try clear hk); (try clear hi)))
    go_ret
    exact ⟨by first | rfl | (simp [errW_none, errW_some] <;> rfl) | (simp [*, errW_none, errW_some] <;> rfl), by repeat (first | (with_reducible first | exact HB.out | apply below_alloc | apply pw_below_drewN | apply below_drew1) | exact HB.out)⟩
  · replace c3 := Bool.eq_false_iff.mpr c3
    subst c3
    have H1 : (some (-1)) = some r := by rw [if_neg (show ¬ (false = true) by decide)] at H; exact H
    clear H
    have H := H1
    clear H1
    obtain rfl := Option.some.inj H
    go_enter Try.func41, Try.ntmps41
    go_wp2_with (first | ((with_reducible refine gate_callee (f := 17) rfl ?_); refine goesL_ (some 4) rfl rfl Try.func17 (by kernel_rfl) rfl #[.slice A0 l0.length c0] rfl (by (try simp only [List.map_toArray, List.map_cons, List.map_nil]); first | done | rfl | (simp only [List.length_drop, List.length_take]; rfl)) ?_; (with_reducible refine (impl_WorksOk.calls _ _ l0 false _ ?side1 ?side2 A2.out).mono ?_); (case side1 => repeat (first | exact HR0.out | (with_reducible refine Kd.C_alloc ?_ _) | (with_reducible refine Kd.C_drewN ?_ _) | (with_reducible refine Kd.C_drew ?_))); (case side2 => exact HC0.out); rintro e w' ⟨rfl, ⟨nd, rfl⟩⟩; refine ⟨_, rfl, ?_⟩))
    go_ret
    exact ⟨by first | rfl | (simp [errW_none, errW_some] <;> rfl) | (simp [*, errW_none, errW_some] <;> rfl), by repeat (first | (with_reducible first | exact HB.out | apply below_alloc | apply pw_below_drewN | apply below_drew1) | exact HB.out)⟩
end Go.Proofs.Ytoonamloihbjnaa.PA
-- Written for this claim by a program of this session's (ownprint.py), by way of the kit's print and hand-proved texts. Lean checks it.
namespace Go.Proofs.Ytoonamloihbjnaa.PA
open Go.RowKit Go.Proofs.YtoonamloihbjnaaW.PrintWords Go.Proofs.YtoonamloihbjnaaW.PrintLast Go.Proofs.YtoonamloihbjnaaW.PrintMore
attribute [local go_sem] max2_int min2_int max_two min_two max_three min_three max_four min_four   -- for this text's walks alone
set_option linter.unusedVariables false
set_option linter.unusedSimpArgs false
def laws_FnExactFewestLate.f (k : Nat) (l0 : List (List Int)) : Option (Bool) := (laws_szIntSS.f k l0 1048576).bind fun t563 => (if t563 < 0 then (some true) else ((laws_toIntSS.f k l0).bind fun t564 => ((spec_FewestLate.f k t564).bind fun t567 => ((laws_toIntSS.f k l0).bind fun t568 => ((impl_FewestLate.f k t568).bind fun t571 => (if t571 = t567 then ((laws_toIntSS.f k l0).bind fun t572 => ((laws_eqIntSS.f k t568 t572).bind fun t575 => (if t575 = true then (some true) else (some false)))) else (some false)))))))
set_option maxHeartbeats 8000000 in
set_option maxRecDepth 100000 in
theorem laws_FnExactFewestLate.calls (k : Nat) (A0 : Option Addr) (c0 : Nat) (l0 : List (List Int)) (r : Bool) (w : World) (hr0 : Kd.C (Kd.slice 3 (Kd.int .i64)) w A0 l0.length l0) (hc0 : l0.length ≤ c0) (h : laws_FnExactFewestLate.f k l0 = some r) :
    Calls Try.prog 12 #[.slice A0 l0.length c0] w fun e w' => e = .returned (.bool r) ∧ Below w.heap.size w w' := by
  have HR0 := Aside0.mk hr0
  have HC0 := Aside0.mk hc0
  clear hr0 hc0
  have HB := Aside0.mk (Below.refl w.heap.size w)
  have H : ((laws_szIntSS.f k l0 1048576).bind fun t563 => (if t563 < 0 then (some true) else ((laws_toIntSS.f k l0).bind fun t564 => ((spec_FewestLate.f k t564).bind fun t567 => ((laws_toIntSS.f k l0).bind fun t568 => ((impl_FewestLate.f k t568).bind fun t571 => (if t571 = t567 then ((laws_toIntSS.f k l0).bind fun t572 => ((laws_eqIntSS.f k t568 t572).bind fun t575 => (if t575 = true then (some true) else (some false)))) else (some false)))))))) = some r := h
  clear h
  replace H := Option.bind_eq_some_iff.mp H
  obtain ⟨t563, A20, H⟩ := H
  replace H : (if t563 < 0 then (some true) else ((laws_toIntSS.f k l0).bind fun t564 => ((spec_FewestLate.f k t564).bind fun t567 => ((laws_toIntSS.f k l0).bind fun t568 => ((impl_FewestLate.f k t568).bind fun t571 => (if t571 = t567 then ((laws_toIntSS.f k l0).bind fun t572 => ((laws_eqIntSS.f k t568 t572).bind fun t575 => (if t575 = true then (some true) else (some false)))) else (some false))))))) = some r := H
  have A2 := Aside0.mk A20
  clear A20
  by_cases c3 : t563 < 0
  · rw [if_pos c3] at H
    have c3b0 : decide (t563 < 0) = true := decide_eq_true c3
    clear c3
    obtain rfl := Option.some.inj H
    go_enter Try.func12, Try.ntmps12
    go_wp2_with (first | ((with_reducible refine gate_callee (f := 14) rfl ?_); refine goesL_ (some 9) rfl rfl Try.func14 (by kernel_rfl) rfl #[.slice A0 l0.length c0, .int .i64 1048576] rfl (by (try simp only [List.map_toArray, List.map_cons, List.map_nil]); first | done | rfl | (simp only [List.length_drop, List.length_take]; rfl)) ?_; (with_reducible refine (laws_szIntSS.calls k _ _ l0 1048576 t563 _ ?side1 ?side2 A2.out).mono ?_); (case side1 => repeat (first | exact HR0.out | (with_reducible refine Kd.C_alloc ?_ _) | (with_reducible refine Kd.C_drewN ?_ _) | (with_reducible refine Kd.C_drew ?_))); (case side2 => exact HC0.out); rintro e w' ⟨rfl, ⟨nd, rfl⟩⟩; refine ⟨_, rfl, ?_⟩))
    go_ret
    exact ⟨by first | rfl | (simp [errW_none, errW_some] <;> rfl) | (simp [*, errW_none, errW_some] <;> rfl), by repeat (first | (with_reducible first | exact HB.out | apply below_alloc | apply pw_below_drewN | apply below_drew1) | exact HB.out)⟩
  · rw [if_neg c3] at H
    have c3b0 : decide (t563 < 0) = false := decide_eq_false c3
    clear c3
    replace H := Option.bind_eq_some_iff.mp H
    obtain ⟨t564, A40, H⟩ := H
    replace H : ((spec_FewestLate.f k t564).bind fun t567 => ((laws_toIntSS.f k l0).bind fun t568 => ((impl_FewestLate.f k t568).bind fun t571 => (if t571 = t567 then ((laws_toIntSS.f k l0).bind fun t572 => ((laws_eqIntSS.f k t568 t572).bind fun t575 => (if t575 = true then (some true) else (some false)))) else (some false))))) = some r := H
    have A4 := Aside0.mk A40
    clear A40
    replace H := Option.bind_eq_some_iff.mp H
    obtain ⟨t567, A50, H⟩ := H
    replace H : ((laws_toIntSS.f k l0).bind fun t568 => ((impl_FewestLate.f k t568).bind fun t571 => (if t571 = t567 then ((laws_toIntSS.f k l0).bind fun t572 => ((laws_eqIntSS.f k t568 t572).bind fun t575 => (if t575 = true then (some true) else (some false)))) else (some false)))) = some r := H
    have A5 := Aside0.mk A50
    clear A50
    replace H := Option.bind_eq_some_iff.mp H
    obtain ⟨t568, A60, H⟩ := H
    replace H : ((impl_FewestLate.f k t568).bind fun t571 => (if t571 = t567 then ((laws_toIntSS.f k l0).bind fun t572 => ((laws_eqIntSS.f k t568 t572).bind fun t575 => (if t575 = true then (some true) else (some false)))) else (some false))) = some r := H
    have A6 := Aside0.mk A60
    clear A60
    replace H := Option.bind_eq_some_iff.mp H
    obtain ⟨t571, A70, H⟩ := H
    replace H : (if t571 = t567 then ((laws_toIntSS.f k l0).bind fun t572 => ((laws_eqIntSS.f k t568 t572).bind fun t575 => (if t575 = true then (some true) else (some false)))) else (some false)) = some r := H
    have A7 := Aside0.mk A70
    clear A70
    by_cases c8 : t571 = t567
    · rw [if_pos c8] at H
      have c8b0 : (t571 == t567) = true := beq_iff_eq.mpr c8
      have c8b1 : (t571 != t567) = false := bne_eq_false_iff_eq.mpr c8
      clear c8
      replace H := Option.bind_eq_some_iff.mp H
      obtain ⟨t572, A90, H⟩ := H
      replace H : ((laws_eqIntSS.f k t568 t572).bind fun t575 => (if t575 = true then (some true) else (some false))) = some r := H
      have A9 := Aside0.mk A90
      clear A90
      replace H := Option.bind_eq_some_iff.mp H
      obtain ⟨t575, A100, H⟩ := H
      replace H : (if t575 = true then (some true) else (some false)) = some r := H
      have A10 := Aside0.mk A100
      clear A100
      by_cases c11 : t575 = true
      · subst c11
        have H1 : (some true) = some r := by rw [if_pos rfl] at H; exact H
        clear H
        have H := H1
        clear H1
        obtain rfl := Option.some.inj H
        go_enter Try.func12, Try.ntmps12
        go_wp2_with (first | ((with_reducible refine gate_callee (f := 14) rfl ?_); refine goesL_ (some 9) rfl rfl Try.func14 (by kernel_rfl) rfl #[.slice A0 l0.length c0, .int .i64 1048576] rfl (by (try simp only [List.map_toArray, List.map_cons, List.map_nil]); first | done | rfl | (simp only [List.length_drop, List.length_take]; rfl)) ?_; (with_reducible refine (laws_szIntSS.calls k _ _ l0 1048576 t563 _ ?side1 ?side2 A2.out).mono ?_); (case side1 => repeat (first | exact HR0.out | (with_reducible refine Kd.C_alloc ?_ _) | (with_reducible refine Kd.C_drewN ?_ _) | (with_reducible refine Kd.C_drew ?_))); (case side2 => exact HC0.out); rintro e w' ⟨rfl, ⟨nd, rfl⟩⟩; refine ⟨_, rfl, ?_⟩) | ((with_reducible refine gate_callee (f := 16) rfl ?_); refine goesL_ (some 13) rfl rfl Try.func16 (by kernel_rfl) rfl #[.slice A0 l0.length c0] rfl (by (try simp only [List.map_toArray, List.map_cons, List.map_nil]); first | done | rfl | (simp only [List.length_drop, List.length_take]; rfl)) ?_; (with_reducible refine (laws_toIntSS.calls k _ _ l0 t564 _ ?side1 ?side2 A4.out).mono ?_); (case side1 => repeat (first | exact HR0.out | (with_reducible refine Kd.C_alloc ?_ _) | (with_reducible refine Kd.C_drewN ?_ _) | (with_reducible refine Kd.C_drew ?_))); (case side2 => exact HC0.out); rintro e w12 ⟨v565, rfl, ho0, hb⟩; refine ⟨_, rfl, ?_⟩; have n0_ := Aside0.mk (Kd.S_lower ho0 (below_size (by repeat (first | (with_reducible first | exact HB.out | apply below_alloc | apply pw_below_drewN | apply below_drew1) | exact HB.out)))); have n1_ := Aside0.mk (below_step (by repeat (first | (with_reducible first | exact HB.out | apply below_alloc | apply pw_below_drewN | apply below_drew1) | exact HB.out)) hb); clear HB; have HO566 := n0_; have HB := n1_; clear n0_ n1_; (try clear hb); (try clear hb2); (try clear hk); (try clear hi); (try clear ho0); obtain ⟨Ao13, co13, eo13⟩ := Kd.S_slice HO566.out; subst eo13) | ((with_reducible refine gate_callee (f := 40) rfl ?_); refine goesL_ (some 14) rfl rfl Try.func40 (by kernel_rfl) rfl #[.slice Ao13 t564.length co13] rfl (by (try simp only [List.map_toArray, List.map_cons, List.map_nil]); first | done | rfl | (simp only [List.length_drop, List.length_take]; rfl)) ?_; (with_reducible refine (spec_FewestLate.calls k _ _ t564 t567 _ ?side1 ?side2 A5.out).mono ?_); (case side1 => repeat (first | exact (Kd.S_reads' HO566.out).2.2 | (with_reducible refine Kd.C_alloc ?_ _) | (with_reducible refine Kd.C_drewN ?_ _) | (with_reducible refine Kd.C_drew ?_))); (case side2 => exact (Kd.S_reads' HO566.out).2.1); rintro e w14 ⟨rfl, hb⟩; refine ⟨_, rfl, ?_⟩; have n0_ := Aside0.mk (Kd.S_below (by (with_reducible repeat (first | apply Kd.S_alloc | apply Kd.S_drewN | apply Kd.S_drew)); exact HO566.out) hb); have n1_ := Aside0.mk (below_step (by repeat (first | (with_reducible first | exact HB.out | apply below_alloc | apply pw_below_drewN | apply below_drew1) | exact HB.out)) hb); clear HO566; clear HB; have HO566 := n0_; have HB := n1_; clear n0_ n1_; (try clear hb); (try clear hb2); (try clear hk); (try clear hi)) | ((with_reducible refine gate_callee (f := 16) rfl ?_); refine goesL_ (some 16) rfl rfl Try.func16 (by kernel_rfl) rfl #[.slice A0 l0.length c0] rfl (by (try simp only [List.map_toArray, List.map_cons, List.map_nil]); first | done | rfl | (simp only [List.length_drop, List.length_take]; rfl)) ?_; (with_reducible refine (laws_toIntSS.calls k _ _ l0 t568 _ ?side1 ?side2 A6.out).mono ?_); (case side1 => repeat (first | exact (Kd.C_below HR0.out HB.out) | (with_reducible refine Kd.C_alloc ?_ _) | (with_reducible refine Kd.C_drewN ?_ _) | (with_reducible refine Kd.C_drew ?_))); (case side2 => exact HC0.out); rintro e w15 ⟨v569, rfl, ho0, hb⟩; refine ⟨_, rfl, ?_⟩; have n0_ := Aside0.mk (Kd.S_elder' (by (with_reducible repeat (first | apply Kd.S_alloc | apply Kd.S_drewN | apply Kd.S_drew)); exact HO566.out) (Kd.S_base ho0) hb); have n1_ := Aside0.mk (Kd.S_lower (Kd.S_new' ho0 (Kd.S_lt (by (with_reducible repeat (first | apply Kd.S_alloc | apply Kd.S_drewN | apply Kd.S_drew)); exact HO566.out))) (below_size (by repeat (first | (with_reducible first | exact HB.out | apply below_alloc | apply pw_below_drewN | apply below_drew1) | exact HB.out)))); have n2_ := Aside0.mk (below_step (by repeat (first | (with_reducible first | exact HB.out | apply below_alloc | apply pw_below_drewN | apply below_drew1) | exact HB.out)) hb); clear HO566; clear HB; have HO566 := n0_; have HO570 := n1_; have HB := n2_; clear n0_ n1_ n2_; (try clear hb); (try clear hb2); (try clear hk); (try clear hi); (try clear ho0); obtain ⟨Ao16, co16, eo16⟩ := Kd.S_slice HO570.out; subst eo16) | ((with_reducible refine gate_callee (f := 41) rfl ?_); refine goesL_ (some 18) rfl rfl Try.func41 (by kernel_rfl) rfl #[.slice Ao16 t568.length co16] rfl (by (try simp only [List.map_toArray, List.map_cons, List.map_nil]); first | done | rfl | (simp only [List.length_drop, List.length_take]; rfl)) ?_; (with_reducible refine (impl_FewestLate.calls k _ _ t568 t571 _ ?side1 ?side2 A7.out).mono ?_); (case side1 => repeat (first | exact (Kd.S_reads' HO570.out).2.2 | (with_reducible refine Kd.C_alloc ?_ _) | (with_reducible refine Kd.C_drewN ?_ _) | (with_reducible refine Kd.C_drew ?_))); (case side2 => exact (Kd.S_reads' HO570.out).2.1); rintro e w17 ⟨rfl, hb⟩; refine ⟨_, rfl, ?_⟩; have n0_ := Aside0.mk (Kd.S_below (by (with_reducible repeat (first | apply Kd.S_alloc | apply Kd.S_drewN | apply Kd.S_drew)); exact HO566.out) hb); have n1_ := Aside0.mk (Kd.S_below (by (with_reducible repeat (first | apply Kd.S_alloc | apply Kd.S_drewN | apply Kd.S_drew)); exact HO570.out) hb); have n2_ := Aside0.mk (below_step (by repeat (first | (with_reducible first | exact HB.out | apply below_alloc | apply pw_below_drewN | apply below_drew1) | exact HB.out)) hb); clear HO566; clear HO570; clear HB; have HO566 := n0_; have HO570 := n1_; have HB := n2_; clear n0_ n1_ n2_; (try clear hb); (try clear hb2); (try clear hk); (try clear hi)) | ((with_reducible refine gate_callee (f := 16) rfl ?_); refine goesL_ (some 24) rfl rfl Try.func16 (by kernel_rfl) rfl #[.slice A0 l0.length c0] rfl (by (try simp only [List.map_toArray, List.map_cons, List.map_nil]); first | done | rfl | (simp only [List.length_drop, List.length_take]; rfl)) ?_; (with_reducible refine (laws_toIntSS.calls k _ _ l0 t572 _ ?side1 ?side2 A9.out).mono ?_); (case side1 => repeat (first | exact (Kd.C_below HR0.out HB.out) | (with_reducible refine Kd.C_alloc ?_ _) | (with_reducible refine Kd.C_drewN ?_ _) | (with_reducible refine Kd.C_drew ?_))); (case side2 => exact HC0.out); rintro e w18 ⟨v573, rfl, ho0, hb⟩; refine ⟨_, rfl, ?_⟩; have n0_ := Aside0.mk (Kd.S_elder' (by (with_reducible repeat (first | apply Kd.S_alloc | apply Kd.S_drewN | apply Kd.S_drew)); exact HO566.out) (Kd.S_base ho0) hb); have n1_ := Aside0.mk (Kd.S_elder' (by (with_reducible repeat (first | apply Kd.S_alloc | apply Kd.S_drewN | apply Kd.S_drew)); exact HO570.out) (Kd.S_base ho0) hb); have n2_ := Aside0.mk (Kd.S_lower (Kd.S_new' (Kd.S_new' ho0 (Kd.S_lt (by (with_reducible repeat (first | apply Kd.S_alloc | apply Kd.S_drewN | apply Kd.S_drew)); exact HO566.out))) (Kd.S_lt (by (with_reducible repeat (first | apply Kd.S_alloc | apply Kd.S_drewN | apply Kd.S_drew)); exact HO570.out))) (below_size (by repeat (first | (with_reducible first | exact HB.out | apply below_alloc | apply pw_below_drewN | apply below_drew1) | exact HB.out)))); have n3_ := Aside0.mk (below_step (by repeat (first | (with_reducible first | exact HB.out | apply below_alloc | apply pw_below_drewN | apply below_drew1) | exact HB.out)) hb); clear HO566; clear HO570; clear HB; have HO566 := n0_; have HO570 := n1_; have HO574 := n2_; have HB := n3_; clear n0_ n1_ n2_ n3_; (try clear hb); (try clear hb2); (try clear hk); (try clear hi); (try clear ho0); obtain ⟨Ao19, co19, eo19⟩ := Kd.S_slice HO574.out; subst eo19) | ((with_reducible refine gate_callee (f := 18) rfl ?_); refine goesL_ (some 25) rfl rfl Try.func18 (by kernel_rfl) rfl #[.slice Ao16 t568.length co16, .slice Ao19 t572.length co19] rfl (by (try simp only [List.map_toArray, List.map_cons, List.map_nil]); first | done | rfl | (simp only [List.length_drop, List.length_take]; rfl)) ?_; (with_reducible refine (laws_eqIntSS.calls k _ _ t568 _ _ t572 true _ ?side1 ?side2 ?side3 ?side4 A10.out).mono ?_); (case side1 => repeat (first | exact (Kd.S_reads' HO570.out).2.2 | (with_reducible refine Kd.C_alloc ?_ _) | (with_reducible refine Kd.C_drewN ?_ _) | (with_reducible refine Kd.C_drew ?_))); (case side2 => exact (Kd.S_reads' HO570.out).2.1); (case side3 => repeat (first | exact (Kd.S_reads' HO574.out).2.2 | (with_reducible refine Kd.C_alloc ?_ _) | (with_reducible refine Kd.C_drewN ?_ _) | (with_reducible refine Kd.C_drew ?_))); (case side4 => exact (Kd.S_reads' HO574.out).2.1); rintro e w' ⟨rfl, ⟨nd, rfl⟩⟩; refine ⟨_, rfl, ?_⟩))
        go_ret
        exact ⟨by first | rfl | (simp [errW_none, errW_some] <;> rfl) | (simp [*, errW_none, errW_some] <;> rfl), by repeat (first | (with_reducible first | exact HB.out | apply below_alloc | apply pw_below_drewN | apply below_drew1) | exact HB.out)⟩
      · replace c11 := Bool.eq_false_iff.mpr c11
        subst c11
        have H1 : (some false) = some r := by rw [if_neg (show ¬ (false = true) by decide)] at H; exact H
        clear H
        have H := H1
        clear H1
        obtain rfl := Option.some.inj H
        go_enter Try.func12, Try.ntmps12
        go_wp2_with (first | ((with_reducible refine gate_callee (f := 14) rfl ?_); refine goesL_ (some 9) rfl rfl Try.func14 (by kernel_rfl) rfl #[.slice A0 l0.length c0, .int .i64 1048576] rfl (by (try simp only [List.map_toArray, List.map_cons, List.map_nil]); first | done | rfl | (simp only [List.length_drop, List.length_take]; rfl)) ?_; (with_reducible refine (laws_szIntSS.calls k _ _ l0 1048576 t563 _ ?side1 ?side2 A2.out).mono ?_); (case side1 => repeat (first | exact HR0.out | (with_reducible refine Kd.C_alloc ?_ _) | (with_reducible refine Kd.C_drewN ?_ _) | (with_reducible refine Kd.C_drew ?_))); (case side2 => exact HC0.out); rintro e w' ⟨rfl, ⟨nd, rfl⟩⟩; refine ⟨_, rfl, ?_⟩) | ((with_reducible refine gate_callee (f := 16) rfl ?_); refine goesL_ (some 13) rfl rfl Try.func16 (by kernel_rfl) rfl #[.slice A0 l0.length c0] rfl (by (try simp only [List.map_toArray, List.map_cons, List.map_nil]); first | done | rfl | (simp only [List.length_drop, List.length_take]; rfl)) ?_; (with_reducible refine (laws_toIntSS.calls k _ _ l0 t564 _ ?side1 ?side2 A4.out).mono ?_); (case side1 => repeat (first | exact HR0.out | (with_reducible refine Kd.C_alloc ?_ _) | (with_reducible refine Kd.C_drewN ?_ _) | (with_reducible refine Kd.C_drew ?_))); (case side2 => exact HC0.out); rintro e w20 ⟨v565, rfl, ho0, hb⟩; refine ⟨_, rfl, ?_⟩; have n0_ := Aside0.mk (Kd.S_lower ho0 (below_size (by repeat (first | (with_reducible first | exact HB.out | apply below_alloc | apply pw_below_drewN | apply below_drew1) | exact HB.out)))); have n1_ := Aside0.mk (below_step (by repeat (first | (with_reducible first | exact HB.out | apply below_alloc | apply pw_below_drewN | apply below_drew1) | exact HB.out)) hb); clear HB; have HO566 := n0_; have HB := n1_; clear n0_ n1_; (try clear hb); (try clear hb2); (try clear hk); (try clear hi); (try clear ho0); obtain ⟨Ao21, co21, eo21⟩ := Kd.S_slice HO566.out; subst eo21) | ((with_reducible refine gate_callee (f := 40) rfl ?_); refine goesL_ (some 14) rfl rfl Try.func40 (by kernel_rfl) rfl #[.slice Ao21 t564.length co21] rfl (by (try simp only [List.map_toArray, List.map_cons, List.map_nil]); first | done | rfl | (simp only [List.length_drop, List.length_take]; rfl)) ?_; (with_reducible refine (spec_FewestLate.calls k _ _ t564 t567 _ ?side1 ?side2 A5.out).mono ?_); (case side1 => repeat (first | exact (Kd.S_reads' HO566.out).2.2 | (with_reducible refine Kd.C_alloc ?_ _) | (with_reducible refine Kd.C_drewN ?_ _) | (with_reducible refine Kd.C_drew ?_))); (case side2 => exact (Kd.S_reads' HO566.out).2.1); rintro e w22 ⟨rfl, hb⟩; refine ⟨_, rfl, ?_⟩; have n0_ := Aside0.mk (Kd.S_below (by (with_reducible repeat (first | apply Kd.S_alloc | apply Kd.S_drewN | apply Kd.S_drew)); exact HO566.out) hb); have n1_ := Aside0.mk (below_step (by repeat (first | (with_reducible first | exact HB.out | apply below_alloc | apply pw_below_drewN | apply below_drew1) | exact HB.out)) hb); clear HO566; clear HB; have HO566 := n0_; have HB := n1_; clear n0_ n1_; (try clear hb); (try clear hb2); (try clear hk); (try clear hi)) | ((with_reducible refine gate_callee (f := 16) rfl ?_); refine goesL_ (some 16) rfl rfl Try.func16 (by kernel_rfl) rfl #[.slice A0 l0.length c0] rfl (by (try simp only [List.map_toArray, List.map_cons, List.map_nil]); first | done | rfl | (simp only [List.length_drop, List.length_take]; rfl)) ?_; (with_reducible refine (laws_toIntSS.calls k _ _ l0 t568 _ ?side1 ?side2 A6.out).mono ?_); (case side1 => repeat (first | exact (Kd.C_below HR0.out HB.out) | (with_reducible refine Kd.C_alloc ?_ _) | (with_reducible refine Kd.C_drewN ?_ _) | (with_reducible refine Kd.C_drew ?_))); (case side2 => exact HC0.out); rintro e w23 ⟨v569, rfl, ho0, hb⟩; refine ⟨_, rfl, ?_⟩; have n0_ := Aside0.mk (Kd.S_elder' (by (with_reducible repeat (first | apply Kd.S_alloc | apply Kd.S_drewN | apply Kd.S_drew)); exact HO566.out) (Kd.S_base ho0) hb); have n1_ := Aside0.mk (Kd.S_lower (Kd.S_new' ho0 (Kd.S_lt (by (with_reducible repeat (first | apply Kd.S_alloc | apply Kd.S_drewN | apply Kd.S_drew)); exact HO566.out))) (below_size (by repeat (first | (with_reducible first | exact HB.out | apply below_alloc | apply pw_below_drewN | apply below_drew1) | exact HB.out)))); have n2_ := Aside0.mk (below_step (by repeat (first | (with_reducible first | exact HB.out | apply below_alloc | apply pw_below_drewN | apply below_drew1) | exact HB.out)) hb); clear HO566; clear HB; have HO566 := n0_; have HO570 := n1_; have HB := n2_; clear n0_ n1_ n2_; (try clear hb); (try clear hb2); (try clear hk); (try clear hi); (try clear ho0); obtain ⟨Ao24, co24, eo24⟩ := Kd.S_slice HO570.out; subst eo24) | ((with_reducible refine gate_callee (f := 41) rfl ?_); refine goesL_ (some 18) rfl rfl Try.func41 (by kernel_rfl) rfl #[.slice Ao24 t568.length co24] rfl (by (try simp only [List.map_toArray, List.map_cons, List.map_nil]); first | done | rfl | (simp only [List.length_drop, List.length_take]; rfl)) ?_; (with_reducible refine (impl_FewestLate.calls k _ _ t568 t571 _ ?side1 ?side2 A7.out).mono ?_); (case side1 => repeat (first | exact (Kd.S_reads' HO570.out).2.2 | (with_reducible refine Kd.C_alloc ?_ _) | (with_reducible refine Kd.C_drewN ?_ _) | (with_reducible refine Kd.C_drew ?_))); (case side2 => exact (Kd.S_reads' HO570.out).2.1); rintro e w25 ⟨rfl, hb⟩; refine ⟨_, rfl, ?_⟩; have n0_ := Aside0.mk (Kd.S_below (by (with_reducible repeat (first | apply Kd.S_alloc | apply Kd.S_drewN | apply Kd.S_drew)); exact HO566.out) hb); have n1_ := Aside0.mk (Kd.S_below (by (with_reducible repeat (first | apply Kd.S_alloc | apply Kd.S_drewN | apply Kd.S_drew)); exact HO570.out) hb); have n2_ := Aside0.mk (below_step (by repeat (first | (with_reducible first | exact HB.out | apply below_alloc | apply pw_below_drewN | apply below_drew1) | exact HB.out)) hb); clear HO566; clear HO570; clear HB; have HO566 := n0_; have HO570 := n1_; have HB := n2_; clear n0_ n1_ n2_; (try clear hb); (try clear hb2); (try clear hk); (try clear hi)) | ((with_reducible refine gate_callee (f := 16) rfl ?_); refine goesL_ (some 24) rfl rfl Try.func16 (by kernel_rfl) rfl #[.slice A0 l0.length c0] rfl (by (try simp only [List.map_toArray, List.map_cons, List.map_nil]); first | done | rfl | (simp only [List.length_drop, List.length_take]; rfl)) ?_; (with_reducible refine (laws_toIntSS.calls k _ _ l0 t572 _ ?side1 ?side2 A9.out).mono ?_); (case side1 => repeat (first | exact (Kd.C_below HR0.out HB.out) | (with_reducible refine Kd.C_alloc ?_ _) | (with_reducible refine Kd.C_drewN ?_ _) | (with_reducible refine Kd.C_drew ?_))); (case side2 => exact HC0.out); rintro e w26 ⟨v573, rfl, ho0, hb⟩; refine ⟨_, rfl, ?_⟩; have n0_ := Aside0.mk (Kd.S_elder' (by (with_reducible repeat (first | apply Kd.S_alloc | apply Kd.S_drewN | apply Kd.S_drew)); exact HO566.out) (Kd.S_base ho0) hb); have n1_ := Aside0.mk (Kd.S_elder' (by (with_reducible repeat (first | apply Kd.S_alloc | apply Kd.S_drewN | apply Kd.S_drew)); exact HO570.out) (Kd.S_base ho0) hb); have n2_ := Aside0.mk (Kd.S_lower (Kd.S_new' (Kd.S_new' ho0 (Kd.S_lt (by (with_reducible repeat (first | apply Kd.S_alloc | apply Kd.S_drewN | apply Kd.S_drew)); exact HO566.out))) (Kd.S_lt (by (with_reducible repeat (first | apply Kd.S_alloc | apply Kd.S_drewN | apply Kd.S_drew)); exact HO570.out))) (below_size (by repeat (first | (with_reducible first | exact HB.out | apply below_alloc | apply pw_below_drewN | apply below_drew1) | exact HB.out)))); have n3_ := Aside0.mk (below_step (by repeat (first | (with_reducible first | exact HB.out | apply below_alloc | apply pw_below_drewN | apply below_drew1) | exact HB.out)) hb); clear HO566; clear HO570; clear HB; have HO566 := n0_; have HO570 := n1_; have HO574 := n2_; have HB := n3_; clear n0_ n1_ n2_ n3_; (try clear hb); (try clear hb2); (try clear hk); (try clear hi); (try clear ho0); obtain ⟨Ao27, co27, eo27⟩ := Kd.S_slice HO574.out; subst eo27) | ((with_reducible refine gate_callee (f := 18) rfl ?_); refine goesL_ (some 25) rfl rfl Try.func18 (by kernel_rfl) rfl #[.slice Ao24 t568.length co24, .slice Ao27 t572.length co27] rfl (by (try simp only [List.map_toArray, List.map_cons, List.map_nil]); first | done | rfl | (simp only [List.length_drop, List.length_take]; rfl)) ?_; (with_reducible refine (laws_eqIntSS.calls k _ _ t568 _ _ t572 false _ ?side1 ?side2 ?side3 ?side4 A10.out).mono ?_); (case side1 => repeat (first | exact (Kd.S_reads' HO570.out).2.2 | (with_reducible refine Kd.C_alloc ?_ _) | (with_reducible refine Kd.C_drewN ?_ _) | (with_reducible refine Kd.C_drew ?_))); (case side2 => exact (Kd.S_reads' HO570.out).2.1); (case side3 => repeat (first | exact (Kd.S_reads' HO574.out).2.2 | (with_reducible refine Kd.C_alloc ?_ _) | (with_reducible refine Kd.C_drewN ?_ _) | (with_reducible refine Kd.C_drew ?_))); (case side4 => exact (Kd.S_reads' HO574.out).2.1); rintro e w' ⟨rfl, ⟨nd, rfl⟩⟩; refine ⟨_, rfl, ?_⟩))
        go_ret
        exact ⟨by first | rfl | (simp [errW_none, errW_some] <;> rfl) | (simp [*, errW_none, errW_some] <;> rfl), by repeat (first | (with_reducible first | exact HB.out | apply below_alloc | apply pw_below_drewN | apply below_drew1) | exact HB.out)⟩
    · rw [if_neg c8] at H
      have c8b0 : (t571 == t567) = false := beq_eq_false_iff_ne.mpr c8
      have c8b1 : (t571 != t567) = true := bne_iff_ne.mpr c8
      obtain rfl := Option.some.inj H
      go_enter Try.func12, Try.ntmps12
      go_wp2_with (first | ((with_reducible refine gate_callee (f := 14) rfl ?_); refine goesL_ (some 9) rfl rfl Try.func14 (by kernel_rfl) rfl #[.slice A0 l0.length c0, .int .i64 1048576] rfl (by (try simp only [List.map_toArray, List.map_cons, List.map_nil]); first | done | rfl | (simp only [List.length_drop, List.length_take]; rfl)) ?_; (with_reducible refine (laws_szIntSS.calls k _ _ l0 1048576 t563 _ ?side1 ?side2 A2.out).mono ?_); (case side1 => repeat (first | exact HR0.out | (with_reducible refine Kd.C_alloc ?_ _) | (with_reducible refine Kd.C_drewN ?_ _) | (with_reducible refine Kd.C_drew ?_))); (case side2 => exact HC0.out); rintro e w' ⟨rfl, ⟨nd, rfl⟩⟩; refine ⟨_, rfl, ?_⟩) | ((with_reducible refine gate_callee (f := 16) rfl ?_); refine goesL_ (some 13) rfl rfl Try.func16 (by kernel_rfl) rfl #[.slice A0 l0.length c0] rfl (by (try simp only [List.map_toArray, List.map_cons, List.map_nil]); first | done | rfl | (simp only [List.length_drop, List.length_take]; rfl)) ?_; (with_reducible refine (laws_toIntSS.calls k _ _ l0 t564 _ ?side1 ?side2 A4.out).mono ?_); (case side1 => repeat (first | exact HR0.out | (with_reducible refine Kd.C_alloc ?_ _) | (with_reducible refine Kd.C_drewN ?_ _) | (with_reducible refine Kd.C_drew ?_))); (case side2 => exact HC0.out); rintro e w28 ⟨v565, rfl, ho0, hb⟩; refine ⟨_, rfl, ?_⟩; have n0_ := Aside0.mk (Kd.S_lower ho0 (below_size (by repeat (first | (with_reducible first | exact HB.out | apply below_alloc | apply pw_below_drewN | apply below_drew1) | exact HB.out)))); have n1_ := Aside0.mk (below_step (by repeat (first | (with_reducible first | exact HB.out | apply below_alloc | apply pw_below_drewN | apply below_drew1) | exact HB.out)) hb); clear HB; have HO566 := n0_; have HB := n1_; clear n0_ n1_; (try clear hb); (try clear hb2); (try clear hk); (try clear hi); (try clear ho0); obtain ⟨Ao29, co29, eo29⟩ := Kd.S_slice HO566.out; subst eo29) | ((with_reducible refine gate_callee (f := 40) rfl ?_); refine goesL_ (some 14) rfl rfl Try.func40 (by kernel_rfl) rfl #[.slice Ao29 t564.length co29] rfl (by (try simp only [List.map_toArray, List.map_cons, List.map_nil]); first | done | rfl | (simp only [List.length_drop, List.length_take]; rfl)) ?_; (with_reducible refine (spec_FewestLate.calls k _ _ t564 t567 _ ?side1 ?side2 A5.out).mono ?_); (case side1 => repeat (first | exact (Kd.S_reads' HO566.out).2.2 | (with_reducible refine Kd.C_alloc ?_ _) | (with_reducible refine Kd.C_drewN ?_ _) | (with_reducible refine Kd.C_drew ?_))); (case side2 => exact (Kd.S_reads' HO566.out).2.1); rintro e w30 ⟨rfl, hb⟩; refine ⟨_, rfl, ?_⟩; have n0_ := Aside0.mk (Kd.S_below (by (with_reducible repeat (first | apply Kd.S_alloc | apply Kd.S_drewN | apply Kd.S_drew)); exact HO566.out) hb); have n1_ := Aside0.mk (below_step (by repeat (first | (with_reducible first | exact HB.out | apply below_alloc | apply pw_below_drewN | apply below_drew1) | exact HB.out)) hb); clear HO566; clear HB; have HO566 := n0_; have HB := n1_; clear n0_ n1_; (try clear hb); (try clear hb2); (try clear hk); (try clear hi)) | ((with_reducible refine gate_callee (f := 16) rfl ?_); refine goesL_ (some 16) rfl rfl Try.func16 (by kernel_rfl) rfl #[.slice A0 l0.length c0] rfl (by (try simp only [List.map_toArray, List.map_cons, List.map_nil]); first | done | rfl | (simp only [List.length_drop, List.length_take]; rfl)) ?_; (with_reducible refine (laws_toIntSS.calls k _ _ l0 t568 _ ?side1 ?side2 A6.out).mono ?_); (case side1 => repeat (first | exact (Kd.C_below HR0.out HB.out) | (with_reducible refine Kd.C_alloc ?_ _) | (with_reducible refine Kd.C_drewN ?_ _) | (with_reducible refine Kd.C_drew ?_))); (case side2 => exact HC0.out); rintro e w31 ⟨v569, rfl, ho0, hb⟩; refine ⟨_, rfl, ?_⟩; have n0_ := Aside0.mk (Kd.S_elder' (by (with_reducible repeat (first | apply Kd.S_alloc | apply Kd.S_drewN | apply Kd.S_drew)); exact HO566.out) (Kd.S_base ho0) hb); have n1_ := Aside0.mk (Kd.S_lower (Kd.S_new' ho0 (Kd.S_lt (by (with_reducible repeat (first | apply Kd.S_alloc | apply Kd.S_drewN | apply Kd.S_drew)); exact HO566.out))) (below_size (by repeat (first | (with_reducible first | exact HB.out | apply below_alloc | apply pw_below_drewN | apply below_drew1) | exact HB.out)))); have n2_ := Aside0.mk (below_step (by repeat (first | (with_reducible first | exact HB.out | apply below_alloc | apply pw_below_drewN | apply below_drew1) | exact HB.out)) hb); clear HO566; clear HB; have HO566 := n0_; have HO570 := n1_; have HB := n2_; clear n0_ n1_ n2_; (try clear hb); (try clear hb2); (try clear hk); (try clear hi); (try clear ho0); obtain ⟨Ao32, co32, eo32⟩ := Kd.S_slice HO570.out; subst eo32) | ((with_reducible refine gate_callee (f := 41) rfl ?_); refine goesL_ (some 18) rfl rfl Try.func41 (by kernel_rfl) rfl #[.slice Ao32 t568.length co32] rfl (by (try simp only [List.map_toArray, List.map_cons, List.map_nil]); first | done | rfl | (simp only [List.length_drop, List.length_take]; rfl)) ?_; (with_reducible refine (impl_FewestLate.calls k _ _ t568 t571 _ ?side1 ?side2 A7.out).mono ?_); (case side1 => repeat (first | exact (Kd.S_reads' HO570.out).2.2 | (with_reducible refine Kd.C_alloc ?_ _) | (with_reducible refine Kd.C_drewN ?_ _) | (with_reducible refine Kd.C_drew ?_))); (case side2 => exact (Kd.S_reads' HO570.out).2.1); rintro e w33 ⟨rfl, hb⟩; refine ⟨_, rfl, ?_⟩; have n0_ := Aside0.mk (Kd.S_below (by (with_reducible repeat (first | apply Kd.S_alloc | apply Kd.S_drewN | apply Kd.S_drew)); exact HO566.out) hb); have n1_ := Aside0.mk (Kd.S_below (by (with_reducible repeat (first | apply Kd.S_alloc | apply Kd.S_drewN | apply Kd.S_drew)); exact HO570.out) hb); have n2_ := Aside0.mk (below_step (by repeat (first | (with_reducible first | exact HB.out | apply below_alloc | apply pw_below_drewN | apply below_drew1) | exact HB.out)) hb); clear HO566; clear HO570; clear HB; have HO566 := n0_; have HO570 := n1_; have HB := n2_; clear n0_ n1_ n2_; (try clear hb); (try clear hb2); (try clear hk); (try clear hi)))
      go_ret
      exact ⟨by first | rfl | (simp [errW_none, errW_some] <;> rfl) | (simp [*, errW_none, errW_some] <;> rfl), by repeat (first | (with_reducible first | exact HB.out | apply below_alloc | apply pw_below_drewN | apply below_drew1) | exact HB.out)⟩
/-- A state of type 78 at block g of W; what its slices lead to came in by w0. -/
def IsS78 (w0 W : World) (g : Nat) (f0 : List Int) (f1 : Int) (f2 : Int) : Prop := ∃ A0 c0, W.heap[g]? = some (.cells #[.slice A0 f0.length c0, .int .i64 f1, .int .i64 f2] 78 (0, 0)) ∧ w0.heap.size ≤ g ∧ Kd.C (Kd.int .u8) w0 A0 f0.length f0
theorem IsS78.grown {w0 W : World} {g : Nat} {f0 : List Int} {f1 : Int} {f2 : Int} {W1 : World} {row : Option Nat} (h : IsS78 w0 W g f0 f1 f2) (hw : W.grownBy W1 row) (hne : some g ≠ row) : IsS78 w0 W1 g f0 f1 f2 := by
  obtain ⟨A0, c0, hb, hg, hr0⟩ := h
  exact ⟨A0, c0, blk_grown hb hw hne, hg, hr0⟩
theorem IsS78.below {w0 W : World} {g : Nat} {f0 : List Int} {f1 : Int} {f2 : Int} {W1 : World} (h : IsS78 w0 W g f0 f1 f2) (hw : Below W.heap.size W W1) : IsS78 w0 W1 g f0 f1 f2 := h.grown (grown_of_below hw none) (by simp)
theorem IsS78.alloc {w0 W : World} {g : Nat} {f0 : List Int} {f1 : Int} {f2 : Int} (h : IsS78 w0 W g f0 f1 f2) (o : Obj) : IsS78 w0 (W.alloc o) g f0 f1 f2 := h.below (below_alloc (Below.refl _ _) o)
theorem IsS78.drewN {w0 W : World} {g : Nat} {f0 : List Int} {f1 : Int} {f2 : Int} (h : IsS78 w0 W g f0 f1 f2) (m : Nat) : IsS78 w0 (W.drewN m) g f0 f1 f2 := h
theorem IsS78.drew {w0 W : World} {g : Nat} {f0 : List Int} {f1 : Int} {f2 : Int} (h : IsS78 w0 W g f0 f1 f2) : IsS78 w0 W.drew g f0 f1 f2 := h
end Go.Proofs.Ytoonamloihbjnaa.PA
/- ints -/
namespace Go.Proofs.Ytoonamloihbjnaa.PA
open Go.RowKit Go.Proofs.YtoonamloihbjnaaW.PrintWords Go.Proofs.YtoonamloihbjnaaW.PrintLast Go.Proofs.YtoonamloihbjnaaW.PrintMore
set_option linter.unusedVariables false
set_option linter.unusedSimpArgs false
theorem w64 {x : Int} (h0 : -9223372036854775808 ≤ x) (h1 : x < 9223372036854775808) : wrap64 x = x := by
  unfold wrap64
  omega
theorem rd_nat (l : List Int) (i : Nat) : rd l (i : Int) = l.getD i 0 := by simp [rd]
theorem rd_get {l : List Int} {i : Nat} (h : i < l.length) : rd l (i : Int) = l[i] := by simp [rd, List.getD_eq_getElem?_getD, h]
theorem ev_eq {α : Type} {g : Nat → Option α} {r r' : α} (h : Ev g r) (e : r = r') : Ev g r' := e ▸ h
theorem ev_const {α : Type} {a : Option α} {r : α} (h : a = some r) : Ev (fun _ => a) r := ⟨0, fun _ _ => h⟩
theorem take_step {l : List Int} {i : Nat} (h : i < l.length) : l.take (i + 1) = l.take i ++ [l[i]] := by
  rw [List.take_succ_eq_append_getElem h]
theorem toIntS_l (x0 : List Int) (hx : x0.length < 9223372036854775807) : ∀ (d i : Nat) (x3 : List Int), i + d = x0.length → x3.length = x0.length → x3.take i = x0.take i → Ev (fun k => laws_toIntS.l0 k x0 x3 (i : Int)) x0 := by
  intro d
  induction d with
  | zero =>
    intro i x3 hi hl ht
    have e : x3 = x0 := by
      have h1 : x3.take i = x3 := List.take_of_length_le (by omega)
      have h2 : x0.take i = x0 := List.take_of_length_le (by omega)
      rw [h1, h2] at ht
      exact ht
    refine Ev.step (f := fun _ => some x0) (fun k => ?_) (Ev.now _)
    simp only [laws_toIntS.l0]
    rw [if_neg (by omega), e]
  | succ d ih =>
    intro i x3 hi hl ht
    have hlt : i < x0.length := by omega
    refine Ev.step (f := fun k => laws_toIntS.l0 k x0 (x3.set i x0[i]) ((i + 1 : Nat) : Int)) (fun k => ?_) (ih (i + 1) (x3.set i x0[i]) (by omega) (by simpa using hl) ?_)
    · simp only [laws_toIntS.l0]
      rw [if_pos (by omega), if_pos (by omega), if_pos (by omega), rd_get hlt, w64 (by omega) (by omega)]
      simp
    · rw [take_step (by simpa using (by omega : i < x3.length)), take_step hlt, List.take_set_of_le (Nat.le_refl _), ht]
      simp
theorem toIntS_ev (l : List Int) (hl : l.length ≤ 1048576) : Ev (fun k => laws_toIntS.f k l) l := by
  have h := toIntS_l l (by omega) l.length 0 (List.replicate l.length 0) (by omega) (by simp) (by simp)
  refine Ev.congr (fun k => ?_) h
  unfold laws_toIntS.f
  rw [if_pos (by omega), if_pos (by simp; omega)]
  simp
theorem eqIntS_l (x0 x1 : List Int) (hx : x0.length < 9223372036854775807) (hl : x0.length = x1.length) : ∀ (d i : Nat), i + d = x0.length → x0.take i = x1.take i → Ev (fun k => laws_eqIntS.l0 k x0 x1 (i : Int)) (decide (x0 = x1)) := by
  intro d
  induction d with
  | zero =>
    intro i hi ht
    have e : x0 = x1 := by
      have h1 : x0.take i = x0 := List.take_of_length_le (by omega)
      have h2 : x1.take i = x1 := List.take_of_length_le (by omega)
      rw [h1, h2] at ht
      exact ht
    refine Ev.step (f := fun _ => some (decide (x0 = x1))) (fun k => ?_) (Ev.now _)
    simp only [laws_eqIntS.l0]
    rw [if_neg (by omega), decide_eq_true e]
  | succ d ih =>
    intro i hi ht
    have hlt : i < x0.length := by omega
    have hlt1 : i < x1.length := by omega
    by_cases he : x0[i] = x1[i]
    · refine Ev.step (f := fun k => laws_eqIntS.l0 k x0 x1 ((i + 1 : Nat) : Int)) (fun k => ?_) (ih (i + 1) (by omega) ?_)
      · simp only [laws_eqIntS.l0]
        rw [if_pos (by omega), if_pos (by omega), if_pos (by omega), rd_get hlt, rd_get hlt1, if_pos he, w64 (by omega) (by omega)]
        simp
      · rw [take_step hlt, take_step hlt1, ht, he]
    · have hne : ¬ x0 = x1 := fun e => he (by subst e; rfl)
      refine Ev.step (f := fun _ => some (decide (x0 = x1))) (fun k => ?_) (Ev.now _)
      simp only [laws_eqIntS.l0]
      rw [if_pos (by omega), if_pos (by omega), if_pos (by omega), rd_get hlt, rd_get hlt1, if_neg he, decide_eq_false hne]
theorem eqIntS_ev (l m : List Int) (hl : l.length < 9223372036854775807) : Ev (fun k => laws_eqIntS.f k l m) (decide (l = m)) := by
  by_cases h : l.length = m.length
  · refine Ev.congr (fun k => ?_) (eqIntS_l l m hl h l.length 0 (by omega) (by simp))
    unfold laws_eqIntS.f
    rw [if_pos (by omega)]
    rfl
  · have hne : ¬ l = m := fun e => h (by rw [e])
    refine ev_eq (ev_const (a := some false) rfl |>.congr (fun k => ?_)) (decide_eq_false hne).symm
    unfold laws_eqIntS.f
    rw [if_neg (by omega)]
theorem rdL_get {l : List (List Int)} {i : Nat} (h : i < l.length) : rd_L1 l (i : Int) = l[i] := by simp [rd_L1, List.getD_eq_getElem?_getD, h]
theorem takeL_step {l : List (List Int)} {i : Nat} (h : i < l.length) : l.take (i + 1) = l.take i ++ [l[i]] := by
  rw [List.take_succ_eq_append_getElem h]
theorem szIntSS_l (l : List (List Int)) (hl : l.length ≤ 1048576) (hr : ∀ r ∈ l, r.length ≤ 9223372036854775807) : ∀ (d i : Nat) (x : Int), i + d = l.length → 0 ≤ x → x ≤ 1048576 →
    ∃ r : Int, Ev (fun k => laws_szIntSS.l0 k l x (i : Int)) r ∧ (r < 0 ∨ ∀ j, i ≤ j → ∀ h : j < l.length, l[j].length ≤ 1048576) := by
  intro d
  induction d with
  | zero =>
    intro i x hi h0 h1
    refine ⟨x, Ev.step (f := fun _ => some x) (fun k => ?_) (Ev.now _), .inr (fun j h2 h3 => by omega)⟩
    simp only [laws_szIntSS.l0]
    rw [if_neg (by omega)]
  | succ d ih =>
    intro i x hi h0 h1
    have hlt : i < l.length := by omega
    have hrow := hr l[i] (List.getElem_mem hlt)
    by_cases c : x - (l[i].length : Int) < 0
    · refine ⟨-1, Ev.step (f := fun _ => some (-1)) (fun k => ?_) (Ev.now _), .inl (by omega)⟩
      simp only [laws_szIntSS.l0]
      rw [if_pos (by omega), if_pos (by omega), rdL_get hlt]
      unfold laws_szIntS.f
      rw [w64 (by omega) (by omega), if_pos c]
      rfl
    · obtain ⟨r, he, hd⟩ := ih (i + 1) (x - (l[i].length : Int)) (by omega) (by omega) (by omega)
      refine ⟨r, Ev.step (f := fun k => laws_szIntSS.l0 k l (x - (l[i].length : Int)) ((i + 1 : Nat) : Int)) (fun k => ?_) he, ?_⟩
      · simp only [laws_szIntSS.l0]
        rw [if_pos (by omega), if_pos (by omega), rdL_get hlt]
        unfold laws_szIntS.f
        rw [w64 (x := x - (l[i].length : Int)) (by omega) (by omega), if_neg c]
        simp only [Option.bind_some]
        rw [if_neg c, w64 (by omega) (by omega)]
        rfl
      · rcases hd with hd | hd
        · exact .inl hd
        · refine .inr (fun j h2 h3 => ?_)
          by_cases e : j = i
          · subst e; omega
          · exact hd j (by omega) h3
theorem szIntSS_ev (l : List (List Int)) (hl : l.length ≤ 9223372036854775807) (hr : ∀ r ∈ l, r.length ≤ 9223372036854775807) :
    ∃ r : Int, Ev (fun k => laws_szIntSS.f k l 1048576) r ∧ (r < 0 ∨ (l.length ≤ 1048576 ∧ ∀ x ∈ l, x.length ≤ 1048576)) := by
  by_cases c : (1048576 : Int) - (l.length : Int) < 0
  · refine ⟨-1, (Ev.now (-1)).congr (fun k => ?_), .inl (by omega)⟩
    unfold laws_szIntSS.f
    rw [w64 (by omega) (by omega), if_pos c]
  · obtain ⟨r, he, hd⟩ := szIntSS_l l (by omega) hr l.length 0 (1048576 - (l.length : Int)) (by omega) (by omega) (by omega)
    refine ⟨r, he.congr (fun k => ?_), ?_⟩
    · unfold laws_szIntSS.f
      rw [w64 (by omega) (by omega), if_neg c]
      rfl
    · rcases hd with hd | hd
      · exact .inl hd
      · refine .inr ⟨by omega, fun x hx => ?_⟩
        obtain ⟨j, hj, rfl⟩ := List.getElem_of_mem hx
        exact hd j (by omega) hj
theorem toIntSS_l (x0 : List (List Int)) (hx : x0.length ≤ 1048576) (hr : ∀ r ∈ x0, r.length ≤ 1048576) : ∀ (d i : Nat) (x3 : List (List Int)), i + d = x0.length → x3.length = x0.length → x3.take i = x0.take i → Ev (fun k => laws_toIntSS.l0 k x0 x3 (i : Int)) x0 := by
  intro d
  induction d with
  | zero =>
    intro i x3 hi hl ht
    have e : x3 = x0 := by
      have h1 : x3.take i = x3 := List.take_of_length_le (by omega)
      have h2 : x0.take i = x0 := List.take_of_length_le (by omega)
      rw [h1, h2] at ht
      exact ht
    refine Ev.step (f := fun _ => some x0) (fun k => ?_) (Ev.now _)
    simp only [laws_toIntSS.l0]
    rw [if_neg (by omega), e]
  | succ d ih =>
    intro i x3 hi hl ht
    have hlt : i < x0.length := by omega
    have hnext := ih (i + 1) (x3.set i x0[i]) (by omega) (by simpa using hl) (by
      rw [takeL_step (by simpa using (by omega : i < x3.length)), takeL_step hlt, List.take_set_of_le (Nat.le_refl _), ht]
      simp)
    refine Ev.step (fun k => rfl) ?_
    simp only [laws_toIntSS.l0]
    refine Ev.congr (fun k => (if_pos (by omega)).trans (if_pos (by omega))) ?_
    rw [rdL_get hlt]
    refine Ev.bind (toIntS_ev x0[i] (hr _ (List.getElem_mem hlt))) ?_
    refine Ev.congr (fun k => (if_pos (by omega)).trans ?_) hnext
    rw [w64 (by omega) (by omega)]
    simp
theorem toIntSS_ev (l : List (List Int)) (hl : l.length ≤ 1048576) (hr : ∀ r ∈ l, r.length ≤ 1048576) : Ev (fun k => laws_toIntSS.f k l) l := by
  have h := toIntSS_l l hl hr l.length 0 (List.replicate l.length []) (by omega) (by simp) (by simp)
  refine Ev.congr (fun k => ?_) h
  unfold laws_toIntSS.f
  rw [if_pos (by omega), if_pos (by simp; omega)]
  simp
theorem eqIntSS_l (x0 x1 : List (List Int)) (hx : x0.length < 9223372036854775807) (hr : ∀ r ∈ x0, r.length < 9223372036854775807) (hl : x0.length = x1.length) : ∀ (d i : Nat), i + d = x0.length → x0.take i = x1.take i → Ev (fun k => laws_eqIntSS.l0 k x0 x1 (i : Int)) (decide (x0 = x1)) := by
  intro d
  induction d with
  | zero =>
    intro i hi ht
    have e : x0 = x1 := by
      have h1 : x0.take i = x0 := List.take_of_length_le (by omega)
      have h2 : x1.take i = x1 := List.take_of_length_le (by omega)
      rw [h1, h2] at ht
      exact ht
    refine Ev.step (f := fun _ => some (decide (x0 = x1))) (fun k => ?_) (Ev.now _)
    simp only [laws_eqIntSS.l0]
    rw [if_neg (by omega), decide_eq_true e]
  | succ d ih =>
    intro i hi ht
    have hlt : i < x0.length := by omega
    have hlt1 : i < x1.length := by omega
    refine Ev.step (fun k => rfl) ?_
    simp only [laws_eqIntSS.l0]
    refine Ev.congr (fun k => (if_pos (by omega)).trans ((if_pos (by omega)).trans (if_pos (by omega)))) ?_
    rw [rdL_get hlt, rdL_get hlt1]
    refine Ev.bind (eqIntS_ev x0[i] x1[i] (hr _ (List.getElem_mem hlt))) ?_
    by_cases he : x0[i] = x1[i]
    · refine Ev.congr (fun k => (if_pos (by simpa using he)).trans ?_) (ih (i + 1) (by omega) ?_)
      · rw [w64 (by omega) (by omega)]
        rfl
      · rw [takeL_step hlt, takeL_step hlt1, ht, he]
    · have hne : ¬ x0 = x1 := fun e => he (by subst e; rfl)
      rw [decide_eq_false hne]
      exact Ev.congr (fun k => if_neg (by simpa using he)) (Ev.now _)
theorem eqIntSS_ev (l m : List (List Int)) (hl : l.length < 9223372036854775807) (hr : ∀ r ∈ l, r.length < 9223372036854775807) : Ev (fun k => laws_eqIntSS.f k l m) (decide (l = m)) := by
  by_cases h : l.length = m.length
  · refine Ev.congr (fun k => ?_) (eqIntSS_l l m hl hr h l.length 0 (by omega) (by simp))
    unfold laws_eqIntSS.f
    rw [if_pos (by omega)]
    rfl
  · have hne : ¬ l = m := fun e => h (by rw [e])
    refine ev_eq (ev_const (a := some false) rfl |>.congr (fun k => ?_)) (decide_eq_false hne).symm
    unfold laws_eqIntSS.f
    rw [if_neg (by omega)]
theorem l01In_eq (a b c : Int) : spec_l01In.f a b c = some (decide (b ≤ a ∧ a ≤ c)) := by
  unfold spec_l01In.f
  by_cases h : a ≥ b
  · rw [if_pos h]; simp [h]
  · rw [if_neg h]; simp [h]
end Go.Proofs.Ytoonamloihbjnaa.PA
/- works -/
namespace Go.Proofs.Ytoonamloihbjnaa.PA
open Go.RowKit Go.Proofs.YtoonamloihbjnaaW.PrintWords Go.Proofs.YtoonamloihbjnaaW.PrintLast Go.Proofs.YtoonamloihbjnaaW.PrintMore
set_option linter.unusedVariables false
set_option linter.unusedSimpArgs false
structure WorkOk (r : List Int) : Prop where
  len : r.length = 2
  w1 : 1 ≤ rd r 0
  w2 : rd r 0 ≤ 100
  h1 : 0 ≤ rd r 1
  h2 : rd r 1 ≤ 1000
theorem badWork_false {r : List Int} : badWork r = false ↔ WorkOk r := by
  unfold badWork
  rw [Bool.not_eq_false', decide_eq_true_iff]
  exact ⟨fun ⟨a, b, c, d, e⟩ => ⟨a, b, c, d, e⟩, fun ⟨a, b, c, d, e⟩ => ⟨a, b, c, d, e⟩⟩
theorem worksOk_iff {l : List (List Int)} : worksOk l = true ↔ l.length ≤ 7 ∧ ∀ r ∈ l, WorkOk r := by
  unfold worksOk
  rw [Bool.and_eq_true, decide_eq_true_iff, Bool.not_eq_true', List.any_eq_false]
  constructor
  · rintro ⟨a, b⟩
    exact ⟨a, fun r hr => badWork_false.1 (by simpa using b r hr)⟩
  · rintro ⟨a, b⟩
    exact ⟨a, fun r hr => by simpa using badWork_false.2 (b r hr)⟩
theorem spec_WorksOk_l (l : List (List Int)) (hl : l.length ≤ 7) : ∀ (d i : Nat), i + d = l.length → Ev (fun k => spec_WorksOk.l0 k l (l.length : Int) (i : Int)) (!((l.drop i).any badWork)) := by
  intro d
  induction d with
  | zero =>
    intro i hi
    refine Ev.step (f := fun _ => some (!((l.drop i).any badWork))) (fun k => ?_) (Ev.now _)
    simp only [spec_WorksOk.l0]
    rw [if_neg (by omega), List.drop_of_length_le (by omega)]
    rfl
  | succ d ih =>
    intro i hi
    have hlt : i < l.length := by omega
    have hd : (l.drop i).any badWork = (badWork l[i] || (l.drop (i + 1)).any badWork) := by rw [List.drop_eq_getElem_cons hlt, List.any_cons]
    rw [hd]
    cases c : badWork l[i] with
    | false =>
      rw [Bool.false_or]
      refine Ev.step (f := fun k => spec_WorksOk.l0 k l (l.length : Int) ((i + 1 : Nat) : Int)) (fun k => ?_) (ih (i + 1) (by omega))
      obtain ⟨c1, c2, c3, c4, c5⟩ := badWork_false.1 c
      simp only [spec_WorksOk.l0, l01In_eq, Option.bind_some]
      rw [if_pos (by omega), if_pos (by omega), if_pos (by omega), rdL_get hlt, if_pos (by omega), if_pos (by omega), if_pos (by simpa using ⟨c2, c3⟩), if_pos (by omega), if_pos (by simpa using ⟨c4, c5⟩), w64 (by omega) (by omega)]
      rfl
    | true =>
      rw [Bool.true_or]
      refine Ev.step (f := fun k => some false) (fun k => ?_) (Ev.now _)
      have hc : ¬ WorkOk l[i] := fun z => by rw [badWork_false.2 z] at c; cases c
      simp only [spec_WorksOk.l0, l01In_eq, Option.bind_some]
      rw [if_pos (by omega), if_pos (by omega), if_pos (by omega), rdL_get hlt]
      by_cases e1 : l[i].length = 2
      · rw [if_pos (by omega), if_pos (by omega)]
        by_cases e2 : 1 ≤ rd l[i] 0 ∧ rd l[i] 0 ≤ 100
        · rw [if_pos (by simpa using e2), if_pos (by omega)]
          by_cases e3 : 0 ≤ rd l[i] 1 ∧ rd l[i] 1 ≤ 1000
          · exact absurd ⟨e1, e2.1, e2.2, e3.1, e3.2⟩ hc
          · rw [if_neg (by simpa using e3)]
        · rw [if_neg (by simpa using e2)]
      · rw [if_neg (by omega)]
theorem spec_WorksOk_ev (l : List (List Int)) : Ev (fun k => spec_WorksOk.f k l) (worksOk l) := by
  unfold spec_WorksOk.f
  by_cases c : l.length ≤ 7
  · refine Ev.congr (fun k => if_neg (by omega)) (ev_eq (spec_WorksOk_l l c l.length 0 (by omega)) ?_)
    unfold worksOk
    rw [decide_eq_true c]
    rfl
  · refine ev_eq (Ev.congr (fun k => if_pos (by omega)) (Ev.now false)) ?_
    unfold worksOk
    rw [decide_eq_false c]
    rfl
theorem impl_WorksOk_ev (l : List (List Int)) : Ev (fun _ => impl_WorksOk.f l) (worksOk l) := ev_const rfl
theorem work_at {ws : List (List Int)} (h : worksOk ws = true) {i : Int} (h0 : 0 ≤ i) (h1 : i ≤ (ws.length : Int) - 1) : WorkOk (rd_L1 ws i) := by
  have hj : i.toNat < ws.length := by omega
  have : rd_L1 ws i = ws[i.toNat] := by simp [rd_L1, List.getD_eq_getElem?_getD, hj]
  rw [this]
  exact (worksOk_iff.1 h).2 _ (List.getElem_mem hj)
end Go.Proofs.Ytoonamloihbjnaa.PA
/- orders of works -/
namespace Go.Proofs.Ytoonamloihbjnaa.PA
open Go.RowKit Go.Proofs.YtoonamloihbjnaaW.PrintWords Go.Proofs.YtoonamloihbjnaaW.PrintLast Go.Proofs.YtoonamloihbjnaaW.PrintMore
set_option linter.unusedVariables false
set_option linter.unusedSimpArgs false
theorem wraps_i64n (n : Int) (h0 : 0 ≤ n) (h1 : n < 2 ^ 63) : IntKind.i64.wrap n = n := by
  rw [IntKind.wrap_i64]
  omega
theorem and_nat (a b : Nat) (ha : a < 2 ^ 63) (hb : b < 2 ^ 63) : Go.bits .and .i64 (a : Int) (b : Int) = ((a &&& b : Nat) : Int) :=
  (bits_nat .i64 63 (by decide) wraps_i64n a b ha hb).1
theorem shl_one (e : Nat) (he : e < 62) : shl .i64 1 (e : Int) = ((2 ^ e : Nat) : Int) := by
  unfold shl
  rw [Int.toNat_natCast, Nat.min_eq_left (by simp [IntKind.bits]; omega)]
  have hp : (2 : Nat) ^ e < 2 ^ 62 := Nat.pow_lt_pow_right (by omega) he
  rw [wraps_i64n]
  · simp
  · simp
    exact_mod_cast Nat.zero_le _
  · simp
    have : ((2 ^ e : Nat) : Int) < ((2 ^ 62 : Nat) : Int) := Int.ofNat_lt.2 hp
    simp at this
    omega
theorem shr_nat (m e : Nat) (he : e < 64) : shr .i64 (m : Int) (e : Int) = ((m >>> e : Nat) : Int) := by
  unfold shr
  rw [Int.toNat_natCast, Nat.min_eq_left (by simp [IntKind.bits]; omega), Nat.shiftRight_eq_div_pow]
  simp
theorem bit_nat (m e : Nat) (hm : m < 2 ^ 63) (he : e < 64) : Go.bits .and .i64 (shr .i64 (m : Int) (e : Int)) 1 = if m.testBit e then 1 else 0 := by
  rw [shr_nat m e he]
  have h1 : m >>> e < 2 ^ 63 := by
    rw [Nat.shiftRight_eq_div_pow]
    exact Nat.lt_of_le_of_lt (Nat.div_le_self _ _) hm
  have := and_nat (m >>> e) 1 h1 (by decide)
  rw [show ((1 : Nat) : Int) = 1 from rfl] at this
  rw [this, Nat.testBit]
  rw [Nat.and_one_is_mod, Nat.one_and_eq_mod_two]
  rcases Nat.mod_two_eq_zero_or_one (m >>> e) with h | h <;> simp [h]
theorem or_add (m e : Nat) (h : m.testBit e = false) : m ||| 2 ^ e = m + 2 ^ e := by
  have hb : m % 2 ^ (e + 1) < 2 ^ e := by
    rw [Nat.mod_pow_succ]
    have h1 : m / 2 ^ e % 2 = 0 := by
      rw [Nat.testBit, Nat.shiftRight_eq_div_pow, Nat.one_and_eq_mod_two] at h
      simpa using h
    rw [h1]
    simpa using Nat.mod_lt m (Nat.two_pow_pos e)
  have hm := Nat.div_add_mod m (2 ^ (e + 1))
  have hp : (2 : Nat) ^ (e + 1) = 2 ^ e + 2 ^ e := by rw [Nat.pow_succ]; omega
  have e1 := Nat.two_pow_add_eq_or_of_lt (i := e + 1) (b := m % 2 ^ (e + 1)) (by omega) (m / 2 ^ (e + 1))
  have e2 := Nat.two_pow_add_eq_or_of_lt (i := e + 1) (b := m % 2 ^ (e + 1) + 2 ^ e) (by omega) (m / 2 ^ (e + 1))
  have e3 := Nat.or_two_pow_eq_add_of_lt hb
  rw [← e3] at e2
  calc m ||| 2 ^ e = (2 ^ (e + 1) * (m / 2 ^ (e + 1)) ||| m % 2 ^ (e + 1)) ||| 2 ^ e := by rw [← e1, hm]
    _ = 2 ^ (e + 1) * (m / 2 ^ (e + 1)) ||| (m % 2 ^ (e + 1) ||| 2 ^ e) := by rw [Nat.or_assoc]
    _ = m + 2 ^ e := by rw [← e2, e3]; omega
def upto (n : Nat) : List Int := (List.range n).map fun i : Nat => (i : Int)
theorem upto_len (n : Nat) : (upto n).length = n := by simp [upto]
theorem upto_succ (n : Nat) : upto (n + 1) = upto n ++ [(n : Int)] := by
  unfold upto
  rw [List.range_succ, List.map_append]
  rfl
theorem mem_upto {n : Nat} {x : Int} : x ∈ upto n ↔ 0 ≤ x ∧ x ≤ (n : Int) - 1 := by
  unfold upto
  rw [List.mem_map]
  constructor
  · rintro ⟨i, hi, rfl⟩
    have := List.mem_range.1 hi
    omega
  · rintro ⟨h1, h2⟩
    exact ⟨x.toNat, List.mem_range.2 (by omega), by omega⟩
theorem upto_nodup (n : Nat) : (upto n).Nodup := by
  have h : (List.range n).Pairwise fun (a b : Nat) => (a : Int) ≠ (b : Int) := List.pairwise_lt_range.imp (fun h => by omega)
  exact List.pairwise_map.2 h
theorem up_of_sorted : ∀ (s : List Int) (a : Int), s.Pairwise (· < ·) → (∀ x ∈ s, a ≤ x ∧ x < a + (s.length : Int)) → s = (List.range s.length).map fun i : Nat => a + (i : Int) := by
  intro s
  induction s with
  | nil => intro a _ _; rfl
  | cons x t ih =>
    intro a hp hb
    obtain ⟨h1, h2⟩ := List.pairwise_cons.1 hp
    have hx := hb x List.mem_cons_self
    simp only [List.length_cons] at hx hb
    have ht := ih (a + 1) h2 (fun y hy => by have h3 := h1 y hy; have h4 := hb y (List.mem_cons_of_mem _ hy); omega)
    have e : x = a := by
      by_cases h0 : t.length = 0
      · omega
      · have hm : a + 1 ∈ t := by
          rw [ht, List.mem_map]
          exact ⟨0, List.mem_range.2 (by omega), by simp⟩
        have := h1 _ hm
        omega
    rw [List.length_cons, List.range_succ_eq_map, List.map_cons, List.map_map, e]
    congr 1
    · simp
    · refine ht.trans (List.map_congr_left fun i _ => ?_)
      simp only [Function.comp]
      omega
theorem sorted_iff (o : List Int) (n : Nat) : (o.mergeSort fun x y => decide (x ≤ y)) = upto n ↔ (o.length = n ∧ (∀ x ∈ o, 0 ≤ x ∧ x ≤ (n : Int) - 1) ∧ o.Nodup) := by
  have hp := List.mergeSort_perm o fun x y => decide (x ≤ y)
  have hs : (o.mergeSort fun x y => decide (x ≤ y)).Pairwise fun a b => decide (a ≤ b) = true :=
    List.pairwise_mergeSort (le := fun x y : Int => decide (x ≤ y)) (fun a b c h1 h2 => decide_eq_true (by have := of_decide_eq_true h1; have := of_decide_eq_true h2; omega)) (fun a b => by
      by_cases h : a ≤ b
      · simp [h]
      · simp [show b ≤ a by omega]) o
  constructor
  · intro h
    rw [h] at hp
    refine ⟨by rw [← hp.length_eq, upto_len], fun x hx => mem_upto.1 (hp.mem_iff.2 hx), hp.nodup_iff.1 (upto_nodup n)⟩
  · rintro ⟨h1, h2, h3⟩
    have h4 : (o.mergeSort fun x y => decide (x ≤ y)).Pairwise (· < ·) := (hs.and (hp.nodup_iff.2 h3)).imp (fun {a b} h => by have h5 := of_decide_eq_true h.1; have h6 := h.2; omega)
    have hl : (o.mergeSort fun x y => decide (x ≤ y)).length = n := by rw [List.length_mergeSort, h1]
    have h5 := up_of_sorted _ 0 h4 (fun x hx => by rw [hl]; have := h2 x (hp.mem_iff.1 hx); omega)
    rw [h5, hl]
    unfold upto
    exact List.map_congr_left fun i _ => by omega
def ordL (n : Nat) : Nat → List Int → Bool
  | _, [] => true
  | used, i :: s => if 0 ≤ i ∧ i ≤ (n : Int) - 1 ∧ used.testBit i.toNat = false then ordL n (used + 2 ^ i.toNat) s else false
theorem used_lt {used i : Nat} (h : used < 4096) (hi : i < 12) (ht : used.testBit i = false) : used + 2 ^ i < 4096 ∧ used ||| 2 ^ i = used + 2 ^ i := by
  have h1 := or_add used i ht
  have h2 : used ||| 2 ^ i < 2 ^ 12 := Nat.or_lt_two_pow h (Nat.pow_lt_pow_right (by omega) hi)
  exact ⟨by omega, h1⟩
theorem ordL_iff (n : Nat) (hn : n ≤ 12) : ∀ (s : List Int) (used : Nat), used < 4096 → (ordL n used s = true ↔ (∀ x ∈ s, (0 ≤ x ∧ x ≤ (n : Int) - 1) ∧ used.testBit x.toNat = false) ∧ s.Nodup) := by
  intro s
  induction s with
  | nil => intro used _; simp [ordL]
  | cons i s ih =>
    intro used hu
    simp only [ordL]
    by_cases c : 0 ≤ i ∧ i ≤ (n : Int) - 1 ∧ used.testBit i.toNat = false
    · rw [if_pos c]
      obtain ⟨h1, h2⟩ := used_lt hu (show i.toNat < 12 by omega) c.2.2
      rw [ih _ h1, ← h2, List.nodup_cons]
      constructor
      · rintro ⟨h3, h4⟩
        refine ⟨fun x hx => ?_, fun hm => ?_, h4⟩
        · rcases List.mem_cons.1 hx with rfl | hx
          · exact ⟨⟨c.1, c.2.1⟩, c.2.2⟩
          · obtain ⟨h5, h6⟩ := h3 x hx
            rw [Nat.testBit_or, Bool.or_eq_false_iff] at h6
            exact ⟨h5, h6.1⟩
        · have h6 := (h3 i hm).2
          rw [Nat.testBit_or, Bool.or_eq_false_iff, Nat.testBit_two_pow] at h6
          simp at h6
      · rintro ⟨h3, h4, h5⟩
        refine ⟨fun x hx => ?_, h5⟩
        obtain ⟨h6, h7⟩ := h3 x (List.mem_cons_of_mem _ hx)
        refine ⟨h6, ?_⟩
        rw [Nat.testBit_or, Bool.or_eq_false_iff, Nat.testBit_two_pow]
        refine ⟨h7, decide_eq_false fun e => h4 ?_⟩
        have : x = i := by omega
        rwa [← this]
    · rw [if_neg c]
      constructor
      · intro h; cases h
      · rintro ⟨h3, _⟩
        obtain ⟨h4, h5⟩ := h3 i List.mem_cons_self
        exact absurd ⟨h4.1, h4.2, h5⟩ c
def workOrd (ws : List (List Int)) (o : List Int) : Bool := worksOk ws && decide ((o.mergeSort fun x y => decide (x ≤ y)) = upto ws.length)
theorem workOrd_iff {ws : List (List Int)} {o : List Int} : workOrd ws o = true ↔ worksOk ws = true ∧ o.length = ws.length ∧ (∀ x ∈ o, 0 ≤ x ∧ x ≤ (ws.length : Int) - 1) ∧ o.Nodup := by
  unfold workOrd
  rw [Bool.and_eq_true, decide_eq_true_iff, sorted_iff]
theorem pow12 {i : Nat} (h : i < 12) : (0 : Int) ≤ ((2 ^ i : Nat) : Int) ∧ ((2 ^ i : Nat) : Int) ≤ 2048 ∧ 2 ^ i ≤ 2048 := by
  have h1 : (2 : Nat) ^ i ≤ 2 ^ 11 := Nat.pow_le_pow_right (by omega) (by omega)
  have h2 : (2 : Nat) ^ 11 = 2048 := rfl
  rw [h2] at h1
  exact ⟨Int.natCast_nonneg _, by omega, h1⟩
theorem spec_ord_l (ws : List (List Int)) (o : List Int) (hw : ws.length ≤ 7) (ho : o.length ≤ 1048577) : ∀ (d i used : Nat), i + d = o.length → used < 4096 →
    Ev (fun k => spec_WorkOrderOk.l0 k ws (used : Int) o (o.length : Int) (i : Int)) (ordL ws.length used (o.drop i)) := by
  intro d
  induction d with
  | zero =>
    intro i used hi hu
    refine Ev.step (f := fun _ => some (ordL ws.length used (o.drop i))) (fun k => ?_) (Ev.now _)
    simp only [spec_WorkOrderOk.l0]
    rw [if_neg (by omega), List.drop_of_length_le (by omega)]
    rfl
  | succ d ih =>
    intro i used hi hu
    have hlt : i < o.length := by omega
    rw [List.drop_eq_getElem_cons hlt]
    simp only [ordL]
    by_cases c1 : 0 ≤ o[i] ∧ o[i] ≤ (ws.length : Int) - 1
    · by_cases c2 : used.testBit o[i].toNat = false
      · rw [if_pos ⟨c1.1, c1.2, c2⟩]
        have hv := used_lt hu (show o[i].toNat < 12 by omega) c2
        have hp := pow12 (show o[i].toNat < 12 by omega)
        have hsh : shl .i64 1 o[i] = ((2 ^ o[i].toNat : Nat) : Int) := by
          have := shl_one o[i].toNat (by omega)
          rw [Int.toNat_of_nonneg c1.1] at this
          exact this
        have hbit : Go.bits .and .i64 (shr .i64 (used : Int) o[i]) 1 = 0 := by
          have := bit_nat used o[i].toNat (by omega) (by omega)
          rw [Int.toNat_of_nonneg c1.1, c2] at this
          exact this
        refine Ev.step (f := fun k => spec_WorkOrderOk.l0 k ws ((used + 2 ^ o[i].toNat : Nat) : Int) o (o.length : Int) ((i + 1 : Nat) : Int)) (fun k => ?_) (ih (i + 1) _ (by omega) hv.1)
        simp only [spec_WorkOrderOk.l0, l01In_eq, Option.bind_some]
        rw [if_pos (by omega), if_pos (by omega), if_pos (by omega), rd_get hlt, w64 (x := (ws.length : Int) - 1) (by omega) (by omega), if_pos (by simpa using c1), if_pos c1.1, hbit, if_neg (by omega), hsh, w64 (x := (used : Int) + ((2 ^ o[i].toNat : Nat) : Int)) (by omega) (by omega), w64 (by omega) (by omega)]
        rw [Int.natCast_add, Int.natCast_add]
        rfl
      · rw [if_neg (fun z => c2 z.2.2)]
        have hbit : Go.bits .and .i64 (shr .i64 (used : Int) o[i]) 1 = 1 := by
          have := bit_nat used o[i].toNat (by omega) (by omega)
          rw [Int.toNat_of_nonneg c1.1] at this
          rw [this, if_pos (by simpa using c2)]
        refine Ev.step (f := fun k => some false) (fun k => ?_) (Ev.now _)
        simp only [spec_WorkOrderOk.l0, l01In_eq, Option.bind_some]
        rw [if_pos (by omega), if_pos (by omega), if_pos (by omega), rd_get hlt, w64 (x := (ws.length : Int) - 1) (by omega) (by omega), if_pos (by simpa using c1), if_pos c1.1, hbit, if_pos rfl]
    · rw [if_neg (fun z => c1 ⟨z.1, z.2.1⟩)]
      refine Ev.step (f := fun k => some false) (fun k => ?_) (Ev.now _)
      simp only [spec_WorkOrderOk.l0, l01In_eq, Option.bind_some]
      rw [if_pos (by omega), if_pos (by omega), if_pos (by omega), rd_get hlt, w64 (x := (ws.length : Int) - 1) (by omega) (by omega), if_neg (by simpa using c1)]
theorem spec_WorkOrd_ev (ws : List (List Int)) (o : List Int) (ho : o.length ≤ 1048576) : Ev (fun k => spec_WorkOrderOk.f k ws o) (workOrd ws o) := by
  unfold spec_WorkOrderOk.f
  refine Ev.bind (spec_WorksOk_ev ws) ?_
  have no : Ev (fun k => spec_WorkOrderOk.j0 k ws o true) false := by
    refine Ev.step (f := fun _ => some false) (fun k => ?_) (Ev.now _)
    simp only [spec_WorkOrderOk.j0]
    rw [if_pos trivial]
  by_cases c : worksOk ws = true
  · refine Ev.congr (fun k => if_pos c) ?_
    have hw := (worksOk_iff.1 c).1
    by_cases c1 : o.length = ws.length
    · rw [show ((o.length : Int) != (ws.length : Int)) = false by simp [c1]]
      refine Ev.step (f := fun k => spec_WorkOrderOk.l0 k ws ((0 : Nat) : Int) o (o.length : Int) ((0 : Nat) : Int)) (fun k => ?_) (ev_eq (spec_ord_l ws o hw (by omega) o.length 0 0 (by omega) (by omega)) ?_)
      · simp only [spec_WorkOrderOk.j0]
        rw [if_neg (by simp)]
        rfl
      · rw [List.drop_zero, Bool.eq_iff_iff, workOrd_iff, ordL_iff _ (by omega) _ _ (by omega)]
        simp [c, c1]
    · rw [show ((o.length : Int) != (ws.length : Int)) = true by simp; omega]
      refine ev_eq no ?_
      cases h : workOrd ws o with
      | false => rfl
      | true => exact absurd (workOrd_iff.1 h).2.1 c1
  · refine Ev.congr (fun k => if_neg c) (ev_eq no ?_)
    unfold workOrd
    simp only [Bool.not_eq_true] at c
    rw [c]
    rfl
theorem orderOf_l (n : Nat) (hn : n ≤ 7) : ∀ (m i : Nat), i + m = n → Ev (fun k => impl_orderOf.l0 k (upto i) (n : Int) (i : Int)) (upto n) := by
  intro m
  induction m with
  | zero =>
    intro i hi
    obtain rfl : i = n := by omega
    refine Ev.step (f := fun _ => some (upto i)) (fun k => ?_) (Ev.now _)
    simp only [impl_orderOf.l0]
    rw [if_neg (by omega)]
  | succ m ih =>
    intro i hi
    have hl := upto_len i
    refine Ev.step (f := fun k => impl_orderOf.l0 k (upto (i + 1)) (n : Int) ((i + 1 : Nat) : Int)) (fun k => ?_) (ih (i + 1) (by omega))
    simp only [impl_orderOf.l0]
    rw [if_pos (by omega), if_pos (by omega), w64 (by omega) (by omega), upto_succ]
    simp
theorem orderOf_ev (n : Nat) (hn : n ≤ 7) : Ev (fun k => impl_orderOf.f k (n : Int)) (upto n) := orderOf_l n hn n 0 (by omega)
theorem equal_l (x0 x1 : List Int) (hx : x0.length < 9223372036854775807) (hl : x0.length = x1.length) : ∀ (d i : Nat), i + d = x0.length → x0.take i = x1.take i → Ev (fun k => slices_Equal_int_int.l0 k x0 x1 (x0.length : Int) (i : Int)) (decide (x0 = x1)) := by
  intro d
  induction d with
  | zero =>
    intro i hi ht
    have e : x0 = x1 := by
      have h1 : x0.take i = x0 := List.take_of_length_le (by omega)
      have h2 : x1.take i = x1 := List.take_of_length_le (by omega)
      rw [h1, h2] at ht
      exact ht
    refine Ev.step (f := fun _ => some (decide (x0 = x1))) (fun k => ?_) (Ev.now _)
    simp only [slices_Equal_int_int.l0]
    rw [if_neg (by omega), decide_eq_true e]
  | succ d ih =>
    intro i hi ht
    have hlt : i < x0.length := by omega
    have hlt1 : i < x1.length := by omega
    by_cases he : x0[i] = x1[i]
    · refine Ev.step (f := fun k => slices_Equal_int_int.l0 k x0 x1 (x0.length : Int) ((i + 1 : Nat) : Int)) (fun k => ?_) (ih (i + 1) (by omega) ?_)
      · simp only [slices_Equal_int_int.l0]
        rw [if_pos (by omega), if_pos (by omega), if_pos (by omega), if_pos (by omega), rd_get hlt, rd_get hlt1, if_pos he, w64 (by omega) (by omega)]
        simp
      · rw [take_step hlt, take_step hlt1, ht, he]
    · have hne : ¬ x0 = x1 := fun e => he (by subst e; rfl)
      refine Ev.step (f := fun _ => some (decide (x0 = x1))) (fun k => ?_) (Ev.now _)
      simp only [slices_Equal_int_int.l0]
      rw [if_pos (by omega), if_pos (by omega), if_pos (by omega), if_pos (by omega), rd_get hlt, rd_get hlt1, if_neg he, decide_eq_false hne]
theorem equal_ev (l m : List Int) (hl : l.length < 9223372036854775807) : Ev (fun k => slices_Equal_int_int.f k l m) (decide (l = m)) := by
  unfold slices_Equal_int_int.f
  by_cases h : l.length = m.length
  · exact Ev.congr (fun k => if_pos (by omega)) (equal_l l m hl h l.length 0 (by omega) (by simp))
  · refine ev_eq (Ev.congr (fun k => if_neg (by omega)) (Ev.now false)) (decide_eq_false (fun e => h (by rw [e]))).symm
theorem impl_WorkOrd_ev (ws : List (List Int)) (o : List Int) (ho : o.length ≤ 1048576) : Ev (fun k => impl_WorkOrderOk.f k ws o) (workOrd ws o) := by
  unfold impl_WorkOrderOk.f workOrd
  refine Ev.bind (ev_const (show slices_Clone_int_int.f o = some o from if_pos (by omega))) ?_
  refine Ev.bind (ev_const (show slices_Sort_int_int.f o = some (o.mergeSort fun x y => decide (x ≤ y)) from if_pos (by omega))) ?_
  refine Ev.bind (impl_WorksOk_ev ws) ?_
  by_cases c : worksOk ws = true
  · refine Ev.congr (fun k => if_pos c) ?_
    refine Ev.bind (orderOf_ev ws.length (worksOk_iff.1 c).1) ?_
    refine ev_eq (Ev.bind (equal_ev _ _ (by rw [List.length_mergeSort]; omega)) (Ev.now _)) ?_
    rw [c, Bool.true_and]
  · refine ev_eq (Ev.congr (fun k => if_neg c) (Ev.now _)) ?_
    simp only [Bool.not_eq_true] at c
    rw [c]
    rfl
end Go.Proofs.Ytoonamloihbjnaa.PA
/- ends, lateness -/
namespace Go.Proofs.Ytoonamloihbjnaa.PA
open Go.RowKit Go.Proofs.YtoonamloihbjnaaW.PrintWords Go.Proofs.YtoonamloihbjnaaW.PrintLast Go.Proofs.YtoonamloihbjnaaW.PrintMore
set_option linter.unusedVariables false
set_option linter.unusedSimpArgs false
def endsL (ws : List (List Int)) : Int → List Int → List Int → List Int
  | _, out, [] => out
  | at_, out, i :: o => endsL ws (at_ + rd (rd_L1 ws i) 0) (out.set i.toNat (at_ + rd (rd_L1 ws i) 0)) o
def endsOf (ws : List (List Int)) (o : List Int) : List Int := endsL ws 0 (List.replicate ws.length 0) o
theorem endsL_len (ws : List (List Int)) : ∀ (o : List Int) (a : Int) (out : List Int), (endsL ws a out o).length = out.length := by
  intro o
  induction o with
  | nil => intro a out; rfl
  | cons i o ih => intro a out; simp only [endsL]; rw [ih]; simp
theorem endsL_mem {ws : List (List Int)} (h : worksOk ws = true) : ∀ (o : List Int) (a : Int) (out : List Int), (∀ x ∈ o, 0 ≤ x ∧ x ≤ (ws.length : Int) - 1) → o.length ≤ 7 → 0 ≤ a → a + 100 * (o.length : Int) ≤ 700 → (∀ x ∈ out, 0 ≤ x ∧ x ≤ 700) → ∀ x ∈ endsL ws a out o, 0 ≤ x ∧ x ≤ 700 := by
  intro o
  induction o with
  | nil => intro a out _ _ _ _ hb; exact hb
  | cons i o ih =>
    intro a out ho hl h0 h1 hb
    have hi := ho i List.mem_cons_self
    have hw := work_at h hi.1 hi.2
    have w1 := hw.w1
    have w2 := hw.w2
    simp only [List.length_cons] at hl h1
    simp only [endsL]
    refine ih _ _ (fun x hx => ho x (List.mem_cons_of_mem _ hx)) (by omega) (by omega) (by omega) (fun x hx => ?_)
    rcases List.mem_or_eq_of_mem_set hx with hx | rfl
    · exact hb x hx
    · omega
theorem spec_ends_l {ws : List (List Int)} (h : worksOk ws = true) (o : List Int) (ho : ∀ x ∈ o, 0 ≤ x ∧ x ≤ (ws.length : Int) - 1) (hl : o.length ≤ 7) : ∀ (m i : Nat) (a : Int) (out : List Int), i + m = o.length → out.length = ws.length → 0 ≤ a → a ≤ 100 * (i : Int) →
    Ev (fun k => spec_l24Ends.l0 k ws out a o (o.length : Int) (i : Int)) (endsL ws a out (o.drop i)) := by
  intro m
  induction m with
  | zero =>
    intro i a out hi hout h0 h1
    refine Ev.step (f := fun _ => some (endsL ws a out (o.drop i))) (fun k => ?_) (Ev.now _)
    simp only [spec_l24Ends.l0]
    rw [if_neg (by omega), List.drop_of_length_le (by omega)]
    rfl
  | succ m ih =>
    intro i a out hi hout h0 h1
    have hlt : i < o.length := by omega
    have hx := ho o[i] (List.getElem_mem hlt)
    have hw := work_at h hx.1 hx.2
    have w0 := hw.len
    have w1 := hw.w1
    have w2 := hw.w2
    rw [List.drop_eq_getElem_cons hlt]
    simp only [endsL]
    refine Ev.step (f := fun k => spec_l24Ends.l0 k ws (out.set o[i].toNat (a + rd (rd_L1 ws o[i]) 0)) (a + rd (rd_L1 ws o[i]) 0) o (o.length : Int) ((i + 1 : Nat) : Int)) (fun k => ?_) (ih (i + 1) (a + rd (rd_L1 ws o[i]) 0) (out.set o[i].toNat (a + rd (rd_L1 ws o[i]) 0)) (by omega) (by simpa using hout) (by omega) (by omega))
    simp only [spec_l24Ends.l0]
    rw [if_pos (by omega), if_pos (by omega), if_pos (by omega), rd_get hlt, if_pos hx.1, if_pos (by omega), if_pos (by omega), if_pos (by omega), w64 (x := a + rd (rd_L1 ws o[i]) 0) (by omega) (by omega), w64 (x := (i : Int) + 1) (by omega) (by omega)]
    rfl
theorem impl_ends_l {ws : List (List Int)} (h : worksOk ws = true) (o : List Int) (ho : ∀ x ∈ o, 0 ≤ x ∧ x ≤ (ws.length : Int) - 1) (hl : o.length ≤ 7) : ∀ (m i : Nat) (a : Int) (out : List Int), i + m = o.length → out.length = ws.length → 0 ≤ a → a ≤ 100 * (i : Int) →
    Ev (fun k => impl_EndsAt.l0 k ws out a o (o.length : Int) (i : Int)) (endsL ws a out (o.drop i)) := by
  intro m
  induction m with
  | zero =>
    intro i a out hi hout h0 h1
    refine Ev.step (f := fun _ => some (endsL ws a out (o.drop i))) (fun k => ?_) (Ev.now _)
    simp only [impl_EndsAt.l0]
    rw [if_neg (by omega), List.drop_of_length_le (by omega)]
    rfl
  | succ m ih =>
    intro i a out hi hout h0 h1
    have hlt : i < o.length := by omega
    have hx := ho o[i] (List.getElem_mem hlt)
    have hw := work_at h hx.1 hx.2
    have w0 := hw.len
    have w1 := hw.w1
    have w2 := hw.w2
    rw [List.drop_eq_getElem_cons hlt]
    simp only [endsL]
    refine Ev.step (f := fun k => impl_EndsAt.l0 k ws (out.set o[i].toNat (a + rd (rd_L1 ws o[i]) 0)) (a + rd (rd_L1 ws o[i]) 0) o (o.length : Int) ((i + 1 : Nat) : Int)) (fun k => ?_) (ih (i + 1) (a + rd (rd_L1 ws o[i]) 0) (out.set o[i].toNat (a + rd (rd_L1 ws o[i]) 0)) (by omega) (by simpa using hout) (by omega) (by omega))
    simp only [impl_EndsAt.l0]
    rw [if_pos (by omega), if_pos (by omega), if_pos (by omega), rd_get hlt, if_pos hx.1, if_pos (by omega), if_pos (by omega), if_pos (by omega), w64 (x := a + rd (rd_L1 ws o[i]) 0) (by omega) (by omega), w64 (x := (i : Int) + 1) (by omega) (by omega)]
    rfl
structure OrdOk (ws : List (List Int)) (o : List Int) : Prop where
  works : worksOk ws = true
  len : o.length = ws.length
  small : ws.length ≤ 7
  mem : ∀ x ∈ o, 0 ≤ x ∧ x ≤ (ws.length : Int) - 1
theorem ordOk_of {ws : List (List Int)} {o : List Int} (h : workOrd ws o = true) : OrdOk ws o := by
  obtain ⟨h1, h2, h3, _⟩ := workOrd_iff.1 h
  exact ⟨h1, h2, (worksOk_iff.1 h1).1, h3⟩
theorem ends_facts {ws : List (List Int)} {o : List Int} (h : OrdOk ws o) : (endsOf ws o).length = ws.length ∧ ∀ x ∈ endsOf ws o, 0 ≤ x ∧ x ≤ 700 := by
  have h1 := h.len
  have h2 := h.small
  refine ⟨by unfold endsOf; rw [endsL_len, List.length_replicate], endsL_mem h.works o 0 _ h.mem (by omega) (by omega) (by omega) (fun x hx => ?_)⟩
  rw [List.eq_of_mem_replicate hx]
  omega
theorem spec_ends_ev {ws : List (List Int)} {o : List Int} (h : OrdOk ws o) : Ev (fun k => spec_l24Ends.f k ws o) (endsOf ws o) := by
  have h1 := h.len
  have h2 := h.small
  have e := spec_ends_l h.works o h.mem (by omega) o.length 0 0 (List.replicate ws.length 0) (by omega) (by simp) (by omega) (by omega)
  unfold spec_l24Ends.f
  refine Ev.congr (fun k => (if_pos (by omega)).trans (if_pos (by omega))) ?_
  rw [Int.toNat_natCast]
  exact e
theorem impl_EndsAt_ev (ws : List (List Int)) (o : List Int) (ho : o.length ≤ 1048576) : Ev (fun k => impl_EndsAt.f k ws o) (if workOrd ws o = true then endsOf ws o else []) := by
  unfold impl_EndsAt.f
  refine Ev.bind (impl_WorkOrd_ev ws o ho) ?_
  by_cases c : workOrd ws o = true
  · have h := ordOk_of c
    have h1 := h.len
    have h2 := h.small
    refine ev_eq (Ev.congr (fun k => (if_pos c).trans ((if_pos (by omega)).trans (if_pos (by omega)))) ?_) (if_pos c).symm
    have e := impl_ends_l h.works o h.mem (by omega) o.length 0 0 (List.replicate ws.length 0) (by omega) (by simp) (by omega) (by omega)
    rw [Int.toNat_natCast]
    exact e
  · exact ev_eq (Ev.congr (fun k => if_neg c) (Ev.now _)) (if_neg c).symm
def mostL (ws : List (List Int)) : List Int → Nat → Int → Int
  | [], _, m => m
  | e :: t, i, m => mostL ws t (i + 1) (mx m (e - rd (rd_L1 ws (i : Int)) 1))
def manyL (ws : List (List Int)) : List Int → Nat → Int → Int
  | [], _, n => n
  | e :: t, i, n => manyL ws t (i + 1) (if e > rd (rd_L1 ws (i : Int)) 1 then n + 1 else n)
theorem spec_count_l {ws : List (List Int)} (h : worksOk ws = true) (t : List Int) (ht : t.length = ws.length) : ∀ (d i : Nat) (n : Int), i + d = t.length → 0 ≤ n → n ≤ (i : Int) →
    Ev (fun k => spec_CountLate.l0 k ws n t (t.length : Int) (i : Int)) (manyL ws (t.drop i) i n) := by
  intro d
  have hs := (worksOk_iff.1 h).1
  induction d with
  | zero =>
    intro i n hi h0 h1
    refine Ev.step (f := fun _ => some (manyL ws (t.drop i) i n)) (fun k => ?_) (Ev.now _)
    simp only [spec_CountLate.l0]
    rw [if_neg (by omega), List.drop_of_length_le (by omega)]
    rfl
  | succ d ih =>
    intro i n hi h0 h1
    have hlt : i < t.length := by omega
    have hw := work_at h (show (0 : Int) ≤ (i : Int) by omega) (by omega)
    have w0 := hw.len
    rw [List.drop_eq_getElem_cons hlt]
    simp only [manyL]
    by_cases c : t[i] > rd (rd_L1 ws (i : Int)) 1
    · rw [if_pos c]
      refine Ev.step (f := fun k => spec_CountLate.l0 k ws (n + 1) t (t.length : Int) ((i + 1 : Nat) : Int)) (fun k => ?_) (ih (i + 1) _ (by omega) (by omega) (by omega))
      simp only [spec_CountLate.l0]
      rw [if_pos (by omega), if_pos (by omega), if_pos (by omega), if_pos (by omega), if_pos (by omega), rd_get hlt, if_pos c, w64 (x := n + 1) (by omega) (by omega), w64 (x := (i : Int) + 1) (by omega) (by omega)]
      rfl
    · rw [if_neg c]
      refine Ev.step (f := fun k => spec_CountLate.l0 k ws n t (t.length : Int) ((i + 1 : Nat) : Int)) (fun k => ?_) (ih (i + 1) _ (by omega) (by omega) (by omega))
      simp only [spec_CountLate.l0]
      rw [if_pos (by omega), if_pos (by omega), if_pos (by omega), if_pos (by omega), if_pos (by omega), rd_get hlt, if_neg c, w64 (x := (i : Int) + 1) (by omega) (by omega)]
      rfl
theorem impl_late_l {ws : List (List Int)} (h : worksOk ws = true) (t : List Int) (ht : t.length = ws.length) (hb : ∀ x ∈ t, 0 ≤ x ∧ x ≤ 700) : ∀ (d i : Nat) (m n : Int), i + d = t.length → 0 ≤ n → n ≤ (i : Int) → 0 ≤ m →
    Ev (fun k => impl_lateness.l0 k ws m n t (t.length : Int) (i : Int)) (mostL ws (t.drop i) i m, manyL ws (t.drop i) i n) := by
  intro d
  have hs := (worksOk_iff.1 h).1
  induction d with
  | zero =>
    intro i m n hi h0 h1 h2
    refine Ev.step (f := fun _ => some (mostL ws (t.drop i) i m, manyL ws (t.drop i) i n)) (fun k => ?_) (Ev.now _)
    simp only [impl_lateness.l0]
    rw [if_neg (by omega), List.drop_of_length_le (by omega)]
    rfl
  | succ d ih =>
    intro i m n hi h0 h1 h2
    have hlt : i < t.length := by omega
    have hx := hb t[i] (List.getElem_mem hlt)
    have hw := work_at h (show (0 : Int) ≤ (i : Int) by omega) (by omega)
    have w0 := hw.len
    have w1 := hw.h1
    have w2 := hw.h2
    rw [List.drop_eq_getElem_cons hlt]
    simp only [manyL, mostL]
    by_cases c : t[i] > rd (rd_L1 ws (i : Int)) 1
    · rw [if_pos c]
      refine Ev.step (f := fun k => impl_lateness.l0 k ws (mx m (t[i] - rd (rd_L1 ws (i : Int)) 1)) (n + 1) t (t.length : Int) ((i + 1 : Nat) : Int)) (fun k => ?_) (ih (i + 1) (mx m (t[i] - rd (rd_L1 ws (i : Int)) 1)) (n + 1) (by omega) (by omega) (by omega) (by unfold mx; split <;> omega))
      simp only [impl_lateness.l0]
      rw [if_pos (by omega), if_pos (by omega), if_pos (by omega), if_pos (by omega), if_pos (by omega), rd_get hlt, w64 (x := t[i] - rd (rd_L1 ws (i : Int)) 1) (by omega) (by omega), if_pos (by omega), w64 (x := n + 1) (by omega) (by omega), w64 (x := (i : Int) + 1) (by omega) (by omega)]
      rfl
    · rw [if_neg c, show mx m (t[i] - rd (rd_L1 ws (i : Int)) 1) = m by unfold mx; rw [if_neg (by omega)]]
      refine Ev.step (f := fun k => impl_lateness.l0 k ws m n t (t.length : Int) ((i + 1 : Nat) : Int)) (fun k => ?_) (ih (i + 1) _ _ (by omega) (by omega) (by omega) h2)
      simp only [impl_lateness.l0]
      rw [if_pos (by omega), if_pos (by omega), if_pos (by omega), if_pos (by omega), if_pos (by omega), rd_get hlt, w64 (x := t[i] - rd (rd_L1 ws (i : Int)) 1) (by omega) (by omega), if_neg (by omega), w64 (x := (i : Int) + 1) (by omega) (by omega)]
      rfl
def countLate (ws : List (List Int)) (o : List Int) : Int := if workOrd ws o = true then manyL ws (endsOf ws o) 0 0 else -1
theorem spec_Count_ev (ws : List (List Int)) (o : List Int) (ho : o.length ≤ 1048576) : Ev (fun k => spec_CountLate.f k ws o) (countLate ws o) := by
  unfold spec_CountLate.f countLate
  refine Ev.bind (spec_WorkOrd_ev ws o ho) ?_
  by_cases c : workOrd ws o = true
  · have h := ordOk_of c
    obtain ⟨h1, h2⟩ := ends_facts h
    exact ev_eq (Ev.congr (fun k => if_pos c) (Ev.bind (spec_ends_ev h) (spec_count_l h.works _ h1 (endsOf ws o).length 0 0 (by omega) (by omega) (by omega)))) (if_pos c).symm
  · exact ev_eq (Ev.congr (fun k => if_neg c) (Ev.now _)) (if_neg c).symm
theorem impl_lateness_ev {ws : List (List Int)} {o : List Int} (ho : o.length ≤ 1048576) (c : workOrd ws o = true) : Ev (fun k => impl_lateness.f k ws o) (mostL ws (endsOf ws o) 0 0, manyL ws (endsOf ws o) 0 0) := by
  have h := ordOk_of c
  obtain ⟨h1, h2⟩ := ends_facts h
  have e := impl_EndsAt_ev ws o ho
  rw [if_pos c] at e
  unfold impl_lateness.f
  exact Ev.bind e (impl_late_l h.works _ h1 h2 (endsOf ws o).length 0 0 0 (by omega) (by omega) (by omega) (by omega))
theorem impl_Count_ev (ws : List (List Int)) (o : List Int) (ho : o.length ≤ 1048576) : Ev (fun k => impl_CountLate.f k ws o) (countLate ws o) := by
  unfold impl_CountLate.f countLate
  refine Ev.bind (impl_WorkOrd_ev ws o ho) ?_
  by_cases c : workOrd ws o = true
  · exact ev_eq (Ev.congr (fun k => if_pos c) (Ev.bind (impl_lateness_ev ho c) (Ev.now _))) (if_pos c).symm
  · exact ev_eq (Ev.congr (fun k => if_neg c) (Ev.now _)) (if_neg c).symm
end Go.Proofs.Ytoonamloihbjnaa.PA
/- order by a column -/
namespace Go.Proofs.Ytoonamloihbjnaa.PA
open Go.RowKit Go.Proofs.YtoonamloihbjnaaW.PrintWords Go.Proofs.YtoonamloihbjnaaW.PrintLast Go.Proofs.YtoonamloihbjnaaW.PrintMore
set_option linter.unusedVariables false
set_option linter.unusedSimpArgs false
def pos (K : Int → Int) (P : List Int) (x : Int) : Nat → Nat
  | 0 => 0
  | j + 1 => if K (rd P (j : Int)) > K x then pos K P x j else j + 1
def insAt (P : List Int) (j : Nat) (x : Int) : List Int := P.take j ++ x :: P.drop j
def sortL (K : Int → Int) : List Int → List Int → List Int
  | P, [] => P
  | P, x :: S => sortL K (insAt P (pos K P x P.length) x) S
theorem pos_le (K : Int → Int) (P : List Int) (x : Int) : ∀ j, pos K P x j ≤ j := by
  intro j
  induction j with
  | zero => exact Nat.le_refl _
  | succ j ih => simp only [pos]; split <;> omega
theorem insAt_len {P : List Int} {j : Nat} (x : Int) (h : j ≤ P.length) : (insAt P j x).length = P.length + 1 := by simp [insAt]; omega
theorem insAt_mem {P : List Int} {j : Nat} {x y : Int} (h : y ∈ insAt P j x) : y ∈ P ∨ y = x := by
  unfold insAt at h
  rcases List.mem_append.1 h with h | h
  · exact .inl (List.mem_of_mem_take h)
  · rcases List.mem_cons.1 h with h | h
    · exact .inr h
    · exact .inl (List.mem_of_mem_drop h)
def keyBy (ws : List (List Int)) (c x : Int) : Int := rd (rd_L1 ws x) c
theorem key_bd {ws : List (List Int)} (h : worksOk ws = true) {c x : Int} (hc : c = 0 ∨ c = 1) (h0 : 0 ≤ x) (h1 : x ≤ (ws.length : Int) - 1) : 0 ≤ keyBy ws c x ∧ keyBy ws c x ≤ 1000 ∧ (rd_L1 ws x).length = 2 := by
  have hw := work_at h h0 h1
  have w1 := hw.w1
  have w2 := hw.w2
  have w3 := hw.h1
  have w4 := hw.h2
  unfold keyBy
  rcases hc with rfl | rfl
  · exact ⟨by omega, by omega, hw.len⟩
  · exact ⟨by omega, by omega, hw.len⟩
theorem spec_by_1 {ws : List (List Int)} (h : worksOk ws = true) {c : Int} (hc : c = 0 ∨ c = 1) (P : List Int) (i : Nat) (hi : i < ws.length) (hP : P.length ≤ 7) (hb : ∀ y ∈ P, 0 ≤ y ∧ y ≤ (ws.length : Int) - 1) (R : List Int) : ∀ j, j ≤ P.length →
    Ev (fun k => spec_l24By.l0 k ws c (insAt P (pos (keyBy ws c) P (i : Int) j) (i : Int)) ws (ws.length : Int) ((i + 1 : Nat) : Int)) R →
    Ev (fun k => spec_l24By.l1 k ws c P (i : Int) (rd_L1 ws (i : Int)) (j : Int) ws (ws.length : Int) (i : Int)) R := by
  intro j
  have hs := (worksOk_iff.1 h).1
  have hx := key_bd h hc (show (0 : Int) ≤ (i : Int) by omega) (by omega)
  have put : ∀ j : Nat, j ≤ P.length → ¬ ((j : Int) > 0 ∧ keyBy ws c (rd P (j - 1 : Int)) > keyBy ws c (i : Int)) → Ev (fun k => spec_l24By.l0 k ws c (insAt P j (i : Int)) ws (ws.length : Int) ((i + 1 : Nat) : Int)) R → Ev (fun k => spec_l24By.l1 k ws c P (i : Int) (rd_L1 ws (i : Int)) (j : Int) ws (ws.length : Int) (i : Int)) R := by
    intro j hj hn hr
    refine Ev.step (f := fun k => spec_l24By.l0 k ws c (insAt P j (i : Int)) ws (ws.length : Int) ((i + 1 : Nat) : Int)) (fun k => ?_) hr
    simp only [spec_l24By.l1, Option.bind_some]
    have e : ([] ++ P.take j ++ [(i : Int)]) ++ P.drop j = insAt P j (i : Int) := by simp [insAt]
    by_cases c0 : (j : Int) > 0
    · have hlt : j - 1 < P.length := by omega
      have hy := hb P[j - 1] (List.getElem_mem hlt)
      have hk := key_bd h hc hy.1 hy.2
      have ej : ((j : Int) - 1) = ((j - 1 : Nat) : Int) := by omega
      rw [ej] at hn
      rw [if_pos c0, w64 (x := (j : Int) - 1) (by omega) (by omega), ej, rd_get hlt]
      rw [rd_get hlt] at hn
      unfold keyBy at hn
      rw [if_pos (by omega), if_pos (by omega), if_pos hy.1, if_pos (by omega), if_pos (by omega), if_pos (by omega), if_pos (by omega), if_neg (fun z => hn ⟨c0, z⟩)]
      rw [if_pos (by omega), if_pos (by omega), if_pos (by simp; omega), if_pos (by simp; omega), if_pos (by simp; omega), Int.toNat_natCast, e, w64 (x := (i : Int) + 1) (by omega) (by omega)]
      rfl
    · rw [if_neg c0, if_pos (by omega), if_pos (by omega), if_pos (by simp; omega), if_pos (by simp; omega), if_pos (by simp; omega), Int.toNat_natCast, e, w64 (x := (i : Int) + 1) (by omega) (by omega)]
      rfl
  induction j with
  | zero => intro hj hr; exact put 0 hj (by simp) hr
  | succ j ih =>
    intro hj hr
    simp only [pos] at hr
    have hlt : j < P.length := by omega
    by_cases c1 : keyBy ws c (rd P (j : Int)) > keyBy ws c (i : Int)
    · rw [if_pos c1] at hr
      have hy := hb P[j] (List.getElem_mem hlt)
      have hk := key_bd h hc hy.1 hy.2
      refine Ev.step (f := fun k => spec_l24By.l1 k ws c P (i : Int) (rd_L1 ws (i : Int)) (j : Int) ws (ws.length : Int) (i : Int)) (fun k => ?_) (ih (by omega) hr)
      simp only [spec_l24By.l1]
      rw [show wrap64 (((j + 1 : Nat) : Int) - 1) = (j : Int) by rw [w64 (by omega) (by omega)]; omega]
      unfold keyBy at c1
      rw [rd_get hlt] at c1 ⊢
      rw [if_pos (by omega), if_pos (by omega), if_pos (by omega), if_pos hy.1, if_pos (by omega), if_pos (by omega), if_pos (by omega), if_pos (by omega), if_pos c1]
    · rw [if_neg c1] at hr
      refine put (j + 1) hj (fun z => c1 ?_) hr
      have := z.2
      rwa [show ((j + 1 : Nat) : Int) - 1 = (j : Int) by omega] at this
theorem spec_by_0 {ws : List (List Int)} (h : worksOk ws = true) {c : Int} (hc : c = 0 ∨ c = 1) : ∀ (m i : Nat) (P : List Int), i + m = ws.length → P.length = i → (∀ y ∈ P, 0 ≤ y ∧ y ≤ (ws.length : Int) - 1) →
    Ev (fun k => spec_l24By.l0 k ws c P ws (ws.length : Int) (i : Int)) (sortL (keyBy ws c) P ((List.range' i m).map fun t : Nat => (t : Int))) := by
  intro m
  have hs := (worksOk_iff.1 h).1
  induction m with
  | zero =>
    intro i P hi hP hb
    refine Ev.step (f := fun _ => some P) (fun k => ?_) (Ev.now _)
    simp only [spec_l24By.l0]
    rw [if_neg (by omega)]
  | succ m ih =>
    intro i P hi hP hb
    have hlt : i < ws.length := by omega
    rw [List.range'_succ, List.map_cons]
    simp only [sortL]
    have hl := insAt_len (P := P) (i : Int) (pos_le (keyBy ws c) P (i : Int) P.length)
    have hn := ih (i + 1) (insAt P (pos (keyBy ws c) P (i : Int) P.length) (i : Int)) (by omega) (by omega) (fun y hy => by
      rcases insAt_mem hy with hy | rfl
      · exact hb y hy
      · omega)
    refine Ev.step (f := fun k => spec_l24By.l1 k ws c P (i : Int) (rd_L1 ws (i : Int)) (P.length : Int) ws (ws.length : Int) (i : Int)) (fun k => ?_) (spec_by_1 h hc P i hlt (by omega) hb _ P.length (Nat.le_refl _) hn)
    simp only [spec_l24By.l0]
    rw [if_pos (by omega), if_pos (by omega), if_pos (by omega)]
theorem cfBy_eq {ws : List (List Int)} (h : worksOk ws = true) {c : Int} (hc : c = 0 ∨ c = 1) {x y : Int} (h0 : 0 ≤ x ∧ x ≤ (ws.length : Int) - 1) (h1 : 0 ≤ y ∧ y ≤ (ws.length : Int) - 1) : cfBy ws c x y = some (keyBy ws c x - keyBy ws c y) := by
  have k1 := key_bd h hc h0.1 h0.2
  have k2 := key_bd h hc h1.1 h1.2
  unfold cfBy
  rw [if_pos ⟨⟨h0.1, by omega⟩, h1.1, by omega⟩, if_pos ⟨⟨by omega, by omega⟩, by omega⟩]
  unfold keyBy at *
  rw [w64 (by omega) (by omega)]
theorem swap_eq (A B : List Int) (p x : Int) : ((A ++ p :: x :: B).set (A.length + 1) p).set A.length x = A ++ x :: p :: B := by
  simp [List.set_append]
theorem rd_at (A B : List Int) (p : Int) : rd (A ++ p :: B) (A.length : Int) = p := by
  rw [rd_nat]
  simp [List.getD_eq_getElem?_getD]
theorem rd_at1 (A B : List Int) (p x : Int) : rd (A ++ p :: x :: B) ((A.length + 1 : Nat) : Int) = x := by
  rw [rd_nat]
  simp [List.getD_eq_getElem?_getD]
theorem impl_ins_1 {ws : List (List Int)} (h : worksOk ws = true) {c : Int} (hc : c = 0 ∨ c = 1) (P S : List Int) (x : Int) (n : Int) (hP : P.length + S.length ≤ 7) (hx : 0 ≤ x ∧ x ≤ (ws.length : Int) - 1) (hb : ∀ y ∈ P, 0 ≤ y ∧ y ≤ (ws.length : Int) - 1) (R : List Int) : ∀ j, j ≤ P.length →
    Ev (fun k => slices_insertionSortCmpFunc_int.l0 (cfBy ws c) k (insAt P (pos (keyBy ws c) P x j) x ++ S) 0 n ((P.length + 1 : Nat) : Int)) R →
    Ev (fun k => slices_insertionSortCmpFunc_int.l1 (cfBy ws c) k (insAt P j x ++ S) 0 n (P.length : Int) (j : Int)) R := by
  intro j
  induction j with
  | zero =>
    intro hj hr
    simp only [pos] at hr
    refine Ev.step (f := fun k => slices_insertionSortCmpFunc_int.l0 (cfBy ws c) k (insAt P 0 x ++ S) 0 n ((P.length + 1 : Nat) : Int)) (fun k => ?_) hr
    simp only [slices_insertionSortCmpFunc_int.l1]
    rw [if_neg (by omega), w64 (x := (P.length : Int) + 1) (by omega) (by omega)]
    rfl
  | succ j ih =>
    intro hj hr
    simp only [pos] at hr
    have hlt : j < P.length := by omega
    have hy := hb P[j] (List.getElem_mem hlt)
    have eA : (P.take j).length = j := by rw [List.length_take]; omega
    have e1 : insAt P (j + 1) x ++ S = P.take j ++ P[j] :: x :: (P.drop (j + 1) ++ S) := by
      unfold insAt
      rw [List.take_succ_eq_append_getElem hlt]
      simp only [List.append_assoc, List.cons_append, List.nil_append]
    have e2 : insAt P j x ++ S = P.take j ++ x :: P[j] :: (P.drop (j + 1) ++ S) := by
      unfold insAt
      rw [List.drop_eq_getElem_cons hlt]
      simp only [List.append_assoc, List.cons_append, List.nil_append]
    have r1 : rd (P.take j ++ P[j] :: x :: (P.drop (j + 1) ++ S)) ((j + 1 : Nat) : Int) = x := by have := rd_at1 (P.take j) (P.drop (j + 1) ++ S) P[j] x; rwa [eA] at this
    have r2 : rd (P.take j ++ P[j] :: x :: (P.drop (j + 1) ++ S)) (j : Int) = P[j] := by have := rd_at (P.take j) (x :: (P.drop (j + 1) ++ S)) P[j]; rwa [eA] at this
    have sw : ((P.take j ++ P[j] :: x :: (P.drop (j + 1) ++ S)).set (j + 1) P[j]).set j x = insAt P j x ++ S := by rw [e2]; have := swap_eq (P.take j) (P.drop (j + 1) ++ S) P[j] x; rwa [eA] at this
    have hlen : (P.take j ++ P[j] :: x :: (P.drop (j + 1) ++ S)).length = P.length + 1 + S.length := by simp; omega
    rw [e1]
    rw [rd_get hlt] at hr
    by_cases c1 : keyBy ws c P[j] > keyBy ws c x
    · rw [if_pos c1] at hr
      refine Ev.step (f := fun k => slices_insertionSortCmpFunc_int.l1 (cfBy ws c) k (insAt P j x ++ S) 0 n (P.length : Int) (j : Int)) (fun k => ?_) (ih (by omega) hr)
      simp only [slices_insertionSortCmpFunc_int.l1]
      rw [show wrap64 (((j + 1 : Nat) : Int) - 1) = (j : Int) by rw [w64 (by omega) (by omega)]; omega]
      rw [if_pos (by omega), if_pos (by omega), if_pos (by omega), if_pos (by omega), if_pos (by omega), r1, r2, cfBy_eq h hc hx hy, Option.bind_some, if_pos (by omega), Int.toNat_natCast, Int.toNat_natCast, sw]
    · rw [if_neg c1, e1] at hr
      refine Ev.step (f := fun k => slices_insertionSortCmpFunc_int.l0 (cfBy ws c) k (P.take j ++ P[j] :: x :: (P.drop (j + 1) ++ S)) 0 n ((P.length + 1 : Nat) : Int)) (fun k => ?_) hr
      simp only [slices_insertionSortCmpFunc_int.l1]
      rw [show wrap64 (((j + 1 : Nat) : Int) - 1) = (j : Int) by rw [w64 (by omega) (by omega)]; omega]
      rw [if_pos (by omega), if_pos (by omega), if_pos (by omega), if_pos (by omega), if_pos (by omega), r1, r2, cfBy_eq h hc hx hy, Option.bind_some, if_neg (by omega), w64 (x := (P.length : Int) + 1) (by omega) (by omega)]
      rfl
theorem impl_ins_0 {ws : List (List Int)} (h : worksOk ws = true) {c : Int} (hc : c = 0 ∨ c = 1) : ∀ (S P : List Int), P.length + S.length ≤ 7 → (∀ y ∈ P, 0 ≤ y ∧ y ≤ (ws.length : Int) - 1) → (∀ y ∈ S, 0 ≤ y ∧ y ≤ (ws.length : Int) - 1) →
    Ev (fun k => slices_insertionSortCmpFunc_int.l0 (cfBy ws c) k (P ++ S) 0 ((P.length + S.length : Nat) : Int) (P.length : Int)) (sortL (keyBy ws c) P S) := by
  intro S
  induction S with
  | nil =>
    intro P hl hb _
    refine Ev.step (f := fun _ => some (P ++ [])) (fun k => ?_) (ev_eq (Ev.now _) (by simp [sortL]))
    simp only [slices_insertionSortCmpFunc_int.l0]
    rw [if_neg (by simp)]
  | cons x S ih =>
    intro P hl hb hs
    simp only [List.length_cons] at hl
    have hx := hs x List.mem_cons_self
    have hlen := insAt_len (P := P) x (pos_le (keyBy ws c) P x P.length)
    have hn := ih (insAt P (pos (keyBy ws c) P x P.length) x) (by omega) (fun y hy => by
      rcases insAt_mem hy with hy | rfl
      · exact hb y hy
      · exact hx) (fun y hy => hs y (List.mem_cons_of_mem _ hy))
    rw [hlen] at hn
    have e : P ++ x :: S = insAt P P.length x ++ S := by simp [insAt]
    have h1 := impl_ins_1 h hc P S x ((P.length + 1 + S.length : Nat) : Int) (by omega) hx hb _ P.length (Nat.le_refl _) hn
    simp only [sortL]
    rw [e]
    refine Ev.step (f := fun k => slices_insertionSortCmpFunc_int.l1 (cfBy ws c) k (insAt P P.length x ++ S) 0 ((P.length + 1 + S.length : Nat) : Int) (P.length : Int) (P.length : Int)) (fun k => ?_) h1
    simp only [slices_insertionSortCmpFunc_int.l0, List.length_cons]
    rw [if_pos (by omega), show P.length + (S.length + 1) = P.length + 1 + S.length by omega]
def orderBy (ws : List (List Int)) (c : Int) : List Int := sortL (keyBy ws c) [] (upto ws.length)
theorem spec_by_ev {ws : List (List Int)} (h : worksOk ws = true) {c : Int} (hc : c = 0 ∨ c = 1) : Ev (fun k => spec_l24By.f k ws c) (orderBy ws c) := by
  have e := spec_by_0 h hc ws.length 0 [] (by omega) rfl (by simp)
  rw [← List.range_eq_range'] at e
  exact e
theorem impl_by_ev {ws : List (List Int)} (h : worksOk ws = true) {c : Int} (hc : c = 0 ∨ c = 1) : Ev (fun k => impl_orderBy.f k ws c) (orderBy ws c) := by
  have hs := (worksOk_iff.1 h).1
  unfold impl_orderBy.f
  refine Ev.bind (orderOf_ev ws.length hs) ?_
  refine Ev.congr (fun k => if_pos (by rw [upto_len]; omega)) ?_
  unfold slices_insertionSortCmpFunc_int.f orderBy
  rw [upto_len]
  have hm : ∀ y ∈ upto ws.length, 0 ≤ y ∧ y ≤ (ws.length : Int) - 1 := fun y hy => mem_upto.1 hy
  have hl := upto_len ws.length
  generalize upto ws.length = S at *
  cases S with
  | nil =>
    simp only [List.length_nil] at hl
    refine Ev.step (f := fun _ => some []) (fun k => ?_) (Ev.now _)
    simp only [slices_insertionSortCmpFunc_int.l0]
    rw [if_neg (by rw [w64 (by omega) (by omega)]; omega)]
  | cons x S =>
    simp only [List.length_cons] at hl
    have e := impl_ins_0 h hc S [x] (by simp; omega) (fun y hy => hm y (by simp at hy; simp [hy])) (fun y hy => hm y (List.mem_cons_of_mem _ hy))
    simp only [List.length_cons, List.length_nil] at e
    rw [show wrap64 (0 + 1) = ((0 + 1 : Nat) : Int) by rw [w64 (by omega) (by omega)]; rfl, ← hl, show S.length + 1 = 0 + 1 + S.length by omega]
    exact e
end Go.Proofs.Ytoonamloihbjnaa.PA
/- due order, short order -/
namespace Go.Proofs.Ytoonamloihbjnaa.PA
open Go.RowKit Go.Proofs.YtoonamloihbjnaaW.PrintWords Go.Proofs.YtoonamloihbjnaaW.PrintLast Go.Proofs.YtoonamloihbjnaaW.PrintMore
set_option linter.unusedVariables false
set_option linter.unusedSimpArgs false
theorem sortL_len (K : Int → Int) : ∀ (S P : List Int), (sortL K P S).length = P.length + S.length := by
  intro S
  induction S with
  | nil => intro P; rfl
  | cons x S ih =>
    intro P
    simp only [sortL]
    rw [ih, insAt_len x (pos_le K P x P.length), List.length_cons]
    omega
end Go.Proofs.Ytoonamloihbjnaa.PA
