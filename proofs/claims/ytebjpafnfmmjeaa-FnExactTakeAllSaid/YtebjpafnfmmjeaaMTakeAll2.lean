/- Texts of this claim put together in build order (FnExactTakeAll). -/
import Derived.Test.YtebjpafnfmmjeaaMTakeAll0
import Derived.Test.YtebjpafnfmmjeaaMTakeAll1
-- Written for this claim by a program of this session's (ownprint.py), by way of the kit's print and hand-proved texts. Lean checks it.
namespace Go.Proofs.Ytebjpafnfmmjeaa.PA
open Go.RowKit Go.Proofs.YtebjpafnfmmjeaaW.PrintWords Go.Proofs.YtebjpafnfmmjeaaW.PrintLast Go.Proofs.YtebjpafnfmmjeaaW.PrintMore
attribute [local go_sem] max2_int min2_int max_two min_two max_three min_three max_four min_four   -- for this text's walks alone
set_option linter.unusedVariables false
set_option linter.unusedSimpArgs false
mutual
def spec_TakePiece.j0 : Nat → Int → List (List Int) → List (List Int) → Option ((List (List Int)) × Int × Bool)
  | 0, _, _, _ => none
  | k + 1, x9, x12, x13 => spec_TakePiece.l0 k x9 x12 x13 (x13.length : Int) 0
def spec_TakePiece.l0 : Nat → Int → List (List Int) → List (List Int) → Int → Int → Option ((List (List Int)) × Int × Bool)
  | 0, _, _, _, _, _ => none
  | k + 1, x9, x12, x82, x83, x84 => if x84 < x83 then (if 0 ≤ x84 then (if x84 < (x82.length : Int) then (if 0 < ((rd_L1 x82 x84).length : Int) then (if (rd (rd_L1 x82 x84) 0) > 0 then (if 1 < ((rd_L1 x82 x84).length : Int) then (if (rd (rd_L1 x82 x84) 1) > 0 then (if x12.length < 5864062014805 then (spec_TakePiece.l0 k x9 (x12 ++ [rd_L1 x82 x84]) x82 x83 (wrap64 (x84 + 1))) else (none)) else (spec_TakePiece.l0 k x9 x12 x82 x83 (wrap64 (x84 + 1)))) else (none)) else (spec_TakePiece.l0 k x9 x12 x82 x83 (wrap64 (x84 + 1)))) else (none)) else (none)) else (none)) else ((spec_StoreOk.f k x12).bind fun t323 => (if t323 = true then (some (x12, x9, true)) else (some (([] : List (List Int)), (-1), false))))
end
def spec_TakePiece.f (k : Nat) (l0 : List (List Int)) (a1 : Int) (a2 : Int) : Option ((List (List Int)) × Int × Bool) := (spec_SmallestFor.f k l0 a1 a2).bind fun t291 => (if t291 < 0 then (some (([] : List (List Int)), (-1), false)) else (if 0 ≤ t291 then (if t291 < (l0.length : Int) then (if 0 < ((rd_L1 l0 t291).length : Int) then (if 1 < ((rd_L1 l0 t291).length : Int) then ((spec_l21Copy.f k l0 t291).bind fun t296 => (if (mx (wrap64 ((wrap64 ((rd (rd_L1 l0 t291) 0) - a1)) * a2)) (wrap64 ((rd (rd_L1 l0 t291) 0) * (wrap64 ((rd (rd_L1 l0 t291) 1) - a2))))) < (mx (wrap64 ((wrap64 ((rd (rd_L1 l0 t291) 0) - a1)) * (rd (rd_L1 l0 t291) 1))) (wrap64 (a1 * (wrap64 ((rd (rd_L1 l0 t291) 1) - a2))))) then (spec_TakePiece.j0 k t291 t296 (([(([wrap64 ((rd (rd_L1 l0 t291) 0) - a1), rd (rd_L1 l0 t291) 1] : List Int)), (([a1, wrap64 ((rd (rd_L1 l0 t291) 1) - a2)] : List Int))] : List (List Int)))) else (spec_TakePiece.j0 k t291 t296 (([(([wrap64 ((rd (rd_L1 l0 t291) 0) - a1), a2] : List Int)), (([rd (rd_L1 l0 t291) 0, wrap64 ((rd (rd_L1 l0 t291) 1) - a2)] : List Int))] : List (List Int)))))) else (none)) else (none)) else (none)) else (none)))
set_option maxHeartbeats 8000000 in
set_option maxRecDepth 100000 in
theorem spec_TakePiece.calls (k : Nat) (A0 : Option Addr) (c0 : Nat) (l0 : List (List Int)) (a1 : Int) (a2 : Int) (r1 : List (List Int)) (r2 : Int) (r3 : Bool) (w : World) (hr0 : Kd.C (Kd.slice 3 (Kd.int .i64)) w A0 l0.length l0) (hc0 : l0.length ≤ c0) (h : spec_TakePiece.f k l0 a1 a2 = some (r1, r2, r3)) :
    Calls Try.prog 27 #[.slice A0 l0.length c0, .int .i64 a1, .int .i64 a2] w fun e w' => ∃ v0_ : Value, e = .returned (.tuple #[v0_, .int .i64 r2, .bool r3]) ∧ Kd.N (Kd.slice 3 (Kd.int .i64)) 40 w' w.heap.size (fun k_ => (w.heap.size ≤ k_)) v0_ r1 ∧ Below w.heap.size w w' := by
  have HR0 := Aside0.mk hr0
  have HC0 := Aside0.mk hc0
  clear hr0 hc0
  have HB := Aside0.mk (Below.refl w.heap.size w)
  have H : ((spec_SmallestFor.f k l0 a1 a2).bind fun t291 => (if t291 < 0 then (some (([] : List (List Int)), (-1), false)) else (if 0 ≤ t291 then (if t291 < (l0.length : Int) then (if 0 < ((rd_L1 l0 t291).length : Int) then (if 1 < ((rd_L1 l0 t291).length : Int) then ((spec_l21Copy.f k l0 t291).bind fun t296 => (if (mx (wrap64 ((wrap64 ((rd (rd_L1 l0 t291) 0) - a1)) * a2)) (wrap64 ((rd (rd_L1 l0 t291) 0) * (wrap64 ((rd (rd_L1 l0 t291) 1) - a2))))) < (mx (wrap64 ((wrap64 ((rd (rd_L1 l0 t291) 0) - a1)) * (rd (rd_L1 l0 t291) 1))) (wrap64 (a1 * (wrap64 ((rd (rd_L1 l0 t291) 1) - a2))))) then (spec_TakePiece.j0 k t291 t296 (([(([wrap64 ((rd (rd_L1 l0 t291) 0) - a1), rd (rd_L1 l0 t291) 1] : List Int)), (([a1, wrap64 ((rd (rd_L1 l0 t291) 1) - a2)] : List Int))] : List (List Int)))) else (spec_TakePiece.j0 k t291 t296 (([(([wrap64 ((rd (rd_L1 l0 t291) 0) - a1), a2] : List Int)), (([rd (rd_L1 l0 t291) 0, wrap64 ((rd (rd_L1 l0 t291) 1) - a2)] : List Int))] : List (List Int)))))) else (none)) else (none)) else (none)) else (none)))) = some (r1, r2, r3) := h
  clear h
  replace H := Option.bind_eq_some_iff.mp H
  obtain ⟨t291, A40, H⟩ := H
  replace H : (if t291 < 0 then (some (([] : List (List Int)), (-1), false)) else (if 0 ≤ t291 then (if t291 < (l0.length : Int) then (if 0 < ((rd_L1 l0 t291).length : Int) then (if 1 < ((rd_L1 l0 t291).length : Int) then ((spec_l21Copy.f k l0 t291).bind fun t296 => (if (mx (wrap64 ((wrap64 ((rd (rd_L1 l0 t291) 0) - a1)) * a2)) (wrap64 ((rd (rd_L1 l0 t291) 0) * (wrap64 ((rd (rd_L1 l0 t291) 1) - a2))))) < (mx (wrap64 ((wrap64 ((rd (rd_L1 l0 t291) 0) - a1)) * (rd (rd_L1 l0 t291) 1))) (wrap64 (a1 * (wrap64 ((rd (rd_L1 l0 t291) 1) - a2))))) then (spec_TakePiece.j0 k t291 t296 (([(([wrap64 ((rd (rd_L1 l0 t291) 0) - a1), rd (rd_L1 l0 t291) 1] : List Int)), (([a1, wrap64 ((rd (rd_L1 l0 t291) 1) - a2)] : List Int))] : List (List Int)))) else (spec_TakePiece.j0 k t291 t296 (([(([wrap64 ((rd (rd_L1 l0 t291) 0) - a1), a2] : List Int)), (([rd (rd_L1 l0 t291) 0, wrap64 ((rd (rd_L1 l0 t291) 1) - a2)] : List Int))] : List (List Int)))))) else (none)) else (none)) else (none)) else (none))) = some (r1, r2, r3) := H
  have A4 := Aside0.mk A40
  clear A40
  by_cases c5 : t291 < 0
  · rw [if_pos c5] at H
    have c5b0 : decide (t291 < 0) = true := decide_eq_true c5
    clear c5
    simp only [Option.some.injEq, Prod.mk.injEq] at H
    obtain ⟨rfl, rfl, rfl⟩ := H
    go_enter Try.func27, Try.ntmps27
    go_wp2_with (first | ((with_reducible refine gate_callee (f := 17) rfl ?_); refine goesL_ (some 19) rfl rfl Try.func17 (by kernel_rfl) rfl #[.slice A0 l0.length c0, .int .i64 a1, .int .i64 a2] rfl (by (try simp only [List.map_toArray, List.map_cons, List.map_nil]); first | done | rfl | (simp only [List.length_drop, List.length_take]; rfl)) ?_; (with_reducible refine (spec_SmallestFor.calls k _ _ l0 a1 a2 t291 _ ?side1 ?side2 A4.out).mono ?_); (case side1 => repeat (first | exact HR0.out | (with_reducible refine Kd.C_alloc ?_ _) | (with_reducible refine Kd.C_drewN ?_ _) | (with_reducible refine Kd.C_drew ?_))); (case side2 => exact HC0.out); rintro e w' ⟨rfl, ⟨nd, rfl⟩⟩; refine ⟨_, rfl, ?_⟩))
    go_ret3
    exact ⟨_, by first | rfl | (simp [errW_none, errW_some] <;> rfl) | (simp [*, errW_none, errW_some] <;> rfl), by first | exact Kd.S_nil _ _ _ _ _ | exact Kd.N_nil _ _ _ _ _ | exact Kd.V_nil _ _ _ _ _ | exact Kd.Q_nil _ _ _ _ _ | exact Kd.R_nil _ _ _ _ _, by repeat (first | (with_reducible first | exact HB.out | apply below_alloc | apply pw_below_drewN | apply below_drew1) | exact HB.out)⟩
  · rw [if_neg c5] at H
    have c5b0 : decide (t291 < 0) = false := decide_eq_false c5
    clear c5
    by_cases c6 : 0 ≤ t291
    · rw [if_pos c6] at H
      have c6b0 : decide (0 ≤ t291) = true := decide_eq_true c6
      clear c6
      by_cases c7 : t291 < (l0.length : Int)
      · rw [if_pos c7] at H
        have c7b0 : decide (t291 < (l0.length : Int)) = true := decide_eq_true c7
        clear c7
        by_cases c8 : 0 < ((rd_L1 l0 t291).length : Int)
        · rw [if_pos c8] at H
          have c8b0 : decide (0 < ((rd_L1 l0 t291).length : Int)) = true := decide_eq_true c8
          have c8b1 : decide (0 < (rd_L1 l0 t291).length) = true := decide_eq_true (by omega)
          clear c8
          by_cases c9 : 1 < ((rd_L1 l0 t291).length : Int)
          · rw [if_pos c9] at H
            have c9b0 : decide (1 < ((rd_L1 l0 t291).length : Int)) = true := decide_eq_true c9
            have c9b1 : decide (1 < (rd_L1 l0 t291).length) = true := decide_eq_true (by omega)
            clear c9
            replace H := Option.bind_eq_some_iff.mp H
            obtain ⟨t296, A100, H⟩ := H
            replace H : (if (mx (wrap64 ((wrap64 ((rd (rd_L1 l0 t291) 0) - a1)) * a2)) (wrap64 ((rd (rd_L1 l0 t291) 0) * (wrap64 ((rd (rd_L1 l0 t291) 1) - a2))))) < (mx (wrap64 ((wrap64 ((rd (rd_L1 l0 t291) 0) - a1)) * (rd (rd_L1 l0 t291) 1))) (wrap64 (a1 * (wrap64 ((rd (rd_L1 l0 t291) 1) - a2))))) then (spec_TakePiece.j0 k t291 t296 (([(([wrap64 ((rd (rd_L1 l0 t291) 0) - a1), rd (rd_L1 l0 t291) 1] : List Int)), (([a1, wrap64 ((rd (rd_L1 l0 t291) 1) - a2)] : List Int))] : List (List Int)))) else (spec_TakePiece.j0 k t291 t296 (([(([wrap64 ((rd (rd_L1 l0 t291) 0) - a1), a2] : List Int)), (([rd (rd_L1 l0 t291) 0, wrap64 ((rd (rd_L1 l0 t291) 1) - a2)] : List Int))] : List (List Int))))) = some (r1, r2, r3) := H
            have A10 := Aside0.mk A100
            clear A100
            obtain ⟨y299, hy299⟩ : ∃ y_ : List Int, y_ = (([wrap64 ((rd (rd_L1 l0 t291) 0) - a1), a2] : List Int)) := ⟨_, rfl⟩
            replace H : (if (mx (wrap64 ((wrap64 ((rd (rd_L1 l0 t291) 0) - a1)) * a2)) (wrap64 ((rd (rd_L1 l0 t291) 0) * (wrap64 ((rd (rd_L1 l0 t291) 1) - a2))))) < (mx (wrap64 ((wrap64 ((rd (rd_L1 l0 t291) 0) - a1)) * (rd (rd_L1 l0 t291) 1))) (wrap64 (a1 * (wrap64 ((rd (rd_L1 l0 t291) 1) - a2))))) then (spec_TakePiece.j0 k t291 t296 (([(([wrap64 ((rd (rd_L1 l0 t291) 0) - a1), rd (rd_L1 l0 t291) 1] : List Int)), (([a1, wrap64 ((rd (rd_L1 l0 t291) 1) - a2)] : List Int))] : List (List Int)))) else (spec_TakePiece.j0 k t291 t296 (([y299, (([rd (rd_L1 l0 t291) 0, wrap64 ((rd (rd_L1 l0 t291) 1) - a2)] : List Int))] : List (List Int))))) = some (r1, r2, r3) := by first | (rw [hy299]; with_reducible exact H) | (have H2_ := (Option.bind_some _ _).symm.trans H; rw [hy299]; with_reducible exact H2_) | (have H2_ := (Option.bind_some _ _).symm.trans H; with_reducible exact H2_) | with_reducible exact H | (rw [hy299]; exact H) | exact H
            have Ny299 := Aside0.mk hy299
            clear hy299
            obtain ⟨y302, hy302⟩ : ∃ y_ : List Int, y_ = (([rd (rd_L1 l0 t291) 0, wrap64 ((rd (rd_L1 l0 t291) 1) - a2)] : List Int)) := ⟨_, rfl⟩
            replace H : (if (mx (wrap64 ((wrap64 ((rd (rd_L1 l0 t291) 0) - a1)) * a2)) (wrap64 ((rd (rd_L1 l0 t291) 0) * (wrap64 ((rd (rd_L1 l0 t291) 1) - a2))))) < (mx (wrap64 ((wrap64 ((rd (rd_L1 l0 t291) 0) - a1)) * (rd (rd_L1 l0 t291) 1))) (wrap64 (a1 * (wrap64 ((rd (rd_L1 l0 t291) 1) - a2))))) then (spec_TakePiece.j0 k t291 t296 (([(([wrap64 ((rd (rd_L1 l0 t291) 0) - a1), rd (rd_L1 l0 t291) 1] : List Int)), (([a1, wrap64 ((rd (rd_L1 l0 t291) 1) - a2)] : List Int))] : List (List Int)))) else (spec_TakePiece.j0 k t291 t296 (([y299, y302] : List (List Int))))) = some (r1, r2, r3) := by first | (rw [hy302]; with_reducible exact H) | (have H2_ := (Option.bind_some _ _).symm.trans H; rw [hy302]; with_reducible exact H2_) | (have H2_ := (Option.bind_some _ _).symm.trans H; with_reducible exact H2_) | with_reducible exact H | (rw [hy302]; exact H) | exact H
            have Ny302 := Aside0.mk hy302
            clear hy302
            obtain ⟨y305, hy305⟩ : ∃ y_ : List (List Int), y_ = (([y299, y302] : List (List Int))) := ⟨_, rfl⟩
            replace H : (if (mx (wrap64 ((wrap64 ((rd (rd_L1 l0 t291) 0) - a1)) * a2)) (wrap64 ((rd (rd_L1 l0 t291) 0) * (wrap64 ((rd (rd_L1 l0 t291) 1) - a2))))) < (mx (wrap64 ((wrap64 ((rd (rd_L1 l0 t291) 0) - a1)) * (rd (rd_L1 l0 t291) 1))) (wrap64 (a1 * (wrap64 ((rd (rd_L1 l0 t291) 1) - a2))))) then (spec_TakePiece.j0 k t291 t296 (([(([wrap64 ((rd (rd_L1 l0 t291) 0) - a1), rd (rd_L1 l0 t291) 1] : List Int)), (([a1, wrap64 ((rd (rd_L1 l0 t291) 1) - a2)] : List Int))] : List (List Int)))) else (spec_TakePiece.j0 k t291 t296 y305)) = some (r1, r2, r3) := by first | (rw [hy305]; with_reducible exact H) | (have H2_ := (Option.bind_some _ _).symm.trans H; rw [hy305]; with_reducible exact H2_) | (have H2_ := (Option.bind_some _ _).symm.trans H; with_reducible exact H2_) | with_reducible exact H | (rw [hy305]; exact H) | exact H
            have Ny305 := Aside0.mk hy305
            clear hy305
            obtain ⟨ji11, hji11⟩ : ∃ j_ : Int, (mx (wrap64 ((wrap64 ((rd (rd_L1 l0 t291) 0) - a1)) * a2)) (wrap64 ((rd (rd_L1 l0 t291) 0) * (wrap64 ((rd (rd_L1 l0 t291) 1) - a2))))) = j_ := ⟨_, rfl⟩
            replace H : (if (ji11) < (mx (wrap64 ((wrap64 ((rd (rd_L1 l0 t291) 0) - a1)) * (rd (rd_L1 l0 t291) 1))) (wrap64 (a1 * (wrap64 ((rd (rd_L1 l0 t291) 1) - a2))))) then (spec_TakePiece.j0 k t291 t296 (([(([wrap64 ((rd (rd_L1 l0 t291) 0) - a1), rd (rd_L1 l0 t291) 1] : List Int)), (([a1, wrap64 ((rd (rd_L1 l0 t291) 1) - a2)] : List Int))] : List (List Int)))) else (spec_TakePiece.j0 k t291 t296 y305)) = some (r1, r2, r3) := by first | (rw [hji11] at H; exact H) | (simp only [hji11] at H ⊢; exact H)
            (try rw [hji11] at A4)
            (try rw [hji11] at A10)
            have hji11_ : (if (wrap64 ((wrap64 ((rd (rd_L1 l0 t291) 0) - a1)) * a2)) < (wrap64 ((rd (rd_L1 l0 t291) 0) * (wrap64 ((rd (rd_L1 l0 t291) 1) - a2)))) then (wrap64 ((rd (rd_L1 l0 t291) 0) * (wrap64 ((rd (rd_L1 l0 t291) 1) - a2)))) else (wrap64 ((wrap64 ((rd (rd_L1 l0 t291) 0) - a1)) * a2))) = ji11 := hji11
            obtain ⟨ji12, hji12⟩ : ∃ j_ : Int, (mx (wrap64 ((wrap64 ((rd (rd_L1 l0 t291) 0) - a1)) * (rd (rd_L1 l0 t291) 1))) (wrap64 (a1 * (wrap64 ((rd (rd_L1 l0 t291) 1) - a2))))) = j_ := ⟨_, rfl⟩
            replace H : (if (ji11) < (ji12) then (spec_TakePiece.j0 k t291 t296 (([(([wrap64 ((rd (rd_L1 l0 t291) 0) - a1), rd (rd_L1 l0 t291) 1] : List Int)), (([a1, wrap64 ((rd (rd_L1 l0 t291) 1) - a2)] : List Int))] : List (List Int)))) else (spec_TakePiece.j0 k t291 t296 y305)) = some (r1, r2, r3) := by first | (rw [hji12] at H; exact H) | (simp only [hji12] at H ⊢; exact H)
            (try rw [hji12] at A4)
            (try rw [hji12] at A10)
            have hji12_ : (if (wrap64 ((wrap64 ((rd (rd_L1 l0 t291) 0) - a1)) * (rd (rd_L1 l0 t291) 1))) < (wrap64 (a1 * (wrap64 ((rd (rd_L1 l0 t291) 1) - a2)))) then (wrap64 (a1 * (wrap64 ((rd (rd_L1 l0 t291) 1) - a2)))) else (wrap64 ((wrap64 ((rd (rd_L1 l0 t291) 0) - a1)) * (rd (rd_L1 l0 t291) 1)))) = ji12 := hji12
            have HC13 := Aside0.mk H
            clear H
            go_enter Try.func27, Try.ntmps27
            go_upto_if 70 with (first | ((with_reducible refine gate_callee (f := 17) rfl ?_); refine goesL_ (some 19) rfl rfl Try.func17 (by kernel_rfl) rfl #[.slice A0 l0.length c0, .int .i64 a1, .int .i64 a2] rfl (by (try simp only [List.map_toArray, List.map_cons, List.map_nil]); first | done | rfl | (simp only [List.length_drop, List.length_take]; rfl)) ?_; (with_reducible refine (spec_SmallestFor.calls k _ _ l0 a1 a2 t291 _ ?side1 ?side2 A4.out).mono ?_); (case side1 => repeat (first | exact HR0.out | (with_reducible refine Kd.C_alloc ?_ _) | (with_reducible refine Kd.C_drewN ?_ _) | (with_reducible refine Kd.C_drew ?_))); (case side2 => exact HC0.out); rintro e w' ⟨rfl, ⟨nd, rfl⟩⟩; refine ⟨_, rfl, ?_⟩; have p292 : 0 ≤ (t291 : Int) := of_decide_eq_true (by first | (with_reducible assumption) | assumption); have q292 : t291 < (l0.length : Int) := of_decide_eq_true (by first | (with_reducible assumption) | assumption); obtain ⟨ad292, A292_0, c292_0, e292, hx292_0, hl292_0, hi292_0⟩ := at_L1 HR0.out t291 p292 q292; cases e292; have HR292_0 := Aside0.mk hi292_0; have HC292_0 := Aside0.mk hl292_0; clear hi292_0 hl292_0; replace p292 := eq_true p292; replace q292 := eq_true q292; have p293 : 0 ≤ (0 : Int) := (by omega); have q293 : 0 < ((rd_L1 l0 t291).length : Int) := of_decide_eq_true (by first | (with_reducible assumption) | assumption); obtain ⟨ad293, e293, hx293_0⟩ := Kd.at_int HR292_0.out 0 p293 q293; cases e293; have qi293 : (0 < (rd_L1 l0 t291).length) = True := eq_true (by omega); (try rw [show ((0 : Int)).toNat = 0 from rfl] at hx293_0); (try rw [Addr.add_zero'] at hx293_0); replace p293 := eq_true p293; replace q293 := eq_true q293; have p294 : 0 ≤ (t291 : Int) := of_decide_eq_true (by first | (with_reducible assumption) | assumption); have q294 : t291 < (l0.length : Int) := of_decide_eq_true (by first | (with_reducible assumption) | assumption); obtain ⟨ad294, A294_0, c294_0, e294, hx294_0, hl294_0, hi294_0⟩ := at_L1 HR0.out t291 p294 q294; obtain rfl : ad292 = ad294 := (by injection e294); have HR294_0 := Aside0.mk hi294_0; have HC294_0 := Aside0.mk hl294_0; clear hi294_0 hl294_0; replace p294 := eq_true p294; replace q294 := eq_true q294; have ea_ := Option.some.inj (hx292_0.symm.trans hx294_0); injection ea_ with ea_ en_ ec_; subst ea_; subst ec_; clear en_; have p295 : 0 ≤ (1 : Int) := (by omega); have q295 : 1 < ((rd_L1 l0 t291).length : Int) := of_decide_eq_true (by first | (with_reducible assumption) | assumption); obtain ⟨ad295, e295, hx295_0⟩ := Kd.at_int HR294_0.out 1 p295 q295; cases e295; (try simp only [show (1 : Int).toNat = 1 from rfl, Nat.reduceMul, Nat.reduceEqDiff, Go.Addr.add, ↓reduceIte] at hx295_0); have qi295 : (1 < (rd_L1 l0 t291).length) = True := eq_true (by omega); (try rw [show ((1 : Int)).toNat = 1 from rfl] at hx295_0); replace p295 := eq_true p295; replace q295 := eq_true q295) | ((with_reducible refine gate_callee (f := 45) rfl ?_); refine goesL_ (some 36) rfl rfl Try.func45 (by kernel_rfl) rfl #[.slice (some ad292) l0.length c0, .int .i64 t291] rfl (by (try simp only [List.map_toArray, List.map_cons, List.map_nil]); first | done | rfl | (simp only [List.length_drop, List.length_take]; rfl)) ?_; (with_reducible refine (spec_l21Copy.calls k _ _ l0 t291 t296 _ ?side1 ?side2 A10.out).mono ?_); (case side1 => repeat (first | exact HR0.out | (with_reducible refine Kd.C_alloc ?_ _) | (with_reducible refine Kd.C_drewN ?_ _) | (with_reducible refine Kd.C_drew ?_))); (case side2 => exact HC0.out); rintro e w14 ⟨v297, rfl, ho0, hb⟩; refine ⟨_, rfl, ?_⟩; have n0_ := Aside0.mk (Kd.N_lower (Kd.N_mono (ok' := fun k_ => (w.heap.size ≤ k_)) (Kd.S_N (Kd.S_bound ho0)) (fun k_ hk_ => (Nat.le_trans (below_size (by repeat (first | (with_reducible first | exact HB.out | apply below_alloc | apply pw_below_drewN | apply below_drew1) | exact HB.out))) hk_.2.1))) (below_size (by repeat (first | (with_reducible first | exact HB.out | apply below_alloc | apply pw_below_drewN | apply below_drew1) | exact HB.out)))); have n1_ := Aside0.mk (below_step (by repeat (first | (with_reducible first | exact HB.out | apply below_alloc | apply pw_below_drewN | apply below_drew1) | exact HB.out)) hb); clear HB; have HO298 := n0_; have HB := n1_; clear n0_ n1_; (try clear hb); (try clear hb2); (try clear hk); (try clear hi); (try clear ho0)) | ((with_reducible refine gate_dst (N := 41) rfl ?_); refine Kd.R_lit (Kd.int .i64) _ 3 ?hg (N := 41) ?hd (xs := ([wrap64 ((rd (rd_L1 l0 t291) 0) - a1), a2] : List Int)) (inner := [.int .i64 (wrap64 ((rd (rd_L1 l0 t291) 0) - a1)), .int .i64 a2]) (ok := fun _ => True) (okp := fun _ => True) ?hr ?hp (fun _ hk => hk) trivial (Below.refl _ _) (Nat.le_refl _) (by simp) ?_; (case hd => rfl); (case hg => rfl); (case hr => first | (go_simp; done) | (go_simp; rfl)); (case hp => exact (Reps.one (show Kd.M (Kd.int .i64) _ _ _ (wrap64 ((rd (rd_L1 l0 t291) 0) - a1)) [.int .i64 (wrap64 ((rd (rd_L1 l0 t291) 0) - a1))] from rfl) (Reps.one (show Kd.M (Kd.int .i64) _ _ _ a2 [.int .i64 a2] from rfl) (Reps.none _ _)))); intro v300 w15 ho16 hb hg_ hnew_; clear hg_ hnew_; (first | rw [← Ny299.out] at ho16 | (simp only [Int.reduceToNat] at ho16; rw [← Ny299.out] at ho16)); have n0_ := Aside0.mk (Kd.N_elder' (by (with_reducible repeat (first | apply Kd.N_alloc | apply Kd.N_drewN | apply Kd.N_drew)); exact HO298.out) (Kd.R_base ho16) hb); have n1_ := Aside0.mk (Kd.R_lower (Kd.R_newM (M := fun k_ => (w.heap.size ≤ k_)) ho16 (below_size (by repeat (first | (with_reducible first | exact HB.out | apply below_alloc | apply pw_below_drewN | apply below_drew1) | exact HB.out))) (fun k_ h_ => h_)) (below_size (by repeat (first | (with_reducible first | exact HB.out | apply below_alloc | apply pw_below_drewN | apply below_drew1) | exact HB.out)))); have n2_ := Aside0.mk (below_step (by repeat (first | (with_reducible first | exact HB.out | apply below_alloc | apply pw_below_drewN | apply below_drew1) | exact HB.out)) hb); clear HO298; clear HB; have HO298 := n0_; have HO301 := n1_; have HB := n2_; clear n0_ n1_ n2_; clear hb ho16) | ((with_reducible refine gate_dst (N := 46) rfl ?_); refine Kd.R_lit (Kd.int .i64) _ 3 ?hg (N := 46) ?hd (xs := ([rd (rd_L1 l0 t291) 0, wrap64 ((rd (rd_L1 l0 t291) 1) - a2)] : List Int)) (inner := [.int .i64 (rd (rd_L1 l0 t291) 0), .int .i64 (wrap64 ((rd (rd_L1 l0 t291) 1) - a2))]) (ok := fun _ => True) (okp := fun _ => True) ?hr ?hp (fun _ hk => hk) trivial (Below.refl _ _) (Nat.le_refl _) (by simp) ?_; (case hd => rfl); (case hg => rfl); (case hr => first | (go_simp; done) | (go_simp; rfl)); (case hp => exact (Reps.one (show Kd.M (Kd.int .i64) _ _ _ (rd (rd_L1 l0 t291) 0) [.int .i64 (rd (rd_L1 l0 t291) 0)] from rfl) (Reps.one (show Kd.M (Kd.int .i64) _ _ _ (wrap64 ((rd (rd_L1 l0 t291) 1) - a2)) [.int .i64 (wrap64 ((rd (rd_L1 l0 t291) 1) - a2))] from rfl) (Reps.none _ _)))); intro v303 w17 ho18 hb hg_ hnew_; clear hg_ hnew_; (first | rw [← Ny302.out] at ho18 | (simp only [Int.reduceToNat] at ho18; rw [← Ny302.out] at ho18)); have n0_ := Aside0.mk (Kd.N_elder' (by (with_reducible repeat (first | apply Kd.N_alloc | apply Kd.N_drewN | apply Kd.N_drew)); exact HO298.out) (Kd.R_base ho18) hb); have n1_ := Aside0.mk (Kd.R_elder' (by (with_reducible repeat (first | apply Kd.R_alloc | apply Kd.R_drewN | apply Kd.R_drew)); exact HO301.out) (Kd.R_base ho18) hb); have n2_ := Aside0.mk (Kd.R_lower (Kd.R_new' (Kd.R_newM (M := fun k_ => (w.heap.size ≤ k_)) ho18 (below_size (by repeat (first | (with_reducible first | exact HB.out | apply below_alloc | apply pw_below_drewN | apply below_drew1) | exact HB.out))) (fun k_ h_ => h_)) (Kd.R_lt (by (with_reducible repeat (first | apply Kd.R_alloc | apply Kd.R_drewN | apply Kd.R_drew)); exact HO301.out))) (below_size (by repeat (first | (with_reducible first | exact HB.out | apply below_alloc | apply pw_below_drewN | apply below_drew1) | exact HB.out)))); have n3_ := Aside0.mk (below_step (by repeat (first | (with_reducible first | exact HB.out | apply below_alloc | apply pw_below_drewN | apply below_drew1) | exact HB.out)) hb); clear HO298; clear HO301; clear HB; have HO298 := n0_; have HO301 := n1_; have HO304 := n2_; have HB := n3_; clear n0_ n1_ n2_ n3_; clear hb ho18; obtain ⟨Ao19, co19, eo19⟩ := Kd.R_slice HO301.out; subst eo19; obtain ⟨Ao20, co20, eo20⟩ := Kd.R_slice HO304.out; subst eo20) | ((with_reducible refine gate_dst (N := 47) rfl ?_); refine Kd.N_lit (Kd.slice 3 (Kd.int .i64)) _ 40 ?hg (N' := 47) ?hd (xs := ([y299, y302] : List (List Int))) (inner := [.slice Ao19 y299.length co19, .slice Ao20 y302.length co20]) (ok := (fun k_ => (w.heap.size ≤ k_) ∧ some k_ ≠ (v297 : Value).ownBlock)) (okp := (fun k_ => (w.heap.size ≤ k_) ∧ some k_ ≠ (v297 : Value).ownBlock)) ?hr ?hp (fun _ hk => hk) ((show ∀ k_, w17.heap.size ≤ k_ → (fun k_ => (w.heap.size ≤ k_) ∧ some k_ ≠ (v297 : Value).ownBlock) k_ from fun k_ hk => ⟨(Nat.le_trans (below_size (by repeat (first | (with_reducible first | exact HB.out | apply below_alloc | apply pw_below_drewN | apply below_drew1) | exact HB.out))) hk), Kd.fresh' (Kd.N_lt (by (with_reducible repeat (first | apply Kd.N_alloc | apply Kd.N_drewN | apply Kd.N_drew)); exact HO298.out)) k_ hk⟩) _ (Nat.le_refl _)) (Below.refl _ _) (Nat.le_refl _) (by simp) ?_; (case hd => rfl); (case hg => rfl); (case hr => first | (go_simp; done) | (go_simp; rfl)); (case hp => exact (Reps.one (show Kd.FK (Kd.slice 3 (Kd.int .i64)) _ _ y299 [.slice Ao19 y299.length co19] from (Kd.FK_slice_mk (Kd.R_reads' (Kd.R_mono (ok' := (fun k_ => (w.heap.size ≤ k_) ∧ some k_ ≠ (v297 : Value).ownBlock)) (Kd.R_apart' (HO301.out) (Kd.N_typed HO298.out) (by decide)) (fun k_ hk => ⟨hk.1.1.1, hk.2⟩))).2.1 (Kd.R_F (Kd.R_mono (ok' := (fun k_ => (w.heap.size ≤ k_) ∧ some k_ ≠ (v297 : Value).ownBlock)) (Kd.R_apart' (HO301.out) (Kd.N_typed HO298.out) (by decide)) (fun k_ hk => ⟨hk.1.1.1, hk.2⟩))))) (Reps.one (show Kd.FK (Kd.slice 3 (Kd.int .i64)) _ _ y302 [.slice Ao20 y302.length co20] from (Kd.FK_slice_mk (Kd.R_reads' (Kd.R_mono (ok' := (fun k_ => (w.heap.size ≤ k_) ∧ some k_ ≠ (v297 : Value).ownBlock)) (Kd.R_apart' (HO304.out) (Kd.N_typed HO298.out) (by decide)) (fun k_ hk => ⟨hk.1.1.1, hk.2⟩))).2.1 (Kd.R_F (Kd.R_mono (ok' := (fun k_ => (w.heap.size ≤ k_) ∧ some k_ ≠ (v297 : Value).ownBlock)) (Kd.R_apart' (HO304.out) (Kd.N_typed HO298.out) (by decide)) (fun k_ hk => ⟨hk.1.1.1, hk.2⟩))))) (Reps.none _ _)))); intro v306 w21 ho22 hb hg_ hnew_; clear hg_ hnew_; (first | rw [← Ny305.out] at ho22 | (simp only [Int.reduceToNat] at ho22; rw [← Ny305.out] at ho22)); have n0_ := Aside0.mk (Kd.N_elder' (by (with_reducible repeat (first | apply Kd.N_alloc | apply Kd.N_drewN | apply Kd.N_drew)); exact HO298.out) (Kd.N_base ho22) hb); have n1_ := Aside0.mk (Kd.N_lower ho22 (below_size (by repeat (first | (with_reducible first | exact HB.out | apply below_alloc | apply pw_below_drewN | apply below_drew1) | exact HB.out)))); have n2_ := Aside0.mk (below_step (by repeat (first | (with_reducible first | exact HB.out | apply below_alloc | apply pw_below_drewN | apply below_drew1) | exact HB.out)) hb); clear HO298; clear HB; clear HO301; clear HO304; have HO298 := n0_; have HO307 := n1_; have HB := n2_; clear n0_ n1_ n2_; clear hb ho22))
            (try simp only [Act.put, List.setIfInBounds_toArray, List.set_cons_zero, List.set_cons_succ])
            go_cut [13] (fun v13 wc => ∃ (kq : Nat) (x13_12 : List (List Int)), Aside0 (spec_TakePiece.j0 kq t291 t296 x13_12 = some (r1, r2, r3)) ∧ Aside0 (kq ≤ k) ∧ Aside0 (Kd.N (Kd.slice 3 (Kd.int .i64)) 40 wc w.heap.size (fun k_ => (w.heap.size ≤ k_) ∧ some k_ ≠ (v13 : Value).ownBlock) v297 t296) ∧ Aside0 (Kd.N (Kd.slice 3 (Kd.int .i64)) 40 wc w.heap.size (fun k_ => (w.heap.size ≤ k_) ∧ some k_ ≠ (v297 : Value).ownBlock) v13 x13_12) ∧ Aside0 (Below w.heap.size w wc))
            case first =>
              have H := HC13.out
              clear HC13
              by_cases c23 : (ji11) < (ji12)
              · rw [if_pos c23] at H
                have c23b0 : decide ((ji11) < (ji12)) = true := decide_eq_true c23
                clear c23
                (first | rw [c23b0] | (simp only [i64_w, i32_w]; rw [c23b0]) | skip)
                obtain ⟨y308, hy308⟩ : ∃ y_ : List Int, y_ = (([wrap64 ((rd (rd_L1 l0 t291) 0) - a1), rd (rd_L1 l0 t291) 1] : List Int)) := ⟨_, rfl⟩
                replace H : (spec_TakePiece.j0 k t291 t296 (([y308, (([a1, wrap64 ((rd (rd_L1 l0 t291) 1) - a2)] : List Int))] : List (List Int)))) = some (r1, r2, r3) := by first | (rw [hy308]; with_reducible exact H) | (have H2_ := (Option.bind_some _ _).symm.trans H; rw [hy308]; with_reducible exact H2_) | (have H2_ := (Option.bind_some _ _).symm.trans H; with_reducible exact H2_) | with_reducible exact H | (rw [hy308]; exact H) | exact H
                have Ny308 := Aside0.mk hy308
                clear hy308
                obtain ⟨y311, hy311⟩ : ∃ y_ : List Int, y_ = (([a1, wrap64 ((rd (rd_L1 l0 t291) 1) - a2)] : List Int)) := ⟨_, rfl⟩
                replace H : (spec_TakePiece.j0 k t291 t296 (([y308, y311] : List (List Int)))) = some (r1, r2, r3) := by first | (rw [hy311]; with_reducible exact H) | (have H2_ := (Option.bind_some _ _).symm.trans H; rw [hy311]; with_reducible exact H2_) | (have H2_ := (Option.bind_some _ _).symm.trans H; with_reducible exact H2_) | with_reducible exact H | (rw [hy311]; exact H) | exact H
                have Ny311 := Aside0.mk hy311
                clear hy311
                obtain ⟨y314, hy314⟩ : ∃ y_ : List (List Int), y_ = (([y308, y311] : List (List Int))) := ⟨_, rfl⟩
                replace H : (spec_TakePiece.j0 k t291 t296 y314) = some (r1, r2, r3) := by first | (rw [hy314]; with_reducible exact H) | (have H2_ := (Option.bind_some _ _).symm.trans H; rw [hy314]; with_reducible exact H2_) | (have H2_ := (Option.bind_some _ _).symm.trans H; with_reducible exact H2_) | with_reducible exact H | (rw [hy314]; exact H) | exact H
                have Ny314 := Aside0.mk hy314
                clear hy314
                have H' := Aside0.mk H
                clear H
                go_wp2_with (first | ((with_reducible refine gate_dst (N := 75) rfl ?_); refine Kd.R_lit (Kd.int .i64) _ 3 ?hg (N := 75) ?hd (xs := ([wrap64 ((rd (rd_L1 l0 t291) 0) - a1), rd (rd_L1 l0 t291) 1] : List Int)) (inner := [.int .i64 (wrap64 ((rd (rd_L1 l0 t291) 0) - a1)), .int .i64 (rd (rd_L1 l0 t291) 1)]) (ok := fun _ => True) (okp := fun _ => True) ?hr ?hp (fun _ hk => hk) trivial (Below.refl _ _) (Nat.le_refl _) (by simp) ?_; (case hd => rfl); (case hg => rfl); (case hr => first | (go_simp; done) | (go_simp; rfl)); (case hp => exact (Reps.one (show Kd.M (Kd.int .i64) _ _ _ (wrap64 ((rd (rd_L1 l0 t291) 0) - a1)) [.int .i64 (wrap64 ((rd (rd_L1 l0 t291) 0) - a1))] from rfl) (Reps.one (show Kd.M (Kd.int .i64) _ _ _ (rd (rd_L1 l0 t291) 1) [.int .i64 (rd (rd_L1 l0 t291) 1)] from rfl) (Reps.none _ _)))); intro v309 w24 ho25 hb hg_ hnew_; clear hg_ hnew_; (first | rw [← Ny308.out] at ho25 | (simp only [Int.reduceToNat] at ho25; rw [← Ny308.out] at ho25)); have n0_ := Aside0.mk (Kd.N_elder' (by (with_reducible repeat (first | apply Kd.N_alloc | apply Kd.N_drewN | apply Kd.N_drew)); exact HO298.out) (Kd.R_base ho25) hb); have n1_ := Aside0.mk (Kd.N_elder' (by (with_reducible repeat (first | apply Kd.N_alloc | apply Kd.N_drewN | apply Kd.N_drew)); exact HO307.out) (Kd.R_base ho25) hb); have n2_ := Aside0.mk (Kd.R_lower (Kd.R_newM (M := fun k_ => (w.heap.size ≤ k_)) ho25 (below_size (by repeat (first | (with_reducible first | exact HB.out | apply below_alloc | apply pw_below_drewN | apply below_drew1) | exact HB.out))) (fun k_ h_ => h_)) (below_size (by repeat (first | (with_reducible first | exact HB.out | apply below_alloc | apply pw_below_drewN | apply below_drew1) | exact HB.out)))); have n3_ := Aside0.mk (below_step (by repeat (first | (with_reducible first | exact HB.out | apply below_alloc | apply pw_below_drewN | apply below_drew1) | exact HB.out)) hb); clear HO298; clear HO307; clear HB; have HO298 := n0_; have HO307 := n1_; have HO310 := n2_; have HB := n3_; clear n0_ n1_ n2_ n3_; clear hb ho25) | ((with_reducible refine gate_dst (N := 80) rfl ?_); refine Kd.R_lit (Kd.int .i64) _ 3 ?hg (N := 80) ?hd (xs := ([a1, wrap64 ((rd (rd_L1 l0 t291) 1) - a2)] : List Int)) (inner := [.int .i64 a1, .int .i64 (wrap64 ((rd (rd_L1 l0 t291) 1) - a2))]) (ok := fun _ => True) (okp := fun _ => True) ?hr ?hp (fun _ hk => hk) trivial (Below.refl _ _) (Nat.le_refl _) (by simp) ?_; (case hd => rfl); (case hg => rfl); (case hr => first | (go_simp; done) | (go_simp; rfl)); (case hp => exact (Reps.one (show Kd.M (Kd.int .i64) _ _ _ a1 [.int .i64 a1] from rfl) (Reps.one (show Kd.M (Kd.int .i64) _ _ _ (wrap64 ((rd (rd_L1 l0 t291) 1) - a2)) [.int .i64 (wrap64 ((rd (rd_L1 l0 t291) 1) - a2))] from rfl) (Reps.none _ _)))); intro v312 w26 ho27 hb hg_ hnew_; clear hg_ hnew_; (first | rw [← Ny311.out] at ho27 | (simp only [Int.reduceToNat] at ho27; rw [← Ny311.out] at ho27)); have n0_ := Aside0.mk (Kd.N_elder' (by (with_reducible repeat (first | apply Kd.N_alloc | apply Kd.N_drewN | apply Kd.N_drew)); exact HO298.out) (Kd.R_base ho27) hb); have n1_ := Aside0.mk (Kd.N_elder' (by (with_reducible repeat (first | apply Kd.N_alloc | apply Kd.N_drewN | apply Kd.N_drew)); exact HO307.out) (Kd.R_base ho27) hb); have n2_ := Aside0.mk (Kd.R_elder' (by (with_reducible repeat (first | apply Kd.R_alloc | apply Kd.R_drewN | apply Kd.R_drew)); exact HO310.out) (Kd.R_base ho27) hb); have n3_ := Aside0.mk (Kd.R_lower (Kd.R_new' (Kd.R_newM (M := fun k_ => (w.heap.size ≤ k_)) ho27 (below_size (by repeat (first | (with_reducible first | exact HB.out | apply below_alloc | apply pw_below_drewN | apply below_drew1) | exact HB.out))) (fun k_ h_ => h_)) (Kd.R_lt (by (with_reducible repeat (first | apply Kd.R_alloc | apply Kd.R_drewN | apply Kd.R_drew)); exact HO310.out))) (below_size (by repeat (first | (with_reducible first | exact HB.out | apply below_alloc | apply pw_below_drewN | apply below_drew1) | exact HB.out)))); have n4_ := Aside0.mk (below_step (by repeat (first | (with_reducible first | exact HB.out | apply below_alloc | apply pw_below_drewN | apply below_drew1) | exact HB.out)) hb); clear HO298; clear HO307; clear HO310; clear HB; have HO298 := n0_; have HO307 := n1_; have HO310 := n2_; have HO313 := n3_; have HB := n4_; clear n0_ n1_ n2_ n3_ n4_; clear hb ho27; obtain ⟨Ao28, co28, eo28⟩ := Kd.R_slice HO310.out; subst eo28; obtain ⟨Ao29, co29, eo29⟩ := Kd.R_slice HO313.out; subst eo29) | ((with_reducible refine gate_dst (N := 81) rfl ?_); refine Kd.N_lit (Kd.slice 3 (Kd.int .i64)) _ 40 ?hg (N' := 81) ?hd (xs := ([y308, y311] : List (List Int))) (inner := [.slice Ao28 y308.length co28, .slice Ao29 y311.length co29]) (ok := (fun k_ => (w.heap.size ≤ k_) ∧ some k_ ≠ (v297 : Value).ownBlock ∧ some k_ ≠ (v306 : Value).ownBlock)) (okp := (fun k_ => (w.heap.size ≤ k_) ∧ some k_ ≠ (v297 : Value).ownBlock ∧ some k_ ≠ (v306 : Value).ownBlock)) ?hr ?hp (fun _ hk => hk) ((show ∀ k_, w26.heap.size ≤ k_ → (fun k_ => (w.heap.size ≤ k_) ∧ some k_ ≠ (v297 : Value).ownBlock ∧ some k_ ≠ (v306 : Value).ownBlock) k_ from fun k_ hk => ⟨(Nat.le_trans (below_size (by repeat (first | (with_reducible first | exact HB.out | apply below_alloc | apply pw_below_drewN | apply below_drew1) | exact HB.out))) hk), Kd.fresh' (Kd.N_lt (by (with_reducible repeat (first | apply Kd.N_alloc | apply Kd.N_drewN | apply Kd.N_drew)); exact HO298.out)) k_ hk, Kd.fresh' (Kd.N_lt (by (with_reducible repeat (first | apply Kd.N_alloc | apply Kd.N_drewN | apply Kd.N_drew)); exact HO307.out)) k_ hk⟩) _ (Nat.le_refl _)) (Below.refl _ _) (Nat.le_refl _) (by simp) ?_; (case hd => rfl); (case hg => rfl); (case hr => first | (go_simp; done) | (go_simp; rfl)); (case hp => exact (Reps.one (show Kd.FK (Kd.slice 3 (Kd.int .i64)) _ _ y308 [.slice Ao28 y308.length co28] from (Kd.FK_slice_mk (Kd.R_reads' (Kd.R_mono (ok' := (fun k_ => (w.heap.size ≤ k_) ∧ some k_ ≠ (v297 : Value).ownBlock ∧ some k_ ≠ (v306 : Value).ownBlock)) (Kd.R_apart' (Kd.R_apart' (HO310.out) (Kd.N_typed HO298.out) (by decide)) (Kd.N_typed HO307.out) (by decide)) (fun k_ hk => ⟨hk.1.1.1.1, ⟨hk.1.2, hk.2⟩⟩))).2.1 (Kd.R_F (Kd.R_mono (ok' := (fun k_ => (w.heap.size ≤ k_) ∧ some k_ ≠ (v297 : Value).ownBlock ∧ some k_ ≠ (v306 : Value).ownBlock)) (Kd.R_apart' (Kd.R_apart' (HO310.out) (Kd.N_typed HO298.out) (by decide)) (Kd.N_typed HO307.out) (by decide)) (fun k_ hk => ⟨hk.1.1.1.1, ⟨hk.1.2, hk.2⟩⟩))))) (Reps.one (show Kd.FK (Kd.slice 3 (Kd.int .i64)) _ _ y311 [.slice Ao29 y311.length co29] from (Kd.FK_slice_mk (Kd.R_reads' (Kd.R_mono (ok' := (fun k_ => (w.heap.size ≤ k_) ∧ some k_ ≠ (v297 : Value).ownBlock ∧ some k_ ≠ (v306 : Value).ownBlock)) (Kd.R_apart' (Kd.R_apart' (HO313.out) (Kd.N_typed HO298.out) (by decide)) (Kd.N_typed HO307.out) (by decide)) (fun k_ hk => ⟨hk.1.1.1.1, ⟨hk.1.2, hk.2⟩⟩))).2.1 (Kd.R_F (Kd.R_mono (ok' := (fun k_ => (w.heap.size ≤ k_) ∧ some k_ ≠ (v297 : Value).ownBlock ∧ some k_ ≠ (v306 : Value).ownBlock)) (Kd.R_apart' (Kd.R_apart' (HO313.out) (Kd.N_typed HO298.out) (by decide)) (Kd.N_typed HO307.out) (by decide)) (fun k_ hk => ⟨hk.1.1.1.1, ⟨hk.1.2, hk.2⟩⟩))))) (Reps.none _ _)))); intro v315 w30 ho31 hb hg_ hnew_; clear hg_ hnew_; (first | rw [← Ny314.out] at ho31 | (simp only [Int.reduceToNat] at ho31; rw [← Ny314.out] at ho31)); have n0_ := Aside0.mk (Kd.N_elder' (by (with_reducible repeat (first | apply Kd.N_alloc | apply Kd.N_drewN | apply Kd.N_drew)); exact HO298.out) (Kd.N_base ho31) hb); have n1_ := Aside0.mk (Kd.N_elder' (by (with_reducible repeat (first | apply Kd.N_alloc | apply Kd.N_drewN | apply Kd.N_drew)); exact HO307.out) (Kd.N_base ho31) hb); have n2_ := Aside0.mk (Kd.N_lower ho31 (below_size (by repeat (first | (with_reducible first | exact HB.out | apply below_alloc | apply pw_below_drewN | apply below_drew1) | exact HB.out)))); have n3_ := Aside0.mk (below_step (by repeat (first | (with_reducible first | exact HB.out | apply below_alloc | apply pw_below_drewN | apply below_drew1) | exact HB.out)) hb); clear HO298; clear HO307; clear HB; clear HO310; clear HO313; have HO298 := n0_; have HO307 := n1_; have HO316 := n2_; have HB := n3_; clear n0_ n1_ n2_ n3_; clear hb ho31))
                go_meet
                case rel => exact ⟨_, (y314), H', ⟨by first | omega | exact Nat.le_refl _⟩, ⟨by (with_reducible repeat (first | apply Kd.N_alloc | apply Kd.N_drewN | apply Kd.N_drew)); exact Kd.N_mono HO298.out (fun _ hk => ⟨hk.1.1.1.1.1.1, hk.2⟩)⟩, ⟨by (with_reducible repeat (first | apply Kd.N_alloc | apply Kd.N_drewN | apply Kd.N_drew)); exact Kd.N_mono HO316.out (fun _ hk => ⟨hk.1, hk.2.1⟩)⟩, ⟨by repeat (first | (with_reducible first | exact HB.out | apply below_alloc | apply pw_below_drewN | apply below_drew1) | exact HB.out)⟩⟩
              · rw [if_neg c23] at H
                have c23b0 : decide ((ji11) < (ji12)) = false := decide_eq_false c23
                clear c23
                (first | rw [c23b0] | (simp only [i64_w, i32_w]; rw [c23b0]) | skip)
                have H' := Aside0.mk H
                clear H
                go_wp2
                go_meet
                case rel => exact ⟨_, (y305), H', ⟨by first | omega | exact Nat.le_refl _⟩, ⟨by (with_reducible repeat (first | apply Kd.N_alloc | apply Kd.N_drewN | apply Kd.N_drew)); exact Kd.N_mono HO298.out (fun _ hk => ⟨hk.1.1.1, hk.2⟩)⟩, ⟨by (with_reducible repeat (first | apply Kd.N_alloc | apply Kd.N_drewN | apply Kd.N_drew)); exact HO307.out⟩, ⟨by repeat (first | (with_reducible first | exact HB.out | apply below_alloc | apply pw_below_drewN | apply below_drew1) | exact HB.out)⟩⟩
            case rest =>
              clear HC13
              try clear c1
              try clear c2
              try clear p2
              try clear q2
              try clear hx2
              try clear qi2
              try clear c4
              try clear c5
              try clear c5b0
              try clear c6
              try clear c6b0
              try clear p6
              try clear c7
              try clear c7b0
              try clear c8
              try clear c8b0
              try clear c8b1
              try clear c9
              try clear c9b0
              try clear c9b1
              try clear c17
              try clear c23
              try clear c23b0
              try clear c27
              try clear c29
              try clear p29
              try clear q29
              try clear hx29
              try clear qi29
              try clear hx292_0
              try clear hx293_0
              try clear hx294_0
              try clear hx295_0
              try clear p292
              try clear p293
              try clear p294
              try clear p295
              try clear q292
              try clear q293
              try clear q294
              try clear q295
              obtain ⟨kq, x13_12, HA, HJ12, HO_12, HO_13, HB⟩ := hcut
              cases kq with
              | zero => exact absurd HA.out (by simp [spec_TakePiece.j0])
              | succ kj12 =>
                have H := HA.out
                clear HA
                simp only [spec_TakePiece.j0] at H
                have H' := Aside0.mk H
                clear H
                obtain ⟨Ao32, co32, eo32⟩ := Kd.N_slice HO_13.out
                subst eo32
                go_wp2
                go_loopg [12, 84] kj12 (fun kq v12 v84 w' => ∃ (x12_2 : List (List Int)) (x84_2 : Int), v84 = .int .i64 x84_2 ∧ Aside0 (spec_TakePiece.l0 kq t291 x12_2 x13_12 (x13_12.length : Int) x84_2 = some (r1, r2, r3)) ∧ Aside0 (kq ≤ kj12) ∧ Aside0 (Kd.N (Kd.slice 3 (Kd.int .i64)) 40 w' w.heap.size (fun k_ => (w.heap.size ≤ k_) ∧ some k_ ≠ ((.slice Ao32 x13_12.length co32) : Value).ownBlock) v12 x12_2) ∧ Aside0 (Kd.N (Kd.slice 3 (Kd.int .i64)) 40 w' w.heap.size (fun k_ => (w.heap.size ≤ k_) ∧ some k_ ≠ (v12 : Value).ownBlock) (.slice Ao32 x13_12.length co32) x13_12) ∧ Aside0 (Below w.heap.size w w'))
                case atStart => exact ⟨(t296), (0), (by first | rfl | (simp; done) | (simp [*]; done)), H', ⟨Nat.le_refl _⟩, ⟨by (with_reducible repeat (first | apply Kd.N_alloc | apply Kd.N_drewN | apply Kd.N_drew)); exact HO_12.out⟩, ⟨by (with_reducible repeat (first | apply Kd.N_alloc | apply Kd.N_drewN | apply Kd.N_drew)); exact HO_13.out⟩, ⟨by repeat (first | (with_reducible first | exact HB.out | apply below_alloc | apply pw_below_drewN | apply below_drew1) | exact HB.out)⟩⟩
                case round =>
                  clear H'
                  try clear c1
                  try clear c2
                  try clear p2
                  try clear q2
                  try clear hx2
                  try clear qi2
                  try clear c4
                  try clear c5
                  try clear c5b0
                  try clear c6
                  try clear c6b0
                  try clear p6
                  try clear c7
                  try clear c7b0
                  try clear c8
                  try clear c8b0
                  try clear c8b1
                  try clear c9
                  try clear c9b0
                  try clear c9b1
                  try clear c17
                  try clear c23
                  try clear c23b0
                  try clear c27
                  try clear c29
                  try clear p29
                  try clear q29
                  try clear hx29
                  try clear qi29
                  try clear hx292_0
                  try clear hx293_0
                  try clear hx294_0
                  try clear hx295_0
                  try clear p2
                  try clear p29
                  try clear p292
                  try clear p293
                  try clear p294
                  try clear p295
                  try clear p6
                  try clear q2
                  try clear q29
                  try clear q292
                  try clear q293
                  try clear q294
                  try clear q295
                  obtain ⟨x12_2, x84_2, rfl, HA, HK2, HO_12, HO_82, HB⟩ := hrel
                  cases gk with
                  | zero => exact absurd HA.out (by simp [spec_TakePiece.l0])
                  | succ k2 =>
                    have H := HA.out
                    clear HA
                    simp only [spec_TakePiece.l0] at H
                    by_cases c33 : x84_2 < (x13_12.length : Int)
                    · rw [if_pos c33] at H
                      have c33b0 : decide (x84_2 < (x13_12.length : Int)) = true := decide_eq_true c33
                      clear c33
                      by_cases c34 : 0 ≤ x84_2
                      · rw [if_pos c34] at H
                        have c34b0 : decide (0 ≤ x84_2) = true := decide_eq_true c34
                        clear c34
                        by_cases c35 : x84_2 < (x13_12.length : Int)
                        · rw [if_pos c35] at H
                          have c35b0 : decide (x84_2 < (x13_12.length : Int)) = true := decide_eq_true c35
                          clear c35
                          by_cases c36 : 0 < ((rd_L1 x13_12 x84_2).length : Int)
                          · rw [if_pos c36] at H
                            have c36b0 : decide (0 < ((rd_L1 x13_12 x84_2).length : Int)) = true := decide_eq_true c36
                            have c36b1 : decide (0 < (rd_L1 x13_12 x84_2).length) = true := decide_eq_true (by omega)
                            clear c36
                            by_cases c37 : (rd (rd_L1 x13_12 x84_2) 0) > 0
                            · rw [if_pos c37] at H
                              have c37b0 : decide (0 < (rd (rd_L1 x13_12 x84_2) 0)) = true := decide_eq_true c37
                              clear c37
                              by_cases c38 : 1 < ((rd_L1 x13_12 x84_2).length : Int)
                              · rw [if_pos c38] at H
                                have c38b0 : decide (1 < ((rd_L1 x13_12 x84_2).length : Int)) = true := decide_eq_true c38
                                have c38b1 : decide (1 < (rd_L1 x13_12 x84_2).length) = true := decide_eq_true (by omega)
                                clear c38
                                by_cases c39 : (rd (rd_L1 x13_12 x84_2) 1) > 0
                                · rw [if_pos c39] at H
                                  have c39b0 : decide (0 < (rd (rd_L1 x13_12 x84_2) 1)) = true := decide_eq_true c39
                                  clear c39
                                  by_cases c40 : x12_2.length < 5864062014805
                                  · rw [if_pos c40] at H
                                    have LMc40 := Aside0.mk c40
                                    clear c40
                                    obtain ⟨y320, hy320⟩ : ∃ y_ : List (List Int), y_ = (x12_2 ++ [rd_L1 x13_12 x84_2]) := ⟨_, rfl⟩
                                    replace H : (spec_TakePiece.l0 k2 t291 y320 x13_12 (x13_12.length : Int) (wrap64 (x84_2 + 1))) = some (r1, r2, r3) := by first | (rw [hy320]; with_reducible exact H) | (have H2_ := (Option.bind_some _ _).symm.trans H; rw [hy320]; with_reducible exact H2_) | (have H2_ := (Option.bind_some _ _).symm.trans H; with_reducible exact H2_) | with_reducible exact H | (rw [hy320]; exact H) | exact H
                                    have Ny320 := Aside0.mk hy320
                                    clear hy320
                                    have H' := Aside0.mk H
                                    clear H
                                    have p317 : 0 ≤ (x84_2 : Int) := of_decide_eq_true (by first | (with_reducible assumption) | assumption)
                                    have q317 : x84_2 < (x13_12.length : Int) := of_decide_eq_true (by first | (with_reducible assumption) | assumption)
                                    obtain ⟨ad317, A317_0, c317_0, e317, hx317_0, hl317_0, hi317_0⟩ := at_L1 (Kd.N_reads' HO_82.out).2.2 x84_2 p317 q317
                                    cases e317
                                    obtain ⟨ce317, hce317, hMe317, hcc317⟩ := Kd.N_get HO_82.out [] x84_2 p317 (by first | exact q317 | exact of_decide_eq_true (by first | (with_reducible assumption) | assumption) | (have e_ := (Kd.N_reads' HO_82.out).1; omega))
                                    obtain ⟨ua317_0, uc317_0, rfl, ul317_0, ge317_0⟩ := Kd.FK_slice_open hMe317
                                    have hv317_0 := hcc317 0 _ rfl
                                    rw [Nat.add_zero, show ((Kd.slice 3 (Kd.int .i64))).sz = 1 from rfl, Nat.mul_one] at hv317_0
                                    replace hv317_0 := Option.some.inj (hv317_0.symm.trans hx317_0)
                                    injection hv317_0 with hva_ hvn_ hvc_
                                    rw [hva_] at ge317_0
                                    rw [hvc_] at ul317_0
                                    have HL317_0 := Aside0.mk (show Kd.V (Kd.int .i64) 3 _ w.heap.size _ _ (rd_L1 x13_12 x84_2) from Kd.V_mk ul317_0 ge317_0)
                                    clear hva_ hvn_ hvc_ ge317_0 ul317_0
                                    clear hcc317 hce317
                                    have HR317_0 := Aside0.mk hi317_0
                                    have HC317_0 := Aside0.mk hl317_0
                                    clear hi317_0 hl317_0
                                    replace p317 := eq_true p317
                                    replace q317 := eq_true q317
                                    have p318 : 0 ≤ (0 : Int) := (by omega)
                                    have q318 : 0 < ((rd_L1 x13_12 x84_2).length : Int) := of_decide_eq_true (by first | (with_reducible assumption) | assumption)
                                    obtain ⟨ad318, e318, hx318_0⟩ := Kd.at_int (by repeat (first | (with_reducible exact HR317_0.out) | (with_reducible refine Kd.C_alloc ?_ _) | (with_reducible refine Kd.C_drewN ?_ _) | (with_reducible refine Kd.C_drew ?_) | exact HR317_0.out)) 0 p318 q318
                                    cases e318
                                    have qi318 : (0 < (rd_L1 x13_12 x84_2).length) = True := eq_true (by omega)
                                    (try rw [show ((0 : Int)).toNat = 0 from rfl] at hx318_0)
                                    (try rw [Addr.add_zero'] at hx318_0)
                                    replace p318 := eq_true p318
                                    replace q318 := eq_true q318
                                    have p319 : 0 ≤ (1 : Int) := (by omega)
                                    have q319 : 1 < ((rd_L1 x13_12 x84_2).length : Int) := of_decide_eq_true (by first | (with_reducible assumption) | assumption)
                                    obtain ⟨ad319, e319, hx319_0⟩ := Kd.at_int (by repeat (first | (with_reducible exact HR317_0.out) | (with_reducible refine Kd.C_alloc ?_ _) | (with_reducible refine Kd.C_drewN ?_ _) | (with_reducible refine Kd.C_drew ?_) | exact HR317_0.out)) 1 p319 q319
                                    obtain rfl : ad318 = ad319 := (by injection e319)
                                    (try simp only [show (1 : Int).toNat = 1 from rfl, Nat.reduceMul, Nat.reduceEqDiff, Go.Addr.add, ↓reduceIte] at hx319_0)
                                    have qi319 : (1 < (rd_L1 x13_12 x84_2).length) = True := eq_true (by omega)
                                    (try rw [show ((1 : Int)).toNat = 1 from rfl] at hx319_0)
                                    replace p319 := eq_true p319
                                    replace q319 := eq_true q319
                                    go_wp2_with (first | ((with_reducible refine gate_builtin (b := .append) (xs := #[.tmp 98, .tmp 100]) rfl ?_); at_builtin; refine Kd.N_append (Kd.slice 3 (Kd.int .i64)) (w0 := w) w.heap.size rfl (.tmp 98) (.tmp 100) 22 40 (.slice none 0 0) 24 rfl Try.underlying22 info40 rfl (by decide) (by omega) u12 x12_2 (rd_L1 x13_12 x84_2) [.slice (some ad318) (rd_L1 x13_12 x84_2).length c317_0] (fun k_ => (w.heap.size ≤ k_) ∧ some k_ ≠ (.slice (some ad317) x13_12.length co32 : Value).ownBlock) (fun k_ => ((fun k_ => (w.heap.size ≤ k_) ∧ some k_ ≠ (.slice (some ad317) x13_12.length co32 : Value).ownBlock)) k_ ∧ some k_ ≠ (u12 : Value).ownBlock) rfl rfl ?aP (fun _ hk => hk) ?aF ?aO ?aB ?aS ?aL ?_; (case aP => exact (Kd.FK_slice_mk (Kd.V_reads' (Kd.V_mono (ok' := (fun k_ => ((fun k_ => (w.heap.size ≤ k_) ∧ some k_ ≠ (.slice (some ad317) x13_12.length co32 : Value).ownBlock)) k_ ∧ some k_ ≠ (u12 : Value).ownBlock)) (HL317_0.out) (fun k_ hk => ⟨⟨hk.1.1, hk.2⟩, hk.1.2⟩))).2.1 (Kd.V_F (Kd.V_mono (ok' := (fun k_ => ((fun k_ => (w.heap.size ≤ k_) ∧ some k_ ≠ (.slice (some ad317) x13_12.length co32 : Value).ownBlock)) k_ ∧ some k_ ≠ (u12 : Value).ownBlock)) (HL317_0.out) (fun k_ hk => ⟨⟨hk.1.1, hk.2⟩, hk.1.2⟩))))); (case aB => exact (by repeat (first | (with_reducible first | exact HB.out | apply below_alloc | apply pw_below_drewN | apply below_drew1) | exact HB.out))); (case aF => exact (fun k_ hk => ⟨(Nat.le_trans (below_size (by repeat (first | (with_reducible first | exact HB.out | apply below_alloc | apply pw_below_drewN | apply below_drew1) | exact HB.out))) hk), Kd.fresh' (Kd.N_lt (by (with_reducible repeat (first | apply Kd.N_alloc | apply Kd.N_drewN | apply Kd.N_drew)); exact HO_82.out)) k_ hk⟩)); (case aO => exact (by (with_reducible repeat (first | apply Kd.N_alloc | apply Kd.N_drewN | apply Kd.N_drew)); exact HO_12.out)); (case aS => exact (below_size (by repeat (first | (with_reducible first | exact HB.out | apply below_alloc | apply pw_below_drewN | apply below_drew1) | exact HB.out)))); (case aL => have := LMc40.out; omega); intro v321 w41 ho hb hg hat; rw [← Ny320.out] at ho; have n0_ := Aside0.mk (Kd.N_afterv (ok := (fun k_ => (w.heap.size ≤ k_))) (by (with_reducible repeat (first | apply Kd.N_alloc | apply Kd.N_drewN | apply Kd.N_drew)); exact HO_82.out) hg hat); have n1_ := Aside0.mk (Kd.V_afterv (ok := (fun k_ => (w.heap.size ≤ k_) ∧ some k_ ≠ (.slice (some ad317) x13_12.length co32 : Value).ownBlock)) (by (with_reducible repeat (first | apply Kd.V_alloc | apply Kd.V_drewN | apply Kd.V_drew)); exact Kd.V_mono HL317_0.out (fun _ hk => ⟨⟨hk.1.1, hk.2⟩, hk.1.2⟩)) hg hat); have n2_ := Aside0.mk (hb); have n3_ := Aside0.mk (ho); clear HO_82; clear HL317_0; clear HB; clear HO_12; have HO_82 := n0_; have HL317_0 := n1_; have HB := n2_; have HO322 := n3_; clear n0_ n1_ n2_ n3_; clear ho hb hg hat))
                                    go_roundg k2
                                    case measure => have := HJ12.out; have := HK2.out; omega
                                    case rel => exact ⟨(y320), (wrap64 (x84_2 + 1)), (by first | rfl | (simp; done) | (simp [*]; done)), H', ⟨by have := HJ12.out; have := HK2.out; omega⟩, ⟨by (with_reducible repeat (first | apply Kd.N_alloc | apply Kd.N_drewN | apply Kd.N_drew)); exact HO322.out⟩, ⟨by (with_reducible repeat (first | apply Kd.N_alloc | apply Kd.N_drewN | apply Kd.N_drew)); exact HO_82.out⟩, ⟨by repeat (first | (with_reducible first | exact HB.out | apply below_alloc | apply pw_below_drewN | apply below_drew1) | exact HB.out)⟩⟩
                                  · rw [if_neg c40] at H
                                    exact absurd H (by simp)
                                · rw [if_neg c39] at H
                                  have c39b0 : decide (0 < (rd (rd_L1 x13_12 x84_2) 1)) = false := decide_eq_false c39
                                  clear c39
                                  have H' := Aside0.mk H
                                  clear H
                                  have p317 : 0 ≤ (x84_2 : Int) := of_decide_eq_true (by first | (with_reducible assumption) | assumption)
                                  have q317 : x84_2 < (x13_12.length : Int) := of_decide_eq_true (by first | (with_reducible assumption) | assumption)
                                  obtain ⟨ad317, A317_0, c317_0, e317, hx317_0, hl317_0, hi317_0⟩ := at_L1 (Kd.N_reads' HO_82.out).2.2 x84_2 p317 q317
                                  cases e317
                                  obtain ⟨ce317, hce317, hMe317, hcc317⟩ := Kd.N_get HO_82.out [] x84_2 p317 (by first | exact q317 | exact of_decide_eq_true (by first | (with_reducible assumption) | assumption) | (have e_ := (Kd.N_reads' HO_82.out).1; omega))
                                  obtain ⟨ua317_0, uc317_0, rfl, ul317_0, ge317_0⟩ := Kd.FK_slice_open hMe317
                                  have hv317_0 := hcc317 0 _ rfl
                                  rw [Nat.add_zero, show ((Kd.slice 3 (Kd.int .i64))).sz = 1 from rfl, Nat.mul_one] at hv317_0
                                  replace hv317_0 := Option.some.inj (hv317_0.symm.trans hx317_0)
                                  injection hv317_0 with hva_ hvn_ hvc_
                                  rw [hva_] at ge317_0
                                  rw [hvc_] at ul317_0
                                  have HL317_0 := Aside0.mk (show Kd.V (Kd.int .i64) 3 _ w.heap.size _ _ (rd_L1 x13_12 x84_2) from Kd.V_mk ul317_0 ge317_0)
                                  clear hva_ hvn_ hvc_ ge317_0 ul317_0
                                  clear hcc317 hce317
                                  have HR317_0 := Aside0.mk hi317_0
                                  have HC317_0 := Aside0.mk hl317_0
                                  clear hi317_0 hl317_0
                                  replace p317 := eq_true p317
                                  replace q317 := eq_true q317
                                  have p318 : 0 ≤ (0 : Int) := (by omega)
                                  have q318 : 0 < ((rd_L1 x13_12 x84_2).length : Int) := of_decide_eq_true (by first | (with_reducible assumption) | assumption)
                                  obtain ⟨ad318, e318, hx318_0⟩ := Kd.at_int (by repeat (first | (with_reducible exact HR317_0.out) | (with_reducible refine Kd.C_alloc ?_ _) | (with_reducible refine Kd.C_drewN ?_ _) | (with_reducible refine Kd.C_drew ?_) | exact HR317_0.out)) 0 p318 q318
                                  cases e318
                                  have qi318 : (0 < (rd_L1 x13_12 x84_2).length) = True := eq_true (by omega)
                                  (try rw [show ((0 : Int)).toNat = 0 from rfl] at hx318_0)
                                  (try rw [Addr.add_zero'] at hx318_0)
                                  replace p318 := eq_true p318
                                  replace q318 := eq_true q318
                                  have p319 : 0 ≤ (1 : Int) := (by omega)
                                  have q319 : 1 < ((rd_L1 x13_12 x84_2).length : Int) := of_decide_eq_true (by first | (with_reducible assumption) | assumption)
                                  obtain ⟨ad319, e319, hx319_0⟩ := Kd.at_int (by repeat (first | (with_reducible exact HR317_0.out) | (with_reducible refine Kd.C_alloc ?_ _) | (with_reducible refine Kd.C_drewN ?_ _) | (with_reducible refine Kd.C_drew ?_) | exact HR317_0.out)) 1 p319 q319
                                  obtain rfl : ad318 = ad319 := (by injection e319)
                                  (try simp only [show (1 : Int).toNat = 1 from rfl, Nat.reduceMul, Nat.reduceEqDiff, Go.Addr.add, ↓reduceIte] at hx319_0)
                                  have qi319 : (1 < (rd_L1 x13_12 x84_2).length) = True := eq_true (by omega)
                                  (try rw [show ((1 : Int)).toNat = 1 from rfl] at hx319_0)
                                  replace p319 := eq_true p319
                                  replace q319 := eq_true q319
                                  go_wp2
                                  go_roundg k2
                                  case measure => have := HJ12.out; have := HK2.out; omega
                                  case rel => exact ⟨(x12_2), (wrap64 (x84_2 + 1)), (by first | rfl | (simp; done) | (simp [*]; done)), H', ⟨by have := HJ12.out; have := HK2.out; omega⟩, ⟨by (with_reducible repeat (first | apply Kd.N_alloc | apply Kd.N_drewN | apply Kd.N_drew)); exact HO_12.out⟩, ⟨by (with_reducible repeat (first | apply Kd.N_alloc | apply Kd.N_drewN | apply Kd.N_drew)); exact HO_82.out⟩, ⟨by repeat (first | (with_reducible first | exact HB.out | apply below_alloc | apply pw_below_drewN | apply below_drew1) | exact HB.out)⟩⟩
                              · rw [if_neg c38] at H
                                exact absurd H (by simp)
                            · rw [if_neg c37] at H
                              have c37b0 : decide (0 < (rd (rd_L1 x13_12 x84_2) 0)) = false := decide_eq_false c37
                              clear c37
                              have H' := Aside0.mk H
                              clear H
                              have p317 : 0 ≤ (x84_2 : Int) := of_decide_eq_true (by first | (with_reducible assumption) | assumption)
                              have q317 : x84_2 < (x13_12.length : Int) := of_decide_eq_true (by first | (with_reducible assumption) | assumption)
                              obtain ⟨ad317, A317_0, c317_0, e317, hx317_0, hl317_0, hi317_0⟩ := at_L1 (Kd.N_reads' HO_82.out).2.2 x84_2 p317 q317
                              cases e317
                              obtain ⟨ce317, hce317, hMe317, hcc317⟩ := Kd.N_get HO_82.out [] x84_2 p317 (by first | exact q317 | exact of_decide_eq_true (by first | (with_reducible assumption) | assumption) | (have e_ := (Kd.N_reads' HO_82.out).1; omega))
                              obtain ⟨ua317_0, uc317_0, rfl, ul317_0, ge317_0⟩ := Kd.FK_slice_open hMe317
                              have hv317_0 := hcc317 0 _ rfl
                              rw [Nat.add_zero, show ((Kd.slice 3 (Kd.int .i64))).sz = 1 from rfl, Nat.mul_one] at hv317_0
                              replace hv317_0 := Option.some.inj (hv317_0.symm.trans hx317_0)
                              injection hv317_0 with hva_ hvn_ hvc_
                              rw [hva_] at ge317_0
                              rw [hvc_] at ul317_0
                              have HL317_0 := Aside0.mk (show Kd.V (Kd.int .i64) 3 _ w.heap.size _ _ (rd_L1 x13_12 x84_2) from Kd.V_mk ul317_0 ge317_0)
                              clear hva_ hvn_ hvc_ ge317_0 ul317_0
                              clear hcc317 hce317
                              have HR317_0 := Aside0.mk hi317_0
                              have HC317_0 := Aside0.mk hl317_0
                              clear hi317_0 hl317_0
                              replace p317 := eq_true p317
                              replace q317 := eq_true q317
                              have p318 : 0 ≤ (0 : Int) := (by omega)
                              have q318 : 0 < ((rd_L1 x13_12 x84_2).length : Int) := of_decide_eq_true (by first | (with_reducible assumption) | assumption)
                              obtain ⟨ad318, e318, hx318_0⟩ := Kd.at_int (by repeat (first | (with_reducible exact HR317_0.out) | (with_reducible refine Kd.C_alloc ?_ _) | (with_reducible refine Kd.C_drewN ?_ _) | (with_reducible refine Kd.C_drew ?_) | exact HR317_0.out)) 0 p318 q318
                              cases e318
                              have qi318 : (0 < (rd_L1 x13_12 x84_2).length) = True := eq_true (by omega)
                              (try rw [show ((0 : Int)).toNat = 0 from rfl] at hx318_0)
                              (try rw [Addr.add_zero'] at hx318_0)
                              replace p318 := eq_true p318
                              replace q318 := eq_true q318
                              go_wp2
                              go_roundg k2
                              case measure => have := HJ12.out; have := HK2.out; omega
                              case rel => exact ⟨(x12_2), (wrap64 (x84_2 + 1)), (by first | rfl | (simp; done) | (simp [*]; done)), H', ⟨by have := HJ12.out; have := HK2.out; omega⟩, ⟨by (with_reducible repeat (first | apply Kd.N_alloc | apply Kd.N_drewN | apply Kd.N_drew)); exact HO_12.out⟩, ⟨by (with_reducible repeat (first | apply Kd.N_alloc | apply Kd.N_drewN | apply Kd.N_drew)); exact HO_82.out⟩, ⟨by repeat (first | (with_reducible first | exact HB.out | apply below_alloc | apply pw_below_drewN | apply below_drew1) | exact HB.out)⟩⟩
                          · rw [if_neg c36] at H
                            exact absurd H (by simp)
                        · rw [if_neg c35] at H
                          exact absurd H (by simp)
                      · rw [if_neg c34] at H
                        exact absurd H (by simp)
                    · rw [if_neg c33] at H
                      have c33b0 : decide (x84_2 < (x13_12.length : Int)) = false := decide_eq_false c33
                      clear c33
                      replace H := Option.bind_eq_some_iff.mp H
                      obtain ⟨t323, A420, H⟩ := H
                      replace H : (if t323 = true then (some (x12_2, t291, true)) else (some (([] : List (List Int)), (-1), false))) = some (r1, r2, r3) := H
                      have A42 := Aside0.mk A420
                      clear A420
                      by_cases c43 : t323 = true
                      · subst c43
                        have H1 : (some (x12_2, t291, true)) = some (r1, r2, r3) := by rw [if_pos rfl] at H; exact H
                        clear H
                        have H := H1
                        clear H1
                        simp only [Option.some.injEq, Prod.mk.injEq] at H
                        obtain ⟨rfl, rfl, rfl⟩ := H
                        obtain ⟨Ao44, co44, eo44⟩ := Kd.N_slice HO_12.out
                        subst eo44
                        go_wp2_with (first | ((with_reducible refine gate_callee (f := 13) rfl ?_); refine goesL_ (some 104) rfl rfl Try.func13 (by kernel_rfl) rfl #[.slice Ao44 x12_2.length co44] rfl (by (try simp only [List.map_toArray, List.map_cons, List.map_nil]); first | done | rfl | (simp only [List.length_drop, List.length_take]; rfl)) ?_; (with_reducible refine (spec_StoreOk.calls k2 _ _ x12_2 true _ ?side1 ?side2 A42.out).mono ?_); (case side1 => repeat (first | exact (Kd.N_reads' HO_12.out).2.2 | (with_reducible refine Kd.C_alloc ?_ _) | (with_reducible refine Kd.C_drewN ?_ _) | (with_reducible refine Kd.C_drew ?_))); (case side2 => exact (Kd.N_reads' HO_12.out).2.1); rintro e w' ⟨rfl, ⟨nd, rfl⟩⟩; refine ⟨_, rfl, ?_⟩))
                        go_ret3
                        exact ⟨_, by first | rfl | (simp [errW_none, errW_some] <;> rfl) | (simp only [← hji11, ← hji12]; first | rfl | (simp [errW_none, errW_some] <;> rfl)) | (simp [*, errW_none, errW_some] <;> rfl), by (with_reducible repeat (first | apply Kd.N_alloc | apply Kd.N_drewN | apply Kd.N_drew)); exact Kd.N_mono HO_12.out (fun _ hk => hk.1), by repeat (first | (with_reducible first | exact HB.out | apply below_alloc | apply pw_below_drewN | apply below_drew1) | exact HB.out)⟩
                      · replace c43 := Bool.eq_false_iff.mpr c43
                        subst c43
                        have H1 : (some (([] : List (List Int)), (-1), false)) = some (r1, r2, r3) := by rw [if_neg (show ¬ (false = true) by decide)] at H; exact H
                        clear H
                        have H := H1
                        clear H1
                        simp only [Option.some.injEq, Prod.mk.injEq] at H
                        obtain ⟨rfl, rfl, rfl⟩ := H
                        obtain ⟨Ao45, co45, eo45⟩ := Kd.N_slice HO_12.out
                        subst eo45
                        go_wp2_with (first | ((with_reducible refine gate_callee (f := 13) rfl ?_); refine goesL_ (some 104) rfl rfl Try.func13 (by kernel_rfl) rfl #[.slice Ao45 x12_2.length co45] rfl (by (try simp only [List.map_toArray, List.map_cons, List.map_nil]); first | done | rfl | (simp only [List.length_drop, List.length_take]; rfl)) ?_; (with_reducible refine (spec_StoreOk.calls k2 _ _ x12_2 false _ ?side1 ?side2 A42.out).mono ?_); (case side1 => repeat (first | exact (Kd.N_reads' HO_12.out).2.2 | (with_reducible refine Kd.C_alloc ?_ _) | (with_reducible refine Kd.C_drewN ?_ _) | (with_reducible refine Kd.C_drew ?_))); (case side2 => exact (Kd.N_reads' HO_12.out).2.1); rintro e w' ⟨rfl, ⟨nd, rfl⟩⟩; refine ⟨_, rfl, ?_⟩))
                        go_ret3
                        exact ⟨_, by first | rfl | (simp [errW_none, errW_some] <;> rfl) | (simp only [← hji11, ← hji12]; first | rfl | (simp [errW_none, errW_some] <;> rfl)) | (simp [*, errW_none, errW_some] <;> rfl), by first | exact Kd.S_nil _ _ _ _ _ | exact Kd.N_nil _ _ _ _ _ | exact Kd.V_nil _ _ _ _ _ | exact Kd.Q_nil _ _ _ _ _ | exact Kd.R_nil _ _ _ _ _, by repeat (first | (with_reducible first | exact HB.out | apply below_alloc | apply pw_below_drewN | apply below_drew1) | exact HB.out)⟩
          · rw [if_neg c9] at H
            exact absurd H (by simp)
        · rw [if_neg c8] at H
          exact absurd H (by simp)
      · rw [if_neg c7] at H
        exact absurd H (by simp)
    · rw [if_neg c6] at H
      exact absurd H (by simp)
end Go.Proofs.Ytebjpafnfmmjeaa.PA
