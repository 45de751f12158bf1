-- Written for this claim by a program of this session's (ownprint.py), by way of the kit's print and hand-proved texts. Lean checks it.
import Derived.Test.YtoildabjnioafaaPAx0
import Derived.Test.YtoildabjnioafaaPAx6
namespace Go.Proofs.Ytoildabjnioafaa.PA
open Go.RowKit Go.Proofs.YtoildabjnioafaaW.PrintWords Go.Proofs.YtoildabjnioafaaW.PrintLast Go.Proofs.YtoildabjnioafaaW.PrintMore
attribute [local go_sem] max2_int min2_int max_two min_two max_three min_three max_four min_four   -- for this text's walks alone
set_option linter.unusedVariables false
set_option linter.unusedSimpArgs false

/-! ### spec_CutCloth: function 30 -/
def spec_CutCloth.l0 : Nat → List (List Int) → List (List Int) → Int → Int → Option ((List (List Int)))
  | 0, _, _, _, _ => none
  | k + 1, x11, x60, x61, x62 => if x62 < x61 then (if 0 ≤ x62 then (if x62 < (x60.length : Int) then (if 2 < ((rd_L1 x60 x62).length : Int) then (if (rd (rd_L1 x60 x62) 2) > 0 then (if 3 < ((rd_L1 x60 x62).length : Int) then (if (rd (rd_L1 x60 x62) 3) > 0 then (if x11.length < 5864062014805 then (spec_CutCloth.l0 k (x11 ++ [rd_L1 x60 x62]) x60 x61 (wrap64 (x62 + 1))) else (none)) else (spec_CutCloth.l0 k x11 x60 x61 (wrap64 (x62 + 1)))) else (none)) else (spec_CutCloth.l0 k x11 x60 x61 (wrap64 (x62 + 1)))) else (none)) else (none)) else (none)) else (some x11)
def spec_CutCloth.f (k : Nat) (a0 : Int) (a1 : Int) (l2 : List Int) : Option ((List (List Int))) := (spec_WindowOk.f k a0 a1 l2).bind fun t247 => (if t247 = true then (if 0 < (l2.length : Int) then (if 1 < (l2.length : Int) then (if 2 < (l2.length : Int) then (if 3 < (l2.length : Int) then ((some (([(([0, 0, a0, rd l2 1] : List Int)), (([0, rd l2 1, rd l2 0, rd l2 3] : List Int)), (([wrap64 ((rd l2 0) + (rd l2 2)), rd l2 1, wrap64 ((wrap64 (a0 - (rd l2 0))) - (rd l2 2)), rd l2 3] : List Int)), (([0, wrap64 ((rd l2 1) + (rd l2 3)), a0, wrap64 ((wrap64 (a1 - (rd l2 1))) - (rd l2 3))] : List Int))] : List (List Int)) : List (List Int))).bind fun y267 => (spec_CutCloth.l0 k (([] : List (List Int))) y267 (y267.length : Int) 0)) else (none)) else (none)) else (none)) else (none)) else (some ([] : List (List Int))))
theorem spec_CutCloth.mono_l : ∀ k, (∀ y0 y1 y2 y3, LeO (spec_CutCloth.l0 k y0 y1 y2 y3) (spec_CutCloth.l0 (k + 1) y0 y1 y2 y3))
  | 0 => fun _ _ _ _ r h => by simp [spec_CutCloth.l0] at h
  | k + 1 => by
    have ih0 := spec_CutCloth.mono_l k
    · intro y0 y1 y2 y3
      unfold spec_CutCloth.l0
      repeat' first
      | (with_reducible exact ih0 _ _ _ _)
      | (with_reducible exact spec_WindowOk.mono _ _ _ _)
      | (with_reducible exact LeO.refl _)
      | (with_reducible exact LeO.none _)
      | (with_reducible refine LeO.ite ?_ ?_)
      | (with_reducible refine LeO.bind ?_ (fun _ => ?_))
      | exact ih0 _ _ _ _
      | exact spec_WindowOk.mono _ _ _ _
      | exact LeO.none _
      | refine LeO.ite ?_ ?_
      | refine LeO.bind ?_ (fun _ => ?_)
theorem spec_CutCloth.mono : ∀ a0 a1 a2 k, LeO (spec_CutCloth.f k a0 a1 a2) (spec_CutCloth.f (k + 1) a0 a1 a2) := by
  intro a0 a1 a2 k
  have ih0 := spec_CutCloth.mono_l k
  unfold spec_CutCloth.f
  repeat' first
      | (with_reducible exact ih0 _ _ _ _)
      | (with_reducible exact spec_WindowOk.mono _ _ _ _)
      | (with_reducible exact LeO.refl _)
      | (with_reducible exact LeO.none _)
      | (with_reducible refine LeO.ite ?_ ?_)
      | (with_reducible refine LeO.bind ?_ (fun _ => ?_))
      | exact ih0 _ _ _ _
      | exact spec_WindowOk.mono _ _ _ _
      | exact LeO.none _
      | refine LeO.ite ?_ ?_
      | refine LeO.bind ?_ (fun _ => ?_)
set_option maxHeartbeats 8000000 in
set_option maxRecDepth 100000 in
theorem spec_CutCloth.calls (k : Nat) (a0 : Int) (a1 : Int) (A2 : Option Addr) (c2 : Nat) (l2 : List Int) (r : List (List Int)) (w : World) (hr2 : Kd.C (Kd.int .i64) w A2 l2.length l2) (hc2 : l2.length ≤ c2) (h : spec_CutCloth.f k a0 a1 l2 = some r) :
    Calls Try.prog 30 #[.int .i64 a0, .int .i64 a1, .slice A2 l2.length c2] w fun e w' => ∃ v0_ : Value, e = .returned (v0_) ∧ Kd.N (Kd.slice 3 (Kd.int .i64)) 29 w' w.heap.size (fun k_ => (w.heap.size ≤ k_)) v0_ r ∧ Below w.heap.size w w' := by
  have HR2 := Aside0.mk hr2
  have HC2 := Aside0.mk hc2
  clear hr2 hc2
  have HB := Aside0.mk (Below.refl w.heap.size w)
  have H : ((spec_WindowOk.f k a0 a1 l2).bind fun t247 => (if t247 = true then (if 0 < (l2.length : Int) then (if 1 < (l2.length : Int) then (if 2 < (l2.length : Int) then (if 3 < (l2.length : Int) then ((some (([(([0, 0, a0, rd l2 1] : List Int)), (([0, rd l2 1, rd l2 0, rd l2 3] : List Int)), (([wrap64 ((rd l2 0) + (rd l2 2)), rd l2 1, wrap64 ((wrap64 (a0 - (rd l2 0))) - (rd l2 2)), rd l2 3] : List Int)), (([0, wrap64 ((rd l2 1) + (rd l2 3)), a0, wrap64 ((wrap64 (a1 - (rd l2 1))) - (rd l2 3))] : List Int))] : List (List Int)) : List (List Int))).bind fun y267 => (spec_CutCloth.l0 k (([] : List (List Int))) y267 (y267.length : Int) 0)) else (none)) else (none)) else (none)) else (none)) else (some ([] : List (List Int))))) = some r := h
  clear h
  replace H := Option.bind_eq_some_iff.mp H
  obtain ⟨t247, A40, H⟩ := H
  replace H : (if t247 = true then (if 0 < (l2.length : Int) then (if 1 < (l2.length : Int) then (if 2 < (l2.length : Int) then (if 3 < (l2.length : Int) then ((some (([(([0, 0, a0, rd l2 1] : List Int)), (([0, rd l2 1, rd l2 0, rd l2 3] : List Int)), (([wrap64 ((rd l2 0) + (rd l2 2)), rd l2 1, wrap64 ((wrap64 (a0 - (rd l2 0))) - (rd l2 2)), rd l2 3] : List Int)), (([0, wrap64 ((rd l2 1) + (rd l2 3)), a0, wrap64 ((wrap64 (a1 - (rd l2 1))) - (rd l2 3))] : List Int))] : List (List Int)) : List (List Int))).bind fun y267 => (spec_CutCloth.l0 k (([] : List (List Int))) y267 (y267.length : Int) 0)) else (none)) else (none)) else (none)) else (none)) else (some ([] : List (List Int)))) = some r := H
  have A4 := Aside0.mk A40
  clear A40
  by_cases c5 : t247 = true
  · subst c5
    have H1 : (if 0 < (l2.length : Int) then (if 1 < (l2.length : Int) then (if 2 < (l2.length : Int) then (if 3 < (l2.length : Int) then ((some (([(([0, 0, a0, rd l2 1] : List Int)), (([0, rd l2 1, rd l2 0, rd l2 3] : List Int)), (([wrap64 ((rd l2 0) + (rd l2 2)), rd l2 1, wrap64 ((wrap64 (a0 - (rd l2 0))) - (rd l2 2)), rd l2 3] : List Int)), (([0, wrap64 ((rd l2 1) + (rd l2 3)), a0, wrap64 ((wrap64 (a1 - (rd l2 1))) - (rd l2 3))] : List Int))] : List (List Int)) : List (List Int))).bind fun y267 => (spec_CutCloth.l0 k (([] : List (List Int))) y267 (y267.length : Int) 0)) else (none)) else (none)) else (none)) else (none)) = some r := by rw [if_pos rfl] at H; exact H
    clear H
    have H := H1
    clear H1
    by_cases c6 : 0 < (l2.length : Int)
    · rw [if_pos c6] at H
      have c6b0 : decide (0 < (l2.length : Int)) = true := decide_eq_true c6
      have c6b1 : decide (0 < l2.length) = true := decide_eq_true (by omega)
      clear c6
      by_cases c7 : 1 < (l2.length : Int)
      · rw [if_pos c7] at H
        have c7b0 : decide (1 < (l2.length : Int)) = true := decide_eq_true c7
        have c7b1 : decide (1 < l2.length) = true := decide_eq_true (by omega)
        clear c7
        by_cases c8 : 2 < (l2.length : Int)
        · rw [if_pos c8] at H
          have c8b0 : decide (2 < (l2.length : Int)) = true := decide_eq_true c8
          have c8b1 : decide (2 < l2.length) = true := decide_eq_true (by omega)
          clear c8
          by_cases c9 : 3 < (l2.length : Int)
          · rw [if_pos c9] at H
            have c9b0 : decide (3 < (l2.length : Int)) = true := decide_eq_true c9
            have c9b1 : decide (3 < l2.length) = true := decide_eq_true (by omega)
            clear c9
            obtain ⟨y252, hy252⟩ : ∃ y_ : List (List Int), y_ = (([] : List (List Int))) := ⟨_, rfl⟩
            replace H : ((some (([(([0, 0, a0, rd l2 1] : List Int)), (([0, rd l2 1, rd l2 0, rd l2 3] : List Int)), (([wrap64 ((rd l2 0) + (rd l2 2)), rd l2 1, wrap64 ((wrap64 (a0 - (rd l2 0))) - (rd l2 2)), rd l2 3] : List Int)), (([0, wrap64 ((rd l2 1) + (rd l2 3)), a0, wrap64 ((wrap64 (a1 - (rd l2 1))) - (rd l2 3))] : List Int))] : List (List Int)) : List (List Int))).bind fun y267 => (spec_CutCloth.l0 k y252 y267 (y267.length : Int) 0)) = some r := by first | (rw [hy252]; with_reducible exact H) | (have H2_ := (Option.bind_some _ _).symm.trans H; rw [hy252]; with_reducible exact H2_) | (have H2_ := (Option.bind_some _ _).symm.trans H; with_reducible exact H2_) | with_reducible exact H | (rw [hy252]; exact H) | exact H
            have Ny252 := Aside0.mk hy252
            clear hy252
            obtain ⟨y255, hy255⟩ : ∃ y_ : List Int, y_ = (([0, 0, a0, rd l2 1] : List Int)) := ⟨_, rfl⟩
            replace H : ((some (([y255, (([0, rd l2 1, rd l2 0, rd l2 3] : List Int)), (([wrap64 ((rd l2 0) + (rd l2 2)), rd l2 1, wrap64 ((wrap64 (a0 - (rd l2 0))) - (rd l2 2)), rd l2 3] : List Int)), (([0, wrap64 ((rd l2 1) + (rd l2 3)), a0, wrap64 ((wrap64 (a1 - (rd l2 1))) - (rd l2 3))] : List Int))] : List (List Int)) : List (List Int))).bind fun y267 => (spec_CutCloth.l0 k y252 y267 (y267.length : Int) 0)) = some r := by first | (rw [hy255]; with_reducible exact H) | (have H2_ := (Option.bind_some _ _).symm.trans H; rw [hy255]; with_reducible exact H2_) | (have H2_ := (Option.bind_some _ _).symm.trans H; with_reducible exact H2_) | with_reducible exact H | (rw [hy255]; exact H) | exact H
            have Ny255 := Aside0.mk hy255
            clear hy255
            obtain ⟨y258, hy258⟩ : ∃ y_ : List Int, y_ = (([0, rd l2 1, rd l2 0, rd l2 3] : List Int)) := ⟨_, rfl⟩
            replace H : ((some (([y255, y258, (([wrap64 ((rd l2 0) + (rd l2 2)), rd l2 1, wrap64 ((wrap64 (a0 - (rd l2 0))) - (rd l2 2)), rd l2 3] : List Int)), (([0, wrap64 ((rd l2 1) + (rd l2 3)), a0, wrap64 ((wrap64 (a1 - (rd l2 1))) - (rd l2 3))] : List Int))] : List (List Int)) : List (List Int))).bind fun y267 => (spec_CutCloth.l0 k y252 y267 (y267.length : Int) 0)) = some r := by first | (rw [hy258]; with_reducible exact H) | (have H2_ := (Option.bind_some _ _).symm.trans H; rw [hy258]; with_reducible exact H2_) | (have H2_ := (Option.bind_some _ _).symm.trans H; with_reducible exact H2_) | with_reducible exact H | (rw [hy258]; exact H) | exact H
            have Ny258 := Aside0.mk hy258
            clear hy258
            obtain ⟨y261, hy261⟩ : ∃ y_ : List Int, y_ = (([wrap64 ((rd l2 0) + (rd l2 2)), rd l2 1, wrap64 ((wrap64 (a0 - (rd l2 0))) - (rd l2 2)), rd l2 3] : List Int)) := ⟨_, rfl⟩
            replace H : ((some (([y255, y258, y261, (([0, wrap64 ((rd l2 1) + (rd l2 3)), a0, wrap64 ((wrap64 (a1 - (rd l2 1))) - (rd l2 3))] : List Int))] : List (List Int)) : List (List Int))).bind fun y267 => (spec_CutCloth.l0 k y252 y267 (y267.length : Int) 0)) = some r := by first | (rw [hy261]; with_reducible exact H) | (have H2_ := (Option.bind_some _ _).symm.trans H; rw [hy261]; with_reducible exact H2_) | (have H2_ := (Option.bind_some _ _).symm.trans H; with_reducible exact H2_) | with_reducible exact H | (rw [hy261]; exact H) | exact H
            have Ny261 := Aside0.mk hy261
            clear hy261
            obtain ⟨y264, hy264⟩ : ∃ y_ : List Int, y_ = (([0, wrap64 ((rd l2 1) + (rd l2 3)), a0, wrap64 ((wrap64 (a1 - (rd l2 1))) - (rd l2 3))] : List Int)) := ⟨_, rfl⟩
            replace H : ((some (([y255, y258, y261, y264] : List (List Int)) : List (List Int))).bind fun y267 => (spec_CutCloth.l0 k y252 y267 (y267.length : Int) 0)) = some r := by first | (rw [hy264]; with_reducible exact H) | (have H2_ := (Option.bind_some _ _).symm.trans H; rw [hy264]; with_reducible exact H2_) | (have H2_ := (Option.bind_some _ _).symm.trans H; with_reducible exact H2_) | with_reducible exact H | (rw [hy264]; exact H) | exact H
            have Ny264 := Aside0.mk hy264
            clear hy264
            obtain ⟨y267, hy267⟩ : ∃ y_ : List (List Int), y_ = (([y255, y258, y261, y264] : List (List Int))) := ⟨_, rfl⟩
            replace H : (spec_CutCloth.l0 k y252 y267 (y267.length : Int) 0) = some r := by first | (rw [hy267]; with_reducible exact H) | (have H2_ := (Option.bind_some _ _).symm.trans H; rw [hy267]; with_reducible exact H2_) | (have H2_ := (Option.bind_some _ _).symm.trans H; with_reducible exact H2_) | with_reducible exact H | (rw [hy267]; exact H) | exact H
            have Ny267 := Aside0.mk hy267
            clear hy267
            have H' := Aside0.mk H
            clear H
            go_enter Try.func30, Try.ntmps30
            go_wp2_with (first | ((with_reducible refine gate_callee (f := 20) rfl ?_); refine goesL_ (some 17) rfl rfl Try.func20 (by kernel_rfl) rfl #[.int .i64 a0, .int .i64 a1, .slice A2 l2.length c2] rfl (by (try simp only [List.map_toArray, List.map_cons, List.map_nil]); first | done | rfl | (simp only [List.length_drop, List.length_take]; rfl)) ?_; (with_reducible refine (spec_WindowOk.calls k a0 a1 _ _ l2 true _ ?side1 ?side2 A4.out).mono ?_); (case side1 => repeat (first | exact HR2.out | (with_reducible refine Kd.C_alloc ?_ _) | (with_reducible refine Kd.C_drewN ?_ _) | (with_reducible refine Kd.C_drew ?_))); (case side2 => exact HC2.out); rintro e w10 ⟨rfl, hb⟩; refine ⟨_, rfl, ?_⟩; have n0_ := Aside0.mk (below_step (by repeat (first | (with_reducible first | exact HB.out | apply below_alloc | apply pw_below_drewN | apply below_drew1) | exact HB.out)) hb); clear HB; have HB := n0_; clear n0_; (try clear hb); (try clear hb2); (try clear hk); (try clear hi); have p248 : 0 ≤ (0 : Int) := (by omega); have q248 : 0 < (l2.length : Int) := of_decide_eq_true (by first | (with_reducible assumption) | assumption); obtain ⟨ad248, e248, hx248_0⟩ := Kd.at_int HR2.out 0 p248 q248; cases e248; have qi248 : (0 < l2.length) = True := eq_true (by omega); (try rw [show ((0 : Int)).toNat = 0 from rfl] at hx248_0); (try rw [Addr.add_zero'] at hx248_0); replace hx248_0 := (HB.out.cell (World.block_lt_of_cell? w _ hx248_0)).trans hx248_0; replace p248 := eq_true p248; replace q248 := eq_true q248; have p249 : 0 ≤ (1 : Int) := (by omega); have q249 : 1 < (l2.length : Int) := of_decide_eq_true (by first | (with_reducible assumption) | assumption); obtain ⟨ad249, e249, hx249_0⟩ := Kd.at_int HR2.out 1 p249 q249; obtain rfl : ad248 = ad249 := (by injection e249); (try simp only [show (1 : Int).toNat = 1 from rfl, Nat.reduceMul, Nat.reduceEqDiff, Go.Addr.add, ↓reduceIte] at hx249_0); have qi249 : (1 < l2.length) = True := eq_true (by omega); (try rw [show ((1 : Int)).toNat = 1 from rfl] at hx249_0); replace hx249_0 := (HB.out.cell (World.block_lt_of_cell? w _ hx249_0)).trans hx249_0; replace p249 := eq_true p249; replace q249 := eq_true q249; have p250 : 0 ≤ (2 : Int) := (by omega); have q250 : 2 < (l2.length : Int) := of_decide_eq_true (by first | (with_reducible assumption) | assumption); obtain ⟨ad250, e250, hx250_0⟩ := Kd.at_int HR2.out 2 p250 q250; obtain rfl : ad248 = ad250 := (by injection e250); (try simp only [show (2 : Int).toNat = 2 from rfl, Nat.reduceMul, Nat.reduceEqDiff, Go.Addr.add, ↓reduceIte] at hx250_0); have qi250 : (2 < l2.length) = True := eq_true (by omega); (try rw [show ((2 : Int)).toNat = 2 from rfl] at hx250_0); replace hx250_0 := (HB.out.cell (World.block_lt_of_cell? w _ hx250_0)).trans hx250_0; replace p250 := eq_true p250; replace q250 := eq_true q250; have p251 : 0 ≤ (3 : Int) := (by omega); have q251 : 3 < (l2.length : Int) := of_decide_eq_true (by first | (with_reducible assumption) | assumption); obtain ⟨ad251, e251, hx251_0⟩ := Kd.at_int HR2.out 3 p251 q251; obtain rfl : ad248 = ad251 := (by injection e251); (try simp only [show (3 : Int).toNat = 3 from rfl, Nat.reduceMul, Nat.reduceEqDiff, Go.Addr.add, ↓reduceIte] at hx251_0); have qi251 : (3 < l2.length) = True := eq_true (by omega); (try rw [show ((3 : Int)).toNat = 3 from rfl] at hx251_0); replace hx251_0 := (HB.out.cell (World.block_lt_of_cell? w _ hx251_0)).trans hx251_0; replace p251 := eq_true p251; replace q251 := eq_true q251) | ((with_reducible refine gate_dst (N := 31) rfl ?_); refine Kd.N_lit (Kd.slice 3 (Kd.int .i64)) _ 29 ?hg (N' := 31) ?hd (xs := ([] : List (List Int))) (inner := []) (ok := (fun k_ => (w.heap.size ≤ k_))) (okp := (fun k_ => (w.heap.size ≤ k_))) ?hr ?hp (fun _ hk => hk) ((show ∀ k_, w10.heap.size ≤ k_ → (fun k_ => (w.heap.size ≤ k_)) k_ from fun k_ hk => (Nat.le_trans (below_size (by repeat (first | (with_reducible first | exact HB.out | apply below_alloc | apply pw_below_drewN | apply below_drew1) | exact HB.out))) hk)) _ (Nat.le_refl _)) (Below.refl _ _) (Nat.le_refl _) (by simp) ?_; (case hd => rfl); (case hg => rfl); (case hr => first | (go_simp; done) | (go_simp; rfl)); (case hp => exact (Reps.none _ _)); intro v253 w11 ho12 hb hg_ hnew_; clear hg_ hnew_; (first | rw [← Ny252.out] at ho12 | (simp only [Int.reduceToNat] at ho12; rw [← Ny252.out] at ho12)); have n0_ := Aside0.mk (Kd.N_lower ho12 (below_size (by repeat (first | (with_reducible first | exact HB.out | apply below_alloc | apply pw_below_drewN | apply below_drew1) | exact HB.out)))); have n1_ := Aside0.mk (below_step (by repeat (first | (with_reducible first | exact HB.out | apply below_alloc | apply pw_below_drewN | apply below_drew1) | exact HB.out)) hb); clear HB; have HO254 := n0_; have HB := n1_; clear n0_ n1_; clear hb ho12) | ((with_reducible refine gate_dst (N := 34) rfl ?_); refine Kd.R_lit (Kd.int .i64) _ 3 ?hg (N := 34) ?hd (xs := ([0, 0, a0, rd l2 1] : List Int)) (inner := [.int .i64 0, .int .i64 0, .int .i64 a0, .int .i64 (rd l2 1)]) (ok := fun _ => True) (okp := fun _ => True) ?hr ?hp (fun _ hk => hk) trivial (Below.refl _ _) (Nat.le_refl _) (by simp) ?_; (case hd => rfl); (case hg => rfl); (case hr => first | (go_simp; done) | (go_simp; rfl)); (case hp => exact (Reps.one (show Kd.M (Kd.int .i64) _ _ _ 0 [.int .i64 0] from rfl) (Reps.one (show Kd.M (Kd.int .i64) _ _ _ 0 [.int .i64 0] from rfl) (Reps.one (show Kd.M (Kd.int .i64) _ _ _ a0 [.int .i64 a0] from rfl) (Reps.one (show Kd.M (Kd.int .i64) _ _ _ (rd l2 1) [.int .i64 (rd l2 1)] from rfl) (Reps.none _ _)))))); intro v256 w13 ho14 hb hg_ hnew_; clear hg_ hnew_; (first | rw [← Ny255.out] at ho14 | (simp only [Int.reduceToNat] at ho14; rw [← Ny255.out] at ho14)); have n0_ := Aside0.mk (Kd.N_elder' (by (with_reducible repeat (first | apply Kd.N_alloc | apply Kd.N_drewN | apply Kd.N_drew)); exact HO254.out) (Kd.R_base ho14) hb); have n1_ := Aside0.mk (Kd.R_lower (Kd.R_newM (M := fun k_ => (w.heap.size ≤ k_)) ho14 (below_size (by repeat (first | (with_reducible first | exact HB.out | apply below_alloc | apply pw_below_drewN | apply below_drew1) | exact HB.out))) (fun k_ h_ => h_)) (below_size (by repeat (first | (with_reducible first | exact HB.out | apply below_alloc | apply pw_below_drewN | apply below_drew1) | exact HB.out)))); have n2_ := Aside0.mk (below_step (by repeat (first | (with_reducible first | exact HB.out | apply below_alloc | apply pw_below_drewN | apply below_drew1) | exact HB.out)) hb); clear HO254; clear HB; have HO254 := n0_; have HO257 := n1_; have HB := n2_; clear n0_ n1_ n2_; clear hb ho14) | ((with_reducible refine gate_dst (N := 38) rfl ?_); refine Kd.R_lit (Kd.int .i64) _ 3 ?hg (N := 38) ?hd (xs := ([0, rd l2 1, rd l2 0, rd l2 3] : List Int)) (inner := [.int .i64 0, .int .i64 (rd l2 1), .int .i64 (rd l2 0), .int .i64 (rd l2 3)]) (ok := fun _ => True) (okp := fun _ => True) ?hr ?hp (fun _ hk => hk) trivial (Below.refl _ _) (Nat.le_refl _) (by simp) ?_; (case hd => rfl); (case hg => rfl); (case hr => first | (go_simp; done) | (go_simp; rfl)); (case hp => exact (Reps.one (show Kd.M (Kd.int .i64) _ _ _ 0 [.int .i64 0] from rfl) (Reps.one (show Kd.M (Kd.int .i64) _ _ _ (rd l2 1) [.int .i64 (rd l2 1)] from rfl) (Reps.one (show Kd.M (Kd.int .i64) _ _ _ (rd l2 0) [.int .i64 (rd l2 0)] from rfl) (Reps.one (show Kd.M (Kd.int .i64) _ _ _ (rd l2 3) [.int .i64 (rd l2 3)] from rfl) (Reps.none _ _)))))); intro v259 w15 ho16 hb hg_ hnew_; clear hg_ hnew_; (first | rw [← Ny258.out] at ho16 | (simp only [Int.reduceToNat] at ho16; rw [← Ny258.out] at ho16)); have n0_ := Aside0.mk (Kd.N_elder' (by (with_reducible repeat (first | apply Kd.N_alloc | apply Kd.N_drewN | apply Kd.N_drew)); exact HO254.out) (Kd.R_base ho16) hb); have n1_ := Aside0.mk (Kd.R_elder' (by (with_reducible repeat (first | apply Kd.R_alloc | apply Kd.R_drewN | apply Kd.R_drew)); exact HO257.out) (Kd.R_base ho16) hb); have n2_ := Aside0.mk (Kd.R_lower (Kd.R_new' (Kd.R_newM (M := fun k_ => (w.heap.size ≤ k_)) ho16 (below_size (by repeat (first | (with_reducible first | exact HB.out | apply below_alloc | apply pw_below_drewN | apply below_drew1) | exact HB.out))) (fun k_ h_ => h_)) (Kd.R_lt (by (with_reducible repeat (first | apply Kd.R_alloc | apply Kd.R_drewN | apply Kd.R_drew)); exact HO257.out))) (below_size (by repeat (first | (with_reducible first | exact HB.out | apply below_alloc | apply pw_below_drewN | apply below_drew1) | exact HB.out)))); have n3_ := Aside0.mk (below_step (by repeat (first | (with_reducible first | exact HB.out | apply below_alloc | apply pw_below_drewN | apply below_drew1) | exact HB.out)) hb); clear HO254; clear HO257; clear HB; have HO254 := n0_; have HO257 := n1_; have HO260 := n2_; have HB := n3_; clear n0_ n1_ n2_ n3_; clear hb ho16) | ((with_reducible refine gate_dst (N := 49) rfl ?_); refine Kd.R_lit (Kd.int .i64) _ 3 ?hg (N := 49) ?hd (xs := ([wrap64 ((rd l2 0) + (rd l2 2)), rd l2 1, wrap64 ((wrap64 (a0 - (rd l2 0))) - (rd l2 2)), rd l2 3] : List Int)) (inner := [.int .i64 (wrap64 ((rd l2 0) + (rd l2 2))), .int .i64 (rd l2 1), .int .i64 (wrap64 ((wrap64 (a0 - (rd l2 0))) - (rd l2 2))), .int .i64 (rd l2 3)]) (ok := fun _ => True) (okp := fun _ => True) ?hr ?hp (fun _ hk => hk) trivial (Below.refl _ _) (Nat.le_refl _) (by simp) ?_; (case hd => rfl); (case hg => rfl); (case hr => first | (go_simp; done) | (go_simp; rfl)); (case hp => exact (Reps.one (show Kd.M (Kd.int .i64) _ _ _ (wrap64 ((rd l2 0) + (rd l2 2))) [.int .i64 (wrap64 ((rd l2 0) + (rd l2 2)))] from rfl) (Reps.one (show Kd.M (Kd.int .i64) _ _ _ (rd l2 1) [.int .i64 (rd l2 1)] from rfl) (Reps.one (show Kd.M (Kd.int .i64) _ _ _ (wrap64 ((wrap64 (a0 - (rd l2 0))) - (rd l2 2))) [.int .i64 (wrap64 ((wrap64 (a0 - (rd l2 0))) - (rd l2 2)))] from rfl) (Reps.one (show Kd.M (Kd.int .i64) _ _ _ (rd l2 3) [.int .i64 (rd l2 3)] from rfl) (Reps.none _ _)))))); intro v262 w17 ho18 hb hg_ hnew_; clear hg_ hnew_; (first | rw [← Ny261.out] at ho18 | (simp only [Int.reduceToNat] at ho18; rw [← Ny261.out] at ho18)); have n0_ := Aside0.mk (Kd.N_elder' (by (with_reducible repeat (first | apply Kd.N_alloc | apply Kd.N_drewN | apply Kd.N_drew)); exact HO254.out) (Kd.R_base ho18) hb); have n1_ := Aside0.mk (Kd.R_elder' (by (with_reducible repeat (first | apply Kd.R_alloc | apply Kd.R_drewN | apply Kd.R_drew)); exact HO257.out) (Kd.R_base ho18) hb); have n2_ := Aside0.mk (Kd.R_elder' (by (with_reducible repeat (first | apply Kd.R_alloc | apply Kd.R_drewN | apply Kd.R_drew)); exact HO260.out) (Kd.R_base ho18) hb); have n3_ := Aside0.mk (Kd.R_lower (Kd.R_new' (Kd.R_new' (Kd.R_newM (M := fun k_ => (w.heap.size ≤ k_)) ho18 (below_size (by repeat (first | (with_reducible first | exact HB.out | apply below_alloc | apply pw_below_drewN | apply below_drew1) | exact HB.out))) (fun k_ h_ => h_)) (Kd.R_lt (by (with_reducible repeat (first | apply Kd.R_alloc | apply Kd.R_drewN | apply Kd.R_drew)); exact HO257.out))) (Kd.R_lt (by (with_reducible repeat (first | apply Kd.R_alloc | apply Kd.R_drewN | apply Kd.R_drew)); exact HO260.out))) (below_size (by repeat (first | (with_reducible first | exact HB.out | apply below_alloc | apply pw_below_drewN | apply below_drew1) | exact HB.out)))); have n4_ := Aside0.mk (below_step (by repeat (first | (with_reducible first | exact HB.out | apply below_alloc | apply pw_below_drewN | apply below_drew1) | exact HB.out)) hb); clear HO254; clear HO257; clear HO260; clear HB; have HO254 := n0_; have HO257 := n1_; have HO260 := n2_; have HO263 := n3_; have HB := n4_; clear n0_ n1_ n2_ n3_ n4_; clear hb ho18) | ((with_reducible refine gate_dst (N := 59) rfl ?_); refine Kd.R_lit (Kd.int .i64) _ 3 ?hg (N := 59) ?hd (xs := ([0, wrap64 ((rd l2 1) + (rd l2 3)), a0, wrap64 ((wrap64 (a1 - (rd l2 1))) - (rd l2 3))] : List Int)) (inner := [.int .i64 0, .int .i64 (wrap64 ((rd l2 1) + (rd l2 3))), .int .i64 a0, .int .i64 (wrap64 ((wrap64 (a1 - (rd l2 1))) - (rd l2 3)))]) (ok := fun _ => True) (okp := fun _ => True) ?hr ?hp (fun _ hk => hk) trivial (Below.refl _ _) (Nat.le_refl _) (by simp) ?_; (case hd => rfl); (case hg => rfl); (case hr => first | (go_simp; done) | (go_simp; rfl)); (case hp => exact (Reps.one (show Kd.M (Kd.int .i64) _ _ _ 0 [.int .i64 0] from rfl) (Reps.one (show Kd.M (Kd.int .i64) _ _ _ (wrap64 ((rd l2 1) + (rd l2 3))) [.int .i64 (wrap64 ((rd l2 1) + (rd l2 3)))] from rfl) (Reps.one (show Kd.M (Kd.int .i64) _ _ _ a0 [.int .i64 a0] from rfl) (Reps.one (show Kd.M (Kd.int .i64) _ _ _ (wrap64 ((wrap64 (a1 - (rd l2 1))) - (rd l2 3))) [.int .i64 (wrap64 ((wrap64 (a1 - (rd l2 1))) - (rd l2 3)))] from rfl) (Reps.none _ _)))))); intro v265 w19 ho20 hb hg_ hnew_; clear hg_ hnew_; (first | rw [← Ny264.out] at ho20 | (simp only [Int.reduceToNat] at ho20; rw [← Ny264.out] at ho20)); have n0_ := Aside0.mk (Kd.N_elder' (by (with_reducible repeat (first | apply Kd.N_alloc | apply Kd.N_drewN | apply Kd.N_drew)); exact HO254.out) (Kd.R_base ho20) hb); have n1_ := Aside0.mk (Kd.R_elder' (by (with_reducible repeat (first | apply Kd.R_alloc | apply Kd.R_drewN | apply Kd.R_drew)); exact HO257.out) (Kd.R_base ho20) hb); have n2_ := Aside0.mk (Kd.R_elder' (by (with_reducible repeat (first | apply Kd.R_alloc | apply Kd.R_drewN | apply Kd.R_drew)); exact HO260.out) (Kd.R_base ho20) hb); have n3_ := Aside0.mk (Kd.R_elder' (by (with_reducible repeat (first | apply Kd.R_alloc | apply Kd.R_drewN | apply Kd.R_drew)); exact HO263.out) (Kd.R_base ho20) hb); have n4_ := Aside0.mk (Kd.R_lower (Kd.R_new' (Kd.R_new' (Kd.R_new' (Kd.R_newM (M := fun k_ => (w.heap.size ≤ k_)) ho20 (below_size (by repeat (first | (with_reducible first | exact HB.out | apply below_alloc | apply pw_below_drewN | apply below_drew1) | exact HB.out))) (fun k_ h_ => h_)) (Kd.R_lt (by (with_reducible repeat (first | apply Kd.R_alloc | apply Kd.R_drewN | apply Kd.R_drew)); exact HO257.out))) (Kd.R_lt (by (with_reducible repeat (first | apply Kd.R_alloc | apply Kd.R_drewN | apply Kd.R_drew)); exact HO260.out))) (Kd.R_lt (by (with_reducible repeat (first | apply Kd.R_alloc | apply Kd.R_drewN | apply Kd.R_drew)); exact HO263.out))) (below_size (by repeat (first | (with_reducible first | exact HB.out | apply below_alloc | apply pw_below_drewN | apply below_drew1) | exact HB.out)))); have n5_ := Aside0.mk (below_step (by repeat (first | (with_reducible first | exact HB.out | apply below_alloc | apply pw_below_drewN | apply below_drew1) | exact HB.out)) hb); clear HO254; clear HO257; clear HO260; clear HO263; clear HB; have HO254 := n0_; have HO257 := n1_; have HO260 := n2_; have HO263 := n3_; have HO266 := n4_; have HB := n5_; clear n0_ n1_ n2_ n3_ n4_ n5_; clear hb ho20; obtain ⟨Ao21, co21, eo21⟩ := Kd.R_slice HO257.out; subst eo21; obtain ⟨Ao22, co22, eo22⟩ := Kd.R_slice HO260.out; subst eo22; obtain ⟨Ao23, co23, eo23⟩ := Kd.R_slice HO263.out; subst eo23; obtain ⟨Ao24, co24, eo24⟩ := Kd.R_slice HO266.out; subst eo24) | ((with_reducible refine gate_dst (N := 60) rfl ?_); refine Kd.N_lit (Kd.slice 3 (Kd.int .i64)) _ 29 ?hg (N' := 60) ?hd (xs := ([y255, y258, y261, y264] : List (List Int))) (inner := [.slice Ao21 y255.length co21, .slice Ao22 y258.length co22, .slice Ao23 y261.length co23, .slice Ao24 y264.length co24]) (ok := (fun k_ => (w.heap.size ≤ k_) ∧ some k_ ≠ (v253 : Value).ownBlock)) (okp := (fun k_ => (w.heap.size ≤ k_) ∧ some k_ ≠ (v253 : Value).ownBlock)) ?hr ?hp (fun _ hk => hk) ((show ∀ k_, w19.heap.size ≤ k_ → (fun k_ => (w.heap.size ≤ k_) ∧ some k_ ≠ (v253 : Value).ownBlock) k_ from fun k_ hk => ⟨(Nat.le_trans (below_size (by repeat (first | (with_reducible first | exact HB.out | apply below_alloc | apply pw_below_drewN | apply below_drew1) | exact HB.out))) hk), Kd.fresh' (Kd.N_lt (by (with_reducible repeat (first | apply Kd.N_alloc | apply Kd.N_drewN | apply Kd.N_drew)); exact HO254.out)) k_ hk⟩) _ (Nat.le_refl _)) (Below.refl _ _) (Nat.le_refl _) (by simp) ?_; (case hd => rfl); (case hg => rfl); (case hr => first | (go_simp; done) | (go_simp; rfl)); (case hp => exact (Reps.one (show Kd.FK (Kd.slice 3 (Kd.int .i64)) _ _ y255 [.slice Ao21 y255.length co21] from (Kd.FK_slice_mk (Kd.R_reads' (Kd.R_mono (ok' := (fun k_ => (w.heap.size ≤ k_) ∧ some k_ ≠ (v253 : Value).ownBlock)) (Kd.R_apart' (HO257.out) (Kd.N_typed HO254.out) (by decide)) (fun k_ hk => ⟨hk.1.1.1.1.1, hk.2⟩))).2.1 (Kd.R_F (Kd.R_mono (ok' := (fun k_ => (w.heap.size ≤ k_) ∧ some k_ ≠ (v253 : Value).ownBlock)) (Kd.R_apart' (HO257.out) (Kd.N_typed HO254.out) (by decide)) (fun k_ hk => ⟨hk.1.1.1.1.1, hk.2⟩))))) (Reps.one (show Kd.FK (Kd.slice 3 (Kd.int .i64)) _ _ y258 [.slice Ao22 y258.length co22] from (Kd.FK_slice_mk (Kd.R_reads' (Kd.R_mono (ok' := (fun k_ => (w.heap.size ≤ k_) ∧ some k_ ≠ (v253 : Value).ownBlock)) (Kd.R_apart' (HO260.out) (Kd.N_typed HO254.out) (by decide)) (fun k_ hk => ⟨hk.1.1.1.1.1, hk.2⟩))).2.1 (Kd.R_F (Kd.R_mono (ok' := (fun k_ => (w.heap.size ≤ k_) ∧ some k_ ≠ (v253 : Value).ownBlock)) (Kd.R_apart' (HO260.out) (Kd.N_typed HO254.out) (by decide)) (fun k_ hk => ⟨hk.1.1.1.1.1, hk.2⟩))))) (Reps.one (show Kd.FK (Kd.slice 3 (Kd.int .i64)) _ _ y261 [.slice Ao23 y261.length co23] from (Kd.FK_slice_mk (Kd.R_reads' (Kd.R_mono (ok' := (fun k_ => (w.heap.size ≤ k_) ∧ some k_ ≠ (v253 : Value).ownBlock)) (Kd.R_apart' (HO263.out) (Kd.N_typed HO254.out) (by decide)) (fun k_ hk => ⟨hk.1.1.1.1.1, hk.2⟩))).2.1 (Kd.R_F (Kd.R_mono (ok' := (fun k_ => (w.heap.size ≤ k_) ∧ some k_ ≠ (v253 : Value).ownBlock)) (Kd.R_apart' (HO263.out) (Kd.N_typed HO254.out) (by decide)) (fun k_ hk => ⟨hk.1.1.1.1.1, hk.2⟩))))) (Reps.one (show Kd.FK (Kd.slice 3 (Kd.int .i64)) _ _ y264 [.slice Ao24 y264.length co24] from (Kd.FK_slice_mk (Kd.R_reads' (Kd.R_mono (ok' := (fun k_ => (w.heap.size ≤ k_) ∧ some k_ ≠ (v253 : Value).ownBlock)) (Kd.R_apart' (HO266.out) (Kd.N_typed HO254.out) (by decide)) (fun k_ hk => ⟨hk.1.1.1.1.1, hk.2⟩))).2.1 (Kd.R_F (Kd.R_mono (ok' := (fun k_ => (w.heap.size ≤ k_) ∧ some k_ ≠ (v253 : Value).ownBlock)) (Kd.R_apart' (HO266.out) (Kd.N_typed HO254.out) (by decide)) (fun k_ hk => ⟨hk.1.1.1.1.1, hk.2⟩))))) (Reps.none _ _)))))); intro v268 w25 ho26 hb hg_ hnew_; clear hg_ hnew_; (first | rw [← Ny267.out] at ho26 | (simp only [Int.reduceToNat] at ho26; rw [← Ny267.out] at ho26)); have n0_ := Aside0.mk (Kd.N_elder' (by (with_reducible repeat (first | apply Kd.N_alloc | apply Kd.N_drewN | apply Kd.N_drew)); exact HO254.out) (Kd.N_base ho26) hb); have n1_ := Aside0.mk (Kd.N_lower ho26 (below_size (by repeat (first | (with_reducible first | exact HB.out | apply below_alloc | apply pw_below_drewN | apply below_drew1) | exact HB.out)))); have n2_ := Aside0.mk (below_step (by repeat (first | (with_reducible first | exact HB.out | apply below_alloc | apply pw_below_drewN | apply below_drew1) | exact HB.out)) hb); clear HO254; clear HB; clear HO257; clear HO260; clear HO263; clear HO266; have HO254 := n0_; have HO269 := n1_; have HB := n2_; clear n0_ n1_ n2_; clear hb ho26; obtain ⟨Ao27, co27, eo27⟩ := Kd.N_slice HO269.out; subst eo27))
            go_loopg [11, 62] k (fun kq v11 v62 w' => ∃ (x11_1 : List (List Int)) (x62_1 : Int), v62 = .int .i64 x62_1 ∧ Aside0 (spec_CutCloth.l0 kq x11_1 y267 (y267.length : Int) x62_1 = some r) ∧ Aside0 (kq ≤ k) ∧ Aside0 (Kd.N (Kd.slice 3 (Kd.int .i64)) 29 w' w.heap.size (fun k_ => (w.heap.size ≤ k_) ∧ some k_ ≠ ((.slice Ao27 y267.length co27) : Value).ownBlock) v11 x11_1) ∧ Aside0 (Kd.N (Kd.slice 3 (Kd.int .i64)) 29 w' w.heap.size (fun k_ => (w.heap.size ≤ k_) ∧ some k_ ≠ (v11 : Value).ownBlock) (.slice Ao27 y267.length co27) y267) ∧ Aside0 (Below w.heap.size w w'))
            case atStart => exact ⟨(y252), (0), (by first | rfl | (simp; done) | (simp [*]; done)), H', ⟨Nat.le_refl _⟩, ⟨by (with_reducible repeat (first | apply Kd.N_alloc | apply Kd.N_drewN | apply Kd.N_drew)); exact Kd.N_mono HO254.out (fun _ hk => ⟨hk.1.1.1.1.1, hk.2⟩)⟩, ⟨by (with_reducible repeat (first | apply Kd.N_alloc | apply Kd.N_drewN | apply Kd.N_drew)); exact HO269.out⟩, ⟨by repeat (first | (with_reducible first | exact HB.out | apply below_alloc | apply pw_below_drewN | apply below_drew1) | exact HB.out)⟩⟩
            case round =>
              clear H'
              try clear c2
              try clear p2
              try clear q2
              try clear hx2
              try clear qi2
              try clear c3
              try clear c5
              try clear c6
              try clear c6b0
              try clear c6b1
              try clear p6
              try clear c7
              try clear c7b0
              try clear c7b1
              try clear c8
              try clear c8b0
              try clear c8b1
              try clear c9
              try clear c9b0
              try clear c9b1
              try clear c20
              try clear p24
              try clear q24
              try clear hx24
              try clear qi24
              try clear p25
              try clear q25
              try clear hx25
              try clear qi25
              try clear hx248_0
              try clear hx249_0
              try clear hx250_0
              try clear hx251_0
              try clear p248
              try clear p249
              try clear p250
              try clear p251
              try clear q248
              try clear q249
              try clear q250
              try clear q251
              obtain ⟨x11_1, x62_1, rfl, HA, HK1, HO_11, HO_60, HB⟩ := hrel
              cases gk with
              | zero => exact absurd HA.out (by simp [spec_CutCloth.l0])
              | succ k1 =>
                have H := HA.out
                clear HA
                simp only [spec_CutCloth.l0] at H
                by_cases c28 : x62_1 < (y267.length : Int)
                · rw [if_pos c28] at H
                  have c28b0 : decide (x62_1 < (y267.length : Int)) = true := decide_eq_true c28
                  clear c28
                  by_cases c29 : 0 ≤ x62_1
                  · rw [if_pos c29] at H
                    have c29b0 : decide (0 ≤ x62_1) = true := decide_eq_true c29
                    clear c29
                    by_cases c30 : x62_1 < (y267.length : Int)
                    · rw [if_pos c30] at H
                      have c30b0 : decide (x62_1 < (y267.length : Int)) = true := decide_eq_true c30
                      clear c30
                      by_cases c31 : 2 < ((rd_L1 y267 x62_1).length : Int)
                      · rw [if_pos c31] at H
                        have c31b0 : decide (2 < ((rd_L1 y267 x62_1).length : Int)) = true := decide_eq_true c31
                        have c31b1 : decide (2 < (rd_L1 y267 x62_1).length) = true := decide_eq_true (by omega)
                        clear c31
                        by_cases c32 : (rd (rd_L1 y267 x62_1) 2) > 0
                        · rw [if_pos c32] at H
                          have c32b0 : decide (0 < (rd (rd_L1 y267 x62_1) 2)) = true := decide_eq_true c32
                          clear c32
                          by_cases c33 : 3 < ((rd_L1 y267 x62_1).length : Int)
                          · rw [if_pos c33] at H
                            have c33b0 : decide (3 < ((rd_L1 y267 x62_1).length : Int)) = true := decide_eq_true c33
                            have c33b1 : decide (3 < (rd_L1 y267 x62_1).length) = true := decide_eq_true (by omega)
                            clear c33
                            by_cases c34 : (rd (rd_L1 y267 x62_1) 3) > 0
                            · rw [if_pos c34] at H
                              have c34b0 : decide (0 < (rd (rd_L1 y267 x62_1) 3)) = true := decide_eq_true c34
                              clear c34
                              by_cases c35 : x11_1.length < 5864062014805
                              · rw [if_pos c35] at H
                                have LMc35 := Aside0.mk c35
                                clear c35
                                obtain ⟨y273, hy273⟩ : ∃ y_ : List (List Int), y_ = (x11_1 ++ [rd_L1 y267 x62_1]) := ⟨_, rfl⟩
                                replace H : (spec_CutCloth.l0 k1 y273 y267 (y267.length : Int) (wrap64 (x62_1 + 1))) = some r := by first | (rw [hy273]; with_reducible exact H) | (have H2_ := (Option.bind_some _ _).symm.trans H; rw [hy273]; with_reducible exact H2_) | (have H2_ := (Option.bind_some _ _).symm.trans H; with_reducible exact H2_) | with_reducible exact H | (rw [hy273]; exact H) | exact H
                                have Ny273 := Aside0.mk hy273
                                clear hy273
                                have H' := Aside0.mk H
                                clear H
                                have p270 : 0 ≤ (x62_1 : Int) := of_decide_eq_true (by first | (with_reducible assumption) | assumption)
                                have q270 : x62_1 < (y267.length : Int) := of_decide_eq_true (by first | (with_reducible assumption) | assumption)
                                obtain ⟨ad270, A270_0, c270_0, e270, hx270_0, hl270_0, hi270_0⟩ := at_L1 (Kd.N_reads' HO_60.out).2.2 x62_1 p270 q270
                                cases e270
                                obtain ⟨ce270, hce270, hMe270, hcc270⟩ := Kd.N_get HO_60.out [] x62_1 p270 (by first | exact q270 | exact of_decide_eq_true (by first | (with_reducible assumption) | assumption) | (have e_ := (Kd.N_reads' HO_60.out).1; omega))
                                obtain ⟨ua270_0, uc270_0, rfl, ul270_0, ge270_0⟩ := Kd.FK_slice_open hMe270
                                have hv270_0 := hcc270 0 _ rfl
                                rw [Nat.add_zero, show ((Kd.slice 3 (Kd.int .i64))).sz = 1 from rfl, Nat.mul_one] at hv270_0
                                replace hv270_0 := Option.some.inj (hv270_0.symm.trans hx270_0)
                                injection hv270_0 with hva_ hvn_ hvc_
                                rw [hva_] at ge270_0
                                rw [hvc_] at ul270_0
                                have HL270_0 := Aside0.mk (show Kd.V (Kd.int .i64) 3 _ w.heap.size _ _ (rd_L1 y267 x62_1) from Kd.V_mk ul270_0 ge270_0)
                                clear hva_ hvn_ hvc_ ge270_0 ul270_0
                                clear hcc270 hce270
                                have HR270_0 := Aside0.mk hi270_0
                                have HC270_0 := Aside0.mk hl270_0
                                clear hi270_0 hl270_0
                                replace p270 := eq_true p270
                                replace q270 := eq_true q270
                                have p271 : 0 ≤ (2 : Int) := (by omega)
                                have q271 : 2 < ((rd_L1 y267 x62_1).length : Int) := of_decide_eq_true (by first | (with_reducible assumption) | assumption)
                                obtain ⟨ad271, e271, hx271_0⟩ := Kd.at_int (by repeat (first | (with_reducible exact HR270_0.out) | (with_reducible refine Kd.C_alloc ?_ _) | (with_reducible refine Kd.C_drewN ?_ _) | (with_reducible refine Kd.C_drew ?_) | exact HR270_0.out)) 2 p271 q271
                                cases e271
                                (try simp only [show (2 : Int).toNat = 2 from rfl, Nat.reduceMul, Nat.reduceEqDiff, Go.Addr.add, ↓reduceIte] at hx271_0)
                                have qi271 : (2 < (rd_L1 y267 x62_1).length) = True := eq_true (by omega)
                                (try rw [show ((2 : Int)).toNat = 2 from rfl] at hx271_0)
                                replace p271 := eq_true p271
                                replace q271 := eq_true q271
                                have p272 : 0 ≤ (3 : Int) := (by omega)
                                have q272 : 3 < ((rd_L1 y267 x62_1).length : Int) := of_decide_eq_true (by first | (with_reducible assumption) | assumption)
                                obtain ⟨ad272, e272, hx272_0⟩ := Kd.at_int (by repeat (first | (with_reducible exact HR270_0.out) | (with_reducible refine Kd.C_alloc ?_ _) | (with_reducible refine Kd.C_drewN ?_ _) | (with_reducible refine Kd.C_drew ?_) | exact HR270_0.out)) 3 p272 q272
                                obtain rfl : ad271 = ad272 := (by injection e272)
                                (try simp only [show (3 : Int).toNat = 3 from rfl, Nat.reduceMul, Nat.reduceEqDiff, Go.Addr.add, ↓reduceIte] at hx272_0)
                                have qi272 : (3 < (rd_L1 y267 x62_1).length) = True := eq_true (by omega)
                                (try rw [show ((3 : Int)).toNat = 3 from rfl] at hx272_0)
                                replace p272 := eq_true p272
                                replace q272 := eq_true q272
                                go_wp2_with (first | ((with_reducible refine gate_builtin (b := .append) (xs := #[.tmp 76, .tmp 78]) rfl ?_); at_builtin; refine Kd.N_append (Kd.slice 3 (Kd.int .i64)) (w0 := w) w.heap.size rfl (.tmp 76) (.tmp 78) 37 29 (.slice none 0 0) 24 rfl Try.underlying37 info29 rfl (by decide) (by omega) u11 x11_1 (rd_L1 y267 x62_1) [.slice (some ad271) (rd_L1 y267 x62_1).length c270_0] (fun k_ => (w.heap.size ≤ k_) ∧ some k_ ≠ (.slice (some ad270) y267.length co27 : Value).ownBlock) (fun k_ => ((fun k_ => (w.heap.size ≤ k_) ∧ some k_ ≠ (.slice (some ad270) y267.length co27 : Value).ownBlock)) k_ ∧ some k_ ≠ (u11 : Value).ownBlock) rfl rfl ?aP (fun _ hk => hk) ?aF ?aO ?aB ?aS ?aL ?_; (case aP => exact (Kd.FK_slice_mk (Kd.V_reads' (Kd.V_mono (ok' := (fun k_ => ((fun k_ => (w.heap.size ≤ k_) ∧ some k_ ≠ (.slice (some ad270) y267.length co27 : Value).ownBlock)) k_ ∧ some k_ ≠ (u11 : Value).ownBlock)) (HL270_0.out) (fun k_ hk => ⟨⟨hk.1.1, hk.2⟩, hk.1.2⟩))).2.1 (Kd.V_F (Kd.V_mono (ok' := (fun k_ => ((fun k_ => (w.heap.size ≤ k_) ∧ some k_ ≠ (.slice (some ad270) y267.length co27 : Value).ownBlock)) k_ ∧ some k_ ≠ (u11 : Value).ownBlock)) (HL270_0.out) (fun k_ hk => ⟨⟨hk.1.1, hk.2⟩, hk.1.2⟩))))); (case aB => exact (by repeat (first | (with_reducible first | exact HB.out | apply below_alloc | apply pw_below_drewN | apply below_drew1) | exact HB.out))); (case aF => exact (fun k_ hk => ⟨(Nat.le_trans (below_size (by repeat (first | (with_reducible first | exact HB.out | apply below_alloc | apply pw_below_drewN | apply below_drew1) | exact HB.out))) hk), Kd.fresh' (Kd.N_lt (by (with_reducible repeat (first | apply Kd.N_alloc | apply Kd.N_drewN | apply Kd.N_drew)); exact HO_60.out)) k_ hk⟩)); (case aO => exact (by (with_reducible repeat (first | apply Kd.N_alloc | apply Kd.N_drewN | apply Kd.N_drew)); exact HO_11.out)); (case aS => exact (below_size (by repeat (first | (with_reducible first | exact HB.out | apply below_alloc | apply pw_below_drewN | apply below_drew1) | exact HB.out)))); (case aL => have := LMc35.out; omega); intro v274 w36 ho hb hg hat; rw [← Ny273.out] at ho; have n0_ := Aside0.mk (Kd.N_afterv (ok := (fun k_ => (w.heap.size ≤ k_))) (by (with_reducible repeat (first | apply Kd.N_alloc | apply Kd.N_drewN | apply Kd.N_drew)); exact HO_60.out) hg hat); have n1_ := Aside0.mk (Kd.V_afterv (ok := (fun k_ => (w.heap.size ≤ k_) ∧ some k_ ≠ (.slice (some ad270) y267.length co27 : Value).ownBlock)) (by (with_reducible repeat (first | apply Kd.V_alloc | apply Kd.V_drewN | apply Kd.V_drew)); exact Kd.V_mono HL270_0.out (fun _ hk => ⟨⟨hk.1.1, hk.2⟩, hk.1.2⟩)) hg hat); have n2_ := Aside0.mk (hb); have n3_ := Aside0.mk (ho); clear HO_60; clear HL270_0; clear HB; clear HO_11; have HO_60 := n0_; have HL270_0 := n1_; have HB := n2_; have HO275 := n3_; clear n0_ n1_ n2_ n3_; clear ho hb hg hat))
                                go_roundg k1
                                case measure => have := HK1.out; omega
                                case rel => exact ⟨(y273), (wrap64 (x62_1 + 1)), (by first | rfl | (simp; done) | (simp [*]; done)), H', ⟨by have := HK1.out; omega⟩, ⟨by (with_reducible repeat (first | apply Kd.N_alloc | apply Kd.N_drewN | apply Kd.N_drew)); exact HO275.out⟩, ⟨by (with_reducible repeat (first | apply Kd.N_alloc | apply Kd.N_drewN | apply Kd.N_drew)); exact HO_60.out⟩, ⟨by repeat (first | (with_reducible first | exact HB.out | apply below_alloc | apply pw_below_drewN | apply below_drew1) | exact HB.out)⟩⟩
                              · rw [if_neg c35] at H
                                exact absurd H (by simp)
                            · rw [if_neg c34] at H
                              have c34b0 : decide (0 < (rd (rd_L1 y267 x62_1) 3)) = false := decide_eq_false c34
                              clear c34
                              have H' := Aside0.mk H
                              clear H
                              have p270 : 0 ≤ (x62_1 : Int) := of_decide_eq_true (by first | (with_reducible assumption) | assumption)
                              have q270 : x62_1 < (y267.length : Int) := of_decide_eq_true (by first | (with_reducible assumption) | assumption)
                              obtain ⟨ad270, A270_0, c270_0, e270, hx270_0, hl270_0, hi270_0⟩ := at_L1 (Kd.N_reads' HO_60.out).2.2 x62_1 p270 q270
                              cases e270
                              obtain ⟨ce270, hce270, hMe270, hcc270⟩ := Kd.N_get HO_60.out [] x62_1 p270 (by first | exact q270 | exact of_decide_eq_true (by first | (with_reducible assumption) | assumption) | (have e_ := (Kd.N_reads' HO_60.out).1; omega))
                              obtain ⟨ua270_0, uc270_0, rfl, ul270_0, ge270_0⟩ := Kd.FK_slice_open hMe270
                              have hv270_0 := hcc270 0 _ rfl
                              rw [Nat.add_zero, show ((Kd.slice 3 (Kd.int .i64))).sz = 1 from rfl, Nat.mul_one] at hv270_0
                              replace hv270_0 := Option.some.inj (hv270_0.symm.trans hx270_0)
                              injection hv270_0 with hva_ hvn_ hvc_
                              rw [hva_] at ge270_0
                              rw [hvc_] at ul270_0
                              have HL270_0 := Aside0.mk (show Kd.V (Kd.int .i64) 3 _ w.heap.size _ _ (rd_L1 y267 x62_1) from Kd.V_mk ul270_0 ge270_0)
                              clear hva_ hvn_ hvc_ ge270_0 ul270_0
                              clear hcc270 hce270
                              have HR270_0 := Aside0.mk hi270_0
                              have HC270_0 := Aside0.mk hl270_0
                              clear hi270_0 hl270_0
                              replace p270 := eq_true p270
                              replace q270 := eq_true q270
                              have p271 : 0 ≤ (2 : Int) := (by omega)
                              have q271 : 2 < ((rd_L1 y267 x62_1).length : Int) := of_decide_eq_true (by first | (with_reducible assumption) | assumption)
                              obtain ⟨ad271, e271, hx271_0⟩ := Kd.at_int (by repeat (first | (with_reducible exact HR270_0.out) | (with_reducible refine Kd.C_alloc ?_ _) | (with_reducible refine Kd.C_drewN ?_ _) | (with_reducible refine Kd.C_drew ?_) | exact HR270_0.out)) 2 p271 q271
                              cases e271
                              (try simp only [show (2 : Int).toNat = 2 from rfl, Nat.reduceMul, Nat.reduceEqDiff, Go.Addr.add, ↓reduceIte] at hx271_0)
                              have qi271 : (2 < (rd_L1 y267 x62_1).length) = True := eq_true (by omega)
                              (try rw [show ((2 : Int)).toNat = 2 from rfl] at hx271_0)
                              replace p271 := eq_true p271
                              replace q271 := eq_true q271
                              have p272 : 0 ≤ (3 : Int) := (by omega)
                              have q272 : 3 < ((rd_L1 y267 x62_1).length : Int) := of_decide_eq_true (by first | (with_reducible assumption) | assumption)
                              obtain ⟨ad272, e272, hx272_0⟩ := Kd.at_int (by repeat (first | (with_reducible exact HR270_0.out) | (with_reducible refine Kd.C_alloc ?_ _) | (with_reducible refine Kd.C_drewN ?_ _) | (with_reducible refine Kd.C_drew ?_) | exact HR270_0.out)) 3 p272 q272
                              obtain rfl : ad271 = ad272 := (by injection e272)
                              (try simp only [show (3 : Int).toNat = 3 from rfl, Nat.reduceMul, Nat.reduceEqDiff, Go.Addr.add, ↓reduceIte] at hx272_0)
                              have qi272 : (3 < (rd_L1 y267 x62_1).length) = True := eq_true (by omega)
                              (try rw [show ((3 : Int)).toNat = 3 from rfl] at hx272_0)
                              replace p272 := eq_true p272
                              replace q272 := eq_true q272
                              go_wp2
                              go_roundg k1
                              case measure => have := HK1.out; omega
                              case rel => exact ⟨(x11_1), (wrap64 (x62_1 + 1)), (by first | rfl | (simp; done) | (simp [*]; done)), H', ⟨by have := HK1.out; omega⟩, ⟨by (with_reducible repeat (first | apply Kd.N_alloc | apply Kd.N_drewN | apply Kd.N_drew)); exact HO_11.out⟩, ⟨by (with_reducible repeat (first | apply Kd.N_alloc | apply Kd.N_drewN | apply Kd.N_drew)); exact HO_60.out⟩, ⟨by repeat (first | (with_reducible first | exact HB.out | apply below_alloc | apply pw_below_drewN | apply below_drew1) | exact HB.out)⟩⟩
                          · rw [if_neg c33] at H
                            exact absurd H (by simp)
                        · rw [if_neg c32] at H
                          have c32b0 : decide (0 < (rd (rd_L1 y267 x62_1) 2)) = false := decide_eq_false c32
                          clear c32
                          have H' := Aside0.mk H
                          clear H
                          have p270 : 0 ≤ (x62_1 : Int) := of_decide_eq_true (by first | (with_reducible assumption) | assumption)
                          have q270 : x62_1 < (y267.length : Int) := of_decide_eq_true (by first | (with_reducible assumption) | assumption)
                          obtain ⟨ad270, A270_0, c270_0, e270, hx270_0, hl270_0, hi270_0⟩ := at_L1 (Kd.N_reads' HO_60.out).2.2 x62_1 p270 q270
                          cases e270
                          obtain ⟨ce270, hce270, hMe270, hcc270⟩ := Kd.N_get HO_60.out [] x62_1 p270 (by first | exact q270 | exact of_decide_eq_true (by first | (with_reducible assumption) | assumption) | (have e_ := (Kd.N_reads' HO_60.out).1; omega))
                          obtain ⟨ua270_0, uc270_0, rfl, ul270_0, ge270_0⟩ := Kd.FK_slice_open hMe270
                          have hv270_0 := hcc270 0 _ rfl
                          rw [Nat.add_zero, show ((Kd.slice 3 (Kd.int .i64))).sz = 1 from rfl, Nat.mul_one] at hv270_0
                          replace hv270_0 := Option.some.inj (hv270_0.symm.trans hx270_0)
                          injection hv270_0 with hva_ hvn_ hvc_
                          rw [hva_] at ge270_0
                          rw [hvc_] at ul270_0
                          have HL270_0 := Aside0.mk (show Kd.V (Kd.int .i64) 3 _ w.heap.size _ _ (rd_L1 y267 x62_1) from Kd.V_mk ul270_0 ge270_0)
                          clear hva_ hvn_ hvc_ ge270_0 ul270_0
                          clear hcc270 hce270
                          have HR270_0 := Aside0.mk hi270_0
                          have HC270_0 := Aside0.mk hl270_0
                          clear hi270_0 hl270_0
                          replace p270 := eq_true p270
                          replace q270 := eq_true q270
                          have p271 : 0 ≤ (2 : Int) := (by omega)
                          have q271 : 2 < ((rd_L1 y267 x62_1).length : Int) := of_decide_eq_true (by first | (with_reducible assumption) | assumption)
                          obtain ⟨ad271, e271, hx271_0⟩ := Kd.at_int (by repeat (first | (with_reducible exact HR270_0.out) | (with_reducible refine Kd.C_alloc ?_ _) | (with_reducible refine Kd.C_drewN ?_ _) | (with_reducible refine Kd.C_drew ?_) | exact HR270_0.out)) 2 p271 q271
                          cases e271
                          (try simp only [show (2 : Int).toNat = 2 from rfl, Nat.reduceMul, Nat.reduceEqDiff, Go.Addr.add, ↓reduceIte] at hx271_0)
                          have qi271 : (2 < (rd_L1 y267 x62_1).length) = True := eq_true (by omega)
                          (try rw [show ((2 : Int)).toNat = 2 from rfl] at hx271_0)
                          replace p271 := eq_true p271
                          replace q271 := eq_true q271
                          go_wp2
                          go_roundg k1
                          case measure => have := HK1.out; omega
                          case rel => exact ⟨(x11_1), (wrap64 (x62_1 + 1)), (by first | rfl | (simp; done) | (simp [*]; done)), H', ⟨by have := HK1.out; omega⟩, ⟨by (with_reducible repeat (first | apply Kd.N_alloc | apply Kd.N_drewN | apply Kd.N_drew)); exact HO_11.out⟩, ⟨by (with_reducible repeat (first | apply Kd.N_alloc | apply Kd.N_drewN | apply Kd.N_drew)); exact HO_60.out⟩, ⟨by repeat (first | (with_reducible first | exact HB.out | apply below_alloc | apply pw_below_drewN | apply below_drew1) | exact HB.out)⟩⟩
                      · rw [if_neg c31] at H
                        exact absurd H (by simp)
                    · rw [if_neg c30] at H
                      exact absurd H (by simp)
                  · rw [if_neg c29] at H
                    exact absurd H (by simp)
                · rw [if_neg c28] at H
                  have c28b0 : decide (x62_1 < (y267.length : Int)) = false := decide_eq_false c28
                  clear c28
                  obtain rfl := Option.some.inj H
                  go_wp2
                  go_ret
                  exact ⟨_, by first | rfl | (simp [errW_none, errW_some] <;> rfl) | (simp [*, errW_none, errW_some] <;> rfl), by (with_reducible repeat (first | apply Kd.N_alloc | apply Kd.N_drewN | apply Kd.N_drew)); exact Kd.N_mono HO_11.out (fun _ hk => hk.1), by repeat (first | (with_reducible first | exact HB.out | apply below_alloc | apply pw_below_drewN | apply below_drew1) | exact HB.out)⟩
          · rw [if_neg c9] at H
            exact absurd H (by simp)
        · rw [if_neg c8] at H
          exact absurd H (by simp)
      · rw [if_neg c7] at H
        exact absurd H (by simp)
    · rw [if_neg c6] at H
      exact absurd H (by simp)
  · replace c5 := Bool.eq_false_iff.mpr c5
    subst c5
    have H1 : (some ([] : List (List Int))) = some r := by rw [if_neg (show ¬ (false = true) by decide)] at H; exact H
    clear H
    have H := H1
    clear H1
    obtain rfl := Option.some.inj H
    go_enter Try.func30, Try.ntmps30
    go_wp2_with (first | ((with_reducible refine gate_callee (f := 20) rfl ?_); refine goesL_ (some 17) rfl rfl Try.func20 (by kernel_rfl) rfl #[.int .i64 a0, .int .i64 a1, .slice A2 l2.length c2] rfl (by (try simp only [List.map_toArray, List.map_cons, List.map_nil]); first | done | rfl | (simp only [List.length_drop, List.length_take]; rfl)) ?_; (with_reducible refine (spec_WindowOk.calls k a0 a1 _ _ l2 false _ ?side1 ?side2 A4.out).mono ?_); (case side1 => repeat (first | exact HR2.out | (with_reducible refine Kd.C_alloc ?_ _) | (with_reducible refine Kd.C_drewN ?_ _) | (with_reducible refine Kd.C_drew ?_))); (case side2 => exact HC2.out); rintro e w37 ⟨rfl, hb⟩; refine ⟨_, rfl, ?_⟩; have n0_ := Aside0.mk (below_step (by repeat (first | (with_reducible first | exact HB.out | apply below_alloc | apply pw_below_drewN | apply below_drew1) | exact HB.out)) hb); clear HB; have HB := n0_; clear n0_; (try clear hb); (try clear hb2); (try clear hk); (try clear hi)))
    go_ret
    exact ⟨_, by first | rfl | (simp [errW_none, errW_some] <;> rfl) | (simp [*, errW_none, errW_some] <;> rfl), by first | exact Kd.S_nil _ _ _ _ _ | exact Kd.N_nil _ _ _ _ _ | exact Kd.V_nil _ _ _ _ _ | exact Kd.Q_nil _ _ _ _ _ | exact Kd.R_nil _ _ _ _ _, by repeat (first | (with_reducible first | exact HB.out | apply below_alloc | apply pw_below_drewN | apply below_drew1) | exact HB.out)⟩

end Go.Proofs.Ytoildabjnioafaa.PA
