/- Texts of this claim put together in build order (FnExactFewestLate). -/
import Derived.Test.YtoonamloihbjnaaMFewestLate0
import Derived.Test.YtoonamloihbjnaaMFewestLate1
-- Written for this claim by a program of this session's (ownprint.py), by way of the kit's print and hand-proved texts. Lean checks it.
namespace Go.Proofs.Ytoonamloihbjnaa.PA
open Go.RowKit Go.Proofs.YtoonamloihbjnaaW.PrintWords Go.Proofs.YtoonamloihbjnaaW.PrintLast Go.Proofs.YtoonamloihbjnaaW.PrintMore
attribute [local go_sem] max2_int min2_int max_two min_two max_three min_three max_four min_four   -- for this text's walks alone
set_option linter.unusedVariables false
set_option linter.unusedSimpArgs false
mutual
def spec_OnTimeOrder.l0 : Nat → List (List Int) → List Int → List Int → Int → List Int → Int → Int → Option (List Int)
  | 0, _, _, _, _, _, _, _ => none
  | k + 1, x0, x3, x4, x5, x17, x18, x19 => if x19 < x18 then (if 0 ≤ x19 then (if x19 < (x17.length : Int) then (if x3.length < 17592186044416 then ((some (x3 ++ [rd x17 x19] : List Int)).bind fun y272 => (if 0 ≤ (rd x17 x19) then (if (rd x17 x19) < (x0.length : Int) then (if 0 < ((rd_L1 x0 (rd x17 x19)).length : Int) then (if 1 < ((rd_L1 x0 (rd x17 x19)).length : Int) then (if (wrap64 (x5 + (rd (rd_L1 x0 (rd x17 x19)) 0))) ≤ (rd (rd_L1 x0 (rd x17 x19)) 1) then (spec_OnTimeOrder.l0 k x0 y272 x4 (wrap64 (x5 + (rd (rd_L1 x0 (rd x17 x19)) 0))) x17 x18 (wrap64 (x19 + 1))) else (spec_OnTimeOrder.l1 k x0 y272 x4 (wrap64 (x5 + (rd (rd_L1 x0 (rd x17 x19)) 0))) 0 x17 x18 x19 y272 (y272.length : Int) 0)) else (none)) else (none)) else (none)) else (none))) else (none)) else (none)) else (none)) else (if x3.length + x4.length < 17592186044416 then (some (x3 ++ x4)) else (none))
def spec_OnTimeOrder.l1 : Nat → List (List Int) → List Int → List Int → Int → Int → List Int → Int → Int → List Int → Int → Int → Option (List Int)
  | 0, _, _, _, _, _, _, _, _, _, _, _ => none
  | k + 1, x0, x3, x4, x5, x8, x17, x18, x19, x43, x44, x45 => if x45 < x44 then (if 0 ≤ x45 then (if x45 < (x43.length : Int) then (if 0 ≤ (rd x43 x45) then (if (rd x43 x45) < (x0.length : Int) then (if 0 < ((rd_L1 x0 (rd x43 x45)).length : Int) then (if 0 ≤ x8 then (if x8 < (x3.length : Int) then (if 0 ≤ (rd x3 x8) then (if (rd x3 x8) < (x0.length : Int) then (if 0 < ((rd_L1 x0 (rd x3 x8)).length : Int) then (if (rd (rd_L1 x0 (rd x43 x45)) 0) > (rd (rd_L1 x0 (rd x3 x8)) 0) then (spec_OnTimeOrder.l1 k x0 x3 x4 x5 x45 x17 x18 x19 x43 x44 (wrap64 (x45 + 1))) else (spec_OnTimeOrder.l1 k x0 x3 x4 x5 x8 x17 x18 x19 x43 x44 (wrap64 (x45 + 1)))) else (none)) else (none)) else (none)) else (none)) else (none)) else (none)) else (none)) else (none)) else (none)) else (none)) else (if 0 ≤ x8 then (if x8 < (x3.length : Int) then (if 0 ≤ (rd x3 x8) then (if (rd x3 x8) < (x0.length : Int) then (if 0 < ((rd_L1 x0 (rd x3 x8)).length : Int) then (if x4.length < 17592186044416 then ((some (([] : List Int) : List Int)).bind fun y292 => (if x8 ≤ (x3.length : Int) then ((some (x3.take (x8 : Int).toNat : List Int)).bind fun y295 => (if y292.length + y295.length < 17592186044416 then ((some (y292 ++ y295 : List Int)).bind fun y299 => (if 0 ≤ (wrap64 (x8 + 1)) then (if (wrap64 (x8 + 1)) ≤ (x3.length : Int) then ((some (x3.drop ((wrap64 (x8 + 1)) : Int).toNat : List Int)).bind fun y302 => (if y299.length + y302.length < 17592186044416 then (spec_OnTimeOrder.l0 k x0 (y299 ++ y302) (x4 ++ [rd x3 x8]) (wrap64 (x5 - (rd (rd_L1 x0 (rd x3 x8)) 0))) x17 x18 (wrap64 (x19 + 1))) else (none))) else (none)) else (none))) else (none))) else (none))) else (none)) else (none)) else (none)) else (none)) else (none)) else (none))
end
def spec_OnTimeOrder.f (k : Nat) (l0 : List (List Int)) : Option (List Int) := (spec_WorksOk.f k l0).bind fun t258 => (if t258 = true then ((spec_l24By.f k l0 1).bind fun t265 => (spec_OnTimeOrder.l0 k l0 (([] : List Int)) (([] : List Int)) 0 t265 (t265.length : Int) 0)) else (some ([] : List Int)))
def spec_OnTimeOrder.T16 : Bool × List (List Nat × List Nat) := (true, [([], []), ([], []), ([0, 1], [0, 1]), ([2], [2]), ([3], [3]), ([4], [4]), ([], []), ([], []), ([], []), ([7, 8], [7, 8]), ([9], [9]), ([6, 10], [6, 10]), ([11], [11]), ([12], [12]), ([13], [13]), ([5, 14], [5, 14])])
def spec_OnTimeOrder.B16 : List Nat := [0, 0, 3, 7, 15, 31, 0, 0, 0, 384, 896, 1984, 4032, 8128, 16320, 32767]
theorem spec_OnTimeOrder.tab16 : rtab .any (opsOf Try.f27 16) = spec_OnTimeOrder.T16 := by kernel_rfl
theorem spec_OnTimeOrder.bits16 : waitsOk spec_OnTimeOrder.T16.2 spec_OnTimeOrder.B16 = true := by kernel_rfl
def spec_OnTimeOrder.T21 : Bool × List (List Nat × List Nat) := (true, [([], []), ([], []), ([], []), ([1, 2], [1, 2]), ([0, 3], [0, 3]), ([], []), ([], []), ([6], [6]), ([5, 7], [5, 7]), ([4, 8, 4], [4, 8]), ([9, 9, 0, 1, 2, 3, 4, 5, 6, 7, 8, 9], [1, 5, 9])])
def spec_OnTimeOrder.B21 : List Nat := [0, 0, 0, 6, 15, 0, 0, 64, 224, 511, 1023]
theorem spec_OnTimeOrder.tab21 : rtab .any (opsOf Try.f27 21) = spec_OnTimeOrder.T21 := by kernel_rfl
theorem spec_OnTimeOrder.bits21 : waitsOk spec_OnTimeOrder.T21.2 spec_OnTimeOrder.B21 = true := by kernel_rfl
set_option maxHeartbeats 8000000 in
set_option maxRecDepth 100000 in
theorem spec_OnTimeOrder.calls (k : Nat) (A0 : Option Addr) (c0 : Nat) (l0 : List (List Int)) (r : List Int) (w : World) (hr0 : Kd.C (Kd.slice 3 (Kd.int .i64)) w A0 l0.length l0) (hc0 : l0.length ≤ c0) (h : spec_OnTimeOrder.f k l0 = some r) :
    Calls Try.prog 27 #[.slice A0 l0.length c0] w fun e w' => ∃ v0_ : Value, e = .returned (v0_) ∧ Kd.R (Kd.int .i64) 3 w' w.heap.size (fun _ => True) v0_ r ∧ Below w.heap.size w w' := by
  have HR0 := Aside0.mk hr0
  have HC0 := Aside0.mk hc0
  clear hr0 hc0
  have HB := Aside0.mk (Below.refl w.heap.size w)
  have H : ((spec_WorksOk.f k l0).bind fun t258 => (if t258 = true then ((spec_l24By.f k l0 1).bind fun t265 => (spec_OnTimeOrder.l0 k l0 (([] : List Int)) (([] : List Int)) 0 t265 (t265.length : Int) 0)) else (some ([] : List Int)))) = some r := h
  clear h
  replace H := Option.bind_eq_some_iff.mp H
  obtain ⟨t258, A20, H⟩ := H
  replace H : (if t258 = true then ((spec_l24By.f k l0 1).bind fun t265 => (spec_OnTimeOrder.l0 k l0 (([] : List Int)) (([] : List Int)) 0 t265 (t265.length : Int) 0)) else (some ([] : List Int))) = some r := H
  have A2 := Aside0.mk A20
  clear A20
  by_cases c3 : t258 = true
  · subst c3
    have H1 : ((spec_l24By.f k l0 1).bind fun t265 => (spec_OnTimeOrder.l0 k l0 (([] : List Int)) (([] : List Int)) 0 t265 (t265.length : Int) 0)) = some r := by rw [if_pos rfl] at H; exact H
    clear H
    have H := H1
    clear H1
    obtain ⟨y259, hy259⟩ : ∃ y_ : List Int, y_ = (([] : List Int)) := ⟨_, rfl⟩
    replace H : ((spec_l24By.f k l0 1).bind fun t265 => (spec_OnTimeOrder.l0 k l0 y259 (([] : List Int)) 0 t265 (t265.length : Int) 0)) = some r := by first | (rw [hy259]; with_reducible exact H) | (have H2_ := (Option.bind_some _ _).symm.trans H; rw [hy259]; with_reducible exact H2_) | (have H2_ := (Option.bind_some _ _).symm.trans H; with_reducible exact H2_) | with_reducible exact H | (rw [hy259]; exact H) | exact H
    have Ny259 := Aside0.mk hy259
    clear hy259
    obtain ⟨y262, hy262⟩ : ∃ y_ : List Int, y_ = (([] : List Int)) := ⟨_, rfl⟩
    replace H : ((spec_l24By.f k l0 1).bind fun t265 => (spec_OnTimeOrder.l0 k l0 y259 y262 0 t265 (t265.length : Int) 0)) = some r := by first | (rw [hy262]; with_reducible exact H) | (have H2_ := (Option.bind_some _ _).symm.trans H; rw [hy262]; with_reducible exact H2_) | (have H2_ := (Option.bind_some _ _).symm.trans H; with_reducible exact H2_) | with_reducible exact H | (rw [hy262]; exact H) | exact H
    have Ny262 := Aside0.mk hy262
    clear hy262
    replace H := Option.bind_eq_some_iff.mp H
    obtain ⟨t265, A40, H⟩ := H
    replace H : (spec_OnTimeOrder.l0 k l0 y259 y262 0 t265 (t265.length : Int) 0) = some r := H
    have A4 := Aside0.mk A40
    clear A40
    have H' := Aside0.mk H
    clear H
    go_enter Try.func27, Try.ntmps27
    go_wp2_with (first | ((with_reducible refine gate_callee (f := 15) rfl ?_); refine goesL_ (some 12) rfl rfl Try.func15 (by kernel_rfl) rfl #[.slice A0 l0.length c0] rfl (by (try simp only [List.map_toArray, List.map_cons, List.map_nil]); first | done | rfl | (simp only [List.length_drop, List.length_take]; rfl)) ?_; (with_reducible refine (spec_WorksOk.calls k _ _ l0 true _ ?side1 ?side2 A2.out).mono ?_); (case side1 => repeat (first | exact HR0.out | (with_reducible refine Kd.C_alloc ?_ _) | (with_reducible refine Kd.C_drewN ?_ _) | (with_reducible refine Kd.C_drew ?_))); (case side2 => exact HC0.out); rintro e w' ⟨rfl, ⟨nd, rfl⟩⟩; refine ⟨_, rfl, ?_⟩) | ((with_reducible refine gate_dst (N := 14) rfl ?_); refine Kd.R_lit (Kd.int .i64) _ 3 ?hg (N := 14) ?hd (xs := ([] : List Int)) (inner := []) (ok := fun _ => True) (okp := fun _ => True) ?hr ?hp (fun _ hk => hk) trivial (Below.refl _ _) (Nat.le_refl _) (by simp) ?_; (case hd => rfl); (case hg => rfl); (case hr => first | (go_simp; done) | (go_simp; rfl)); (case hp => exact (Reps.none _ _)); intro v260 w5 ho6 hb hg_ hnew_; clear hg_ hnew_; (first | rw [← Ny259.out] at ho6 | (simp only [Int.reduceToNat] at ho6; rw [← Ny259.out] at ho6)); have n0_ := Aside0.mk (Kd.R_lower ho6 (below_size (by repeat (first | (with_reducible first | exact HB.out | apply below_alloc | apply pw_below_drewN | apply below_drew1) | exact HB.out)))); have n1_ := Aside0.mk (below_step (by repeat (first | (with_reducible first | exact HB.out | apply below_alloc | apply pw_below_drewN | apply below_drew1) | exact HB.out)) hb); clear HB; have HO261 := n0_; have HB := n1_; clear n0_ n1_; clear hb ho6) | ((with_reducible refine gate_dst (N := 15) rfl ?_); refine Kd.R_lit (Kd.int .i64) _ 3 ?hg (N := 15) ?hd (xs := ([] : List Int)) (inner := []) (ok := fun _ => True) (okp := fun _ => True) ?hr ?hp (fun _ hk => hk) trivial (Below.refl _ _) (Nat.le_refl _) (by simp) ?_; (case hd => rfl); (case hg => rfl); (case hr => first | (go_simp; done) | (go_simp; rfl)); (case hp => exact (Reps.none _ _)); intro v263 w7 ho8 hb hg_ hnew_; clear hg_ hnew_; (first | rw [← Ny262.out] at ho8 | (simp only [Int.reduceToNat] at ho8; rw [← Ny262.out] at ho8)); have n0_ := Aside0.mk (Kd.R_elder' (by (with_reducible repeat (first | apply Kd.R_alloc | apply Kd.R_drewN | apply Kd.R_drew)); exact HO261.out) (Kd.R_base ho8) hb); have n1_ := Aside0.mk (Kd.R_lower (Kd.R_new' ho8 (Kd.R_lt (by (with_reducible repeat (first | apply Kd.R_alloc | apply Kd.R_drewN | apply Kd.R_drew)); exact HO261.out))) (below_size (by repeat (first | (with_reducible first | exact HB.out | apply below_alloc | apply pw_below_drewN | apply below_drew1) | exact HB.out)))); have n2_ := Aside0.mk (below_step (by repeat (first | (with_reducible first | exact HB.out | apply below_alloc | apply pw_below_drewN | apply below_drew1) | exact HB.out)) hb); clear HO261; clear HB; have HO261 := n0_; have HO264 := n1_; have HB := n2_; clear n0_ n1_ n2_; clear hb ho8) | ((with_reducible refine gate_callee (f := 51) rfl ?_); refine goesL_ (some 17) rfl rfl Try.func51 (by kernel_rfl) rfl #[.slice A0 l0.length c0, .int .i64 1] rfl (by (try simp only [List.map_toArray, List.map_cons, List.map_nil]); first | done | rfl | (simp only [List.length_drop, List.length_take]; rfl)) ?_; (with_reducible refine (spec_l24By.calls k _ _ l0 1 t265 _ ?side1 ?side2 A4.out).mono ?_); (case side1 => repeat (first | exact (Kd.C_below HR0.out HB.out) | (with_reducible refine Kd.C_alloc ?_ _) | (with_reducible refine Kd.C_drewN ?_ _) | (with_reducible refine Kd.C_drew ?_))); (case side2 => exact HC0.out); rintro e w9 ⟨v266, rfl, ho0, hb⟩; refine ⟨_, rfl, ?_⟩; have n0_ := Aside0.mk (Kd.R_elder' (by (with_reducible repeat (first | apply Kd.R_alloc | apply Kd.R_drewN | apply Kd.R_drew)); exact HO261.out) (Kd.R_base ho0) hb); have n1_ := Aside0.mk (Kd.R_elder' (by (with_reducible repeat (first | apply Kd.R_alloc | apply Kd.R_drewN | apply Kd.R_drew)); exact HO264.out) (Kd.R_base ho0) hb); have n2_ := Aside0.mk (Kd.R_lower (Kd.R_new' (Kd.R_new' ho0 (Kd.R_lt (by (with_reducible repeat (first | apply Kd.R_alloc | apply Kd.R_drewN | apply Kd.R_drew)); exact HO261.out))) (Kd.R_lt (by (with_reducible repeat (first | apply Kd.R_alloc | apply Kd.R_drewN | apply Kd.R_drew)); exact HO264.out))) (below_size (by repeat (first | (with_reducible first | exact HB.out | apply below_alloc | apply pw_below_drewN | apply below_drew1) | exact HB.out)))); have n3_ := Aside0.mk (below_step (by repeat (first | (with_reducible first | exact HB.out | apply below_alloc | apply pw_below_drewN | apply below_drew1) | exact HB.out)) hb); clear HO261; clear HO264; clear HB; have HO261 := n0_; have HO264 := n1_; have HO267 := n2_; have HB := n3_; clear n0_ n1_ n2_ n3_; (try clear hb); (try clear hb2); (try clear hk); (try clear hi); (try clear ho0); obtain ⟨Ao10, co10, eo10⟩ := Kd.R_slice HO267.out; subst eo10))
    go_loopg [3, 4, 5, 19] k (fun kq v3 v4 v5 v19 w' => ∃ (x3_1 : List Int) (x4_1 : List Int) (x5_1 : Int) (x19_1 : Int), v5 = .int .i64 x5_1 ∧ v19 = .int .i64 x19_1 ∧ Aside0 (spec_OnTimeOrder.l0 kq l0 x3_1 x4_1 x5_1 t265 (t265.length : Int) x19_1 = some r) ∧ Aside0 (kq ≤ k) ∧ Aside0 (Kd.R (Kd.int .i64) 3 w' w.heap.size (fun k_ => some k_ ≠ (v4 : Value).ownBlock ∧ some k_ ≠ ((.slice Ao10 t265.length co10) : Value).ownBlock) v3 x3_1) ∧ Aside0 (Kd.R (Kd.int .i64) 3 w' w.heap.size (fun k_ => some k_ ≠ (v3 : Value).ownBlock ∧ some k_ ≠ ((.slice Ao10 t265.length co10) : Value).ownBlock) v4 x4_1) ∧ Aside0 (Kd.R (Kd.int .i64) 3 w' w.heap.size (fun k_ => some k_ ≠ (v3 : Value).ownBlock ∧ some k_ ≠ (v4 : Value).ownBlock) (.slice Ao10 t265.length co10) t265) ∧ Aside0 (Below w.heap.size w w'))
    case atStart => exact ⟨(y259), (y262), (0), (0), (by first | rfl | (simp; done) | (simp [*]; done)), (by first | rfl | (simp; done) | (simp [*]; done)), H', ⟨Nat.le_refl _⟩, ⟨by (with_reducible repeat (first | apply Kd.R_alloc | apply Kd.R_drewN | apply Kd.R_drew)); exact Kd.R_mono HO261.out (fun _ hk => ⟨hk.1.2, hk.2⟩)⟩, ⟨by (with_reducible repeat (first | apply Kd.R_alloc | apply Kd.R_drewN | apply Kd.R_drew)); exact Kd.R_mono HO264.out (fun _ hk => ⟨hk.1.2, hk.2⟩)⟩, ⟨by (with_reducible repeat (first | apply Kd.R_alloc | apply Kd.R_drewN | apply Kd.R_drew)); exact Kd.R_mono HO267.out (fun _ hk => ⟨hk.1.2, hk.2⟩)⟩, ⟨by repeat (first | (with_reducible first | exact HB.out | apply below_alloc | apply pw_below_drewN | apply below_drew1) | exact HB.out)⟩⟩
    case round =>
      clear H'
      try clear c1
      try clear c2
      try clear p2
      try clear c3
      try clear c5
      obtain ⟨x3_1, x4_1, x5_1, x19_1, rfl, rfl, HA, HK1, HO_3, HO_4, HO_17, HB⟩ := hrel
      cases gk with
      | zero => exact absurd HA.out (by simp [spec_OnTimeOrder.l0])
      | succ k1 =>
        have H := HA.out
        clear HA
        simp only [spec_OnTimeOrder.l0] at H
        by_cases c11 : x19_1 < (t265.length : Int)
        · rw [if_pos c11] at H
          have c11b0 : decide (x19_1 < (t265.length : Int)) = true := decide_eq_true c11
          clear c11
          by_cases c12 : 0 ≤ x19_1
          · rw [if_pos c12] at H
            have c12b0 : decide (0 ≤ x19_1) = true := decide_eq_true c12
            clear c12
            by_cases c13 : x19_1 < (t265.length : Int)
            · rw [if_pos c13] at H
              have c13b0 : decide (x19_1 < (t265.length : Int)) = true := decide_eq_true c13
              clear c13
              by_cases c14 : x3_1.length < 17592186044416
              · rw [if_pos c14] at H
                have LMc14 := Aside0.mk c14
                clear c14
                obtain ⟨y272, hy272⟩ : ∃ y_ : List Int, y_ = (x3_1 ++ [rd t265 x19_1]) := ⟨_, rfl⟩
                replace H : (if 0 ≤ (rd t265 x19_1) then (if (rd t265 x19_1) < (l0.length : Int) then (if 0 < ((rd_L1 l0 (rd t265 x19_1)).length : Int) then (if 1 < ((rd_L1 l0 (rd t265 x19_1)).length : Int) then (if (wrap64 (x5_1 + (rd (rd_L1 l0 (rd t265 x19_1)) 0))) ≤ (rd (rd_L1 l0 (rd t265 x19_1)) 1) then (spec_OnTimeOrder.l0 k1 l0 y272 x4_1 (wrap64 (x5_1 + (rd (rd_L1 l0 (rd t265 x19_1)) 0))) t265 (t265.length : Int) (wrap64 (x19_1 + 1))) else (spec_OnTimeOrder.l1 k1 l0 y272 x4_1 (wrap64 (x5_1 + (rd (rd_L1 l0 (rd t265 x19_1)) 0))) 0 t265 (t265.length : Int) x19_1 y272 (y272.length : Int) 0)) else (none)) else (none)) else (none)) else (none)) = some r := by first | (rw [hy272]; with_reducible exact H) | (have H2_ := (Option.bind_some _ _).symm.trans H; rw [hy272]; with_reducible exact H2_) | (have H2_ := (Option.bind_some _ _).symm.trans H; with_reducible exact H2_) | with_reducible exact H | (rw [hy272]; exact H) | exact H
                have Ny272 := Aside0.mk hy272
                clear hy272
                by_cases c15 : 0 ≤ (rd t265 x19_1)
                · rw [if_pos c15] at H
                  have c15b0 : decide (0 ≤ (rd t265 x19_1)) = true := decide_eq_true c15
                  clear c15
                  by_cases c16 : (rd t265 x19_1) < (l0.length : Int)
                  · rw [if_pos c16] at H
                    have c16b0 : decide ((rd t265 x19_1) < (l0.length : Int)) = true := decide_eq_true c16
                    clear c16
                    by_cases c17 : 0 < ((rd_L1 l0 (rd t265 x19_1)).length : Int)
                    · rw [if_pos c17] at H
                      have c17b0 : decide (0 < ((rd_L1 l0 (rd t265 x19_1)).length : Int)) = true := decide_eq_true c17
                      have c17b1 : decide (0 < (rd_L1 l0 (rd t265 x19_1)).length) = true := decide_eq_true (by omega)
                      clear c17
                      by_cases c18 : 1 < ((rd_L1 l0 (rd t265 x19_1)).length : Int)
                      · rw [if_pos c18] at H
                        have c18b0 : decide (1 < ((rd_L1 l0 (rd t265 x19_1)).length : Int)) = true := decide_eq_true c18
                        have c18b1 : decide (1 < (rd_L1 l0 (rd t265 x19_1)).length) = true := decide_eq_true (by omega)
                        clear c18
                        by_cases c19 : (wrap64 (x5_1 + (rd (rd_L1 l0 (rd t265 x19_1)) 0))) ≤ (rd (rd_L1 l0 (rd t265 x19_1)) 1)
                        · rw [if_pos c19] at H
                          have c19b0 : decide ((wrap64 (x5_1 + (rd (rd_L1 l0 (rd t265 x19_1)) 0))) ≤ (rd (rd_L1 l0 (rd t265 x19_1)) 1)) = true := decide_eq_true c19
                          clear c19
                          have H' := Aside0.mk H
                          clear H
                          have p271 : 0 ≤ (x19_1 : Int) := of_decide_eq_true (by first | (with_reducible assumption) | assumption)
                          have q271 : x19_1 < (t265.length : Int) := of_decide_eq_true (by first | (with_reducible assumption) | assumption)
                          obtain ⟨ad271, e271, hx271_0⟩ := Kd.at_int (Kd.R_reads' HO_17.out).2.2 x19_1 p271 q271
                          cases e271
                          replace p271 := eq_true p271
                          replace q271 := eq_true q271
                          go_wp2_with (first | ((with_reducible refine gate_builtin (b := .append) (xs := #[.tmp 23, .tmp 25]) rfl ?_); at_builtin; refine Kd.R_append (Kd.int .i64) (w0 := w) w.heap.size rfl (.tmp 23) (.tmp 25) 27 3 (.int .i64 0) 8 rfl Try.underlying27 info3 rfl (by decide) (by omega) u3 x3_1 (rd t265 x19_1) [.int .i64 (rd t265 x19_1)] (fun k_ => some k_ ≠ (u4 : Value).ownBlock ∧ some k_ ≠ (.slice (some ad271) t265.length co10 : Value).ownBlock) (fun _ => False) rfl rfl ?aP (fun _ hk => hk.elim) ?aF ?aO ?aB ?aS ?aL ?_; (case aP => exact rfl); (case aB => exact (by repeat (first | (with_reducible first | exact HB.out | apply below_alloc | apply pw_below_drewN | apply below_drew1) | exact HB.out))); (case aF => exact (fun k_ hk => ⟨Kd.fresh' (Kd.R_lt (by (with_reducible repeat (first | apply Kd.R_alloc | apply Kd.R_drewN | apply Kd.R_drew)); exact HO_4.out)) k_ hk, Kd.fresh' (Kd.R_lt (by (with_reducible repeat (first | apply Kd.R_alloc | apply Kd.R_drewN | apply Kd.R_drew)); exact HO_17.out)) k_ hk⟩)); (case aO => exact (by (with_reducible repeat (first | apply Kd.R_alloc | apply Kd.R_drewN | apply Kd.R_drew)); exact HO_3.out)); (case aS => exact (below_size (by repeat (first | (with_reducible first | exact HB.out | apply below_alloc | apply pw_below_drewN | apply below_drew1) | exact HB.out)))); (case aL => have := LMc14.out; omega); intro v273 w20 ho hb hg hat; rw [← Ny272.out] at ho; have n0_ := Aside0.mk (Kd.R_after (ok := (fun k_ => some k_ ≠ (.slice (some ad271) t265.length co10 : Value).ownBlock)) (by (with_reducible repeat (first | apply Kd.R_alloc | apply Kd.R_drewN | apply Kd.R_drew)); exact Kd.R_mono HO_4.out (fun _ hk => ⟨hk.2, hk.1⟩)) hg hat); have n1_ := Aside0.mk (Kd.R_after (ok := (fun k_ => some k_ ≠ (u4 : Value).ownBlock)) (by (with_reducible repeat (first | apply Kd.R_alloc | apply Kd.R_drewN | apply Kd.R_drew)); exact Kd.R_mono HO_17.out (fun _ hk => ⟨hk.2, hk.1⟩)) hg hat); have n2_ := Aside0.mk (hb); have n3_ := Aside0.mk (ho); clear HO_4; clear HO_17; clear HB; clear HO_3; have HO_4 := n0_; have HO_17 := n1_; have HB := n2_; have HO274 := n3_; clear n0_ n1_ n2_ n3_; clear ho hb hg hat; have p275 : 0 ≤ ((rd t265 x19_1) : Int) := of_decide_eq_true (by first | (with_reducible assumption) | assumption); have q275 : (rd t265 x19_1) < (l0.length : Int) := of_decide_eq_true (by first | (with_reducible assumption) | assumption); obtain ⟨ad275, A275_0, c275_0, e275, hx275_0, hl275_0, hi275_0⟩ := at_L1 HR0.out (rd t265 x19_1) p275 q275; cases e275; replace hx275_0 := (HB.out.cell (World.block_lt_of_cell? w _ hx275_0)).trans hx275_0; have HR275_0 := Aside0.mk hi275_0; have HC275_0 := Aside0.mk hl275_0; clear hi275_0 hl275_0; replace p275 := eq_true p275; replace q275 := eq_true q275; have p276 : 0 ≤ (0 : Int) := (by omega); have q276 : 0 < ((rd_L1 l0 (rd t265 x19_1)).length : Int) := of_decide_eq_true (by first | (with_reducible assumption) | assumption); obtain ⟨ad276, e276, hx276_0⟩ := Kd.at_int HR275_0.out 0 p276 q276; cases e276; have qi276 : (0 < (rd_L1 l0 (rd t265 x19_1)).length) = True := eq_true (by omega); (try rw [show ((0 : Int)).toNat = 0 from rfl] at hx276_0); (try rw [Addr.add_zero'] at hx276_0); replace hx276_0 := (HB.out.cell (World.block_lt_of_cell? w _ hx276_0)).trans hx276_0; replace p276 := eq_true p276; replace q276 := eq_true q276; have p277 : 0 ≤ ((rd t265 x19_1) : Int) := of_decide_eq_true (by first | (with_reducible assumption) | assumption); have q277 : (rd t265 x19_1) < (l0.length : Int) := of_decide_eq_true (by first | (with_reducible assumption) | assumption); obtain ⟨ad277, A277_0, c277_0, e277, hx277_0, hl277_0, hi277_0⟩ := at_L1 HR0.out (rd t265 x19_1) p277 q277; obtain rfl : ad275 = ad277 := (by injection e277); replace hx277_0 := (HB.out.cell (World.block_lt_of_cell? w _ hx277_0)).trans hx277_0; have HR277_0 := Aside0.mk hi277_0; have HC277_0 := Aside0.mk hl277_0; clear hi277_0 hl277_0; replace p277 := eq_true p277; replace q277 := eq_true q277; have ea_ := Option.some.inj (hx275_0.symm.trans hx277_0); injection ea_ with ea_ en_ ec_; subst ea_; subst ec_; clear en_; have p278 : 0 ≤ (1 : Int) := (by omega); have q278 : 1 < ((rd_L1 l0 (rd t265 x19_1)).length : Int) := of_decide_eq_true (by first | (with_reducible assumption) | assumption); obtain ⟨ad278, e278, hx278_0⟩ := Kd.at_int HR277_0.out 1 p278 q278; cases e278; (try simp only [show (1 : Int).toNat = 1 from rfl, Nat.reduceMul, Nat.reduceEqDiff, Go.Addr.add, ↓reduceIte] at hx278_0); have qi278 : (1 < (rd_L1 l0 (rd t265 x19_1)).length) = True := eq_true (by omega); (try rw [show ((1 : Int)).toNat = 1 from rfl] at hx278_0); replace hx278_0 := (HB.out.cell (World.block_lt_of_cell? w _ hx278_0)).trans hx278_0; replace p278 := eq_true p278; replace q278 := eq_true q278))
                          go_roundg k1
                          case measure => have := HK1.out; omega
                          case rel => exact ⟨(y272), (x4_1), (wrap64 (x5_1 + (rd (rd_L1 l0 (rd t265 x19_1)) 0))), (wrap64 (x19_1 + 1)), (by first | rfl | (simp; done) | (simp [*]; done)), (by first | rfl | (simp; done) | (simp [*]; done)), H', ⟨by have := HK1.out; omega⟩, ⟨by (with_reducible repeat (first | apply Kd.R_alloc | apply Kd.R_drewN | apply Kd.R_drew)); exact HO274.out⟩, ⟨by (with_reducible repeat (first | apply Kd.R_alloc | apply Kd.R_drewN | apply Kd.R_drew)); exact Kd.R_mono HO_4.out (fun _ hk => ⟨hk.2, hk.1⟩)⟩, ⟨by (with_reducible repeat (first | apply Kd.R_alloc | apply Kd.R_drewN | apply Kd.R_drew)); exact Kd.R_mono HO_17.out (fun _ hk => ⟨hk.2, hk.1⟩)⟩, ⟨by repeat (first | (with_reducible first | exact HB.out | apply below_alloc | apply pw_below_drewN | apply below_drew1) | exact HB.out)⟩⟩
                        · rw [if_neg c19] at H
                          have c19b0 : decide ((wrap64 (x5_1 + (rd (rd_L1 l0 (rd t265 x19_1)) 0))) ≤ (rd (rd_L1 l0 (rd t265 x19_1)) 1)) = false := decide_eq_false c19
                          clear c19
                          have H' := Aside0.mk H
                          clear H
                          have p271 : 0 ≤ (x19_1 : Int) := of_decide_eq_true (by first | (with_reducible assumption) | assumption)
                          have q271 : x19_1 < (t265.length : Int) := of_decide_eq_true (by first | (with_reducible assumption) | assumption)
                          obtain ⟨ad271, e271, hx271_0⟩ := Kd.at_int (Kd.R_reads' HO_17.out).2.2 x19_1 p271 q271
                          cases e271
                          replace p271 := eq_true p271
                          replace q271 := eq_true q271
                          go_wp2_with (first | ((with_reducible refine gate_builtin (b := .append) (xs := #[.tmp 23, .tmp 25]) rfl ?_); at_builtin; refine Kd.R_append (Kd.int .i64) (w0 := w) w.heap.size rfl (.tmp 23) (.tmp 25) 27 3 (.int .i64 0) 8 rfl Try.underlying27 info3 rfl (by decide) (by omega) u3 x3_1 (rd t265 x19_1) [.int .i64 (rd t265 x19_1)] (fun k_ => some k_ ≠ (u4 : Value).ownBlock ∧ some k_ ≠ (.slice (some ad271) t265.length co10 : Value).ownBlock) (fun _ => False) rfl rfl ?aP (fun _ hk => hk.elim) ?aF ?aO ?aB ?aS ?aL ?_; (case aP => exact rfl); (case aB => exact (by repeat (first | (with_reducible first | exact HB.out | apply below_alloc | apply pw_below_drewN | apply below_drew1) | exact HB.out))); (case aF => exact (fun k_ hk => ⟨Kd.fresh' (Kd.R_lt (by (with_reducible repeat (first | apply Kd.R_alloc | apply Kd.R_drewN | apply Kd.R_drew)); exact HO_4.out)) k_ hk, Kd.fresh' (Kd.R_lt (by (with_reducible repeat (first | apply Kd.R_alloc | apply Kd.R_drewN | apply Kd.R_drew)); exact HO_17.out)) k_ hk⟩)); (case aO => exact (by (with_reducible repeat (first | apply Kd.R_alloc | apply Kd.R_drewN | apply Kd.R_drew)); exact HO_3.out)); (case aS => exact (below_size (by repeat (first | (with_reducible first | exact HB.out | apply below_alloc | apply pw_below_drewN | apply below_drew1) | exact HB.out)))); (case aL => have := LMc14.out; omega); intro v273 w21 ho hb hg hat; rw [← Ny272.out] at ho; have n0_ := Aside0.mk (Kd.R_after (ok := (fun k_ => some k_ ≠ (.slice (some ad271) t265.length co10 : Value).ownBlock)) (by (with_reducible repeat (first | apply Kd.R_alloc | apply Kd.R_drewN | apply Kd.R_drew)); exact Kd.R_mono HO_4.out (fun _ hk => ⟨hk.2, hk.1⟩)) hg hat); have n1_ := Aside0.mk (Kd.R_after (ok := (fun k_ => some k_ ≠ (u4 : Value).ownBlock)) (by (with_reducible repeat (first | apply Kd.R_alloc | apply Kd.R_drewN | apply Kd.R_drew)); exact Kd.R_mono HO_17.out (fun _ hk => ⟨hk.2, hk.1⟩)) hg hat); have n2_ := Aside0.mk (hb); have n3_ := Aside0.mk (ho); clear HO_4; clear HO_17; clear HB; clear HO_3; have HO_4 := n0_; have HO_17 := n1_; have HB := n2_; have HO274 := n3_; clear n0_ n1_ n2_ n3_; clear ho hb hg hat; have p275 : 0 ≤ ((rd t265 x19_1) : Int) := of_decide_eq_true (by first | (with_reducible assumption) | assumption); have q275 : (rd t265 x19_1) < (l0.length : Int) := of_decide_eq_true (by first | (with_reducible assumption) | assumption); obtain ⟨ad275, A275_0, c275_0, e275, hx275_0, hl275_0, hi275_0⟩ := at_L1 HR0.out (rd t265 x19_1) p275 q275; cases e275; replace hx275_0 := (HB.out.cell (World.block_lt_of_cell? w _ hx275_0)).trans hx275_0; have HR275_0 := Aside0.mk hi275_0; have HC275_0 := Aside0.mk hl275_0; clear hi275_0 hl275_0; replace p275 := eq_true p275; replace q275 := eq_true q275; have p276 : 0 ≤ (0 : Int) := (by omega); have q276 : 0 < ((rd_L1 l0 (rd t265 x19_1)).length : Int) := of_decide_eq_true (by first | (with_reducible assumption) | assumption); obtain ⟨ad276, e276, hx276_0⟩ := Kd.at_int HR275_0.out 0 p276 q276; cases e276; have qi276 : (0 < (rd_L1 l0 (rd t265 x19_1)).length) = True := eq_true (by omega); (try rw [show ((0 : Int)).toNat = 0 from rfl] at hx276_0); (try rw [Addr.add_zero'] at hx276_0); replace hx276_0 := (HB.out.cell (World.block_lt_of_cell? w _ hx276_0)).trans hx276_0; replace p276 := eq_true p276; replace q276 := eq_true q276; have p277 : 0 ≤ ((rd t265 x19_1) : Int) := of_decide_eq_true (by first | (with_reducible assumption) | assumption); have q277 : (rd t265 x19_1) < (l0.length : Int) := of_decide_eq_true (by first | (with_reducible assumption) | assumption); obtain ⟨ad277, A277_0, c277_0, e277, hx277_0, hl277_0, hi277_0⟩ := at_L1 HR0.out (rd t265 x19_1) p277 q277; obtain rfl : ad275 = ad277 := (by injection e277); replace hx277_0 := (HB.out.cell (World.block_lt_of_cell? w _ hx277_0)).trans hx277_0; have HR277_0 := Aside0.mk hi277_0; have HC277_0 := Aside0.mk hl277_0; clear hi277_0 hl277_0; replace p277 := eq_true p277; replace q277 := eq_true q277; have ea_ := Option.some.inj (hx275_0.symm.trans hx277_0); injection ea_ with ea_ en_ ec_; subst ea_; subst ec_; clear en_; have p278 : 0 ≤ (1 : Int) := (by omega); have q278 : 1 < ((rd_L1 l0 (rd t265 x19_1)).length : Int) := of_decide_eq_true (by first | (with_reducible assumption) | assumption); obtain ⟨ad278, e278, hx278_0⟩ := Kd.at_int HR277_0.out 1 p278 q278; cases e278; (try simp only [show (1 : Int).toNat = 1 from rfl, Nat.reduceMul, Nat.reduceEqDiff, Go.Addr.add, ↓reduceIte] at hx278_0); have qi278 : (1 < (rd_L1 l0 (rd t265 x19_1)).length) = True := eq_true (by omega); (try rw [show ((1 : Int)).toNat = 1 from rfl] at hx278_0); replace hx278_0 := (HB.out.cell (World.block_lt_of_cell? w _ hx278_0)).trans hx278_0; replace p278 := eq_true p278; replace q278 := eq_true q278; obtain ⟨Ao22, co22, eo22⟩ := Kd.R_slice HO274.out; subst eo22))
                          go_loopg [8, 45] k1 (fun kq v8 v45 w' => ∃ (x8_2 : Int) (x45_2 : Int), v8 = .int .i64 x8_2 ∧ v45 = .int .i64 x45_2 ∧ Aside0 (spec_OnTimeOrder.l1 kq l0 y272 x4_1 (wrap64 (x5_1 + (rd (rd_L1 l0 (rd t265 x19_1)) 0))) x8_2 t265 (t265.length : Int) x19_1 y272 (y272.length : Int) x45_2 = some r) ∧ Aside0 (kq ≤ k1) ∧ Aside0 (Kd.R (Kd.int .i64) 3 w' w.heap.size (fun k_ => some k_ ≠ (u4 : Value).ownBlock ∧ some k_ ≠ ((.slice (some ad271) t265.length co10) : Value).ownBlock) (.slice Ao22 y272.length co22) y272) ∧ Aside0 (Kd.R (Kd.int .i64) 3 w' w.heap.size (fun k_ => some k_ ≠ ((.slice Ao22 y272.length co22) : Value).ownBlock ∧ some k_ ≠ ((.slice (some ad271) t265.length co10) : Value).ownBlock ∧ some k_ ≠ ((.slice Ao22 y272.length co22) : Value).ownBlock) u4 x4_1) ∧ Aside0 (Kd.R (Kd.int .i64) 3 w' w.heap.size (fun k_ => some k_ ≠ ((.slice Ao22 y272.length co22) : Value).ownBlock ∧ some k_ ≠ (u4 : Value).ownBlock ∧ some k_ ≠ ((.slice Ao22 y272.length co22) : Value).ownBlock) (.slice (some ad271) t265.length co10) t265) ∧ Aside0 (Kd.R (Kd.int .i64) 3 w' w.heap.size (fun k_ => some k_ ≠ (u4 : Value).ownBlock ∧ some k_ ≠ ((.slice (some ad271) t265.length co10) : Value).ownBlock) (.slice Ao22 y272.length co22) y272) ∧ Aside0 (Below w.heap.size w w'))
                          case atStart => exact ⟨(0), (0), (by first | rfl | (simp; done) | (simp [*]; done)), (by first | rfl | (simp; done) | (simp [*]; done)), H', ⟨Nat.le_refl _⟩, ⟨by (with_reducible repeat (first | apply Kd.R_alloc | apply Kd.R_drewN | apply Kd.R_drew)); exact HO274.out⟩, ⟨by (with_reducible repeat (first | apply Kd.R_alloc | apply Kd.R_drewN | apply Kd.R_drew)); exact Kd.R_mono HO_4.out (fun _ hk => ⟨hk.2, ⟨hk.1, hk.2⟩⟩)⟩, ⟨by (with_reducible repeat (first | apply Kd.R_alloc | apply Kd.R_drewN | apply Kd.R_drew)); exact Kd.R_mono HO_17.out (fun _ hk => ⟨hk.2, ⟨hk.1, hk.2⟩⟩)⟩, ⟨by (with_reducible repeat (first | apply Kd.R_alloc | apply Kd.R_drewN | apply Kd.R_drew)); exact HO274.out⟩, ⟨by repeat (first | (with_reducible first | exact HB.out | apply below_alloc | apply pw_below_drewN | apply below_drew1) | exact HB.out)⟩⟩
                          case round =>
                            clear H'
                            try clear c1
                            try clear c2
                            try clear p2
                            try clear q2
                            try clear hx2
                            try clear qi2
                            try clear c3
                            try clear c5
                            try clear p6
                            try clear c11
                            try clear c11b0
                            try clear c12
                            try clear c12b0
                            try clear c13
                            try clear c13b0
                            try clear c14
                            try clear c15
                            try clear c15b0
                            try clear c16
                            try clear c16b0
                            try clear c17
                            try clear c17b0
                            try clear c17b1
                            try clear c18
                            try clear c18b0
                            try clear c18b1
                            try clear c19
                            try clear c19b0
                            try clear hx271_0
                            try clear hx275_0
                            try clear hx276_0
                            try clear hx277_0
                            try clear hx278_0
                            try clear p2
                            try clear p271
                            try clear p275
                            try clear p276
                            try clear p277
                            try clear p278
                            try clear q271
                            try clear q275
                            try clear q276
                            try clear q277
                            try clear q278
                            obtain ⟨x8_2, x45_2, rfl, rfl, HA, HK2, HO_3, HO_4, HO_17, HO_43, HB⟩ := hrel
                            cases gk with
                            | zero => exact absurd HA.out (by simp [spec_OnTimeOrder.l1])
                            | succ k2 =>
                              have H := HA.out
                              clear HA
                              simp only [spec_OnTimeOrder.l1] at H
                              by_cases c23 : x45_2 < (y272.length : Int)
                              · rw [if_pos c23] at H
                                have c23b0 : decide (x45_2 < (y272.length : Int)) = true := decide_eq_true c23
                                clear c23
                                by_cases c24 : 0 ≤ x45_2
                                · rw [if_pos c24] at H
                                  have c24b0 : decide (0 ≤ x45_2) = true := decide_eq_true c24
                                  clear c24
                                  by_cases c25 : x45_2 < (y272.length : Int)
                                  · rw [if_pos c25] at H
                                    have c25b0 : decide (x45_2 < (y272.length : Int)) = true := decide_eq_true c25
                                    clear c25
                                    by_cases c26 : 0 ≤ (rd y272 x45_2)
                                    · rw [if_pos c26] at H
                                      have c26b0 : decide (0 ≤ (rd y272 x45_2)) = true := decide_eq_true c26
                                      clear c26
                                      by_cases c27 : (rd y272 x45_2) < (l0.length : Int)
                                      · rw [if_pos c27] at H
                                        have c27b0 : decide ((rd y272 x45_2) < (l0.length : Int)) = true := decide_eq_true c27
                                        clear c27
                                        by_cases c28 : 0 < ((rd_L1 l0 (rd y272 x45_2)).length : Int)
                                        · rw [if_pos c28] at H
                                          have c28b0 : decide (0 < ((rd_L1 l0 (rd y272 x45_2)).length : Int)) = true := decide_eq_true c28
                                          have c28b1 : decide (0 < (rd_L1 l0 (rd y272 x45_2)).length) = true := decide_eq_true (by omega)
                                          clear c28
                                          by_cases c29 : 0 ≤ x8_2
                                          · rw [if_pos c29] at H
                                            have c29b0 : decide (0 ≤ x8_2) = true := decide_eq_true c29
                                            clear c29
                                            by_cases c30 : x8_2 < (y272.length : Int)
                                            · rw [if_pos c30] at H
                                              have c30b0 : decide (x8_2 < (y272.length : Int)) = true := decide_eq_true c30
                                              clear c30
                                              by_cases c31 : 0 ≤ (rd y272 x8_2)
                                              · rw [if_pos c31] at H
                                                have c31b0 : decide (0 ≤ (rd y272 x8_2)) = true := decide_eq_true c31
                                                clear c31
                                                by_cases c32 : (rd y272 x8_2) < (l0.length : Int)
                                                · rw [if_pos c32] at H
                                                  have c32b0 : decide ((rd y272 x8_2) < (l0.length : Int)) = true := decide_eq_true c32
                                                  clear c32
                                                  by_cases c33 : 0 < ((rd_L1 l0 (rd y272 x8_2)).length : Int)
                                                  · rw [if_pos c33] at H
                                                    have c33b0 : decide (0 < ((rd_L1 l0 (rd y272 x8_2)).length : Int)) = true := decide_eq_true c33
                                                    have c33b1 : decide (0 < (rd_L1 l0 (rd y272 x8_2)).length) = true := decide_eq_true (by omega)
                                                    clear c33
                                                    by_cases c34 : (rd (rd_L1 l0 (rd y272 x45_2)) 0) > (rd (rd_L1 l0 (rd y272 x8_2)) 0)
                                                    · rw [if_pos c34] at H
                                                      have c34b0 : decide ((rd (rd_L1 l0 (rd y272 x8_2)) 0) < (rd (rd_L1 l0 (rd y272 x45_2)) 0)) = true := decide_eq_true c34
                                                      clear c34
                                                      have H' := Aside0.mk H
                                                      clear H
                                                      have p279 : 0 ≤ (x45_2 : Int) := of_decide_eq_true (by first | (with_reducible assumption) | assumption)
                                                      have q279 : x45_2 < (y272.length : Int) := of_decide_eq_true (by first | (with_reducible assumption) | assumption)
                                                      obtain ⟨ad279, e279, hx279_0⟩ := Kd.at_int (Kd.R_reads' HO_43.out).2.2 x45_2 p279 q279
                                                      cases e279
                                                      replace p279 := eq_true p279
                                                      replace q279 := eq_true q279
                                                      try go_wp2
                                                      have n0_ := Aside0.mk (Kd.R_drew HO_3.out)
                                                      have n1_ := Aside0.mk (Kd.R_drew HO_4.out)
                                                      have n2_ := Aside0.mk (Kd.R_drew HO_17.out)
                                                      have n3_ := Aside0.mk (Kd.R_drew HO_43.out)
                                                      have n4_ := Aside0.mk (below_drew1 HB.out)
                                                      clear HO_3
                                                      clear HO_4
                                                      clear HO_17
                                                      clear HO_43
                                                      clear HB
                                                      have HO_3 := n0_
                                                      have HO_4 := n1_
                                                      have HO_17 := n2_
                                                      have HO_43 := n3_
                                                      have HB := n4_
                                                      clear n0_ n1_ n2_ n3_ n4_
                                                      have p280 : 0 ≤ ((rd y272 x45_2) : Int) := of_decide_eq_true (by first | (with_reducible assumption) | assumption)
                                                      have q280 : (rd y272 x45_2) < (l0.length : Int) := of_decide_eq_true (by first | (with_reducible assumption) | assumption)
                                                      obtain ⟨ad280, A280_0, c280_0, e280, hx280_0, hl280_0, hi280_0⟩ := at_L1 HR0.out (rd y272 x45_2) p280 q280
                                                      have hw280_0 := hx280_0
                                                      obtain rfl : ad275 = ad280 := (by injection e280)
                                                      replace hx280_0 := (HB.out.cell (World.block_lt_of_cell? w _ hx280_0)).trans hx280_0
                                                      have HR280_0 := Aside0.mk hi280_0
                                                      have HC280_0 := Aside0.mk hl280_0
                                                      clear hi280_0 hl280_0
                                                      replace p280 := eq_true p280
                                                      replace q280 := eq_true q280
                                                      have p281 : 0 ≤ (0 : Int) := (by omega)
                                                      have q281 : 0 < ((rd_L1 l0 (rd y272 x45_2)).length : Int) := of_decide_eq_true (by first | (with_reducible assumption) | assumption)
                                                      obtain ⟨ad281, e281, hx281_0⟩ := Kd.at_int HR280_0.out 0 p281 q281
                                                      have hw281_0 := hx281_0
                                                      (try rw [show ((0 : Int)).toNat = 0 from rfl] at hw281_0)
                                                      (try rw [show 0 * 1 = 0 from rfl] at hw281_0)
                                                      (try rw [Addr.add_zero'] at hw281_0)
                                                      cases e281
                                                      have qi281 : (0 < (rd_L1 l0 (rd y272 x45_2)).length) = True := eq_true (by omega)
                                                      (try rw [show ((0 : Int)).toNat = 0 from rfl] at hx281_0)
                                                      (try rw [Addr.add_zero'] at hx281_0)
                                                      replace hx281_0 := (HB.out.cell (World.block_lt_of_cell? w _ hx281_0)).trans hx281_0
                                                      replace p281 := eq_true p281
                                                      replace q281 := eq_true q281
                                                      have p282 : 0 ≤ (x8_2 : Int) := of_decide_eq_true (by first | (with_reducible assumption) | assumption)
                                                      have q282 : x8_2 < (y272.length : Int) := of_decide_eq_true (by first | (with_reducible assumption) | assumption)
                                                      obtain ⟨ad282, e282, hx282_0⟩ := Kd.at_int (Kd.R_reads' HO_3.out).2.2 x8_2 p282 q282
                                                      obtain rfl : ad279 = ad282 := (by injection e282)
                                                      replace p282 := eq_true p282
                                                      replace q282 := eq_true q282
                                                      have p283 : 0 ≤ ((rd y272 x8_2) : Int) := of_decide_eq_true (by first | (with_reducible assumption) | assumption)
                                                      have q283 : (rd y272 x8_2) < (l0.length : Int) := of_decide_eq_true (by first | (with_reducible assumption) | assumption)
                                                      obtain ⟨ad283, A283_0, c283_0, e283, hx283_0, hl283_0, hi283_0⟩ := at_L1 HR0.out (rd y272 x8_2) p283 q283
                                                      have hw283_0 := hx283_0
                                                      obtain rfl : ad275 = ad283 := (by injection e283)
                                                      replace hx283_0 := (HB.out.cell (World.block_lt_of_cell? w _ hx283_0)).trans hx283_0
                                                      have HR283_0 := Aside0.mk hi283_0
                                                      have HC283_0 := Aside0.mk hl283_0
                                                      clear hi283_0 hl283_0
                                                      replace p283 := eq_true p283
                                                      replace q283 := eq_true q283
                                                      have p284 : 0 ≤ (0 : Int) := (by omega)
                                                      have q284 : 0 < ((rd_L1 l0 (rd y272 x8_2)).length : Int) := of_decide_eq_true (by first | (with_reducible assumption) | assumption)
                                                      obtain ⟨ad284, e284, hx284_0⟩ := Kd.at_int HR283_0.out 0 p284 q284
                                                      have hw284_0 := hx284_0
                                                      (try rw [show ((0 : Int)).toNat = 0 from rfl] at hw284_0)
                                                      (try rw [show 0 * 1 = 0 from rfl] at hw284_0)
                                                      (try rw [Addr.add_zero'] at hw284_0)
                                                      cases e284
                                                      have qi284 : (0 < (rd_L1 l0 (rd y272 x8_2)).length) = True := eq_true (by omega)
                                                      (try rw [show ((0 : Int)).toNat = 0 from rfl] at hx284_0)
                                                      (try rw [Addr.add_zero'] at hx284_0)
                                                      replace hx284_0 := (HB.out.cell (World.block_lt_of_cell? w _ hx284_0)).trans hx284_0
                                                      replace p284 := eq_true p284
                                                      replace q284 := eq_true q284
                                                      refine start_ (n := 16) (S := fun w' => w'.cell? (ad275.add ((rd y272 x45_2)).toNat) = some (.slice (some ad281) (rd_L1 l0 (rd y272 x45_2)).length c280_0) ∧ w'.cell? ad281 = some (.int .i64 (rd (rd_L1 l0 (rd y272 x45_2)) 0)) ∧ w'.cell? (ad279.add (x8_2).toNat) = some (.int .i64 (rd y272 x8_2)) ∧ w'.cell? (ad275.add ((rd y272 x8_2)).toNat) = some (.slice (some ad284) (rd_L1 l0 (rd y272 x8_2)).length c283_0) ∧ w'.cell? ad284 = some (.int .i64 (rd (rd_L1 l0 (rd y272 x8_2)) 0))) (ds := []) #[false, false, false, false, false, false, false, false, false, false, false, false, false, false, false, false] (by kernel_rfl) rfl rfl ⟨((HB.out.cell (World.block_lt_of_cell? w _ hw280_0)).trans hw280_0), ((HB.out.cell (World.block_lt_of_cell? w _ hw281_0)).trans hw281_0), hx282_0, ((HB.out.cell (World.block_lt_of_cell? w _ hw283_0)).trans hw283_0), ((HB.out.cell (World.block_lt_of_cell? w _ hw284_0)).trans hw284_0)⟩ (fun hHeld => ?_); refine with_tabW spec_OnTimeOrder.tab16 spec_OnTimeOrder.bits16 (fun HT_ HW_ => ?_)
                                                      generalize wr.drew = w35 at HO_3 HO_4 HO_17 HO_43 HB HR280_0 HR283_0 hx280_0 hx281_0 hx282_0 hx283_0 hx284_0 hHeld ⊢
                                                      refine pure_ (i := 0) (N := some 50) (v := ?_) (a' := ?_) #[true, false, false, false, false, false, false, false, false, false, false, false, false, false, false, false] rfl rfl (any_of HT_.out (by kernel_rfl)) (fun _ _ _ h => h) (Or.inl ⟨by rfl, ?_⟩) ?_ ?_
                                                      rotate_left
                                                      · intro w'
                                                        go_simp
                                                        with_reducible rfl
                                                      rotate_left
                                                      · simp only [Act.put, List.setIfInBounds_toArray, List.set_cons_zero, List.set_cons_succ, i64_w, i32_w]
                                                        rfl
                                                      refine pure_ (i := 1) (N := some 51) (v := ?_) (a' := ?_) #[true, true, false, false, false, false, false, false, false, false, false, false, false, false, false, false] rfl rfl (any_of HT_.out (by kernel_rfl)) (fun _ _ _ h => h) (Or.inl ⟨by rfl, ?_⟩) ?_ ?_
                                                      rotate_left
                                                      · intro w'
                                                        go_simp
                                                        with_reducible rfl
                                                      rotate_left
                                                      · simp only [Act.put, List.setIfInBounds_toArray, List.set_cons_zero, List.set_cons_succ, i64_w, i32_w]
                                                        rfl
                                                      refine pure_ (i := 2) (N := some 52) (v := ?_) (a' := ?_) #[true, true, true, false, false, false, false, false, false, false, false, false, false, false, false, false] rfl rfl (any_of HT_.out (by kernel_rfl)) (fun _ _ _ h => h) (Or.inl ⟨by rfl, ?_⟩) ?_ ?_
                                                      rotate_left
                                                      · intro w'
                                                        go_simp
                                                        with_reducible rfl
                                                      rotate_left
                                                      · simp only [Act.put, List.setIfInBounds_toArray, List.set_cons_zero, List.set_cons_succ, i64_w, i32_w]
                                                        rfl
                                                      refine pure_ (i := 6) (N := some 56) (v := ?_) (a' := ?_) #[true, true, true, false, false, false, true, false, false, false, false, false, false, false, false, false] rfl rfl (any_of HT_.out (by kernel_rfl)) (fun _ _ _ h => h) (Or.inl ⟨by rfl, ?_⟩) ?_ ?_
                                                      rotate_left
                                                      · intro w'
                                                        go_simp
                                                        with_reducible rfl
                                                      rotate_left
                                                      · simp only [Act.put, List.setIfInBounds_toArray, List.set_cons_zero, List.set_cons_succ, i64_w, i32_w]
                                                        rfl
                                                      refine pure_ (i := 7) (N := some 57) (v := ?_) (a' := ?_) #[true, true, true, false, false, false, true, true, false, false, false, false, false, false, false, false] rfl rfl (any_of HT_.out (by kernel_rfl)) (fun _ _ _ h => h) (Or.inl ⟨by rfl, ?_⟩) ?_ ?_
                                                      rotate_left
                                                      · intro w'
                                                        go_simp
                                                        with_reducible rfl
                                                      rotate_left
                                                      · simp only [Act.put, List.setIfInBounds_toArray, List.set_cons_zero, List.set_cons_succ, i64_w, i32_w]
                                                        rfl
                                                      refine pure_ (i := 8) (N := some 58) (v := ?_) (a' := ?_) #[true, true, true, false, false, false, true, true, true, false, false, false, false, false, false, false] rfl rfl (any_of HT_.out (by kernel_rfl)) (fun _ _ _ h => h) (Or.inl ⟨by rfl, ?_⟩) ?_ ?_
                                                      rotate_left
                                                      · intro w'
                                                        go_simp
                                                        with_reducible rfl
                                                      rotate_left
                                                      · simp only [Act.put, List.setIfInBounds_toArray, List.set_cons_zero, List.set_cons_succ, i64_w, i32_w]
                                                        rfl
                                                      refine pure_ (i := 9) (N := some 59) (v := ?_) (a' := ?_) #[true, true, true, false, false, false, true, true, true, true, false, false, false, false, false, false] rfl rfl (any_of HT_.out (by kernel_rfl)) (fun _ _ _ h => h) (Or.inl ⟨by rfl, ?_⟩) ?_ ?_
                                                      rotate_left
                                                      · intro w'
                                                        go_simp
                                                        with_reducible rfl
                                                      rotate_left
                                                      · simp only [Act.put, List.setIfInBounds_toArray, List.set_cons_zero, List.set_cons_succ, i64_w, i32_w]
                                                        rfl
                                                      refine take_ (i := 3) (N := some 53) (v := ?_) (a' := ?_) #[true, true, true, true, false, false, true, true, true, true, false, false, false, false, false, false] rfl rfl (take_ofW HT_.out HW_.out (by kernel_rfl)) (fun _ _ _ h => h) (Or.inl ⟨by rfl, ?_⟩) hHeld ?_ ?_
                                                      rotate_left
                                                      · rintro w' ⟨s0, s1, s2, s3, s4⟩
                                                        go_simp
                                                        with_reducible rfl
                                                      rotate_left
                                                      · simp only [Act.put, List.setIfInBounds_toArray, List.set_cons_zero, List.set_cons_succ, i64_w, i32_w]
                                                        rfl
                                                      refine pure_ (i := 4) (N := some 54) (v := ?_) (a' := ?_) #[true, true, true, true, true, false, true, true, true, true, false, false, false, false, false, false] rfl rfl (any_of HT_.out (by kernel_rfl)) (fun _ _ _ h => h) (Or.inl ⟨by rfl, ?_⟩) ?_ ?_
                                                      rotate_left
                                                      · intro w'
                                                        go_simp
                                                        with_reducible rfl
                                                      rotate_left
                                                      · simp only [Act.put, List.setIfInBounds_toArray, List.set_cons_zero, List.set_cons_succ, i64_w, i32_w]
                                                        rfl
                                                      refine take_ (i := 5) (N := some 55) (v := ?_) (a' := ?_) #[true, true, true, true, true, true, true, true, true, true, false, false, false, false, false, false] rfl rfl (take_ofW HT_.out HW_.out (by kernel_rfl)) (fun _ _ _ h => h) (Or.inl ⟨by rfl, ?_⟩) hHeld ?_ ?_
                                                      rotate_left
                                                      · rintro w' ⟨s0, s1, s2, s3, s4⟩
                                                        go_simp
                                                        with_reducible rfl
                                                      rotate_left
                                                      · simp only [Act.put, List.setIfInBounds_toArray, List.set_cons_zero, List.set_cons_succ, i64_w, i32_w]
                                                        rfl
                                                      refine take_ (i := 10) (N := some 60) (v := ?_) (a' := ?_) #[true, true, true, true, true, true, true, true, true, true, true, false, false, false, false, false] rfl rfl (take_ofW HT_.out HW_.out (by kernel_rfl)) (fun _ _ _ h => h) (Or.inl ⟨by rfl, ?_⟩) hHeld ?_ ?_
                                                      rotate_left
                                                      · rintro w' ⟨s0, s1, s2, s3, s4⟩
                                                        go_simp
                                                        with_reducible rfl
                                                      rotate_left
                                                      · simp only [Act.put, List.setIfInBounds_toArray, List.set_cons_zero, List.set_cons_succ, i64_w, i32_w]
                                                        rfl
                                                      refine pure_ (i := 11) (N := some 61) (v := ?_) (a' := ?_) #[true, true, true, true, true, true, true, true, true, true, true, true, false, false, false, false] rfl rfl (any_of HT_.out (by kernel_rfl)) (fun _ _ _ h => h) (Or.inl ⟨by rfl, ?_⟩) ?_ ?_
                                                      rotate_left
                                                      · intro w'
                                                        go_simp
                                                        with_reducible rfl
                                                      rotate_left
                                                      · simp only [Act.put, List.setIfInBounds_toArray, List.set_cons_zero, List.set_cons_succ, i64_w, i32_w]
                                                        rfl
                                                      refine take_ (i := 12) (N := some 62) (v := ?_) (a' := ?_) #[true, true, true, true, true, true, true, true, true, true, true, true, true, false, false, false] rfl rfl (take_ofW HT_.out HW_.out (by kernel_rfl)) (fun _ _ _ h => h) (Or.inl ⟨by rfl, ?_⟩) hHeld ?_ ?_
                                                      rotate_left
                                                      · rintro w' ⟨s0, s1, s2, s3, s4⟩
                                                        go_simp
                                                        with_reducible rfl
                                                      rotate_left
                                                      · simp only [Act.put, List.setIfInBounds_toArray, List.set_cons_zero, List.set_cons_succ, i64_w, i32_w]
                                                        rfl
                                                      refine pure_ (i := 13) (N := some 63) (v := ?_) (a' := ?_) #[true, true, true, true, true, true, true, true, true, true, true, true, true, true, false, false] rfl rfl (any_of HT_.out (by kernel_rfl)) (fun _ _ _ h => h) (Or.inl ⟨by rfl, ?_⟩) ?_ ?_
                                                      rotate_left
                                                      · intro w'
                                                        go_simp
                                                        with_reducible rfl
                                                      rotate_left
                                                      · simp only [Act.put, List.setIfInBounds_toArray, List.set_cons_zero, List.set_cons_succ, i64_w, i32_w]
                                                        rfl
                                                      refine take_ (i := 14) (N := some 64) (v := ?_) (a' := ?_) #[true, true, true, true, true, true, true, true, true, true, true, true, true, true, true, false] rfl rfl (take_ofW HT_.out HW_.out (by kernel_rfl)) (fun _ _ _ h => h) (Or.inl ⟨by rfl, ?_⟩) hHeld ?_ ?_
                                                      rotate_left
                                                      · rintro w' ⟨s0, s1, s2, s3, s4⟩
                                                        go_simp
                                                        with_reducible rfl
                                                      rotate_left
                                                      · simp only [Act.put, List.setIfInBounds_toArray, List.set_cons_zero, List.set_cons_succ, i64_w, i32_w]
                                                        rfl
                                                      refine pure_ (i := 15) (N := some 65) (v := ?_) (a' := ?_) #[true, true, true, true, true, true, true, true, true, true, true, true, true, true, true, true] rfl rfl (any_of HT_.out (by kernel_rfl)) (fun _ _ _ h => h) (Or.inl ⟨by rfl, ?_⟩) ?_ ?_
                                                      rotate_left
                                                      · intro w'
                                                        go_simp
                                                        with_reducible rfl
                                                      rotate_left
                                                      · simp only [Act.put, List.setIfInBounds_toArray, List.set_cons_zero, List.set_cons_succ, i64_w, i32_w]
                                                        rfl
                                                      refine done_ (done_of HT_.out (by kernel_rfl)) ?_
                                                      try go_wp2
                                                      go_roundg k2
                                                      case measure => have := HK1.out; have := HK2.out; omega
                                                      case rel => exact ⟨(x45_2), (wrap64 (x45_2 + 1)), (by first | rfl | (simp; done) | (simp [*]; done)), (by first | rfl | (simp; done) | (simp [*]; done)), H', ⟨by have := HK1.out; have := HK2.out; omega⟩, ⟨by (with_reducible repeat (first | apply Kd.R_alloc | apply Kd.R_drewN | apply Kd.R_drew)); exact HO_3.out⟩, ⟨by (with_reducible repeat (first | apply Kd.R_alloc | apply Kd.R_drewN | apply Kd.R_drew)); exact HO_4.out⟩, ⟨by (with_reducible repeat (first | apply Kd.R_alloc | apply Kd.R_drewN | apply Kd.R_drew)); exact HO_17.out⟩, ⟨by (with_reducible repeat (first | apply Kd.R_alloc | apply Kd.R_drewN | apply Kd.R_drew)); exact HO_43.out⟩, ⟨by repeat (first | (with_reducible first | exact HB.out | apply below_alloc | apply pw_below_drewN | apply below_drew1) | exact HB.out)⟩⟩
                                                    · rw [if_neg c34] at H
                                                      have c34b0 : decide ((rd (rd_L1 l0 (rd y272 x8_2)) 0) < (rd (rd_L1 l0 (rd y272 x45_2)) 0)) = false := decide_eq_false c34
                                                      clear c34
                                                      have H' := Aside0.mk H
                                                      clear H
                                                      have p279 : 0 ≤ (x45_2 : Int) := of_decide_eq_true (by first | (with_reducible assumption) | assumption)
                                                      have q279 : x45_2 < (y272.length : Int) := of_decide_eq_true (by first | (with_reducible assumption) | assumption)
                                                      obtain ⟨ad279, e279, hx279_0⟩ := Kd.at_int (Kd.R_reads' HO_43.out).2.2 x45_2 p279 q279
                                                      cases e279
                                                      replace p279 := eq_true p279
                                                      replace q279 := eq_true q279
                                                      try go_wp2
                                                      have n0_ := Aside0.mk (Kd.R_drew HO_3.out)
                                                      have n1_ := Aside0.mk (Kd.R_drew HO_4.out)
                                                      have n2_ := Aside0.mk (Kd.R_drew HO_17.out)
                                                      have n3_ := Aside0.mk (Kd.R_drew HO_43.out)
                                                      have n4_ := Aside0.mk (below_drew1 HB.out)
                                                      clear HO_3
                                                      clear HO_4
                                                      clear HO_17
                                                      clear HO_43
                                                      clear HB
                                                      have HO_3 := n0_
                                                      have HO_4 := n1_
                                                      have HO_17 := n2_
                                                      have HO_43 := n3_
                                                      have HB := n4_
                                                      clear n0_ n1_ n2_ n3_ n4_
                                                      have p280 : 0 ≤ ((rd y272 x45_2) : Int) := of_decide_eq_true (by first | (with_reducible assumption) | assumption)
                                                      have q280 : (rd y272 x45_2) < (l0.length : Int) := of_decide_eq_true (by first | (with_reducible assumption) | assumption)
                                                      obtain ⟨ad280, A280_0, c280_0, e280, hx280_0, hl280_0, hi280_0⟩ := at_L1 HR0.out (rd y272 x45_2) p280 q280
                                                      have hw280_0 := hx280_0
                                                      obtain rfl : ad275 = ad280 := (by injection e280)
                                                      replace hx280_0 := (HB.out.cell (World.block_lt_of_cell? w _ hx280_0)).trans hx280_0
                                                      have HR280_0 := Aside0.mk hi280_0
                                                      have HC280_0 := Aside0.mk hl280_0
                                                      clear hi280_0 hl280_0
                                                      replace p280 := eq_true p280
                                                      replace q280 := eq_true q280
                                                      have p281 : 0 ≤ (0 : Int) := (by omega)
                                                      have q281 : 0 < ((rd_L1 l0 (rd y272 x45_2)).length : Int) := of_decide_eq_true (by first | (with_reducible assumption) | assumption)
                                                      obtain ⟨ad281, e281, hx281_0⟩ := Kd.at_int HR280_0.out 0 p281 q281
                                                      have hw281_0 := hx281_0
                                                      (try rw [show ((0 : Int)).toNat = 0 from rfl] at hw281_0)
                                                      (try rw [show 0 * 1 = 0 from rfl] at hw281_0)
                                                      (try rw [Addr.add_zero'] at hw281_0)
                                                      cases e281
                                                      have qi281 : (0 < (rd_L1 l0 (rd y272 x45_2)).length) = True := eq_true (by omega)
                                                      (try rw [show ((0 : Int)).toNat = 0 from rfl] at hx281_0)
                                                      (try rw [Addr.add_zero'] at hx281_0)
                                                      replace hx281_0 := (HB.out.cell (World.block_lt_of_cell? w _ hx281_0)).trans hx281_0
                                                      replace p281 := eq_true p281
                                                      replace q281 := eq_true q281
                                                      have p282 : 0 ≤ (x8_2 : Int) := of_decide_eq_true (by first | (with_reducible assumption) | assumption)
                                                      have q282 : x8_2 < (y272.length : Int) := of_decide_eq_true (by first | (with_reducible assumption) | assumption)
                                                      obtain ⟨ad282, e282, hx282_0⟩ := Kd.at_int (Kd.R_reads' HO_3.out).2.2 x8_2 p282 q282
                                                      obtain rfl : ad279 = ad282 := (by injection e282)
                                                      replace p282 := eq_true p282
                                                      replace q282 := eq_true q282
                                                      have p283 : 0 ≤ ((rd y272 x8_2) : Int) := of_decide_eq_true (by first | (with_reducible assumption) | assumption)
                                                      have q283 : (rd y272 x8_2) < (l0.length : Int) := of_decide_eq_true (by first | (with_reducible assumption) | assumption)
                                                      obtain ⟨ad283, A283_0, c283_0, e283, hx283_0, hl283_0, hi283_0⟩ := at_L1 HR0.out (rd y272 x8_2) p283 q283
                                                      have hw283_0 := hx283_0
                                                      obtain rfl : ad275 = ad283 := (by injection e283)
                                                      replace hx283_0 := (HB.out.cell (World.block_lt_of_cell? w _ hx283_0)).trans hx283_0
                                                      have HR283_0 := Aside0.mk hi283_0
                                                      have HC283_0 := Aside0.mk hl283_0
                                                      clear hi283_0 hl283_0
                                                      replace p283 := eq_true p283
                                                      replace q283 := eq_true q283
                                                      have p284 : 0 ≤ (0 : Int) := (by omega)
                                                      have q284 : 0 < ((rd_L1 l0 (rd y272 x8_2)).length : Int) := of_decide_eq_true (by first | (with_reducible assumption) | assumption)
                                                      obtain ⟨ad284, e284, hx284_0⟩ := Kd.at_int HR283_0.out 0 p284 q284
                                                      have hw284_0 := hx284_0
                                                      (try rw [show ((0 : Int)).toNat = 0 from rfl] at hw284_0)
                                                      (try rw [show 0 * 1 = 0 from rfl] at hw284_0)
                                                      (try rw [Addr.add_zero'] at hw284_0)
                                                      cases e284
                                                      have qi284 : (0 < (rd_L1 l0 (rd y272 x8_2)).length) = True := eq_true (by omega)
                                                      (try rw [show ((0 : Int)).toNat = 0 from rfl] at hx284_0)
                                                      (try rw [Addr.add_zero'] at hx284_0)
                                                      replace hx284_0 := (HB.out.cell (World.block_lt_of_cell? w _ hx284_0)).trans hx284_0
                                                      replace p284 := eq_true p284
                                                      replace q284 := eq_true q284
                                                      refine start_ (n := 16) (S := fun w' => w'.cell? (ad275.add ((rd y272 x45_2)).toNat) = some (.slice (some ad281) (rd_L1 l0 (rd y272 x45_2)).length c280_0) ∧ w'.cell? ad281 = some (.int .i64 (rd (rd_L1 l0 (rd y272 x45_2)) 0)) ∧ w'.cell? (ad279.add (x8_2).toNat) = some (.int .i64 (rd y272 x8_2)) ∧ w'.cell? (ad275.add ((rd y272 x8_2)).toNat) = some (.slice (some ad284) (rd_L1 l0 (rd y272 x8_2)).length c283_0) ∧ w'.cell? ad284 = some (.int .i64 (rd (rd_L1 l0 (rd y272 x8_2)) 0))) (ds := []) #[false, false, false, false, false, false, false, false, false, false, false, false, false, false, false, false] (by kernel_rfl) rfl rfl ⟨((HB.out.cell (World.block_lt_of_cell? w _ hw280_0)).trans hw280_0), ((HB.out.cell (World.block_lt_of_cell? w _ hw281_0)).trans hw281_0), hx282_0, ((HB.out.cell (World.block_lt_of_cell? w _ hw283_0)).trans hw283_0), ((HB.out.cell (World.block_lt_of_cell? w _ hw284_0)).trans hw284_0)⟩ (fun hHeld => ?_); refine with_tabW spec_OnTimeOrder.tab16 spec_OnTimeOrder.bits16 (fun HT_ HW_ => ?_)
                                                      generalize wr.drew = w36 at HO_3 HO_4 HO_17 HO_43 HB HR280_0 HR283_0 hx280_0 hx281_0 hx282_0 hx283_0 hx284_0 hHeld ⊢
                                                      refine pure_ (i := 0) (N := some 50) (v := ?_) (a' := ?_) #[true, false, false, false, false, false, false, false, false, false, false, false, false, false, false, false] rfl rfl (any_of HT_.out (by kernel_rfl)) (fun _ _ _ h => h) (Or.inl ⟨by rfl, ?_⟩) ?_ ?_
                                                      rotate_left
                                                      · intro w'
                                                        go_simp
                                                        with_reducible rfl
                                                      rotate_left
                                                      · simp only [Act.put, List.setIfInBounds_toArray, List.set_cons_zero, List.set_cons_succ, i64_w, i32_w]
                                                        rfl
                                                      refine pure_ (i := 1) (N := some 51) (v := ?_) (a' := ?_) #[true, true, false, false, false, false, false, false, false, false, false, false, false, false, false, false] rfl rfl (any_of HT_.out (by kernel_rfl)) (fun _ _ _ h => h) (Or.inl ⟨by rfl, ?_⟩) ?_ ?_
                                                      rotate_left
                                                      · intro w'
                                                        go_simp
                                                        with_reducible rfl
                                                      rotate_left
                                                      · simp only [Act.put, List.setIfInBounds_toArray, List.set_cons_zero, List.set_cons_succ, i64_w, i32_w]
                                                        rfl
                                                      refine pure_ (i := 2) (N := some 52) (v := ?_) (a' := ?_) #[true, true, true, false, false, false, false, false, false, false, false, false, false, false, false, false] rfl rfl (any_of HT_.out (by kernel_rfl)) (fun _ _ _ h => h) (Or.inl ⟨by rfl, ?_⟩) ?_ ?_
                                                      rotate_left
                                                      · intro w'
                                                        go_simp
                                                        with_reducible rfl
                                                      rotate_left
                                                      · simp only [Act.put, List.setIfInBounds_toArray, List.set_cons_zero, List.set_cons_succ, i64_w, i32_w]
                                                        rfl
                                                      refine pure_ (i := 6) (N := some 56) (v := ?_) (a' := ?_) #[true, true, true, false, false, false, true, false, false, false, false, false, false, false, false, false] rfl rfl (any_of HT_.out (by kernel_rfl)) (fun _ _ _ h => h) (Or.inl ⟨by rfl, ?_⟩) ?_ ?_
                                                      rotate_left
                                                      · intro w'
                                                        go_simp
                                                        with_reducible rfl
                                                      rotate_left
                                                      · simp only [Act.put, List.setIfInBounds_toArray, List.set_cons_zero, List.set_cons_succ, i64_w, i32_w]
                                                        rfl
                                                      refine pure_ (i := 7) (N := some 57) (v := ?_) (a' := ?_) #[true, true, true, false, false, false, true, true, false, false, false, false, false, false, false, false] rfl rfl (any_of HT_.out (by kernel_rfl)) (fun _ _ _ h => h) (Or.inl ⟨by rfl, ?_⟩) ?_ ?_
                                                      rotate_left
                                                      · intro w'
                                                        go_simp
                                                        with_reducible rfl
                                                      rotate_left
                                                      · simp only [Act.put, List.setIfInBounds_toArray, List.set_cons_zero, List.set_cons_succ, i64_w, i32_w]
                                                        rfl
                                                      refine pure_ (i := 8) (N := some 58) (v := ?_) (a' := ?_) #[true, true, true, false, false, false, true, true, true, false, false, false, false, false, false, false] rfl rfl (any_of HT_.out (by kernel_rfl)) (fun _ _ _ h => h) (Or.inl ⟨by rfl, ?_⟩) ?_ ?_
                                                      rotate_left
                                                      · intro w'
                                                        go_simp
                                                        with_reducible rfl
                                                      rotate_left
                                                      · simp only [Act.put, List.setIfInBounds_toArray, List.set_cons_zero, List.set_cons_succ, i64_w, i32_w]
                                                        rfl
                                                      refine pure_ (i := 9) (N := some 59) (v := ?_) (a' := ?_) #[true, true, true, false, false, false, true, true, true, true, false, false, false, false, false, false] rfl rfl (any_of HT_.out (by kernel_rfl)) (fun _ _ _ h => h) (Or.inl ⟨by rfl, ?_⟩) ?_ ?_
                                                      rotate_left
                                                      · intro w'
                                                        go_simp
                                                        with_reducible rfl
                                                      rotate_left
                                                      · simp only [Act.put, List.setIfInBounds_toArray, List.set_cons_zero, List.set_cons_succ, i64_w, i32_w]
                                                        rfl
                                                      refine take_ (i := 3) (N := some 53) (v := ?_) (a' := ?_) #[true, true, true, true, false, false, true, true, true, true, false, false, false, false, false, false] rfl rfl (take_ofW HT_.out HW_.out (by kernel_rfl)) (fun _ _ _ h => h) (Or.inl ⟨by rfl, ?_⟩) hHeld ?_ ?_
                                                      rotate_left
                                                      · rintro w' ⟨s0, s1, s2, s3, s4⟩
                                                        go_simp
                                                        with_reducible rfl
                                                      rotate_left
                                                      · simp only [Act.put, List.setIfInBounds_toArray, List.set_cons_zero, List.set_cons_succ, i64_w, i32_w]
                                                        rfl
                                                      refine pure_ (i := 4) (N := some 54) (v := ?_) (a' := ?_) #[true, true, true, true, true, false, true, true, true, true, false, false, false, false, false, false] rfl rfl (any_of HT_.out (by kernel_rfl)) (fun _ _ _ h => h) (Or.inl ⟨by rfl, ?_⟩) ?_ ?_
                                                      rotate_left
                                                      · intro w'
                                                        go_simp
                                                        with_reducible rfl
                                                      rotate_left
                                                      · simp only [Act.put, List.setIfInBounds_toArray, List.set_cons_zero, List.set_cons_succ, i64_w, i32_w]
                                                        rfl
                                                      refine take_ (i := 5) (N := some 55) (v := ?_) (a' := ?_) #[true, true, true, true, true, true, true, true, true, true, false, false, false, false, false, false] rfl rfl (take_ofW HT_.out HW_.out (by kernel_rfl)) (fun _ _ _ h => h) (Or.inl ⟨by rfl, ?_⟩) hHeld ?_ ?_
                                                      rotate_left
                                                      · rintro w' ⟨s0, s1, s2, s3, s4⟩
                                                        go_simp
                                                        with_reducible rfl
                                                      rotate_left
                                                      · simp only [Act.put, List.setIfInBounds_toArray, List.set_cons_zero, List.set_cons_succ, i64_w, i32_w]
                                                        rfl
                                                      refine take_ (i := 10) (N := some 60) (v := ?_) (a' := ?_) #[true, true, true, true, true, true, true, true, true, true, true, false, false, false, false, false] rfl rfl (take_ofW HT_.out HW_.out (by kernel_rfl)) (fun _ _ _ h => h) (Or.inl ⟨by rfl, ?_⟩) hHeld ?_ ?_
                                                      rotate_left
                                                      · rintro w' ⟨s0, s1, s2, s3, s4⟩
                                                        go_simp
                                                        with_reducible rfl
                                                      rotate_left
                                                      · simp only [Act.put, List.setIfInBounds_toArray, List.set_cons_zero, List.set_cons_succ, i64_w, i32_w]
                                                        rfl
                                                      refine pure_ (i := 11) (N := some 61) (v := ?_) (a' := ?_) #[true, true, true, true, true, true, true, true, true, true, true, true, false, false, false, false] rfl rfl (any_of HT_.out (by kernel_rfl)) (fun _ _ _ h => h) (Or.inl ⟨by rfl, ?_⟩) ?_ ?_
                                                      rotate_left
                                                      · intro w'
                                                        go_simp
                                                        with_reducible rfl
                                                      rotate_left
                                                      · simp only [Act.put, List.setIfInBounds_toArray, List.set_cons_zero, List.set_cons_succ, i64_w, i32_w]
                                                        rfl
                                                      refine take_ (i := 12) (N := some 62) (v := ?_) (a' := ?_) #[true, true, true, true, true, true, true, true, true, true, true, true, true, false, false, false] rfl rfl (take_ofW HT_.out HW_.out (by kernel_rfl)) (fun _ _ _ h => h) (Or.inl ⟨by rfl, ?_⟩) hHeld ?_ ?_
                                                      rotate_left
                                                      · rintro w' ⟨s0, s1, s2, s3, s4⟩
                                                        go_simp
                                                        with_reducible rfl
                                                      rotate_left
                                                      · simp only [Act.put, List.setIfInBounds_toArray, List.set_cons_zero, List.set_cons_succ, i64_w, i32_w]
                                                        rfl
                                                      refine pure_ (i := 13) (N := some 63) (v := ?_) (a' := ?_) #[true, true, true, true, true, true, true, true, true, true, true, true, true, true, false, false] rfl rfl (any_of HT_.out (by kernel_rfl)) (fun _ _ _ h => h) (Or.inl ⟨by rfl, ?_⟩) ?_ ?_
                                                      rotate_left
                                                      · intro w'
                                                        go_simp
                                                        with_reducible rfl
                                                      rotate_left
                                                      · simp only [Act.put, List.setIfInBounds_toArray, List.set_cons_zero, List.set_cons_succ, i64_w, i32_w]
                                                        rfl
                                                      refine take_ (i := 14) (N := some 64) (v := ?_) (a' := ?_) #[true, true, true, true, true, true, true, true, true, true, true, true, true, true, true, false] rfl rfl (take_ofW HT_.out HW_.out (by kernel_rfl)) (fun _ _ _ h => h) (Or.inl ⟨by rfl, ?_⟩) hHeld ?_ ?_
                                                      rotate_left
                                                      · rintro w' ⟨s0, s1, s2, s3, s4⟩
                                                        go_simp
                                                        with_reducible rfl
                                                      rotate_left
                                                      · simp only [Act.put, List.setIfInBounds_toArray, List.set_cons_zero, List.set_cons_succ, i64_w, i32_w]
                                                        rfl
                                                      refine pure_ (i := 15) (N := some 65) (v := ?_) (a' := ?_) #[true, true, true, true, true, true, true, true, true, true, true, true, true, true, true, true] rfl rfl (any_of HT_.out (by kernel_rfl)) (fun _ _ _ h => h) (Or.inl ⟨by rfl, ?_⟩) ?_ ?_
                                                      rotate_left
                                                      · intro w'
                                                        go_simp
                                                        with_reducible rfl
                                                      rotate_left
                                                      · simp only [Act.put, List.setIfInBounds_toArray, List.set_cons_zero, List.set_cons_succ, i64_w, i32_w]
                                                        rfl
                                                      refine done_ (done_of HT_.out (by kernel_rfl)) ?_
                                                      try go_wp2
                                                      go_roundg k2
                                                      case measure => have := HK1.out; have := HK2.out; omega
                                                      case rel => exact ⟨(x8_2), (wrap64 (x45_2 + 1)), (by first | rfl | (simp; done) | (simp [*]; done)), (by first | rfl | (simp; done) | (simp [*]; done)), H', ⟨by have := HK1.out; have := HK2.out; omega⟩, ⟨by (with_reducible repeat (first | apply Kd.R_alloc | apply Kd.R_drewN | apply Kd.R_drew)); exact HO_3.out⟩, ⟨by (with_reducible repeat (first | apply Kd.R_alloc | apply Kd.R_drewN | apply Kd.R_drew)); exact HO_4.out⟩, ⟨by (with_reducible repeat (first | apply Kd.R_alloc | apply Kd.R_drewN | apply Kd.R_drew)); exact HO_17.out⟩, ⟨by (with_reducible repeat (first | apply Kd.R_alloc | apply Kd.R_drewN | apply Kd.R_drew)); exact HO_43.out⟩, ⟨by repeat (first | (with_reducible first | exact HB.out | apply below_alloc | apply pw_below_drewN | apply below_drew1) | exact HB.out)⟩⟩
                                                  · rw [if_neg c33] at H
                                                    exact absurd H (by simp)
                                                · rw [if_neg c32] at H
                                                  exact absurd H (by simp)
                                              · rw [if_neg c31] at H
                                                exact absurd H (by simp)
                                            · rw [if_neg c30] at H
                                              exact absurd H (by simp)
                                          · rw [if_neg c29] at H
                                            exact absurd H (by simp)
                                        · rw [if_neg c28] at H
                                          exact absurd H (by simp)
                                      · rw [if_neg c27] at H
                                        exact absurd H (by simp)
                                    · rw [if_neg c26] at H
                                      exact absurd H (by simp)
                                  · rw [if_neg c25] at H
                                    exact absurd H (by simp)
                                · rw [if_neg c24] at H
                                  exact absurd H (by simp)
                              · rw [if_neg c23] at H
                                have c23b0 : decide (x45_2 < (y272.length : Int)) = false := decide_eq_false c23
                                clear c23
                                by_cases c37 : 0 ≤ x8_2
                                · rw [if_pos c37] at H
                                  have c37b0 : decide (0 ≤ x8_2) = true := decide_eq_true c37
                                  clear c37
                                  by_cases c38 : x8_2 < (y272.length : Int)
                                  · rw [if_pos c38] at H
                                    have c38b0 : decide (x8_2 < (y272.length : Int)) = true := decide_eq_true c38
                                    clear c38
                                    by_cases c39 : 0 ≤ (rd y272 x8_2)
                                    · rw [if_pos c39] at H
                                      have c39b0 : decide (0 ≤ (rd y272 x8_2)) = true := decide_eq_true c39
                                      clear c39
                                      by_cases c40 : (rd y272 x8_2) < (l0.length : Int)
                                      · rw [if_pos c40] at H
                                        have c40b0 : decide ((rd y272 x8_2) < (l0.length : Int)) = true := decide_eq_true c40
                                        clear c40
                                        by_cases c41 : 0 < ((rd_L1 l0 (rd y272 x8_2)).length : Int)
                                        · rw [if_pos c41] at H
                                          have c41b0 : decide (0 < ((rd_L1 l0 (rd y272 x8_2)).length : Int)) = true := decide_eq_true c41
                                          have c41b1 : decide (0 < (rd_L1 l0 (rd y272 x8_2)).length) = true := decide_eq_true (by omega)
                                          clear c41
                                          by_cases c42 : x4_1.length < 17592186044416
                                          · rw [if_pos c42] at H
                                            have LMc42 := Aside0.mk c42
                                            clear c42
                                            obtain ⟨y289, hy289⟩ : ∃ y_ : List Int, y_ = (x4_1 ++ [rd y272 x8_2]) := ⟨_, rfl⟩
                                            replace H : ((some (([] : List Int) : List Int)).bind fun y292 => (if x8_2 ≤ (y272.length : Int) then ((some (y272.take (x8_2 : Int).toNat : List Int)).bind fun y295 => (if y292.length + y295.length < 17592186044416 then ((some (y292 ++ y295 : List Int)).bind fun y299 => (if 0 ≤ (wrap64 (x8_2 + 1)) then (if (wrap64 (x8_2 + 1)) ≤ (y272.length : Int) then ((some (y272.drop ((wrap64 (x8_2 + 1)) : Int).toNat : List Int)).bind fun y302 => (if y299.length + y302.length < 17592186044416 then (spec_OnTimeOrder.l0 k2 l0 (y299 ++ y302) y289 (wrap64 ((wrap64 (x5_1 + (rd (rd_L1 l0 (rd t265 x19_1)) 0))) - (rd (rd_L1 l0 (rd y272 x8_2)) 0))) t265 (t265.length : Int) (wrap64 (x19_1 + 1))) else (none))) else (none)) else (none))) else (none))) else (none))) = some r := by first | (rw [hy289]; with_reducible exact H) | (have H2_ := (Option.bind_some _ _).symm.trans H; rw [hy289]; with_reducible exact H2_) | (have H2_ := (Option.bind_some _ _).symm.trans H; with_reducible exact H2_) | with_reducible exact H | (rw [hy289]; exact H) | exact H
                                            have Ny289 := Aside0.mk hy289
                                            clear hy289
                                            obtain ⟨y292, hy292⟩ : ∃ y_ : List Int, y_ = (([] : List Int)) := ⟨_, rfl⟩
                                            replace H : (if x8_2 ≤ (y272.length : Int) then ((some (y272.take (x8_2 : Int).toNat : List Int)).bind fun y295 => (if y292.length + y295.length < 17592186044416 then ((some (y292 ++ y295 : List Int)).bind fun y299 => (if 0 ≤ (wrap64 (x8_2 + 1)) then (if (wrap64 (x8_2 + 1)) ≤ (y272.length : Int) then ((some (y272.drop ((wrap64 (x8_2 + 1)) : Int).toNat : List Int)).bind fun y302 => (if y299.length + y302.length < 17592186044416 then (spec_OnTimeOrder.l0 k2 l0 (y299 ++ y302) y289 (wrap64 ((wrap64 (x5_1 + (rd (rd_L1 l0 (rd t265 x19_1)) 0))) - (rd (rd_L1 l0 (rd y272 x8_2)) 0))) t265 (t265.length : Int) (wrap64 (x19_1 + 1))) else (none))) else (none)) else (none))) else (none))) else (none)) = some r := by first | (rw [hy292]; with_reducible exact H) | (have H2_ := (Option.bind_some _ _).symm.trans H; rw [hy292]; with_reducible exact H2_) | (have H2_ := (Option.bind_some _ _).symm.trans H; with_reducible exact H2_) | with_reducible exact H | (rw [hy292]; exact H) | exact H
                                            have Ny292 := Aside0.mk hy292
                                            clear hy292
                                            have c43b0 := eq_true (of_decide_eq_true (by first | (with_reducible assumption) | assumption) : 0 ≤ x8_2)
                                            by_cases c44 : x8_2 ≤ (y272.length : Int)
                                            · rw [if_pos c44] at H
                                              have c44b0 := eq_true c44
                                              have c44b1 : decide (x8_2 ≤ (y272.length : Int)) = true := decide_eq_true c44
                                              clear c44
                                              obtain ⟨y295, hy295⟩ : ∃ y_ : List Int, y_ = (y272.take (x8_2 : Int).toNat) := ⟨_, rfl⟩
                                              replace H : (if y292.length + y295.length < 17592186044416 then ((some (y292 ++ y295 : List Int)).bind fun y299 => (if 0 ≤ (wrap64 (x8_2 + 1)) then (if (wrap64 (x8_2 + 1)) ≤ (y272.length : Int) then ((some (y272.drop ((wrap64 (x8_2 + 1)) : Int).toNat : List Int)).bind fun y302 => (if y299.length + y302.length < 17592186044416 then (spec_OnTimeOrder.l0 k2 l0 (y299 ++ y302) y289 (wrap64 ((wrap64 (x5_1 + (rd (rd_L1 l0 (rd t265 x19_1)) 0))) - (rd (rd_L1 l0 (rd y272 x8_2)) 0))) t265 (t265.length : Int) (wrap64 (x19_1 + 1))) else (none))) else (none)) else (none))) else (none)) = some r := by first | (rw [hy295]; with_reducible exact H) | (have H2_ := (Option.bind_some _ _).symm.trans H; rw [hy295]; with_reducible exact H2_) | (have H2_ := (Option.bind_some _ _).symm.trans H; with_reducible exact H2_) | with_reducible exact H | (rw [hy295]; exact H) | exact H
                                              have Ny295 := Aside0.mk hy295
                                              clear hy295
                                              by_cases c45 : y292.length + y295.length < 17592186044416
                                              · rw [if_pos c45] at H
                                                have LMc45 := Aside0.mk c45
                                                clear c45
                                                obtain ⟨y299, hy299⟩ : ∃ y_ : List Int, y_ = (y292 ++ y295) := ⟨_, rfl⟩
                                                replace H : (if 0 ≤ (wrap64 (x8_2 + 1)) then (if (wrap64 (x8_2 + 1)) ≤ (y272.length : Int) then ((some (y272.drop ((wrap64 (x8_2 + 1)) : Int).toNat : List Int)).bind fun y302 => (if y299.length + y302.length < 17592186044416 then (spec_OnTimeOrder.l0 k2 l0 (y299 ++ y302) y289 (wrap64 ((wrap64 (x5_1 + (rd (rd_L1 l0 (rd t265 x19_1)) 0))) - (rd (rd_L1 l0 (rd y272 x8_2)) 0))) t265 (t265.length : Int) (wrap64 (x19_1 + 1))) else (none))) else (none)) else (none)) = some r := by first | (rw [hy299]; with_reducible exact H) | (have H2_ := (Option.bind_some _ _).symm.trans H; rw [hy299]; with_reducible exact H2_) | (have H2_ := (Option.bind_some _ _).symm.trans H; with_reducible exact H2_) | with_reducible exact H | (rw [hy299]; exact H) | exact H
                                                have Ny299 := Aside0.mk hy299
                                                clear hy299
                                                obtain ⟨ji46, hji46⟩ : ∃ j_ : Int, (wrap64 (x8_2 + 1)) = j_ := ⟨_, rfl⟩
                                                replace H : (if 0 ≤ (ji46) then (if (ji46) ≤ (y272.length : Int) then ((some (y272.drop ((ji46) : Int).toNat : List Int)).bind fun y302 => (if y299.length + y302.length < 17592186044416 then (spec_OnTimeOrder.l0 k2 l0 (y299 ++ y302) y289 (wrap64 ((wrap64 (x5_1 + (rd (rd_L1 l0 (rd t265 x19_1)) 0))) - (rd (rd_L1 l0 (rd y272 x8_2)) 0))) t265 (t265.length : Int) (wrap64 (x19_1 + 1))) else (none))) else (none)) else (none)) = some r := by first | (rw [hji46] at H; exact H) | (simp only [hji46] at H ⊢; exact H)
                                                have hji46w : (IntKind.i64.wrap (x8_2 + 1)) = ji46 := (i64_w _).trans hji46
                                                by_cases c47 : 0 ≤ (ji46)
                                                · rw [if_pos c47] at H
                                                  have c47b0 := eq_true c47
                                                  have c47b1 : decide (0 ≤ (ji46)) = true := decide_eq_true c47
                                                  clear c47
                                                  by_cases c48 : (ji46) ≤ (y272.length : Int)
                                                  · rw [if_pos c48] at H
                                                    have c48b0 := eq_true c48
                                                    have c48b1 : decide ((ji46) ≤ (y272.length : Int)) = true := decide_eq_true c48
                                                    clear c48
                                                    obtain ⟨y302, hy302⟩ : ∃ y_ : List Int, y_ = (y272.drop ((ji46) : Int).toNat) := ⟨_, rfl⟩
                                                    replace H : (if y299.length + y302.length < 17592186044416 then (spec_OnTimeOrder.l0 k2 l0 (y299 ++ y302) y289 (wrap64 ((wrap64 (x5_1 + (rd (rd_L1 l0 (rd t265 x19_1)) 0))) - (rd (rd_L1 l0 (rd y272 x8_2)) 0))) t265 (t265.length : Int) (wrap64 (x19_1 + 1))) else (none)) = some r := by first | (rw [hy302]; with_reducible exact H) | (have H2_ := (Option.bind_some _ _).symm.trans H; rw [hy302]; with_reducible exact H2_) | (have H2_ := (Option.bind_some _ _).symm.trans H; with_reducible exact H2_) | with_reducible exact H | (rw [hy302]; exact H) | exact H
                                                    have Ny302 := Aside0.mk hy302
                                                    clear hy302
                                                    by_cases c49 : y299.length + y302.length < 17592186044416
                                                    · rw [if_pos c49] at H
                                                      have LMc49 := Aside0.mk c49
                                                      clear c49
                                                      obtain ⟨y306, hy306⟩ : ∃ y_ : List Int, y_ = (y299 ++ y302) := ⟨_, rfl⟩
                                                      replace H : (spec_OnTimeOrder.l0 k2 l0 y306 y289 (wrap64 ((wrap64 (x5_1 + (rd (rd_L1 l0 (rd t265 x19_1)) 0))) - (rd (rd_L1 l0 (rd y272 x8_2)) 0))) t265 (t265.length : Int) (wrap64 (x19_1 + 1))) = some r := by first | (rw [hy306]; with_reducible exact H) | (have H2_ := (Option.bind_some _ _).symm.trans H; rw [hy306]; with_reducible exact H2_) | (have H2_ := (Option.bind_some _ _).symm.trans H; with_reducible exact H2_) | with_reducible exact H | (rw [hy306]; exact H) | exact H
                                                      have Ny306 := Aside0.mk hy306
                                                      clear hy306
                                                      have H' := Aside0.mk H
                                                      clear H
                                                      have p285 : 0 ≤ (x8_2 : Int) := of_decide_eq_true (by first | (with_reducible assumption) | assumption)
                                                      have q285 : x8_2 < (y272.length : Int) := of_decide_eq_true (by first | (with_reducible assumption) | assumption)
                                                      obtain ⟨ad285, e285, hx285_0⟩ := Kd.at_int (Kd.R_reads' HO_3.out).2.2 x8_2 p285 q285
                                                      cases e285
                                                      replace p285 := eq_true p285
                                                      replace q285 := eq_true q285
                                                      have p286 : 0 ≤ ((rd y272 x8_2) : Int) := of_decide_eq_true (by first | (with_reducible assumption) | assumption)
                                                      have q286 : (rd y272 x8_2) < (l0.length : Int) := of_decide_eq_true (by first | (with_reducible assumption) | assumption)
                                                      obtain ⟨ad286, A286_0, c286_0, e286, hx286_0, hl286_0, hi286_0⟩ := at_L1 HR0.out (rd y272 x8_2) p286 q286
                                                      obtain rfl : ad275 = ad286 := (by injection e286)
                                                      replace hx286_0 := (HB.out.cell (World.block_lt_of_cell? w _ hx286_0)).trans hx286_0
                                                      have HR286_0 := Aside0.mk hi286_0
                                                      have HC286_0 := Aside0.mk hl286_0
                                                      clear hi286_0 hl286_0
                                                      replace p286 := eq_true p286
                                                      replace q286 := eq_true q286
                                                      have p287 : 0 ≤ (0 : Int) := (by omega)
                                                      have q287 : 0 < ((rd_L1 l0 (rd y272 x8_2)).length : Int) := of_decide_eq_true (by first | (with_reducible assumption) | assumption)
                                                      obtain ⟨ad287, e287, hx287_0⟩ := Kd.at_int HR286_0.out 0 p287 q287
                                                      cases e287
                                                      have qi287 : (0 < (rd_L1 l0 (rd y272 x8_2)).length) = True := eq_true (by omega)
                                                      (try rw [show ((0 : Int)).toNat = 0 from rfl] at hx287_0)
                                                      (try rw [Addr.add_zero'] at hx287_0)
                                                      replace hx287_0 := (HB.out.cell (World.block_lt_of_cell? w _ hx287_0)).trans hx287_0
                                                      replace p287 := eq_true p287
                                                      replace q287 := eq_true q287
                                                      have p288 : 0 ≤ (x8_2 : Int) := of_decide_eq_true (by first | (with_reducible assumption) | assumption)
                                                      have q288 : x8_2 < (y272.length : Int) := of_decide_eq_true (by first | (with_reducible assumption) | assumption)
                                                      obtain ⟨ad288, e288, hx288_0⟩ := Kd.at_int (Kd.R_reads' HO_3.out).2.2 x8_2 p288 q288
                                                      obtain rfl : ad285 = ad288 := (by injection e288)
                                                      replace p288 := eq_true p288
                                                      replace q288 := eq_true q288
                                                      try go_wp2_with (first | ((with_reducible refine gate_builtin (b := .append) (xs := #[.tmp 79, .tmp 84]) rfl ?_); at_builtin; refine Kd.R_append (Kd.int .i64) (w0 := w) w.heap.size rfl (.tmp 79) (.tmp 84) 27 3 (.int .i64 0) 8 rfl Try.underlying27 info3 rfl (by decide) (by omega) u4 x4_1 (rd y272 x8_2) [.int .i64 (rd y272 x8_2)] (fun k_ => some k_ ≠ (.slice (some ad285) y272.length co22 : Value).ownBlock ∧ some k_ ≠ (.slice (some ad271) t265.length co10 : Value).ownBlock ∧ some k_ ≠ (.slice (some ad285) y272.length co22 : Value).ownBlock) (fun _ => False) rfl rfl ?aP (fun _ hk => hk.elim) ?aF ?aO ?aB ?aS ?aL ?_; (case aP => exact rfl); (case aB => exact (by repeat (first | (with_reducible first | exact HB.out | apply below_alloc | apply pw_below_drewN | apply below_drew1) | exact HB.out))); (case aF => exact (fun k_ hk => ⟨Kd.fresh' (Kd.R_lt (by (with_reducible repeat (first | apply Kd.R_alloc | apply Kd.R_drewN | apply Kd.R_drew)); exact HO_3.out)) k_ hk, Kd.fresh' (Kd.R_lt (by (with_reducible repeat (first | apply Kd.R_alloc | apply Kd.R_drewN | apply Kd.R_drew)); exact HO_17.out)) k_ hk, Kd.fresh' (Kd.R_lt (by (with_reducible repeat (first | apply Kd.R_alloc | apply Kd.R_drewN | apply Kd.R_drew)); exact HO_43.out)) k_ hk⟩)); (case aO => exact (by (with_reducible repeat (first | apply Kd.R_alloc | apply Kd.R_drewN | apply Kd.R_drew)); exact HO_4.out)); (case aS => exact (below_size (by repeat (first | (with_reducible first | exact HB.out | apply below_alloc | apply pw_below_drewN | apply below_drew1) | exact HB.out)))); (case aL => have := LMc42.out; omega); intro v290 w50 ho hb hg hat; rw [← Ny289.out] at ho; have n0_ := Aside0.mk (Kd.R_after (ok := (fun k_ => some k_ ≠ (.slice (some ad271) t265.length co10 : Value).ownBlock)) (by (with_reducible repeat (first | apply Kd.R_alloc | apply Kd.R_drewN | apply Kd.R_drew)); exact Kd.R_mono HO_3.out (fun _ hk => ⟨hk.2, hk.1⟩)) hg hat); have n1_ := Aside0.mk (Kd.R_after (ok := (fun k_ => some k_ ≠ (.slice (some ad285) y272.length co22 : Value).ownBlock ∧ some k_ ≠ (.slice (some ad285) y272.length co22 : Value).ownBlock)) (by (with_reducible repeat (first | apply Kd.R_alloc | apply Kd.R_drewN | apply Kd.R_drew)); exact Kd.R_mono HO_17.out (fun _ hk => ⟨⟨hk.1, hk.2.2⟩, hk.2.1⟩)) hg hat); have n2_ := Aside0.mk (Kd.R_after (ok := (fun k_ => some k_ ≠ (.slice (some ad271) t265.length co10 : Value).ownBlock)) (by (with_reducible repeat (first | apply Kd.R_alloc | apply Kd.R_drewN | apply Kd.R_drew)); exact Kd.R_mono HO_43.out (fun _ hk => ⟨hk.2, hk.1⟩)) hg hat); have n3_ := Aside0.mk (hb); have n4_ := Aside0.mk (ho); clear HO_3; clear HO_17; clear HO_43; clear HB; clear HO_4; have HO_3 := n0_; have HO_17 := n1_; have HO_43 := n2_; have HB := n3_; have HO291 := n4_; clear n0_ n1_ n2_ n3_ n4_; clear ho hb hg hat))
                                                      have n0_ := Aside0.mk (Kd.R_drew HO_3.out)
                                                      have n1_ := Aside0.mk (Kd.R_drew HO_17.out)
                                                      have n2_ := Aside0.mk (Kd.R_drew HO_43.out)
                                                      have n3_ := Aside0.mk (Kd.R_drew HO291.out)
                                                      have n4_ := Aside0.mk (below_drew1 HB.out)
                                                      clear HO_3
                                                      clear HO_17
                                                      clear HO_43
                                                      clear HO291
                                                      clear HB
                                                      have HO_3 := n0_
                                                      have HO_17 := n1_
                                                      have HO_43 := n2_
                                                      have HO291 := n3_
                                                      have HB := n4_
                                                      clear n0_ n1_ n2_ n3_ n4_
                                                      have q52 : (x8_2 : Int) ≤ ((y272.length : Int) : Int) := of_decide_eq_true (by first | (with_reducible assumption) | assumption)
                                                      obtain ⟨i052, hi052, _, hsz52, _⟩ := info_parts info3
                                                      have hroom52 : y272.length ≤ co22 := (Kd.R_reads' HO_3.out).2.1
                                                      have hC52 : Kd.C (Kd.int .i64) _ (some ad285) y272.length y272 := (Kd.R_reads' HO_3.out).2.2
                                                      have hcut52 := cut_to (P := Try.prog) 27 3 .i64 Try.underlying27 hi052 (some ad285) y272.length co22 x8_2 (of_decide_eq_true (by first | (with_reducible assumption) | assumption)) q52 hroom52
                                                      have hr52 := Kd.C_take (m := (x8_2 : Int).toNat) hC52 (by omega)
                                                      have hy52 : y295.length = (x8_2 : Int).toNat := (by rw [Ny295.out, List.length_take]; omega)
                                                      rw [← Ny295.out] at hr52
                                                      rw [← hy52] at hcut52
                                                      have HR298 := Aside0.mk hr52
                                                      have HC298 := Aside0.mk (show y295.length ≤ co22 from by omega)
                                                      clear hr52 hC52 hroom52 hi052 hsz52
                                                      have KY52 := Aside0.mk hy52
                                                      clear hy52
                                                      have KL52 := Aside0.mk (show (x8_2 : Int).toNat ≤ y272.length from by omega)
                                                      replace q52 := eq_true q52
                                                      have q53 : ((ji46) : Int) ≤ ((y272.length : Int) : Int) := of_decide_eq_true (by first | (with_reducible assumption) | assumption)
                                                      obtain ⟨i053, hi053, _, hsz53, _⟩ := info_parts info3
                                                      have hroom53 : y272.length ≤ co22 := (Kd.R_reads' HO_3.out).2.1
                                                      have hC53 : Kd.C (Kd.int .i64) _ (some ad285) y272.length y272 := (Kd.R_reads' HO_3.out).2.2
                                                      have q053 : (0 : Int) ≤ ((ji46) : Int) := of_decide_eq_true (by first | (with_reducible assumption) | assumption)
                                                      have hcut53 := cut_from (P := Try.prog) 27 3 .i64 Try.underlying27 hi053 1 hsz53 (some ad285) y272.length co22 (ji46) q053 q53
                                                      have hr53 := Kd.C_drop (m := ((ji46) : Int).toNat) (c := co22) hC53 (by omega) hroom53
                                                      obtain ⟨A53, hA53⟩ : ∃ A1, A1 = (if co22 = ((ji46) : Int).toNat then (some ad285) else ((some ad285) : Option Addr).map (·.add (((ji46) : Int).toNat * 1))) := ⟨_, rfl⟩
                                                      obtain ⟨c53, hc53⟩ : ∃ c1, c1 = co22 - ((ji46) : Int).toNat := ⟨_, rfl⟩
                                                      have hy53 : y302.length = y272.length - ((ji46) : Int).toNat := (by rw [Ny302.out, List.length_drop] <;> omega)
                                                      rw [show (y272).drop ((ji46) : Int).toNat = y302 from Ny302.out.symm] at hr53
                                                      replace hr53 : Kd.C (Kd.int .i64) _ A53 y302.length y302 := (by rw [hA53]; exact hr53)
                                                      rw [← hy53, ← hA53, ← hc53] at hcut53
                                                      have HR305 := Aside0.mk hr53
                                                      have HC305 := Aside0.mk (show y302.length ≤ c53 from by rw [hy53, hc53]; exact Nat.sub_le_sub_right hroom53 _)
                                                      clear hr53 hC53 hroom53 hi053 hsz53 hc53
                                                      have KY53 := Aside0.mk hy53
                                                      have KA53 := Aside0.mk hA53
                                                      clear hy53 hA53
                                                      have KL53 := Aside0.mk (show ((ji46) : Int).toNat ≤ y272.length from by omega)
                                                      replace q53 := eq_true q53
                                                      refine start_ (n := 11) (S := fun w' => True) (ds := []) #[false, false, false, false, false, false, false, false, false, false, false] (by kernel_rfl) rfl rfl trivial (fun hHeld => ?_); refine with_tabW spec_OnTimeOrder.tab21 spec_OnTimeOrder.bits21 (fun HT_ HW_ => ?_)
                                                      generalize w50.drew = w51 at HO_3 HO_17 HO_43 HO291 HB HR298 HR305 hHeld ⊢
                                                      refine pure_ (i := 1) (N := some 87) (v := ?_) (a' := ?_) #[false, true, false, false, false, false, false, false, false, false, false] rfl rfl (any_of HT_.out (by kernel_rfl)) (fun _ _ _ h => h) (Or.inl ⟨by rfl, ?_⟩) ?_ ?_
                                                      rotate_left
                                                      · intro w'
                                                        go_simp
                                                        with_reducible rfl
                                                      rotate_left
                                                      · simp only [Act.put, List.setIfInBounds_toArray, List.set_cons_zero, List.set_cons_succ, i64_w, i32_w]
                                                        rfl
                                                      refine pure_ (i := 2) (N := some 88) (v := ?_) (a' := ?_) #[false, true, true, false, false, false, false, false, false, false, false] rfl rfl (any_of HT_.out (by kernel_rfl)) (fun _ _ _ h => h) (Or.inl ⟨by rfl, ?_⟩) ?_ ?_
                                                      rotate_left
                                                      · intro w'
                                                        go_simp
                                                        with_reducible rfl
                                                      rotate_left
                                                      · simp only [Act.put, List.setIfInBounds_toArray, List.set_cons_zero, List.set_cons_succ, i64_w, i32_w]
                                                        rfl
                                                      refine pure_ (i := 3) (N := some 89) (v := ?_) (a' := ?_) #[false, true, true, true, false, false, false, false, false, false, false] rfl rfl (any_of HT_.out (by kernel_rfl)) (fun _ _ _ h => h) (Or.inl ⟨by rfl, ?_⟩) ?_ ?_
                                                      rotate_left
                                                      · intro w'
                                                        go_simp
                                                        with_reducible rfl
                                                      rotate_left
                                                      · simp only [Act.put, List.setIfInBounds_toArray, List.set_cons_zero, List.set_cons_succ, i64_w, i32_w]
                                                        rfl
                                                      refine pure_ (i := 5) (N := some 91) (v := ?_) (a' := ?_) #[false, true, true, true, false, true, false, false, false, false, false] rfl rfl (any_of HT_.out (by kernel_rfl)) (fun _ _ _ h => h) (Or.inl ⟨by rfl, ?_⟩) ?_ ?_
                                                      rotate_left
                                                      · intro w'
                                                        go_simp
                                                        with_reducible rfl
                                                      rotate_left
                                                      · simp only [Act.put, List.setIfInBounds_toArray, List.set_cons_zero, List.set_cons_succ, i64_w, i32_w]
                                                        rfl
                                                      refine pure_ (i := 6) (N := some 92) (v := ?_) (a' := ?_) #[false, true, true, true, false, true, true, false, false, false, false] rfl rfl (any_of HT_.out (by kernel_rfl)) (fun _ _ _ h => h) (Or.inl ⟨by rfl, ?_⟩) ?_ ?_
                                                      rotate_left
                                                      · intro w'
                                                        go_simp
                                                        with_reducible rfl
                                                      rotate_left
                                                      · simp only [Act.put, List.setIfInBounds_toArray, List.set_cons_zero, List.set_cons_succ, i64_w, i32_w]
                                                        rfl
                                                      refine pure_ (i := 7) (N := some 93) (v := ?_) (a' := ?_) #[false, true, true, true, false, true, true, true, false, false, false] rfl rfl (any_of HT_.out (by kernel_rfl)) (fun _ _ _ h => h) (Or.inl ⟨by rfl, ?_⟩) ?_ ?_
                                                      rotate_left
                                                      · intro w'
                                                        go_simp
                                                        with_reducible rfl
                                                      rotate_left
                                                      · simp only [Act.put, List.setIfInBounds_toArray, List.set_cons_zero, List.set_cons_succ, i64_w, i32_w]
                                                        rfl
                                                      refine pure_ (i := 8) (N := some 94) (v := ?_) (a' := ?_) #[false, true, true, true, false, true, true, true, true, false, false] rfl rfl (any_of HT_.out (by kernel_rfl)) (fun _ _ _ h => h) (Or.inl ⟨by rfl, ?_⟩) ?_ ?_
                                                      rotate_left
                                                      · intro w'
                                                        go_simp
                                                        with_reducible rfl
                                                      rotate_left
                                                      · simp only [Act.put, List.setIfInBounds_toArray, List.set_cons_zero, List.set_cons_succ, i64_w, i32_w]
                                                        rfl
                                                      refine one_ (i := 0) (N := some 86) #[true, true, true, true, false, true, true, true, true, false, false] rfl rfl (one_of HT_.out (by kernel_rfl)) (by decide) (fun K hK => ?_)
                                                      refine Kd.R_lit_step (Kd.int .i64) _ 3 ?hg (N := 86) ?hd (xs := ([] : List Int)) (inner := []) (ok := fun _ => True) (okp := fun _ => True) ?hr ?hp (fun _ hk => hk) trivial (Below.refl _ _) (Nat.le_refl _) (by simp) ?_; (case hd => rfl); (case hg => rfl); (case hr => first | (go_simp; done) | (go_simp; rfl)); (case hp => exact (Reps.none _ _))
                                                      intro v293 w54 ho55 hb hg_ hnew_
                                                      clear hg_ hnew_
                                                      (first | rw [← Ny292.out] at ho55 | (simp only [Int.reduceToNat] at ho55; rw [← Ny292.out] at ho55))
                                                      have n0_ := Aside0.mk (Kd.R_elder' (by (with_reducible repeat (first | apply Kd.R_alloc | apply Kd.R_drewN | apply Kd.R_drew)); exact HO_3.out) (Kd.R_base ho55) hb)
                                                      have n1_ := Aside0.mk (Kd.R_elder' (by (with_reducible repeat (first | apply Kd.R_alloc | apply Kd.R_drewN | apply Kd.R_drew)); exact HO_17.out) (Kd.R_base ho55) hb)
                                                      have n2_ := Aside0.mk (Kd.R_elder' (by (with_reducible repeat (first | apply Kd.R_alloc | apply Kd.R_drewN | apply Kd.R_drew)); exact HO_43.out) (Kd.R_base ho55) hb)
                                                      have n3_ := Aside0.mk (Kd.R_elder' (by (with_reducible repeat (first | apply Kd.R_alloc | apply Kd.R_drewN | apply Kd.R_drew)); exact HO291.out) (Kd.R_base ho55) hb)
                                                      have n4_ := Aside0.mk (Kd.R_lower (Kd.R_new' (Kd.R_new' (Kd.R_new' (Kd.R_new' ho55 (Kd.R_lt (by (with_reducible repeat (first | apply Kd.R_alloc | apply Kd.R_drewN | apply Kd.R_drew)); exact HO_3.out))) (Kd.R_lt (by (with_reducible repeat (first | apply Kd.R_alloc | apply Kd.R_drewN | apply Kd.R_drew)); exact HO_17.out))) (Kd.R_lt (by (with_reducible repeat (first | apply Kd.R_alloc | apply Kd.R_drewN | apply Kd.R_drew)); exact HO_43.out))) (Kd.R_lt (by (with_reducible repeat (first | apply Kd.R_alloc | apply Kd.R_drewN | apply Kd.R_drew)); exact HO291.out))) (below_size (by repeat (first | (with_reducible first | exact HB.out | apply below_alloc | apply pw_below_drewN | apply below_drew1) | exact HB.out))))
                                                      have n5_ := Aside0.mk (Kd.C_below (by repeat (first | (with_reducible exact HR298.out) | (with_reducible refine Kd.C_alloc ?_ _) | (with_reducible refine Kd.C_drewN ?_ _) | (with_reducible refine Kd.C_drew ?_) | exact HR298.out)) hb)
                                                      have n6_ := Aside0.mk (Kd.C_below (by repeat (first | (with_reducible exact HR305.out) | (with_reducible refine Kd.C_alloc ?_ _) | (with_reducible refine Kd.C_drewN ?_ _) | (with_reducible refine Kd.C_drew ?_) | exact HR305.out)) hb)
                                                      have n7_ := Aside0.mk (below_step (by repeat (first | (with_reducible first | exact HB.out | apply below_alloc | apply pw_below_drewN | apply below_drew1) | exact HB.out)) hb)
                                                      clear HO_3
                                                      clear HO_17
                                                      clear HO_43
                                                      clear HO291
                                                      clear HR298
                                                      clear HR305
                                                      clear HB
                                                      have HO_3 := n0_
                                                      have HO_17 := n1_
                                                      have HO_43 := n2_
                                                      have HO291 := n3_
                                                      have HO294 := n4_
                                                      have HR298 := n5_
                                                      have HR305 := n6_
                                                      have HB := n7_
                                                      clear n0_ n1_ n2_ n3_ n4_ n5_ n6_ n7_
                                                      clear hb ho55
                                                      refine hK.out _ _ trivial (fun hHeld => ?_)
                                                      clear hK K
                                                      refine norm_ (a' := ?_) ?_ ?_
                                                      rotate_left
                                                      · show Act.put _ (some 86) _ = _
                                                        simp only [Act.put, List.setIfInBounds_toArray, List.set_cons_zero, List.set_cons_succ, i64_w, i32_w]
                                                        rfl
                                                      refine one_ (i := 4) (N := some 90) #[true, true, true, true, true, true, true, true, true, false, false] rfl rfl (one_of HT_.out (by kernel_rfl)) (by decide) (fun K hK => ?_)
                                                      refine Kd.R_append_rows_step (Kd.int .i64) (w0 := w) w.heap.size (by rfl) (.tmp 86) (.tmp 89) 27 3 (.int .i64 0) 8 rfl Try.underlying27 info3 rfl (by decide) (by omega) v293 y292 y295 _ _ _ (fun k_ => some k_ ≠ (.slice (some ad285) y272.length co22 : Value).ownBlock ∧ some k_ ≠ (.slice (some ad271) t265.length co10 : Value).ownBlock ∧ some k_ ≠ (.slice (some ad285) y272.length co22 : Value).ownBlock ∧ some k_ ≠ (v290 : Value).ownBlock) (fun _ => False) rfl rfl ?aO ?aR (fun _ _ h => h) (fun _ h => h.elim) ?aF ?aB ?aS ?aL ?_
                                                      (case aR => repeat (first | exact (by repeat (first | (with_reducible exact HR298.out) | (with_reducible refine Kd.C_alloc ?_ _) | (with_reducible refine Kd.C_drewN ?_ _) | (with_reducible refine Kd.C_drew ?_) | exact HR298.out)) | (with_reducible refine Kd.C_alloc ?_ _) | (with_reducible refine Kd.C_drewN ?_ _) | (with_reducible refine Kd.C_drew ?_)))
                                                      (case aB => exact (by repeat (first | (with_reducible first | exact HB.out | apply below_alloc | apply pw_below_drewN | apply below_drew1) | exact HB.out)))
                                                      (case aF => exact (fun k_ hk => ⟨Kd.fresh' (Kd.R_lt (by (with_reducible repeat (first | apply Kd.R_alloc | apply Kd.R_drewN | apply Kd.R_drew)); exact HO_3.out)) k_ hk, Kd.fresh' (Kd.R_lt (by (with_reducible repeat (first | apply Kd.R_alloc | apply Kd.R_drewN | apply Kd.R_drew)); exact HO_17.out)) k_ hk, Kd.fresh' (Kd.R_lt (by (with_reducible repeat (first | apply Kd.R_alloc | apply Kd.R_drewN | apply Kd.R_drew)); exact HO_43.out)) k_ hk, Kd.fresh' (Kd.R_lt (by (with_reducible repeat (first | apply Kd.R_alloc | apply Kd.R_drewN | apply Kd.R_drew)); exact HO291.out)) k_ hk⟩))
                                                      (case aO => exact (by (with_reducible repeat (first | apply Kd.R_alloc | apply Kd.R_drewN | apply Kd.R_drew)); exact Kd.R_mono HO294.out (fun _ hk => ⟨hk.1.1.1.2, ⟨hk.1.1.2, ⟨hk.1.2, hk.2⟩⟩⟩)))
                                                      (case aS => exact (below_size (by repeat (first | (with_reducible first | exact HB.out | apply below_alloc | apply pw_below_drewN | apply below_drew1) | exact HB.out))))
                                                      (case aL => have := LMc45.out; omega)
                                                      intro v300 w56 ho hb hg hat
                                                      rw [← Ny299.out] at ho
                                                      have n0_ := Aside0.mk (Kd.R_after (ok := (fun k_ => some k_ ≠ (.slice (some ad271) t265.length co10 : Value).ownBlock ∧ some k_ ≠ (v290 : Value).ownBlock)) (by (with_reducible repeat (first | apply Kd.R_alloc | apply Kd.R_drewN | apply Kd.R_drew)); exact HO_3.out) hg hat)
                                                      have n1_ := Aside0.mk (Kd.R_after (ok := (fun k_ => some k_ ≠ (.slice (some ad285) y272.length co22 : Value).ownBlock ∧ some k_ ≠ (.slice (some ad285) y272.length co22 : Value).ownBlock ∧ some k_ ≠ (v290 : Value).ownBlock)) (by (with_reducible repeat (first | apply Kd.R_alloc | apply Kd.R_drewN | apply Kd.R_drew)); exact Kd.R_mono HO_17.out (fun _ hk => ⟨⟨hk.1.1.1, ⟨hk.1.1.2, hk.1.2⟩⟩, hk.2⟩)) hg hat)
                                                      have n2_ := Aside0.mk (Kd.R_after (ok := (fun k_ => some k_ ≠ (.slice (some ad271) t265.length co10 : Value).ownBlock ∧ some k_ ≠ (v290 : Value).ownBlock)) (by (with_reducible repeat (first | apply Kd.R_alloc | apply Kd.R_drewN | apply Kd.R_drew)); exact HO_43.out) hg hat)
                                                      have n3_ := Aside0.mk (Kd.R_after (ok := (fun k_ => some k_ ≠ (.slice (some ad285) y272.length co22 : Value).ownBlock ∧ some k_ ≠ (.slice (some ad271) t265.length co10 : Value).ownBlock ∧ some k_ ≠ (.slice (some ad285) y272.length co22 : Value).ownBlock)) (by (with_reducible repeat (first | apply Kd.R_alloc | apply Kd.R_drewN | apply Kd.R_drew)); exact HO291.out) hg hat)
                                                      have n4_ := Aside0.mk (hb)
                                                      have n5_ := Aside0.mk ((show Kd.C (Kd.int .i64) w56 (some ad285) y295.length y295 from by rw [Ny295.out]; exact Kd.C_take (m := (x8_2 : Int).toNat) ((Kd.R_reads' (Kd.R_after (ok := (fun k_ => some k_ ≠ (.slice (some ad271) t265.length co10 : Value).ownBlock ∧ some k_ ≠ (v290 : Value).ownBlock)) (by (with_reducible repeat (first | apply Kd.R_alloc | apply Kd.R_drewN | apply Kd.R_drew)); exact HO_3.out) hg hat)).2.2) KL52.out))
                                                      have n6_ := Aside0.mk ((show Kd.C (Kd.int .i64) w56 A53 y302.length y302 from by rw [Ny302.out, KA53.out]; exact Kd.C_drop (m := ((ji46) : Int).toNat) (c := co22) ((Kd.R_reads' (Kd.R_after (ok := (fun k_ => some k_ ≠ (.slice (some ad271) t265.length co10 : Value).ownBlock ∧ some k_ ≠ (v290 : Value).ownBlock)) (by (with_reducible repeat (first | apply Kd.R_alloc | apply Kd.R_drewN | apply Kd.R_drew)); exact HO_3.out) hg hat)).2.2) KL53.out ((Kd.R_reads' (Kd.R_after (ok := (fun k_ => some k_ ≠ (.slice (some ad271) t265.length co10 : Value).ownBlock ∧ some k_ ≠ (v290 : Value).ownBlock)) (by (with_reducible repeat (first | apply Kd.R_alloc | apply Kd.R_drewN | apply Kd.R_drew)); exact HO_3.out) hg hat)).2.1)))
                                                      have n7_ := Aside0.mk (ho)
                                                      clear HO_3
                                                      clear HO_17
                                                      clear HO_43
                                                      clear HO291
                                                      clear HB
                                                      clear HR298
                                                      clear HR305
                                                      clear HO294
                                                      have HO_3 := n0_
                                                      have HO_17 := n1_
                                                      have HO_43 := n2_
                                                      have HO291 := n3_
                                                      have HB := n4_
                                                      have HR298 := n5_
                                                      have HR305 := n6_
                                                      have HO301 := n7_
                                                      clear n0_ n1_ n2_ n3_ n4_ n5_ n6_ n7_
                                                      clear ho hb hg hat
                                                      refine hK.out _ _ trivial (fun hHeld => ?_)
                                                      clear hK K
                                                      refine norm_ (a' := ?_) ?_ ?_
                                                      rotate_left
                                                      · show Act.put _ (some 90) _ = _
                                                        simp only [Act.put, List.setIfInBounds_toArray, List.set_cons_zero, List.set_cons_succ, i64_w, i32_w]
                                                        rfl
                                                      refine one_ (i := 9) (N := some 95) #[true, true, true, true, true, true, true, true, true, true, false] rfl rfl (one_of HT_.out (by kernel_rfl)) (by decide) (fun K hK => ?_)
                                                      refine Kd.R_append_rows_step (Kd.int .i64) (w0 := w) w.heap.size (by rfl) (.tmp 90) (.tmp 94) 27 3 (.int .i64 0) 8 rfl Try.underlying27 info3 rfl (by decide) (by omega) v300 y299 y302 _ _ _ (fun k_ => some k_ ≠ (.slice (some ad285) y272.length co22 : Value).ownBlock ∧ some k_ ≠ (.slice (some ad271) t265.length co10 : Value).ownBlock ∧ some k_ ≠ (.slice (some ad285) y272.length co22 : Value).ownBlock ∧ some k_ ≠ (v290 : Value).ownBlock) (fun _ => False) rfl rfl ?aO ?aR (fun _ _ h => h) (fun _ h => h.elim) ?aF ?aB ?aS ?aL ?_
                                                      (case aR => repeat (first | exact (by repeat (first | (with_reducible exact HR305.out) | (with_reducible refine Kd.C_alloc ?_ _) | (with_reducible refine Kd.C_drewN ?_ _) | (with_reducible refine Kd.C_drew ?_) | exact HR305.out)) | (with_reducible refine Kd.C_alloc ?_ _) | (with_reducible refine Kd.C_drewN ?_ _) | (with_reducible refine Kd.C_drew ?_)))
                                                      (case aB => exact (by repeat (first | (with_reducible first | exact HB.out | apply below_alloc | apply pw_below_drewN | apply below_drew1) | exact HB.out)))
                                                      (case aF => exact (fun k_ hk => ⟨Kd.fresh' (Kd.R_lt (by (with_reducible repeat (first | apply Kd.R_alloc | apply Kd.R_drewN | apply Kd.R_drew)); exact HO_3.out)) k_ hk, Kd.fresh' (Kd.R_lt (by (with_reducible repeat (first | apply Kd.R_alloc | apply Kd.R_drewN | apply Kd.R_drew)); exact HO_17.out)) k_ hk, Kd.fresh' (Kd.R_lt (by (with_reducible repeat (first | apply Kd.R_alloc | apply Kd.R_drewN | apply Kd.R_drew)); exact HO_43.out)) k_ hk, Kd.fresh' (Kd.R_lt (by (with_reducible repeat (first | apply Kd.R_alloc | apply Kd.R_drewN | apply Kd.R_drew)); exact HO291.out)) k_ hk⟩))
                                                      (case aO => exact (by (with_reducible repeat (first | apply Kd.R_alloc | apply Kd.R_drewN | apply Kd.R_drew)); exact HO301.out))
                                                      (case aS => exact (below_size (by repeat (first | (with_reducible first | exact HB.out | apply below_alloc | apply pw_below_drewN | apply below_drew1) | exact HB.out))))
                                                      (case aL => have := LMc49.out; omega)
                                                      intro v307 w57 ho hb hg hat
                                                      rw [← Ny306.out] at ho
                                                      have n0_ := Aside0.mk (Kd.R_after (ok := (fun k_ => some k_ ≠ (.slice (some ad271) t265.length co10 : Value).ownBlock ∧ some k_ ≠ (v290 : Value).ownBlock)) (by (with_reducible repeat (first | apply Kd.R_alloc | apply Kd.R_drewN | apply Kd.R_drew)); exact HO_3.out) hg hat)
                                                      have n1_ := Aside0.mk (Kd.R_after (ok := (fun k_ => some k_ ≠ (.slice (some ad285) y272.length co22 : Value).ownBlock ∧ some k_ ≠ (.slice (some ad285) y272.length co22 : Value).ownBlock ∧ some k_ ≠ (v290 : Value).ownBlock)) (by (with_reducible repeat (first | apply Kd.R_alloc | apply Kd.R_drewN | apply Kd.R_drew)); exact HO_17.out) hg hat)
                                                      have n2_ := Aside0.mk (Kd.R_after (ok := (fun k_ => some k_ ≠ (.slice (some ad271) t265.length co10 : Value).ownBlock ∧ some k_ ≠ (v290 : Value).ownBlock)) (by (with_reducible repeat (first | apply Kd.R_alloc | apply Kd.R_drewN | apply Kd.R_drew)); exact HO_43.out) hg hat)
                                                      have n3_ := Aside0.mk (Kd.R_after (ok := (fun k_ => some k_ ≠ (.slice (some ad285) y272.length co22 : Value).ownBlock ∧ some k_ ≠ (.slice (some ad271) t265.length co10 : Value).ownBlock ∧ some k_ ≠ (.slice (some ad285) y272.length co22 : Value).ownBlock)) (by (with_reducible repeat (first | apply Kd.R_alloc | apply Kd.R_drewN | apply Kd.R_drew)); exact HO291.out) hg hat)
                                                      have n4_ := Aside0.mk (hb)
                                                      have n5_ := Aside0.mk ((show Kd.C (Kd.int .i64) w57 (some ad285) y295.length y295 from by rw [Ny295.out]; exact Kd.C_take (m := (x8_2 : Int).toNat) ((Kd.R_reads' (Kd.R_after (ok := (fun k_ => some k_ ≠ (.slice (some ad271) t265.length co10 : Value).ownBlock ∧ some k_ ≠ (v290 : Value).ownBlock)) (by (with_reducible repeat (first | apply Kd.R_alloc | apply Kd.R_drewN | apply Kd.R_drew)); exact HO_3.out) hg hat)).2.2) KL52.out))
                                                      have n6_ := Aside0.mk ((show Kd.C (Kd.int .i64) w57 A53 y302.length y302 from by rw [Ny302.out, KA53.out]; exact Kd.C_drop (m := ((ji46) : Int).toNat) (c := co22) ((Kd.R_reads' (Kd.R_after (ok := (fun k_ => some k_ ≠ (.slice (some ad271) t265.length co10 : Value).ownBlock ∧ some k_ ≠ (v290 : Value).ownBlock)) (by (with_reducible repeat (first | apply Kd.R_alloc | apply Kd.R_drewN | apply Kd.R_drew)); exact HO_3.out) hg hat)).2.2) KL53.out ((Kd.R_reads' (Kd.R_after (ok := (fun k_ => some k_ ≠ (.slice (some ad271) t265.length co10 : Value).ownBlock ∧ some k_ ≠ (v290 : Value).ownBlock)) (by (with_reducible repeat (first | apply Kd.R_alloc | apply Kd.R_drewN | apply Kd.R_drew)); exact HO_3.out) hg hat)).2.1)))
                                                      have n7_ := Aside0.mk (ho)
                                                      clear HO_3
                                                      clear HO_17
                                                      clear HO_43
                                                      clear HO291
                                                      clear HB
                                                      clear HR298
                                                      clear HR305
                                                      clear HO301
                                                      have HO_3 := n0_
                                                      have HO_17 := n1_
                                                      have HO_43 := n2_
                                                      have HO291 := n3_
                                                      have HB := n4_
                                                      have HR298 := n5_
                                                      have HR305 := n6_
                                                      have HO308 := n7_
                                                      clear n0_ n1_ n2_ n3_ n4_ n5_ n6_ n7_
                                                      clear ho hb hg hat
                                                      refine hK.out _ _ trivial (fun hHeld => ?_)
                                                      clear hK K
                                                      refine norm_ (a' := ?_) ?_ ?_
                                                      rotate_left
                                                      · show Act.put _ (some 95) _ = _
                                                        simp only [Act.put, List.setIfInBounds_toArray, List.set_cons_zero, List.set_cons_succ, i64_w, i32_w]
                                                        rfl
                                                      refine pure_ (i := 10) (N := some 3) (v := ?_) (a' := ?_) #[true, true, true, true, true, true, true, true, true, true, true] rfl rfl (any_of HT_.out (by kernel_rfl)) (fun _ _ _ h => h) (Or.inl ⟨by rfl, ?_⟩) ?_ ?_
                                                      rotate_left
                                                      · intro w'
                                                        go_simp
                                                        with_reducible rfl
                                                      rotate_left
                                                      · simp only [Act.put, List.setIfInBounds_toArray, List.set_cons_zero, List.set_cons_succ, i64_w, i32_w]
                                                        rfl
                                                      refine done_ (done_of HT_.out (by kernel_rfl)) ?_
                                                      try go_wp2
                                                      go_roundg k2
                                                      case measure => have := HK1.out; have := HK2.out; omega
                                                      case rel => exact ⟨(y306), (y289), (wrap64 ((wrap64 (x5_1 + (rd (rd_L1 l0 (rd t265 x19_1)) 0))) - (rd (rd_L1 l0 (rd y272 x8_2)) 0))), (wrap64 (x19_1 + 1)), (by first | rfl | (simp; done) | (simp [*]; done)), (by first | rfl | (simp; done) | (simp [*]; done)), H', ⟨by have := HK1.out; have := HK2.out; omega⟩, ⟨by (with_reducible repeat (first | apply Kd.R_alloc | apply Kd.R_drewN | apply Kd.R_drew)); exact Kd.R_mono HO308.out (fun _ hk => ⟨hk.2.2.2, hk.2.1⟩)⟩, ⟨by (with_reducible repeat (first | apply Kd.R_alloc | apply Kd.R_drewN | apply Kd.R_drew)); exact Kd.R_mono HO291.out (fun _ hk => ⟨hk.2, hk.1.2.1⟩)⟩, ⟨by (with_reducible repeat (first | apply Kd.R_alloc | apply Kd.R_drewN | apply Kd.R_drew)); exact Kd.R_mono HO_17.out (fun _ hk => ⟨hk.2, hk.1.2.2⟩)⟩, ⟨by repeat (first | (with_reducible first | exact HB.out | apply below_alloc | apply pw_below_drewN | apply below_drew1) | exact HB.out)⟩⟩
                                                    · rw [if_neg c49] at H
                                                      exact absurd H (by simp)
                                                  · rw [if_neg c48] at H
                                                    exact absurd H (by simp)
                                                · rw [if_neg c47] at H
                                                  exact absurd H (by simp)
                                              · rw [if_neg c45] at H
                                                exact absurd H (by simp)
                                            · rw [if_neg c44] at H
                                              exact absurd H (by simp)
                                          · rw [if_neg c42] at H
                                            exact absurd H (by simp)
                                        · rw [if_neg c41] at H
                                          exact absurd H (by simp)
                                      · rw [if_neg c40] at H
                                        exact absurd H (by simp)
                                    · rw [if_neg c39] at H
                                      exact absurd H (by simp)
                                  · rw [if_neg c38] at H
                                    exact absurd H (by simp)
                                · rw [if_neg c37] at H
                                  exact absurd H (by simp)
                      · rw [if_neg c18] at H
                        exact absurd H (by simp)
                    · rw [if_neg c17] at H
                      exact absurd H (by simp)
                  · rw [if_neg c16] at H
                    exact absurd H (by simp)
                · rw [if_neg c15] at H
                  exact absurd H (by simp)
              · rw [if_neg c14] at H
                exact absurd H (by simp)
            · rw [if_neg c13] at H
              exact absurd H (by simp)
          · rw [if_neg c12] at H
            exact absurd H (by simp)
        · rw [if_neg c11] at H
          have c11b0 : decide (x19_1 < (t265.length : Int)) = false := decide_eq_false c11
          clear c11
          by_cases c58 : x3_1.length + x4_1.length < 17592186044416
          · rw [if_pos c58] at H
            have LMc58 := Aside0.mk c58
            clear c58
            obtain ⟨y268, hy268⟩ : ∃ y_ : List Int, y_ = (x3_1 ++ x4_1) := ⟨_, rfl⟩
            replace H : (some y268) = some r := by first | (rw [hy268]; with_reducible exact H) | (have H2_ := (Option.bind_some _ _).symm.trans H; rw [hy268]; with_reducible exact H2_) | (have H2_ := (Option.bind_some _ _).symm.trans H; with_reducible exact H2_) | with_reducible exact H | (rw [hy268]; exact H) | exact H
            have Ny268 := Aside0.mk hy268
            clear hy268
            obtain rfl := Option.some.inj H
            obtain ⟨Ao60, co60, eo60⟩ := Kd.R_slice HO_4.out
            subst eo60
            go_wp2_with (first | ((with_reducible refine gate_builtin (b := .append) (xs := #[.tmp 97, .tmp 98]) rfl ?_); at_builtin; refine Kd.R_append_rows (Kd.int .i64) (w0 := w) w.heap.size rfl (.tmp 97) (.tmp 98) 27 3 (.int .i64 0) 8 rfl Try.underlying27 info3 rfl (by decide) (by omega) u3 x3_1 x4_1 _ _ _ (fun k_ => some k_ ≠ (.slice Ao60 x4_1.length co60 : Value).ownBlock ∧ some k_ ≠ (.slice Ao10 t265.length co10 : Value).ownBlock) (fun _ => False) rfl rfl ?aO ?aR (fun _ _ h => h) (fun _ h => h.elim) ?aF ?aB ?aS ?aL ?_; (case aR => repeat (first | exact (Kd.R_reads' HO_4.out).2.2 | (with_reducible refine Kd.C_alloc ?_ _) | (with_reducible refine Kd.C_drewN ?_ _) | (with_reducible refine Kd.C_drew ?_))); (case aB => exact (by repeat (first | (with_reducible first | exact HB.out | apply below_alloc | apply pw_below_drewN | apply below_drew1) | exact HB.out))); (case aF => exact (fun k_ hk => ⟨Kd.fresh' (Kd.R_lt (by (with_reducible repeat (first | apply Kd.R_alloc | apply Kd.R_drewN | apply Kd.R_drew)); exact HO_4.out)) k_ hk, Kd.fresh' (Kd.R_lt (by (with_reducible repeat (first | apply Kd.R_alloc | apply Kd.R_drewN | apply Kd.R_drew)); exact HO_17.out)) k_ hk⟩)); (case aO => exact (by (with_reducible repeat (first | apply Kd.R_alloc | apply Kd.R_drewN | apply Kd.R_drew)); exact HO_3.out)); (case aS => exact (below_size (by repeat (first | (with_reducible first | exact HB.out | apply below_alloc | apply pw_below_drewN | apply below_drew1) | exact HB.out)))); (case aL => have := LMc58.out; omega); intro v269 w59 ho hb hg hat; rw [← Ny268.out] at ho; have n0_ := Aside0.mk (Kd.R_after (ok := (fun k_ => some k_ ≠ (.slice Ao10 t265.length co10 : Value).ownBlock)) (by (with_reducible repeat (first | apply Kd.R_alloc | apply Kd.R_drewN | apply Kd.R_drew)); exact Kd.R_mono HO_4.out (fun _ hk => ⟨hk.2, hk.1⟩)) hg hat); have n1_ := Aside0.mk (Kd.R_after (ok := (fun k_ => some k_ ≠ (.slice Ao60 x4_1.length co60 : Value).ownBlock)) (by (with_reducible repeat (first | apply Kd.R_alloc | apply Kd.R_drewN | apply Kd.R_drew)); exact Kd.R_mono HO_17.out (fun _ hk => ⟨hk.2, hk.1⟩)) hg hat); have n2_ := Aside0.mk (hb); have n3_ := Aside0.mk (ho); clear HO_4; clear HO_17; clear HB; clear HO_3; have HO_4 := n0_; have HO_17 := n1_; have HB := n2_; have HO270 := n3_; clear n0_ n1_ n2_ n3_; clear ho hb hg hat))
            go_ret
            exact ⟨_, by first | rfl | (simp [errW_none, errW_some] <;> rfl) | (simp [*, errW_none, errW_some] <;> rfl), by (with_reducible repeat (first | apply Kd.R_alloc | apply Kd.R_drewN | apply Kd.R_drew)); exact Kd.R_mono HO270.out (fun _ hk => trivial), by repeat (first | (with_reducible first | exact HB.out | apply below_alloc | apply pw_below_drewN | apply below_drew1) | exact HB.out)⟩
          · rw [if_neg c58] at H
            exact absurd H (by simp)
  · replace c3 := Bool.eq_false_iff.mpr c3
    subst c3
    have H1 : (some ([] : List Int)) = some r := by rw [if_neg (show ¬ (false = true) by decide)] at H; exact H
    clear H
    have H := H1
    clear H1
    obtain rfl := Option.some.inj H
    go_enter Try.func27, Try.ntmps27
    go_wp2_with (first | ((with_reducible refine gate_callee (f := 15) rfl ?_); refine goesL_ (some 12) rfl rfl Try.func15 (by kernel_rfl) rfl #[.slice A0 l0.length c0] rfl (by (try simp only [List.map_toArray, List.map_cons, List.map_nil]); first | done | rfl | (simp only [List.length_drop, List.length_take]; rfl)) ?_; (with_reducible refine (spec_WorksOk.calls k _ _ l0 false _ ?side1 ?side2 A2.out).mono ?_); (case side1 => repeat (first | exact HR0.out | (with_reducible refine Kd.C_alloc ?_ _) | (with_reducible refine Kd.C_drewN ?_ _) | (with_reducible refine Kd.C_drew ?_))); (case side2 => exact HC0.out); rintro e w' ⟨rfl, ⟨nd, rfl⟩⟩; refine ⟨_, rfl, ?_⟩))
    go_ret
    exact ⟨_, by first | rfl | (simp [errW_none, errW_some] <;> rfl) | (simp [*, errW_none, errW_some] <;> rfl), by first | exact Kd.R_nil _ _ _ _ _ | exact Kd.N_nil _ _ _ _ _ | exact Kd.V_nil _ _ _ _ _ | exact Kd.Q_nil _ _ _ _ _ | exact Kd.S_nil _ _ _ _ _, by repeat (first | (with_reducible first | exact HB.out | apply below_alloc | apply pw_below_drewN | apply below_drew1) | exact HB.out)⟩
end Go.Proofs.Ytoonamloihbjnaa.PA
