/- Texts of this claim put together in build order (FnExactStrokesNeeded). -/
import Derived.Test.YtcdajmbnijmdfaaMStrokesNeeded0
import Derived.Test.YtcdajmbnijmdfaaMStrokesNeeded1
import Derived.Test.YtcdajmbnijmdfaaMStrokesNeeded2
-- Written for this claim by a program of this session's (ownprint.py), by way of the kit's print and hand-proved texts. Lean checks it.
namespace Go.Proofs.Ytcdajmbnijmdfaa.PA
open Go.RowKit Go.Proofs.YtcdajmbnijmdfaaW.PrintWords Go.Proofs.YtcdajmbnijmdfaaW.PrintLast Go.Proofs.YtcdajmbnijmdfaaW.PrintMore
attribute [local go_sem] max2_int min2_int max_two min_two max_three min_three max_four min_four   -- for this text's walks alone
set_option linter.unusedVariables false
set_option linter.unusedSimpArgs false
mutual
def spec_StrokesNeeded.l0 : Nat → List Int → List Int → List Bool → List Int → Int → Int → Option (Int)
  | 0, _, _, _, _, _, _ => none
  | k + 1, x7, x8, x9, x36, x37, x38 => if x38 < x37 then (if 0 ≤ x38 then (if x38 < (x36.length : Int) then (if x38 < (x7.length : Int) then (if (rd x7 x38) > 0 then (if 0 ≤ (rd x36 x38) then (if (rd x36 x38) < (x9.length : Int) then (if (rd x36 x38) < (x8.length : Int) then (spec_StrokesNeeded.l0 k x7 (x8.set ((rd x36 x38) : Int).toNat (wrap64 ((rd x8 (rd x36 x38)) + (Int.tmod (rd x7 x38) 2)))) (x9.set ((rd x36 x38) : Int).toNat true) x36 x37 (wrap64 (x38 + 1))) else (none)) else (none)) else (none)) else (spec_StrokesNeeded.l0 k x7 x8 x9 x36 x37 (wrap64 (x38 + 1)))) else (none)) else (none)) else (none)) else (spec_StrokesNeeded.l1 k x8 0 x9 (x9.length : Int) 0)
def spec_StrokesNeeded.l1 : Nat → List Int → Int → List Bool → Int → Int → Option (Int)
  | 0, _, _, _, _, _ => none
  | k + 1, x8, x12, x65, x66, x67 => if x67 < x66 then (if 0 ≤ x67 then (if x67 < (x65.length : Int) then (if rdOf false x65 x67 = true then (if x67 < (x8.length : Int) then (spec_StrokesNeeded.l1 k x8 (wrap64 (x12 + (mx 1 (wrap64 (Int.tdiv (rd x8 x67) 2))))) x65 x66 (wrap64 (x67 + 1))) else (none)) else (spec_StrokesNeeded.l1 k x8 x12 x65 x66 (wrap64 (x67 + 1)))) else (none)) else (none)) else (some x12)
end
def spec_StrokesNeeded.f (k : Nat) (a0 : Int) (l1 : List (List Int)) : Option (Int) := (spec_IsDrawing.f k a0 l1).bind fun t390 => (if t390 = true then ((spec_l13Parts.f k a0 l1 (wrap64 ((shl .i64 1 (l1.length : Int)) - 1))).bind fun bt391 => ((spec_l23Degrees.f k a0 l1).bind fun t395 => (if 0 ≤ a0 then (if (a0 : Int).toNat ≤ 35184372088832 then (if (a0 : Int).toNat ≤ 281474976710656 then (spec_StrokesNeeded.l0 k t395 (List.replicate (a0 : Int).toNat 0) (List.replicate (a0 : Int).toNat false) bt391.1 (bt391.1.length : Int) 0) else (none)) else (none)) else (none)))) else (some (-1)))
def spec_StrokesNeeded.T12 : Bool × List (List Nat × List Nat) := (true, [([], []), ([], []), ([], []), ([], []), ([2, 3], [2, 3]), ([4], [4]), ([], []), ([], []), ([6, 7], [6, 7]), ([8], [8]), ([9], [9]), ([5, 10], [5, 10]), ([0, 1, 0, 1, 2, 3, 4, 5, 6, 7, 8, 9, 10, 11], [0, 1]), ([12, 11, 0, 1, 2, 3, 4, 5, 6, 7, 8, 9, 10, 11], [11, 12])])
def spec_StrokesNeeded.B12 : List Nat := [0, 0, 0, 0, 12, 28, 0, 0, 192, 448, 960, 2044, 4095, 8191]
theorem spec_StrokesNeeded.tab12 : rtab .any (opsOf Try.f36 12) = spec_StrokesNeeded.T12 := by kernel_rfl
theorem spec_StrokesNeeded.bits12 : waitsOk spec_StrokesNeeded.T12.2 spec_StrokesNeeded.B12 = true := by kernel_rfl
set_option maxHeartbeats 8000000 in
set_option maxRecDepth 100000 in
theorem spec_StrokesNeeded.calls (k : Nat) (a0 : Int) (A1 : Option Addr) (c1 : Nat) (l1 : List (List Int)) (r : Int) (w : World) (hr1 : Kd.C (Kd.slice 3 (Kd.int .i64)) w A1 l1.length l1) (hc1 : l1.length ≤ c1) (h : spec_StrokesNeeded.f k a0 l1 = some r) :
    Calls Try.prog 36 #[.int .i64 a0, .slice A1 l1.length c1] w fun e w' => e = .returned (.int .i64 r) ∧ Below w.heap.size w w' := by
  have HR1 := Aside0.mk hr1
  have HC1 := Aside0.mk hc1
  clear hr1 hc1
  have HB := Aside0.mk (Below.refl w.heap.size w)
  have H : ((spec_IsDrawing.f k a0 l1).bind fun t390 => (if t390 = true then ((spec_l13Parts.f k a0 l1 (wrap64 ((shl .i64 1 (l1.length : Int)) - 1))).bind fun bt391 => ((spec_l23Degrees.f k a0 l1).bind fun t395 => (if 0 ≤ a0 then (if (a0 : Int).toNat ≤ 35184372088832 then (if (a0 : Int).toNat ≤ 281474976710656 then (spec_StrokesNeeded.l0 k t395 (List.replicate (a0 : Int).toNat 0) (List.replicate (a0 : Int).toNat false) bt391.1 (bt391.1.length : Int) 0) else (none)) else (none)) else (none)))) else (some (-1)))) = some r := h
  clear h
  replace H := Option.bind_eq_some_iff.mp H
  obtain ⟨t390, A30, H⟩ := H
  replace H : (if t390 = true then ((spec_l13Parts.f k a0 l1 (wrap64 ((shl .i64 1 (l1.length : Int)) - 1))).bind fun bt391 => ((spec_l23Degrees.f k a0 l1).bind fun t395 => (if 0 ≤ a0 then (if (a0 : Int).toNat ≤ 35184372088832 then (if (a0 : Int).toNat ≤ 281474976710656 then (spec_StrokesNeeded.l0 k t395 (List.replicate (a0 : Int).toNat 0) (List.replicate (a0 : Int).toNat false) bt391.1 (bt391.1.length : Int) 0) else (none)) else (none)) else (none)))) else (some (-1))) = some r := H
  have A3 := Aside0.mk A30
  clear A30
  by_cases c4 : t390 = true
  · subst c4
    have H1 : ((spec_l13Parts.f k a0 l1 (wrap64 ((shl .i64 1 (l1.length : Int)) - 1))).bind fun bt391 => ((spec_l23Degrees.f k a0 l1).bind fun t395 => (if 0 ≤ a0 then (if (a0 : Int).toNat ≤ 35184372088832 then (if (a0 : Int).toNat ≤ 281474976710656 then (spec_StrokesNeeded.l0 k t395 (List.replicate (a0 : Int).toNat 0) (List.replicate (a0 : Int).toNat false) bt391.1 (bt391.1.length : Int) 0) else (none)) else (none)) else (none)))) = some r := by rw [if_pos rfl] at H; exact H
    clear H
    have H := H1
    clear H1
    obtain ⟨ji5, hji5⟩ : ∃ j_ : Int, (shl .i64 1 (l1.length : Int)) = j_ := ⟨_, rfl⟩
    replace H : ((spec_l13Parts.f k a0 l1 (wrap64 ((ji5) - 1))).bind fun bt391 => ((spec_l23Degrees.f k a0 l1).bind fun t395 => (if 0 ≤ a0 then (if (a0 : Int).toNat ≤ 35184372088832 then (if (a0 : Int).toNat ≤ 281474976710656 then (spec_StrokesNeeded.l0 k t395 (List.replicate (a0 : Int).toNat 0) (List.replicate (a0 : Int).toNat false) bt391.1 (bt391.1.length : Int) 0) else (none)) else (none)) else (none)))) = some r := by first | (rw [hji5] at H; exact H) | (simp only [hji5] at H ⊢; exact H)
    (try rw [hji5] at A3)
    have hji5_ : (IntKind.i64.wrap (1 * 2 ^ min (l1.length : Int).toNat 64)) = ji5 := hji5
    have hji5z : (l1.length : Int) ≤ 64 → (IntKind.i64.wrap (1 * 2 ^ (l1.length : Int).toNat)) = ji5 := shl_small hji5
    have hji5p : (IntKind.i64.wrap (1 * 2 ^ min l1.length 64)) = ji5 := hji5_
    have hji5q : (l1.length : Int) ≤ 64 → (IntKind.i64.wrap (1 * 2 ^ l1.length)) = ji5 := hji5z
    have hji5r : (IntKind.i64.wrap (2 ^ min l1.length 64)) = ji5 := by have h_ := hji5p; rw [Int.one_mul] at h_; exact h_
    have hji5s : (l1.length : Int) ≤ 64 → (IntKind.i64.wrap (2 ^ l1.length)) = ji5 := fun hle_ => by have h_ := hji5q hle_; rw [Int.one_mul] at h_; exact h_
    have hji5u : (IntKind.i64.wrap (2 ^ min (l1.length : Int).toNat 64)) = ji5 := by have h_ := hji5_; rw [Int.one_mul] at h_; exact h_
    have hji5v : (l1.length : Int) ≤ 64 → (IntKind.i64.wrap (2 ^ (l1.length : Int).toNat)) = ji5 := fun hle_ => by have h_ := hji5z hle_; rw [Int.one_mul] at h_; exact h_
    have hji5y : (wrap64 (1 * 2 ^ min (l1.length : Int).toNat 64)) = ji5 := (i64_w _).symm.trans hji5_
    have hji5x : (l1.length : Int) ≤ 64 → (wrap64 (1 * 2 ^ (l1.length : Int).toNat)) = ji5 := fun h_ => (i64_w _).symm.trans (hji5z h_)
    replace H := Option.bind_eq_some_iff.mp H
    obtain ⟨⟨t391, t392⟩, A60, H⟩ := H
    replace H : ((spec_l23Degrees.f k a0 l1).bind fun t395 => (if 0 ≤ a0 then (if (a0 : Int).toNat ≤ 35184372088832 then (if (a0 : Int).toNat ≤ 281474976710656 then (spec_StrokesNeeded.l0 k t395 (List.replicate (a0 : Int).toNat 0) (List.replicate (a0 : Int).toNat false) t391 (t391.length : Int) 0) else (none)) else (none)) else (none))) = some r := H
    have A6 := Aside0.mk A60
    clear A60
    replace H := Option.bind_eq_some_iff.mp H
    obtain ⟨t395, A70, H⟩ := H
    replace H : (if 0 ≤ a0 then (if (a0 : Int).toNat ≤ 35184372088832 then (if (a0 : Int).toNat ≤ 281474976710656 then (spec_StrokesNeeded.l0 k t395 (List.replicate (a0 : Int).toNat 0) (List.replicate (a0 : Int).toNat false) t391 (t391.length : Int) 0) else (none)) else (none)) else (none)) = some r := H
    have A7 := Aside0.mk A70
    clear A70
    by_cases c8 : 0 ≤ a0
    · rw [if_pos c8] at H
      have c8b0 := eq_true c8
      have c8b1 : decide (0 ≤ a0) = true := decide_eq_true c8
      clear c8
      by_cases c9 : (a0 : Int).toNat ≤ 35184372088832
      · rw [if_pos c9] at H
        have c9b0 := eq_true c9
        have c9b1 : decide ((a0 : Int).toNat ≤ 35184372088832) = true := decide_eq_true c9
        clear c9
        obtain ⟨y398, hy398⟩ : ∃ y_ : List Int, y_ = (List.replicate (a0 : Int).toNat 0) := ⟨_, rfl⟩
        replace H : (if (a0 : Int).toNat ≤ 281474976710656 then (spec_StrokesNeeded.l0 k t395 y398 (List.replicate (a0 : Int).toNat false) t391 (t391.length : Int) 0) else (none)) = some r := by first | (rw [hy398]; with_reducible exact H) | (have H2_ := (Option.bind_some _ _).symm.trans H; rw [hy398]; with_reducible exact H2_) | (have H2_ := (Option.bind_some _ _).symm.trans H; with_reducible exact H2_) | with_reducible exact H | (rw [hy398]; exact H) | exact H
        have Ny398 := Aside0.mk hy398
        clear hy398
        by_cases c10 : (a0 : Int).toNat ≤ 281474976710656
        · rw [if_pos c10] at H
          have c10b0 := eq_true c10
          have c10b1 : decide ((a0 : Int).toNat ≤ 281474976710656) = true := decide_eq_true c10
          clear c10
          obtain ⟨y401, hy401⟩ : ∃ y_ : List Bool, y_ = (List.replicate (a0 : Int).toNat false) := ⟨_, rfl⟩
          replace H : (spec_StrokesNeeded.l0 k t395 y398 y401 t391 (t391.length : Int) 0) = some r := by first | (rw [hy401]; with_reducible exact H) | (have H2_ := (Option.bind_some _ _).symm.trans H; rw [hy401]; with_reducible exact H2_) | (have H2_ := (Option.bind_some _ _).symm.trans H; with_reducible exact H2_) | with_reducible exact H | (rw [hy401]; exact H) | exact H
          have Ny401 := Aside0.mk hy401
          clear hy401
          have H' := Aside0.mk H
          clear H
          go_enter Try.func36, Try.ntmps36
          go_wp2_with (first | ((with_reducible refine gate_callee (f := 14) rfl ?_); refine goesL_ (some 17) rfl rfl Try.func14 (by kernel_rfl) rfl #[.int .i64 a0, .slice A1 l1.length c1] rfl (by (try simp only [List.map_toArray, List.map_cons, List.map_nil]); first | done | rfl | (simp only [List.length_drop, List.length_take]; rfl)) ?_; (with_reducible refine (spec_IsDrawing.calls k a0 _ _ l1 true _ ?side1 ?side2 A3.out).mono ?_); (case side1 => repeat (first | exact HR1.out | (with_reducible refine Kd.C_alloc ?_ _) | (with_reducible refine Kd.C_drewN ?_ _) | (with_reducible refine Kd.C_drew ?_))); (case side2 => exact HC1.out); rintro e w11 ⟨rfl, hb⟩; refine ⟨_, rfl, ?_⟩; have n0_ := Aside0.mk (below_step (by repeat (first | (with_reducible first | exact HB.out | apply below_alloc | apply pw_below_drewN | apply below_drew1) | exact HB.out)) hb); clear HB; have HB := n0_; clear n0_; (try clear hb); (try clear hb2); (try clear hk); (try clear hi)) | ((with_reducible refine gate_callee (f := 53) rfl ?_); refine goesL_ (some 26) rfl rfl Try.func53 (by kernel_rfl) rfl #[.int .i64 a0, .slice A1 l1.length c1, .int .i64 (wrap64 ((ji5) - 1))] rfl (by (try simp only [List.map_toArray, List.map_cons, List.map_nil]); first | done | (simp only [hji5]; rfl) | rfl | (simp only [List.length_drop, List.length_take]; rfl)) ?_; (with_reducible refine (spec_l13Parts.calls k a0 _ _ l1 (wrap64 ((ji5) - 1)) t391 t392 _ ?side1 ?side2 A6.out).mono ?_); (case side1 => repeat (first | exact (Kd.C_below HR1.out HB.out) | (with_reducible refine Kd.C_alloc ?_ _) | (with_reducible refine Kd.C_drewN ?_ _) | (with_reducible refine Kd.C_drew ?_))); (case side2 => exact HC1.out); rintro e w12 ⟨v393, rfl, ho0, hb⟩; refine ⟨_, rfl, ?_⟩; have n0_ := Aside0.mk (Kd.R_lower ho0 (below_size (by repeat (first | (with_reducible first | exact HB.out | apply below_alloc | apply pw_below_drewN | apply below_drew1) | exact HB.out)))); have n1_ := Aside0.mk (below_step (by repeat (first | (with_reducible first | exact HB.out | apply below_alloc | apply pw_below_drewN | apply below_drew1) | exact HB.out)) hb); clear HB; have HO394 := n0_; have HB := n1_; clear n0_ n1_; (try clear hb); (try clear hb2); (try clear hk); (try clear hi); (try clear ho0)) | ((with_reducible refine gate_callee (f := 48) rfl ?_); refine goesL_ (some 31) rfl rfl Try.func48 (by kernel_rfl) rfl #[.int .i64 a0, .slice A1 l1.length c1] rfl (by (try simp only [List.map_toArray, List.map_cons, List.map_nil]); first | done | rfl | (simp only [List.length_drop, List.length_take]; rfl)) ?_; (with_reducible refine (spec_l23Degrees.calls k a0 _ _ l1 t395 _ ?side1 ?side2 A7.out).mono ?_); (case side1 => repeat (first | exact (Kd.C_below HR1.out HB.out) | (with_reducible refine Kd.C_alloc ?_ _) | (with_reducible refine Kd.C_drewN ?_ _) | (with_reducible refine Kd.C_drew ?_))); (case side2 => exact HC1.out); rintro e w13 ⟨v396, rfl, ho0, hb⟩; refine ⟨_, rfl, ?_⟩; have n0_ := Aside0.mk (Kd.R_elder' (by (with_reducible repeat (first | apply Kd.R_alloc | apply Kd.R_drewN | apply Kd.R_drew)); exact HO394.out) (Kd.R_base ho0) hb); have n1_ := Aside0.mk (Kd.R_lower (Kd.R_new' ho0 (Kd.R_lt (by (with_reducible repeat (first | apply Kd.R_alloc | apply Kd.R_drewN | apply Kd.R_drew)); exact HO394.out))) (below_size (by repeat (first | (with_reducible first | exact HB.out | apply below_alloc | apply pw_below_drewN | apply below_drew1) | exact HB.out)))); have n2_ := Aside0.mk (below_step (by repeat (first | (with_reducible first | exact HB.out | apply below_alloc | apply pw_below_drewN | apply below_drew1) | exact HB.out)) hb); clear HO394; clear HB; have HO394 := n0_; have HO397 := n1_; have HB := n2_; clear n0_ n1_ n2_; (try clear hb); (try clear hb2); (try clear hk); (try clear hi); (try clear ho0)) | ((with_reducible refine gate_dst (N := 33) rfl ?_); refine Kd.R_make (Kd.int .i64) _ 3 rfl (N := 33) rfl 27 _ _ rfl a0 rfl rfl Try.underlying27 (.int .i64 0) 8 info3 rfl (by decide) (by omega) 0 (ok := fun _ => True) (okp := fun _ => True) rfl (fun _ hk => hk) trivial (of_decide_eq_true (by first | (with_reducible assumption) | assumption)) (Nat.le_trans (Nat.mul_le_mul_right _ (of_decide_eq_true (by first | (with_reducible assumption) | assumption) : a0.toNat ≤ 35184372088832)) (by omega)) (Below.refl _ _) (Nat.le_refl _) ?_; intro v399 w14 ho15 hb hg_ hnew_; clear hg_ hnew_; (first | rw [← Ny398.out] at ho15 | (simp only [Int.reduceToNat] at ho15; rw [← Ny398.out] at ho15)); have n0_ := Aside0.mk (Kd.R_elder' (by (with_reducible repeat (first | apply Kd.R_alloc | apply Kd.R_drewN | apply Kd.R_drew)); exact HO394.out) (Kd.R_base ho15) hb); have n1_ := Aside0.mk (Kd.R_elder' (by (with_reducible repeat (first | apply Kd.R_alloc | apply Kd.R_drewN | apply Kd.R_drew)); exact HO397.out) (Kd.R_base ho15) hb); have n2_ := Aside0.mk (Kd.R_lower (Kd.R_new' (Kd.R_new' ho15 (Kd.R_lt (by (with_reducible repeat (first | apply Kd.R_alloc | apply Kd.R_drewN | apply Kd.R_drew)); exact HO394.out))) (Kd.R_lt (by (with_reducible repeat (first | apply Kd.R_alloc | apply Kd.R_drewN | apply Kd.R_drew)); exact HO397.out))) (below_size (by repeat (first | (with_reducible first | exact HB.out | apply below_alloc | apply pw_below_drewN | apply below_drew1) | exact HB.out)))); have n3_ := Aside0.mk (below_step (by repeat (first | (with_reducible first | exact HB.out | apply below_alloc | apply pw_below_drewN | apply below_drew1) | exact HB.out)) hb); clear HO394; clear HO397; clear HB; have HO394 := n0_; have HO397 := n1_; have HO400 := n2_; have HB := n3_; clear n0_ n1_ n2_ n3_; clear hb ho15) | ((with_reducible refine gate_dst (N := 35) rfl ?_); refine Kd.R_make Kd.bool _ 4 rfl (N := 35) rfl 51 _ _ rfl a0 rfl rfl Try.underlying51 (.bool false) 1 info4 rfl (by decide) (by omega) false (ok := fun _ => True) (okp := fun _ => True) rfl (fun _ hk => hk) trivial (of_decide_eq_true (by first | (with_reducible assumption) | assumption)) (Nat.le_trans (Nat.mul_le_mul_right _ (of_decide_eq_true (by first | (with_reducible assumption) | assumption) : a0.toNat ≤ 281474976710656)) (by omega)) (Below.refl _ _) (Nat.le_refl _) ?_; intro v402 w16 ho17 hb hg_ hnew_; clear hg_ hnew_; (first | rw [← Ny401.out] at ho17 | (simp only [Int.reduceToNat] at ho17; rw [← Ny401.out] at ho17)); have n0_ := Aside0.mk (Kd.R_below (by (with_reducible repeat (first | apply Kd.R_alloc | apply Kd.R_drewN | apply Kd.R_drew)); exact HO394.out) hb); have n1_ := Aside0.mk (Kd.R_below (by (with_reducible repeat (first | apply Kd.R_alloc | apply Kd.R_drewN | apply Kd.R_drew)); exact HO397.out) hb); have n2_ := Aside0.mk (Kd.R_below (by (with_reducible repeat (first | apply Kd.R_alloc | apply Kd.R_drewN | apply Kd.R_drew)); exact HO400.out) hb); have n3_ := Aside0.mk (Kd.R_lower ho17 (below_size (by repeat (first | (with_reducible first | exact HB.out | apply below_alloc | apply pw_below_drewN | apply below_drew1) | exact HB.out)))); have n4_ := Aside0.mk (below_step (by repeat (first | (with_reducible first | exact HB.out | apply below_alloc | apply pw_below_drewN | apply below_drew1) | exact HB.out)) hb); clear HO394; clear HO397; clear HO400; clear HB; have HO394 := n0_; have HO397 := n1_; have HO400 := n2_; have HO403 := n3_; have HB := n4_; clear n0_ n1_ n2_ n3_ n4_; clear hb ho17; obtain ⟨Ao18, co18, eo18⟩ := Kd.R_slice HO394.out; subst eo18))
          go_loopg [38] k (fun kq v38 w' => ∃ (x8_1 : List Int) (x9_1 : List Bool) (x38_1 : Int), v38 = .int .i64 x38_1 ∧ Aside0 (spec_StrokesNeeded.l0 kq t395 x8_1 x9_1 t391 (t391.length : Int) x38_1 = some r) ∧ Aside0 (kq ≤ k) ∧ Aside0 (Kd.R (Kd.int .i64) 3 w' w.heap.size (fun k_ => some k_ ≠ (v399 : Value).ownBlock ∧ some k_ ≠ ((.slice Ao18 t391.length co18) : Value).ownBlock) v396 t395) ∧ Aside0 (Kd.R (Kd.int .i64) 3 w' w.heap.size (fun k_ => some k_ ≠ (v396 : Value).ownBlock ∧ some k_ ≠ ((.slice Ao18 t391.length co18) : Value).ownBlock) v399 x8_1) ∧ Aside0 (Kd.R Kd.bool 4 w' w.heap.size (fun _ => True) v402 x9_1) ∧ Aside0 (Kd.R (Kd.int .i64) 3 w' w.heap.size (fun k_ => some k_ ≠ (v396 : Value).ownBlock ∧ some k_ ≠ (v399 : Value).ownBlock) (.slice Ao18 t391.length co18) t391) ∧ Aside0 (Below w.heap.size w w'))
          case atStart => exact ⟨(y398), (y401), (0), (by first | rfl | (simp; done) | (simp [*]; done)), H', ⟨Nat.le_refl _⟩, ⟨by (with_reducible repeat (first | apply Kd.R_alloc | apply Kd.R_drewN | apply Kd.R_drew)); exact Kd.R_mono HO397.out (fun _ hk => ⟨hk.2, hk.1.2⟩)⟩, ⟨by (with_reducible repeat (first | apply Kd.R_alloc | apply Kd.R_drewN | apply Kd.R_drew)); exact Kd.R_mono HO400.out (fun _ hk => ⟨hk.2, hk.1.2⟩)⟩, ⟨by (with_reducible repeat (first | apply Kd.R_alloc | apply Kd.R_drewN | apply Kd.R_drew)); exact HO403.out⟩, ⟨by (with_reducible repeat (first | apply Kd.R_alloc | apply Kd.R_drewN | apply Kd.R_drew)); exact Kd.R_mono HO394.out (fun _ hk => ⟨hk.1.2, hk.2⟩)⟩, ⟨by repeat (first | (with_reducible first | exact HB.out | apply below_alloc | apply pw_below_drewN | apply below_drew1) | exact HB.out)⟩⟩
          case round =>
            clear H'
            try clear c1
            try clear p2
            try clear c3
            try clear c4
            try clear c5
            try clear p6
            try clear c8
            try clear c8b0
            try clear c8b1
            try clear c9
            try clear c9b0
            try clear c9b1
            try clear c10
            try clear c10b0
            try clear c10b1
            try clear c14
            obtain ⟨x8_1, x9_1, x38_1, rfl, HA, HK1, HO_7, HO_8, HO_9, HO_36, HB⟩ := hrel
            cases gk with
            | zero => exact absurd HA.out (by simp [spec_StrokesNeeded.l0])
            | succ k1 =>
              have H := HA.out
              clear HA
              simp only [spec_StrokesNeeded.l0] at H
              by_cases c19 : x38_1 < (t391.length : Int)
              · rw [if_pos c19] at H
                have c19b0 : decide (x38_1 < (t391.length : Int)) = true := decide_eq_true c19
                clear c19
                by_cases c20 : 0 ≤ x38_1
                · rw [if_pos c20] at H
                  have c20b0 : decide (0 ≤ x38_1) = true := decide_eq_true c20
                  clear c20
                  by_cases c21 : x38_1 < (t391.length : Int)
                  · rw [if_pos c21] at H
                    have c21b0 : decide (x38_1 < (t391.length : Int)) = true := decide_eq_true c21
                    clear c21
                    by_cases c22 : x38_1 < (t395.length : Int)
                    · rw [if_pos c22] at H
                      have c22b0 : decide (x38_1 < (t395.length : Int)) = true := decide_eq_true c22
                      clear c22
                      by_cases c23 : (rd t395 x38_1) > 0
                      · rw [if_pos c23] at H
                        have c23b0 : decide (0 < (rd t395 x38_1)) = true := decide_eq_true c23
                        clear c23
                        by_cases c24 : 0 ≤ (rd t391 x38_1)
                        · rw [if_pos c24] at H
                          have c24b0 : decide (0 ≤ (rd t391 x38_1)) = true := decide_eq_true c24
                          clear c24
                          by_cases c25 : (rd t391 x38_1) < (x9_1.length : Int)
                          · rw [if_pos c25] at H
                            have c25b0 : decide ((rd t391 x38_1) < (x9_1.length : Int)) = true := decide_eq_true c25
                            clear c25
                            obtain ⟨y406, hy406⟩ : ∃ y_ : List Bool, y_ = (x9_1.set ((rd t391 x38_1) : Int).toNat true) := ⟨_, rfl⟩
                            replace H : (if (rd t391 x38_1) < (x8_1.length : Int) then (spec_StrokesNeeded.l0 k1 t395 (x8_1.set ((rd t391 x38_1) : Int).toNat (wrap64 ((rd x8_1 (rd t391 x38_1)) + (Int.tmod (rd t395 x38_1) 2)))) y406 t391 (t391.length : Int) (wrap64 (x38_1 + 1))) else (none)) = some r := by first | (rw [hy406]; with_reducible exact H) | (have H2_ := (Option.bind_some _ _).symm.trans H; rw [hy406]; with_reducible exact H2_) | (have H2_ := (Option.bind_some _ _).symm.trans H; with_reducible exact H2_) | with_reducible exact H | (rw [hy406]; exact H) | exact H
                            have Ny406 := Aside0.mk hy406
                            clear hy406
                            by_cases c27 : (rd t391 x38_1) < (x8_1.length : Int)
                            · rw [if_pos c27] at H
                              have c27b0 : decide ((rd t391 x38_1) < (x8_1.length : Int)) = true := decide_eq_true c27
                              clear c27
                              obtain ⟨y409, hy409⟩ : ∃ y_ : List Int, y_ = (x8_1.set ((rd t391 x38_1) : Int).toNat (wrap64 ((rd x8_1 (rd t391 x38_1)) + (Int.tmod (rd t395 x38_1) 2)))) := ⟨_, rfl⟩
                              replace H : (spec_StrokesNeeded.l0 k1 t395 y409 y406 t391 (t391.length : Int) (wrap64 (x38_1 + 1))) = some r := by first | (rw [hy409]; with_reducible exact H) | (have H2_ := (Option.bind_some _ _).symm.trans H; rw [hy409]; with_reducible exact H2_) | (have H2_ := (Option.bind_some _ _).symm.trans H; with_reducible exact H2_) | with_reducible exact H | (rw [hy409]; exact H) | exact H
                              have Ny409 := Aside0.mk hy409
                              clear hy409
                              have H' := Aside0.mk H
                              clear H
                              have p404 : 0 ≤ (x38_1 : Int) := of_decide_eq_true (by first | (with_reducible assumption) | assumption)
                              have q404 : x38_1 < (t391.length : Int) := of_decide_eq_true (by first | (with_reducible assumption) | assumption)
                              obtain ⟨ad404, e404, hx404_0⟩ := Kd.at_int (Kd.R_reads' HO_36.out).2.2 x38_1 p404 q404
                              cases e404
                              replace p404 := eq_true p404
                              replace q404 := eq_true q404
                              obtain ⟨Ao29, co29, eo29⟩ := Kd.R_slice HO_7.out
                              subst eo29
                              have p405 : 0 ≤ (x38_1 : Int) := of_decide_eq_true (by first | (with_reducible assumption) | assumption)
                              have q405 : x38_1 < (t395.length : Int) := of_decide_eq_true (by first | (with_reducible assumption) | assumption)
                              obtain ⟨ad405, e405, hx405_0⟩ := Kd.at_int (Kd.R_reads' HO_7.out).2.2 x38_1 p405 q405
                              cases e405
                              replace p405 := eq_true p405
                              replace q405 := eq_true q405
                              have p26 : 0 ≤ ((rd t391 x38_1) : Int) := of_decide_eq_true (by first | (with_reducible assumption) | assumption)
                              have q26 : ((rd t391 x38_1) : Int) < ((x9_1.length : Int) : Int) := of_decide_eq_true (by first | (with_reducible assumption) | assumption)
                              obtain ⟨go26, co26, eo26, gb26, gl26, cl26, HG26⟩ := Kd.R_form HO_9.out (by omega)
                              (first | cases eo26 | (injection eo26 with ea_ en_ ec_; (first | subst ea_ | (injection ea_ with ea_; subst ea_)); subst ec_; clear en_))
                              have GB26 := Aside0.mk gb26
                              have GG26 := Aside0.mk HG26
                              clear gb26 gl26 HG26
                              obtain ⟨hx26_0, hf26_0⟩ := Kd.R_celln false HO_9.out ((rd t391 x38_1) : Int) p26 q26
                              replace p26 := eq_true p26
                              replace q26 := eq_true q26
                              have HP30 := Kd.R_putg HO_9.out ((rd t391 x38_1) : Int) true
                              try go_wp2_with (first | ((with_reducible refine gate_store (t := 4) (p := 50) rfl ?_); refine store_event (t := 4) (p := 50) (v := ?vo_w31) (w1 := (wr.setCell ⟨go26, ((rd t391 x38_1) : Int).toNat, none⟩ (.bool true))) ?hg ?ho ?hn ?hr ?_; (case ho => rfl); (case hg => rfl); (case hn => rfl); (case hr => first | (go_simp; done) | (go_simp; rfl)); intro w31 hw; have hg : wr.grownBy w31 (some go26) := (by rw [hw]; exact HP30.2); have hp_ : Kd.R Kd.bool 4 w31 w.heap.size (fun _ => True) (.slice (some ⟨go26, 0, none⟩) x9_1.length co26) y406 := (by rw [hw, Ny406.out]; exact HP30.1); clear HP30; have n0_ := Aside0.mk (Kd.R_over' (v := (.slice (some ⟨go26, 0, none⟩) x9_1.length co26)) (by (with_reducible repeat (first | apply Kd.R_alloc | apply Kd.R_drewN | apply Kd.R_drew)); exact HO_7.out) (Kd.R_typed HO_9.out) (by decide) hg); have n1_ := Aside0.mk (Kd.R_over' (v := (.slice (some ⟨go26, 0, none⟩) x9_1.length co26)) (by (with_reducible repeat (first | apply Kd.R_alloc | apply Kd.R_drewN | apply Kd.R_drew)); exact HO_8.out) (Kd.R_typed HO_9.out) (by decide) hg); have n2_ := Aside0.mk (hp_); have n3_ := Aside0.mk (Kd.R_over' (v := (.slice (some ⟨go26, 0, none⟩) x9_1.length co26)) (by (with_reducible repeat (first | apply Kd.R_alloc | apply Kd.R_drewN | apply Kd.R_drew)); exact HO_36.out) (Kd.R_typed HO_9.out) (by decide) hg); have n4_ := Aside0.mk ((by rw [hw]; exact below_set (HB.out) GB26.out : Below w.heap.size w w31)); clear HO_7; clear HO_8; clear HO_9; clear HO_36; clear HB; have HO_7 := n0_; have HO_8 := n1_; have HO_9 := n2_; have HO_36 := n3_; have HB := n4_; clear n0_ n1_ n2_ n3_ n4_; clear hg hw hp_))
                              have n0_ := Aside0.mk (Kd.R_drew HO_7.out)
                              have n1_ := Aside0.mk (Kd.R_drew HO_8.out)
                              have n2_ := Aside0.mk (Kd.R_drew HO_9.out)
                              have n3_ := Aside0.mk (Kd.R_drew HO_36.out)
                              have n4_ := Aside0.mk (below_drew1 HB.out)
                              clear HO_7
                              clear HO_8
                              clear HO_9
                              clear HO_36
                              clear HB
                              have HO_7 := n0_
                              have HO_8 := n1_
                              have HO_9 := n2_
                              have HO_36 := n3_
                              have HB := n4_
                              clear n0_ n1_ n2_ n3_ n4_
                              obtain ⟨Ao33, co33, eo33⟩ := Kd.R_slice HO_8.out
                              (first | subst eo33 | (injection eo33 with f1_ f2_ f3_; have f4_ := f1_.symm; have f5_ := f3_.symm; clear f1_ f2_ f3_; subst f4_; subst f5_))
                              have p407 : 0 ≤ ((rd t391 x38_1) : Int) := of_decide_eq_true (by first | (with_reducible assumption) | assumption)
                              have q407 : (rd t391 x38_1) < (x8_1.length : Int) := of_decide_eq_true (by first | (with_reducible assumption) | assumption)
                              obtain ⟨ad407, e407, hx407_0⟩ := Kd.at_int (Kd.R_reads' HO_8.out).2.2 (rd t391 x38_1) p407 q407
                              cases e407
                              replace p407 := eq_true p407
                              replace q407 := eq_true q407
                              have p408 : 0 ≤ (x38_1 : Int) := of_decide_eq_true (by first | (with_reducible assumption) | assumption)
                              have q408 : x38_1 < (t395.length : Int) := of_decide_eq_true (by first | (with_reducible assumption) | assumption)
                              obtain ⟨ad408, e408, hx408_0⟩ := Kd.at_int (Kd.R_reads' HO_7.out).2.2 x38_1 p408 q408
                              obtain rfl : ad405 = ad408 := (by injection e408)
                              replace p408 := eq_true p408
                              replace q408 := eq_true q408
                              have p28 : 0 ≤ ((rd t391 x38_1) : Int) := of_decide_eq_true (by first | (with_reducible assumption) | assumption)
                              have q28 : ((rd t391 x38_1) : Int) < ((x8_1.length : Int) : Int) := of_decide_eq_true (by first | (with_reducible assumption) | assumption)
                              obtain ⟨go28, co28, eo28, gb28, gl28, cl28, HG28⟩ := Kd.R_form HO_8.out (by omega)
                              (first | cases eo28 | (injection eo28 with ea_ en_ ec_; (first | subst ea_ | (injection ea_ with ea_; subst ea_)); subst ec_; clear en_))
                              have GB28 := Aside0.mk gb28
                              have GG28 := Aside0.mk HG28
                              clear gb28 gl28 HG28
                              (first | simp only [add_plain] at hx407_0 | skip)
                              obtain ⟨hx28_0, hf28_0⟩ := Kd.R_celln 0 HO_8.out ((rd t391 x38_1) : Int) p28 q28
                              replace p28 := eq_true p28
                              replace q28 := eq_true q28
                              have HP34 := Kd.R_putn HO_8.out ((rd t391 x38_1) : Int) (wrap64 ((rd x8_1 (rd t391 x38_1)) + (Int.tmod (rd t395 x38_1) 2)))
                              rw [← Ny409.out] at HP34
                              have HQ34 := Aside0.mk HP34
                              clear HP34
                              refine start_ (n := 14) (S := fun w' => w'.cell? ⟨go28, ((rd t391 x38_1)).toNat, none⟩ = some (.int .i64 (rd x8_1 (rd t391 x38_1))) ∧ w'.cell? (ad405.add (x38_1).toNat) = some (.int .i64 (rd t395 x38_1))) (ds := [13]) #[false, false, false, false, false, false, false, false, false, false, false, false, false, false] (by kernel_rfl) rfl rfl ⟨hx407_0, hx408_0⟩ (fun hHeld => ?_); refine with_tabW spec_StrokesNeeded.tab12 spec_StrokesNeeded.bits12 (fun HT_ HW_ => ?_)
                              generalize w31.drew = w32 at HO_7 HO_8 HO_9 HO_36 HB GG28 HQ34 hf28_0 hx28_0 hx407_0 hx408_0 hHeld ⊢
                              refine pure_ (i := 0) (N := some 51) (v := ?_) (a' := ?_) #[true, false, false, false, false, false, false, false, false, false, false, false, false, false] rfl rfl (any_of HT_.out (by kernel_rfl)) (fun _ _ _ h => h) (Or.inl ⟨by rfl, ?_⟩) ?_ ?_
                              rotate_left
                              · intro w'
                                go_simp
                                with_reducible rfl
                              rotate_left
                              · simp only [Act.put, List.setIfInBounds_toArray, List.set_cons_zero, List.set_cons_succ, i64_w, i32_w]
                                rfl
                              refine pure_ (i := 1) (N := some 52) (v := ?_) (a' := ?_) #[true, true, false, false, false, false, false, false, false, false, false, false, false, false] rfl rfl (any_of HT_.out (by kernel_rfl)) (fun _ _ _ h => h) (Or.inl ⟨by rfl, ?_⟩) ?_ ?_
                              rotate_left
                              · intro w'
                                go_simp
                                with_reducible rfl
                              rotate_left
                              · simp only [Act.put, List.setIfInBounds_toArray, List.set_cons_zero, List.set_cons_succ, i64_w, i32_w]
                                rfl
                              refine pure_ (i := 2) (N := some 53) (v := ?_) (a' := ?_) #[true, true, true, false, false, false, false, false, false, false, false, false, false, false] rfl rfl (any_of HT_.out (by kernel_rfl)) (fun _ _ _ h => h) (Or.inl ⟨by rfl, ?_⟩) ?_ ?_
                              rotate_left
                              · intro w'
                                go_simp
                                with_reducible rfl
                              rotate_left
                              · simp only [Act.put, List.setIfInBounds_toArray, List.set_cons_zero, List.set_cons_succ, i64_w, i32_w]
                                rfl
                              refine pure_ (i := 3) (N := some 54) (v := ?_) (a' := ?_) #[true, true, true, true, false, false, false, false, false, false, false, false, false, false] rfl rfl (any_of HT_.out (by kernel_rfl)) (fun _ _ _ h => h) (Or.inl ⟨by rfl, ?_⟩) ?_ ?_
                              rotate_left
                              · intro w'
                                go_simp
                                with_reducible rfl
                              rotate_left
                              · simp only [Act.put, List.setIfInBounds_toArray, List.set_cons_zero, List.set_cons_succ, i64_w, i32_w]
                                rfl
                              refine pure_ (i := 4) (N := some 55) (v := ?_) (a' := ?_) #[true, true, true, true, true, false, false, false, false, false, false, false, false, false] rfl rfl (any_of HT_.out (by kernel_rfl)) (fun _ _ _ h => h) (Or.inl ⟨by rfl, ?_⟩) ?_ ?_
                              rotate_left
                              · intro w'
                                go_simp
                                with_reducible rfl
                              rotate_left
                              · simp only [Act.put, List.setIfInBounds_toArray, List.set_cons_zero, List.set_cons_succ, i64_w, i32_w]
                                rfl
                              refine pure_ (i := 6) (N := some 57) (v := ?_) (a' := ?_) #[true, true, true, true, true, false, true, false, false, false, false, false, false, false] rfl rfl (any_of HT_.out (by kernel_rfl)) (fun _ _ _ h => h) (Or.inl ⟨by rfl, ?_⟩) ?_ ?_
                              rotate_left
                              · intro w'
                                go_simp
                                with_reducible rfl
                              rotate_left
                              · simp only [Act.put, List.setIfInBounds_toArray, List.set_cons_zero, List.set_cons_succ, i64_w, i32_w]
                                rfl
                              refine pure_ (i := 7) (N := some 58) (v := ?_) (a' := ?_) #[true, true, true, true, true, false, true, true, false, false, false, false, false, false] rfl rfl (any_of HT_.out (by kernel_rfl)) (fun _ _ _ h => h) (Or.inl ⟨by rfl, ?_⟩) ?_ ?_
                              rotate_left
                              · intro w'
                                go_simp
                                with_reducible rfl
                              rotate_left
                              · simp only [Act.put, List.setIfInBounds_toArray, List.set_cons_zero, List.set_cons_succ, i64_w, i32_w]
                                rfl
                              refine pure_ (i := 8) (N := some 59) (v := ?_) (a' := ?_) #[true, true, true, true, true, false, true, true, true, false, false, false, false, false] rfl rfl (any_of HT_.out (by kernel_rfl)) (fun _ _ _ h => h) (Or.inl ⟨by rfl, ?_⟩) ?_ ?_
                              rotate_left
                              · intro w'
                                go_simp
                                with_reducible rfl
                              rotate_left
                              · simp only [Act.put, List.setIfInBounds_toArray, List.set_cons_zero, List.set_cons_succ, i64_w, i32_w]
                                rfl
                              refine take_ (i := 5) (N := some 56) (v := ?_) (a' := ?_) #[true, true, true, true, true, true, true, true, true, false, false, false, false, false] rfl rfl (take_ofW HT_.out HW_.out (by kernel_rfl)) (fun _ _ _ h => h) (Or.inl ⟨by rfl, ?_⟩) hHeld ?_ ?_
                              rotate_left
                              · rintro w' ⟨s0, s1⟩
                                go_simp
                                with_reducible rfl
                              rotate_left
                              · simp only [Act.put, List.setIfInBounds_toArray, List.set_cons_zero, List.set_cons_succ, i64_w, i32_w]
                                rfl
                              refine take_ (i := 9) (N := some 60) (v := ?_) (a' := ?_) #[true, true, true, true, true, true, true, true, true, true, false, false, false, false] rfl rfl (take_ofW HT_.out HW_.out (by kernel_rfl)) (fun _ _ _ h => h) (Or.inl ⟨by rfl, ?_⟩) hHeld ?_ ?_
                              rotate_left
                              · rintro w' ⟨s0, s1⟩
                                go_simp
                                with_reducible rfl
                              rotate_left
                              · simp only [Act.put, List.setIfInBounds_toArray, List.set_cons_zero, List.set_cons_succ, i64_w, i32_w]
                                rfl
                              refine pure_ (i := 10) (N := some 61) (v := ?_) (a' := ?_) #[true, true, true, true, true, true, true, true, true, true, true, false, false, false] rfl rfl (any_of HT_.out (by kernel_rfl)) (fun _ _ _ h => h) (Or.inl ⟨by rfl, ?_⟩) ?_ ?_
                              rotate_left
                              · intro w'
                                go_simp
                                with_reducible rfl
                              rotate_left
                              · simp only [Act.put, List.setIfInBounds_toArray, List.set_cons_zero, List.set_cons_succ, i64_w, i32_w]
                                rfl
                              refine pure_ (i := 11) (N := some 62) (v := ?_) (a' := ?_) #[true, true, true, true, true, true, true, true, true, true, true, true, false, false] rfl rfl (any_of HT_.out (by kernel_rfl)) (fun _ _ _ h => h) (Or.inl ⟨by rfl, ?_⟩) ?_ ?_
                              rotate_left
                              · intro w'
                                go_simp
                                with_reducible rfl
                              rotate_left
                              · simp only [Act.put, List.setIfInBounds_toArray, List.set_cons_zero, List.set_cons_succ, i64_w, i32_w]
                                rfl
                              refine pure_ (i := 12) (N := some 63) (v := ?_) (a' := ?_) #[true, true, true, true, true, true, true, true, true, true, true, true, true, false] rfl rfl (any_of HT_.out (by kernel_rfl)) (fun _ _ _ h => h) (Or.inl ⟨by rfl, ?_⟩) ?_ ?_
                              rotate_left
                              · intro w'
                                go_simp
                                with_reducible rfl
                              rotate_left
                              · simp only [Act.put, List.setIfInBounds_toArray, List.set_cons_zero, List.set_cons_succ, i64_w, i32_w]
                                rfl
                              refine last_ (i := 13) (N := none) #[true, true, true, true, true, true, true, true, true, true, true, true, true, true] rfl rfl (one_of HT_.out (by kernel_rfl)) (by decide) (fun K hK => ?_)
                              refine skip_ (w1 := ?_) (by rfl) rfl ?_ ?_
                              rotate_left
                              · go_simp
                                rfl
                              refine hK.out _ _ ?_
                              clear hK K
                              refine done_ (done_of HT_.out (by kernel_rfl)) ?_
                              try go_wp2
                              go_roundg k1
                              case measure => have := HK1.out; omega
                              case rel => exact ⟨(y409), (y406), (wrap64 (x38_1 + 1)), (by first | rfl | (simp; done) | (simp [*]; done)), H', ⟨by have := HK1.out; omega⟩, ⟨by (with_reducible repeat (first | apply Kd.R_alloc | apply Kd.R_drewN | apply Kd.R_drew)); exact Kd.R_mono (Kd.R_far (p := ⟨go28, ((rd t391 x38_1) : Int).toNat, none⟩) (Kd.R_mono HO_7.out (fun k_ hk => (⟨hk, fun e_ => hk.1 (by rw [e_]; rfl)⟩ : _ ∧ k_ ≠ go28))) (fun _ hk => hk.2) (.int .i64 (wrap64 ((rd x8_1 (rd t391 x38_1)) + (Int.tmod (rd t395 x38_1) 2))))) (fun _ hk => ⟨hk.1.1, hk.1.2⟩)⟩, ⟨by (with_reducible repeat (first | apply Kd.R_alloc | apply Kd.R_drewN | apply Kd.R_drew)); exact HQ34.out⟩, ⟨by (with_reducible repeat (first | apply Kd.R_alloc | apply Kd.R_drewN | apply Kd.R_drew)); exact Kd.R_mono (Kd.R_far (p := ⟨go28, ((rd t391 x38_1) : Int).toNat, none⟩) (Kd.R_types HO_9.out GG28.out (by decide)) (fun _ hk => hk.2) (.int .i64 (wrap64 ((rd x8_1 (rd t391 x38_1)) + (Int.tmod (rd t395 x38_1) 2))))) (fun _ hk => trivial)⟩, ⟨by (with_reducible repeat (first | apply Kd.R_alloc | apply Kd.R_drewN | apply Kd.R_drew)); exact Kd.R_mono (Kd.R_far (p := ⟨go28, ((rd t391 x38_1) : Int).toNat, none⟩) (Kd.R_mono HO_36.out (fun k_ hk => (⟨hk, fun e_ => hk.2 (by rw [e_]; rfl)⟩ : _ ∧ k_ ≠ go28))) (fun _ hk => hk.2) (.int .i64 (wrap64 ((rd x8_1 (rd t391 x38_1)) + (Int.tmod (rd t395 x38_1) 2))))) (fun _ hk => ⟨hk.1.1, hk.1.2⟩)⟩, ⟨by repeat (first | (with_reducible first | exact HB.out | apply below_alloc | apply pw_below_drewN | apply below_drew1 | refine below_set ?_ GB28.out) | exact HB.out)⟩⟩
                            · rw [if_neg c27] at H
                              exact absurd H (by simp)
                          · rw [if_neg c25] at H
                            exact absurd H (by simp)
                        · rw [if_neg c24] at H
                          exact absurd H (by simp)
                      · rw [if_neg c23] at H
                        have c23b0 : decide (0 < (rd t395 x38_1)) = false := decide_eq_false c23
                        clear c23
                        have H' := Aside0.mk H
                        clear H
                        have p404 : 0 ≤ (x38_1 : Int) := of_decide_eq_true (by first | (with_reducible assumption) | assumption)
                        have q404 : x38_1 < (t391.length : Int) := of_decide_eq_true (by first | (with_reducible assumption) | assumption)
                        obtain ⟨ad404, e404, hx404_0⟩ := Kd.at_int (Kd.R_reads' HO_36.out).2.2 x38_1 p404 q404
                        cases e404
                        replace p404 := eq_true p404
                        replace q404 := eq_true q404
                        obtain ⟨Ao35, co35, eo35⟩ := Kd.R_slice HO_7.out
                        subst eo35
                        have p405 : 0 ≤ (x38_1 : Int) := of_decide_eq_true (by first | (with_reducible assumption) | assumption)
                        have q405 : x38_1 < (t395.length : Int) := of_decide_eq_true (by first | (with_reducible assumption) | assumption)
                        obtain ⟨ad405, e405, hx405_0⟩ := Kd.at_int (Kd.R_reads' HO_7.out).2.2 x38_1 p405 q405
                        cases e405
                        replace p405 := eq_true p405
                        replace q405 := eq_true q405
                        go_wp2
                        go_roundg k1
                        case measure => have := HK1.out; omega
                        case rel => exact ⟨(x8_1), (x9_1), (wrap64 (x38_1 + 1)), (by first | rfl | (simp; done) | (simp [*]; done)), H', ⟨by have := HK1.out; omega⟩, ⟨by (with_reducible repeat (first | apply Kd.R_alloc | apply Kd.R_drewN | apply Kd.R_drew)); exact HO_7.out⟩, ⟨by (with_reducible repeat (first | apply Kd.R_alloc | apply Kd.R_drewN | apply Kd.R_drew)); exact HO_8.out⟩, ⟨by (with_reducible repeat (first | apply Kd.R_alloc | apply Kd.R_drewN | apply Kd.R_drew)); exact HO_9.out⟩, ⟨by (with_reducible repeat (first | apply Kd.R_alloc | apply Kd.R_drewN | apply Kd.R_drew)); exact HO_36.out⟩, ⟨by repeat (first | (with_reducible first | exact HB.out | apply below_alloc | apply pw_below_drewN | apply below_drew1) | exact HB.out)⟩⟩
                    · rw [if_neg c22] at H
                      exact absurd H (by simp)
                  · rw [if_neg c21] at H
                    exact absurd H (by simp)
                · rw [if_neg c20] at H
                  exact absurd H (by simp)
              · rw [if_neg c19] at H
                have c19b0 : decide (x38_1 < (t391.length : Int)) = false := decide_eq_false c19
                clear c19
                have H' := Aside0.mk H
                clear H
                obtain ⟨Ao36, co36, eo36⟩ := Kd.R_slice HO_9.out
                subst eo36
                go_wp2
                go_loopg [12, 67] k1 (fun kq v12 v67 w' => ∃ (x12_2 : Int) (x67_2 : Int), v12 = .int .i64 x12_2 ∧ v67 = .int .i64 x67_2 ∧ Aside0 (spec_StrokesNeeded.l1 kq x8_1 x12_2 x9_1 (x9_1.length : Int) x67_2 = some r) ∧ Aside0 (kq ≤ k1) ∧ Aside0 (Kd.R (Kd.int .i64) 3 w' w.heap.size (fun _ => True) v399 x8_1) ∧ Aside0 (Kd.R Kd.bool 4 w' w.heap.size (fun _ => True) (.slice Ao36 x9_1.length co36) x9_1) ∧ Aside0 (Below w.heap.size w w'))
                case atStart => exact ⟨(0), (0), (by first | rfl | (simp; done) | (simp [*]; done)), (by first | rfl | (simp; done) | (simp [*]; done)), H', ⟨Nat.le_refl _⟩, ⟨by (with_reducible repeat (first | apply Kd.R_alloc | apply Kd.R_drewN | apply Kd.R_drew)); exact Kd.R_mono HO_8.out (fun _ hk => trivial)⟩, ⟨by (with_reducible repeat (first | apply Kd.R_alloc | apply Kd.R_drewN | apply Kd.R_drew)); exact HO_9.out⟩, ⟨by repeat (first | (with_reducible first | exact HB.out | apply below_alloc | apply pw_below_drewN | apply below_drew1) | exact HB.out)⟩⟩
                case round =>
                  clear H'
                  try clear c1
                  try clear c2
                  try clear p2
                  try clear q2
                  try clear hx2
                  try clear hf2
                  try clear c3
                  try clear c4
                  try clear p4
                  try clear q4
                  try clear hx4
                  try clear c5
                  try clear p6
                  try clear c8
                  try clear c8b0
                  try clear c8b1
                  try clear c9
                  try clear c9b0
                  try clear c9b1
                  try clear c10
                  try clear c10b0
                  try clear c10b1
                  try clear c14
                  try clear c19
                  try clear c19b0
                  try clear c20
                  try clear c20b0
                  try clear c21
                  try clear c21b0
                  try clear c22
                  try clear c22b0
                  try clear c23
                  try clear c23b0
                  try clear c24
                  try clear c24b0
                  try clear c25
                  try clear c25b0
                  try clear p26
                  try clear q26
                  try clear hx26
                  try clear hf26
                  try clear c27
                  try clear c27b0
                  try clear p28
                  try clear q28
                  try clear hx28
                  try clear hf28
                  try clear c36
                  try clear hx26_0
                  try clear hx28_0
                  try clear hx404_0
                  try clear hx405_0
                  try clear hx407_0
                  try clear hx408_0
                  try clear p2
                  try clear p26
                  try clear p28
                  try clear p404
                  try clear p405
                  try clear p407
                  try clear p408
                  try clear p6
                  try clear q26
                  try clear q28
                  try clear q404
                  try clear q405
                  try clear q407
                  try clear q408
                  obtain ⟨x12_2, x67_2, rfl, rfl, HA, HK2, HO_8, HO_65, HB⟩ := hrel
                  cases gk with
                  | zero => exact absurd HA.out (by simp [spec_StrokesNeeded.l1])
                  | succ k2 =>
                    have H := HA.out
                    clear HA
                    simp only [spec_StrokesNeeded.l1] at H
                    by_cases c37 : x67_2 < (x9_1.length : Int)
                    · rw [if_pos c37] at H
                      have c37b0 : decide (x67_2 < (x9_1.length : Int)) = true := decide_eq_true c37
                      clear c37
                      by_cases c38 : 0 ≤ x67_2
                      · rw [if_pos c38] at H
                        have c38b0 : decide (0 ≤ x67_2) = true := decide_eq_true c38
                        clear c38
                        by_cases c39 : x67_2 < (x9_1.length : Int)
                        · rw [if_pos c39] at H
                          have c39b0 : decide (x67_2 < (x9_1.length : Int)) = true := decide_eq_true c39
                          clear c39
                          obtain ⟨bq40, hbq40⟩ : ∃ b_ : Bool, b_ = (rdOf false x9_1 x67_2) := ⟨_, rfl⟩
                          replace H : (if bq40 = true then (if x67_2 < (x8_1.length : Int) then (spec_StrokesNeeded.l1 k2 x8_1 (wrap64 (x12_2 + (mx 1 (wrap64 (Int.tdiv (rd x8_1 x67_2) 2))))) x9_1 (x9_1.length : Int) (wrap64 (x67_2 + 1))) else (none)) else (spec_StrokesNeeded.l1 k2 x8_1 x12_2 x9_1 (x9_1.length : Int) (wrap64 (x67_2 + 1)))) = some r := by rw [← hbq40] at H; exact H
                          have Nbq40 := Aside0.mk hbq40
                          clear hbq40
                          by_cases c41 : bq40 = true
                          · subst c41
                            have H1 : (if x67_2 < (x8_1.length : Int) then (spec_StrokesNeeded.l1 k2 x8_1 (wrap64 (x12_2 + (mx 1 (wrap64 (Int.tdiv (rd x8_1 x67_2) 2))))) x9_1 (x9_1.length : Int) (wrap64 (x67_2 + 1))) else (none)) = some r := by rw [if_pos rfl] at H; exact H
                            clear H
                            have H := H1
                            clear H1
                            by_cases c42 : x67_2 < (x8_1.length : Int)
                            · rw [if_pos c42] at H
                              have c42b0 : decide (x67_2 < (x8_1.length : Int)) = true := decide_eq_true c42
                              clear c42
                              obtain ⟨ji43, hji43⟩ : ∃ j_ : Int, (mx 1 (wrap64 (Int.tdiv (rd x8_1 x67_2) 2))) = j_ := ⟨_, rfl⟩
                              replace H : (spec_StrokesNeeded.l1 k2 x8_1 (wrap64 (x12_2 + (ji43))) x9_1 (x9_1.length : Int) (wrap64 (x67_2 + 1))) = some r := by first | (rw [hji43] at H; exact H) | (simp only [hji43] at H ⊢; exact H)
                              have hji43_ : (if 1 < (wrap64 (Int.tdiv (rd x8_1 x67_2) 2)) then (wrap64 (Int.tdiv (rd x8_1 x67_2) 2)) else 1) = ji43 := hji43
                              have H' := Aside0.mk H
                              clear H
                              have p410 : 0 ≤ (x67_2 : Int) := of_decide_eq_true (by first | (with_reducible assumption) | assumption)
                              have q410 : x67_2 < (x9_1.length : Int) := of_decide_eq_true (by first | (with_reducible assumption) | assumption)
                              obtain ⟨ad410, e410, hx410_0⟩ := Kd.at_bool (Kd.R_reads' HO_65.out).2.2 x67_2 p410 q410
                              (try rw [← Nbq40.out] at hx410_0)
                              cases e410
                              replace p410 := eq_true p410
                              replace q410 := eq_true q410
                              obtain ⟨Ao44, co44, eo44⟩ := Kd.R_slice HO_8.out
                              subst eo44
                              have p411 : 0 ≤ (x67_2 : Int) := of_decide_eq_true (by first | (with_reducible assumption) | assumption)
                              have q411 : x67_2 < (x8_1.length : Int) := of_decide_eq_true (by first | (with_reducible assumption) | assumption)
                              obtain ⟨ad411, e411, hx411_0⟩ := Kd.at_int (Kd.R_reads' HO_8.out).2.2 x67_2 p411 q411
                              cases e411
                              replace p411 := eq_true p411
                              replace q411 := eq_true q411
                              go_wp2
                              go_roundg k2
                              case measure => have := HK1.out; have := HK2.out; omega
                              case rel => exact ⟨(wrap64 (x12_2 + (ji43))), (wrap64 (x67_2 + 1)), (by first | rfl | (simp; done) | (simp only [← hji43] <;> (first | rfl | simp)) | (simp [*]; done)), (by first | rfl | (simp; done) | (simp [*]; done)), H', ⟨by have := HK1.out; have := HK2.out; omega⟩, ⟨by (with_reducible repeat (first | apply Kd.R_alloc | apply Kd.R_drewN | apply Kd.R_drew)); exact HO_8.out⟩, ⟨by (with_reducible repeat (first | apply Kd.R_alloc | apply Kd.R_drewN | apply Kd.R_drew)); exact HO_65.out⟩, ⟨by repeat (first | (with_reducible first | exact HB.out | apply below_alloc | apply pw_below_drewN | apply below_drew1) | exact HB.out)⟩⟩
                            · rw [if_neg c42] at H
                              exact absurd H (by simp)
                          · replace c41 := Bool.eq_false_iff.mpr c41
                            subst c41
                            have H1 : (spec_StrokesNeeded.l1 k2 x8_1 x12_2 x9_1 (x9_1.length : Int) (wrap64 (x67_2 + 1))) = some r := by rw [if_neg (show ¬ (false = true) by decide)] at H; exact H
                            clear H
                            have H := H1
                            clear H1
                            have H' := Aside0.mk H
                            clear H
                            have p410 : 0 ≤ (x67_2 : Int) := of_decide_eq_true (by first | (with_reducible assumption) | assumption)
                            have q410 : x67_2 < (x9_1.length : Int) := of_decide_eq_true (by first | (with_reducible assumption) | assumption)
                            obtain ⟨ad410, e410, hx410_0⟩ := Kd.at_bool (Kd.R_reads' HO_65.out).2.2 x67_2 p410 q410
                            (try rw [← Nbq40.out] at hx410_0)
                            cases e410
                            replace p410 := eq_true p410
                            replace q410 := eq_true q410
                            go_wp2
                            go_roundg k2
                            case measure => have := HK1.out; have := HK2.out; omega
                            case rel => exact ⟨(x12_2), (wrap64 (x67_2 + 1)), (by first | rfl | (simp; done) | (simp [*]; done)), (by first | rfl | (simp; done) | (simp [*]; done)), H', ⟨by have := HK1.out; have := HK2.out; omega⟩, ⟨by (with_reducible repeat (first | apply Kd.R_alloc | apply Kd.R_drewN | apply Kd.R_drew)); exact HO_8.out⟩, ⟨by (with_reducible repeat (first | apply Kd.R_alloc | apply Kd.R_drewN | apply Kd.R_drew)); exact HO_65.out⟩, ⟨by repeat (first | (with_reducible first | exact HB.out | apply below_alloc | apply pw_below_drewN | apply below_drew1) | exact HB.out)⟩⟩
                        · rw [if_neg c39] at H
                          exact absurd H (by simp)
                      · rw [if_neg c38] at H
                        exact absurd H (by simp)
                    · rw [if_neg c37] at H
                      have c37b0 : decide (x67_2 < (x9_1.length : Int)) = false := decide_eq_false c37
                      clear c37
                      obtain rfl := Option.some.inj H
                      go_wp2
                      go_ret
                      exact ⟨by first | rfl | (simp [errW_none, errW_some] <;> rfl) | (simp only [← hji5]; first | rfl | (simp [errW_none, errW_some] <;> rfl)) | (simp [*, errW_none, errW_some] <;> rfl), by repeat (first | (with_reducible first | exact HB.out | apply below_alloc | apply pw_below_drewN | apply below_drew1) | exact HB.out)⟩
        · rw [if_neg c10] at H
          exact absurd H (by simp)
      · rw [if_neg c9] at H
        exact absurd H (by simp)
    · rw [if_neg c8] at H
      exact absurd H (by simp)
  · replace c4 := Bool.eq_false_iff.mpr c4
    subst c4
    have H1 : (some (-1)) = some r := by rw [if_neg (show ¬ (false = true) by decide)] at H; exact H
    clear H
    have H := H1
    clear H1
    obtain rfl := Option.some.inj H
    go_enter Try.func36, Try.ntmps36
    go_wp2_with (first | ((with_reducible refine gate_callee (f := 14) rfl ?_); refine goesL_ (some 17) rfl rfl Try.func14 (by kernel_rfl) rfl #[.int .i64 a0, .slice A1 l1.length c1] rfl (by (try simp only [List.map_toArray, List.map_cons, List.map_nil]); first | done | rfl | (simp only [List.length_drop, List.length_take]; rfl)) ?_; (with_reducible refine (spec_IsDrawing.calls k a0 _ _ l1 false _ ?side1 ?side2 A3.out).mono ?_); (case side1 => repeat (first | exact HR1.out | (with_reducible refine Kd.C_alloc ?_ _) | (with_reducible refine Kd.C_drewN ?_ _) | (with_reducible refine Kd.C_drew ?_))); (case side2 => exact HC1.out); rintro e w45 ⟨rfl, hb⟩; refine ⟨_, rfl, ?_⟩; have n0_ := Aside0.mk (below_step (by repeat (first | (with_reducible first | exact HB.out | apply below_alloc | apply pw_below_drewN | apply below_drew1) | exact HB.out)) hb); clear HB; have HB := n0_; clear n0_; (try clear hb); (try clear hb2); (try clear hk); (try clear hi)))
    go_ret
    exact ⟨by first | rfl | (simp [errW_none, errW_some] <;> rfl) | (simp [*, errW_none, errW_some] <;> rfl), by repeat (first | (with_reducible first | exact HB.out | apply below_alloc | apply pw_below_drewN | apply below_drew1) | exact HB.out)⟩
end Go.Proofs.Ytcdajmbnijmdfaa.PA
