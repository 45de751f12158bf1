-- Written for this claim by a program of this session's (ownprint.py), by way of the kit's print and hand-proved texts. Lean checks it.
import Derived.Test.YtcdajmbnijmdfaaPAx0
import Derived.Test.YtcdajmbnijmdfaaPAx1
import Derived.Test.YtcdajmbnijmdfaaPAx2
namespace Go.Proofs.Ytcdajmbnijmdfaa.PA
open Go.RowKit Go.Proofs.YtcdajmbnijmdfaaW.PrintWords Go.Proofs.YtcdajmbnijmdfaaW.PrintLast Go.Proofs.YtcdajmbnijmdfaaW.PrintMore
attribute [local go_sem] max2_int min2_int max_two min_two max_three min_three max_four min_four   -- for this text's walks alone
set_option linter.unusedVariables false
set_option linter.unusedSimpArgs false

/-! ### spec_IsStroke: function 18 -/
mutual
def spec_IsStroke.j0 : Nat → List (List Int) → Int → List Int → Bool → Option (Bool)
  | 0, _, _, _, _ => none
  | k + 1, x1, x2, x3, x23 => if x23 = true then (some false) else (spec_IsStroke.l0 k x1 x2 0 x3 (x3.length : Int) 0)
def spec_IsStroke.l0 : Nat → List (List Int) → Int → Int → List Int → Int → Int → Option (Bool)
  | 0, _, _, _, _, _, _ => none
  | k + 1, x1, x9, x10, x25, x26, x27 => if x27 < x26 then (if 0 ≤ x27 then (if x27 < (x25.length : Int) then ((spec_l01In.f (rd x25 x27) 0 (wrap64 ((x1.length : Int) - 1))).bind fun t153 => (if t153 = true then (if 0 ≤ (rd x25 x27) then (spec_IsStroke.j2 k x1 x9 x10 (rd x25 x27) x25 x26 x27 ((Go.bits .and .i64 (shr .i64 x10 (rd x25 x27)) 1) == 1)) else (none)) else (spec_IsStroke.j2 k x1 x9 x10 (rd x25 x27) x25 x26 x27 true))) else (none)) else (none)) else (some true)
def spec_IsStroke.j2 : Nat → List (List Int) → Int → Int → Int → List Int → Int → Int → Bool → Option (Bool)
  | 0, _, _, _, _, _, _, _, _ => none
  | k + 1, x1, x9, x10, x12, x25, x26, x27, x43 => if x43 = true then (some false) else (if 0 ≤ x12 then (if x12 < (x1.length : Int) then (if 0 < ((rd_L1 x1 x12).length : Int) then (if x9 = (rd (rd_L1 x1 x12) 0) then (if 1 < ((rd_L1 x1 x12).length : Int) then (spec_IsStroke.l0 k x1 (rd (rd_L1 x1 x12) 1) (wrap64 (x10 + (shl .i64 1 x12))) x25 x26 (wrap64 (x27 + 1))) else (none)) else (if 1 < ((rd_L1 x1 x12).length : Int) then (if x9 = (rd (rd_L1 x1 x12) 1) then (spec_IsStroke.l0 k x1 (rd (rd_L1 x1 x12) 0) (wrap64 (x10 + (shl .i64 1 x12))) x25 x26 (wrap64 (x27 + 1))) else (some false)) else (none))) else (none)) else (none)) else (none))
end
def spec_IsStroke.f (k : Nat) (a0 : Int) (l1 : List (List Int)) (a2 : Int) (l3 : List Int) : Option (Bool) := (spec_IsDrawing.f k a0 l1).bind fun t150 => (if t150 = true then ((spec_l01In.f a2 0 (wrap64 (a0 - 1))).bind fun t151 => (spec_IsStroke.j0 k l1 a2 l3 (!t151))) else (spec_IsStroke.j0 k l1 a2 l3 true))
theorem spec_IsStroke.mono_l : ∀ k, (∀ y0 y1 y2 y3, LeO (spec_IsStroke.j0 k y0 y1 y2 y3) (spec_IsStroke.j0 (k + 1) y0 y1 y2 y3)) ∧ (∀ y0 y1 y2 y3 y4 y5, LeO (spec_IsStroke.l0 k y0 y1 y2 y3 y4 y5) (spec_IsStroke.l0 (k + 1) y0 y1 y2 y3 y4 y5)) ∧ (∀ y0 y1 y2 y3 y4 y5 y6 y7, LeO (spec_IsStroke.j2 k y0 y1 y2 y3 y4 y5 y6 y7) (spec_IsStroke.j2 (k + 1) y0 y1 y2 y3 y4 y5 y6 y7))
  | 0 => ⟨fun _ _ _ _ r h => by simp [spec_IsStroke.j0] at h, fun _ _ _ _ _ _ r h => by simp [spec_IsStroke.l0] at h, fun _ _ _ _ _ _ _ _ r h => by simp [spec_IsStroke.j2] at h⟩
  | k + 1 => by
    obtain ⟨ih0, ih1, ih2⟩ := spec_IsStroke.mono_l k
    refine ⟨?_, ?_, ?_⟩
    · intro y0 y1 y2 y3
      unfold spec_IsStroke.j0
      repeat' first
      | (with_reducible exact ih0 _ _ _ _)
      | (with_reducible exact ih1 _ _ _ _ _ _)
      | (with_reducible exact ih2 _ _ _ _ _ _ _ _)
      | (with_reducible exact spec_IsDrawing.mono _ _ _)
      | (with_reducible exact LeO.refl _)
      | (with_reducible exact LeO.none _)
      | (with_reducible refine LeO.ite ?_ ?_)
      | (with_reducible refine LeO.bind ?_ (fun _ => ?_))
      | exact ih0 _ _ _ _
      | exact ih1 _ _ _ _ _ _
      | exact ih2 _ _ _ _ _ _ _ _
      | exact spec_IsDrawing.mono _ _ _
      | exact LeO.none _
      | refine LeO.ite ?_ ?_
      | refine LeO.bind ?_ (fun _ => ?_)
    · intro y0 y1 y2 y3 y4 y5
      unfold spec_IsStroke.l0
      repeat' first
      | (with_reducible exact ih0 _ _ _ _)
      | (with_reducible exact ih1 _ _ _ _ _ _)
      | (with_reducible exact ih2 _ _ _ _ _ _ _ _)
      | (with_reducible exact spec_IsDrawing.mono _ _ _)
      | (with_reducible exact LeO.refl _)
      | (with_reducible exact LeO.none _)
      | (with_reducible refine LeO.ite ?_ ?_)
      | (with_reducible refine LeO.bind ?_ (fun _ => ?_))
      | exact ih0 _ _ _ _
      | exact ih1 _ _ _ _ _ _
      | exact ih2 _ _ _ _ _ _ _ _
      | exact spec_IsDrawing.mono _ _ _
      | exact LeO.none _
      | refine LeO.ite ?_ ?_
      | refine LeO.bind ?_ (fun _ => ?_)
    · intro y0 y1 y2 y3 y4 y5 y6 y7
      unfold spec_IsStroke.j2
      repeat' first
      | (with_reducible exact ih0 _ _ _ _)
      | (with_reducible exact ih1 _ _ _ _ _ _)
      | (with_reducible exact ih2 _ _ _ _ _ _ _ _)
      | (with_reducible exact spec_IsDrawing.mono _ _ _)
      | (with_reducible exact LeO.refl _)
      | (with_reducible exact LeO.none _)
      | (with_reducible refine LeO.ite ?_ ?_)
      | (with_reducible refine LeO.bind ?_ (fun _ => ?_))
      | exact ih0 _ _ _ _
      | exact ih1 _ _ _ _ _ _
      | exact ih2 _ _ _ _ _ _ _ _
      | exact spec_IsDrawing.mono _ _ _
      | exact LeO.none _
      | refine LeO.ite ?_ ?_
      | refine LeO.bind ?_ (fun _ => ?_)
theorem spec_IsStroke.mono : ∀ a0 a1 a2 a3 k, LeO (spec_IsStroke.f k a0 a1 a2 a3) (spec_IsStroke.f (k + 1) a0 a1 a2 a3) := by
  intro a0 a1 a2 a3 k
  obtain ⟨ih0, ih1, ih2⟩ := spec_IsStroke.mono_l k
  unfold spec_IsStroke.f
  repeat' first
      | (with_reducible exact ih0 _ _ _ _)
      | (with_reducible exact ih1 _ _ _ _ _ _)
      | (with_reducible exact ih2 _ _ _ _ _ _ _ _)
      | (with_reducible exact spec_IsDrawing.mono _ _ _)
      | (with_reducible exact LeO.refl _)
      | (with_reducible exact LeO.none _)
      | (with_reducible refine LeO.ite ?_ ?_)
      | (with_reducible refine LeO.bind ?_ (fun _ => ?_))
      | exact ih0 _ _ _ _
      | exact ih1 _ _ _ _ _ _
      | exact ih2 _ _ _ _ _ _ _ _
      | exact spec_IsDrawing.mono _ _ _
      | exact LeO.none _
      | refine LeO.ite ?_ ?_
      | refine LeO.bind ?_ (fun _ => ?_)
set_option maxHeartbeats 8000000 in
set_option maxRecDepth 100000 in
theorem spec_IsStroke.calls (k : Nat) (a0 : Int) (A1 : Option Addr) (c1 : Nat) (l1 : List (List Int)) (a2 : Int) (A3 : Option Addr) (c3 : Nat) (l3 : List Int) (r : Bool) (w : World) (hr1 : Kd.C (Kd.slice 3 (Kd.int .i64)) w A1 l1.length l1) (hc1 : l1.length ≤ c1) (hr3 : Kd.C (Kd.int .i64) w A3 l3.length l3) (hc3 : l3.length ≤ c3) (h : spec_IsStroke.f k a0 l1 a2 l3 = some r) :
    Calls Try.prog 18 #[.int .i64 a0, .slice A1 l1.length c1, .int .i64 a2, .slice A3 l3.length c3] w fun e w' => e = .returned (.bool r) ∧ Below w.heap.size w w' := by
  have HR1 := Aside0.mk hr1
  have HC1 := Aside0.mk hc1
  clear hr1 hc1
  have HR3 := Aside0.mk hr3
  have HC3 := Aside0.mk hc3
  clear hr3 hc3
  have HB := Aside0.mk (Below.refl w.heap.size w)
  have H : ((spec_IsDrawing.f k a0 l1).bind fun t150 => (if t150 = true then ((spec_l01In.f a2 0 (wrap64 (a0 - 1))).bind fun t151 => (spec_IsStroke.j0 k l1 a2 l3 (!t151))) else (spec_IsStroke.j0 k l1 a2 l3 true))) = some r := h
  clear h
  have HC5 := Aside0.mk H
  clear H
  go_enter Try.func18, Try.ntmps18
  go_upto_region 1 with (fail)
  go_cut [23] (fun v23 wc => ∃ (kq : Nat) (x23_4 : Bool), v23 = .bool x23_4 ∧ Aside0 (spec_IsStroke.j0 kq l1 a2 l3 x23_4 = some r) ∧ Aside0 (kq ≤ k) ∧ Aside0 (Below w.heap.size w wc))
  case first =>
    have H := HC5.out
    clear HC5
    replace H := Option.bind_eq_some_iff.mp H
    obtain ⟨t150, A60, H⟩ := H
    replace H : (if t150 = true then ((spec_l01In.f a2 0 (wrap64 (a0 - 1))).bind fun t151 => (spec_IsStroke.j0 k l1 a2 l3 (!t151))) else (spec_IsStroke.j0 k l1 a2 l3 true)) = some r := H
    have A6 := Aside0.mk A60
    clear A60
    by_cases c7 : t150 = true
    · subst c7
      have H1 : ((spec_l01In.f a2 0 (wrap64 (a0 - 1))).bind fun t151 => (spec_IsStroke.j0 k l1 a2 l3 (!t151))) = some r := by rw [if_pos rfl] at H; exact H
      clear H
      have H := H1
      clear H1
      replace H := Option.bind_eq_some_iff.mp H
      obtain ⟨t151, A80, H⟩ := H
      replace H : (spec_IsStroke.j0 k l1 a2 l3 (!t151)) = some r := H
      have A8 := Aside0.mk A80
      clear A80
      have H' := Aside0.mk H
      clear H
      go_wp2_with (first | ((with_reducible refine gate_callee (f := 14) rfl ?_); refine goesL_ (some 15) rfl rfl Try.func14 (by kernel_rfl) rfl #[.int .i64 a0, .slice A1 l1.length c1] rfl (by (try simp only [List.map_toArray, List.map_cons, List.map_nil]); first | done | rfl | (simp only [List.length_drop, List.length_take]; rfl)) ?_; (with_reducible refine (spec_IsDrawing.calls k a0 _ _ l1 true _ ?side1 ?side2 A6.out).mono ?_); (case side1 => repeat (first | exact (Kd.C_below HR1.out HB.out) | (with_reducible refine Kd.C_alloc ?_ _) | (with_reducible refine Kd.C_drewN ?_ _) | (with_reducible refine Kd.C_drew ?_))); (case side2 => exact HC1.out); rintro e w9 ⟨rfl, hb⟩; refine ⟨_, rfl, ?_⟩; have n0_ := Aside0.mk (below_step (by repeat (first | (with_reducible first | exact HB.out | apply below_alloc | apply pw_below_drewN | apply below_drew1) | exact HB.out)) hb); clear HB; have HB := n0_; clear n0_; (try clear hb); (try clear hb2); (try clear hk); (try clear hi)) | (go_at_call 44; (with_reducible refine (spec_l01In.calls a2 0 (wrap64 (a0 - 1)) t151 _ A8.out).mono ?_); rintro e w' ⟨rfl, ⟨nd, rfl⟩⟩))
      go_meet
      case rel => exact ⟨_, (!t151), (by first | rfl | (simp; done) | (simp [*]; done)), H', ⟨by first | omega | exact Nat.le_refl _⟩, ⟨by repeat (first | (with_reducible first | exact HB.out | apply below_alloc | apply pw_below_drewN | apply below_drew1) | exact HB.out)⟩⟩
    · replace c7 := Bool.eq_false_iff.mpr c7
      subst c7
      have H1 : (spec_IsStroke.j0 k l1 a2 l3 true) = some r := by rw [if_neg (show ¬ (false = true) by decide)] at H; exact H
      clear H
      have H := H1
      clear H1
      have H' := Aside0.mk H
      clear H
      go_wp2_with (first | ((with_reducible refine gate_callee (f := 14) rfl ?_); refine goesL_ (some 15) rfl rfl Try.func14 (by kernel_rfl) rfl #[.int .i64 a0, .slice A1 l1.length c1] rfl (by (try simp only [List.map_toArray, List.map_cons, List.map_nil]); first | done | rfl | (simp only [List.length_drop, List.length_take]; rfl)) ?_; (with_reducible refine (spec_IsDrawing.calls k a0 _ _ l1 false _ ?side1 ?side2 A6.out).mono ?_); (case side1 => repeat (first | exact (Kd.C_below HR1.out HB.out) | (with_reducible refine Kd.C_alloc ?_ _) | (with_reducible refine Kd.C_drewN ?_ _) | (with_reducible refine Kd.C_drew ?_))); (case side2 => exact HC1.out); rintro e w10 ⟨rfl, hb⟩; refine ⟨_, rfl, ?_⟩; have n0_ := Aside0.mk (below_step (by repeat (first | (with_reducible first | exact HB.out | apply below_alloc | apply pw_below_drewN | apply below_drew1) | exact HB.out)) hb); clear HB; have HB := n0_; clear n0_; (try clear hb); (try clear hb2); (try clear hk); (try clear hi)))
      go_meet
      case rel => exact ⟨_, (true), (by first | rfl | (simp; done) | (simp [*]; done)), H', ⟨by first | omega | exact Nat.le_refl _⟩, ⟨by repeat (first | (with_reducible first | exact HB.out | apply below_alloc | apply pw_below_drewN | apply below_drew1) | exact HB.out)⟩⟩
  case rest =>
    clear HC5
    try clear c1
    try clear p2
    try clear c3
    try clear p6
    try clear c7
    obtain ⟨kq, x23_4, rfl, HA, HJ4, HB⟩ := hcut
    cases kq with
    | zero => exact absurd HA.out (by simp [spec_IsStroke.j0])
    | succ kj4 =>
      have H := HA.out
      clear HA
      simp only [spec_IsStroke.j0] at H
      by_cases c11 : x23_4 = true
      · subst c11
        have H1 : (some false) = some r := by rw [if_pos rfl] at H; exact H
        clear H
        have H := H1
        clear H1
        obtain rfl := Option.some.inj H
        go_wp2
        go_ret
        exact ⟨by first | rfl | (simp [errW_none, errW_some] <;> rfl) | (simp [*, errW_none, errW_some] <;> rfl), by repeat (first | (with_reducible first | exact HB.out | apply below_alloc | apply pw_below_drewN | apply below_drew1) | exact HB.out)⟩
      · replace c11 := Bool.eq_false_iff.mpr c11
        subst c11
        have H1 : (spec_IsStroke.l0 kj4 l1 a2 0 l3 (l3.length : Int) 0) = some r := by rw [if_neg (show ¬ (false = true) by decide)] at H; exact H
        clear H
        have H := H1
        clear H1
        have H' := Aside0.mk H
        clear H
        go_wp2
        go_loopg [9, 10, 27] kj4 (fun kq v9 v10 v27 w' => ∃ (x9_2 : Int) (x10_2 : Int) (x27_2 : Int), v9 = .int .i64 x9_2 ∧ v10 = .int .i64 x10_2 ∧ v27 = .int .i64 x27_2 ∧ Aside0 (spec_IsStroke.l0 kq l1 x9_2 x10_2 l3 (l3.length : Int) x27_2 = some r) ∧ Aside0 (kq ≤ kj4) ∧ Aside0 (Below w.heap.size w w'))
        case atStart => exact ⟨(a2), (0), (0), (by first | rfl | (simp; done) | (simp [*]; done)), (by first | rfl | (simp; done) | (simp [*]; done)), (by first | rfl | (simp; done) | (simp [*]; done)), H', ⟨Nat.le_refl _⟩, ⟨by repeat (first | (with_reducible first | exact HB.out | apply below_alloc | apply pw_below_drewN | apply below_drew1) | exact HB.out)⟩⟩
        case round =>
          clear H'
          try clear c1
          try clear p2
          try clear c3
          try clear p6
          try clear c7
          try clear c11
          try clear p2
          try clear p6
          obtain ⟨x9_2, x10_2, x27_2, rfl, rfl, rfl, HA, HK2, HB⟩ := hrel
          cases gk with
          | zero => exact absurd HA.out (by simp [spec_IsStroke.l0])
          | succ k2 =>
            have H := HA.out
            clear HA
            simp only [spec_IsStroke.l0] at H
            by_cases c12 : x27_2 < (l3.length : Int)
            · rw [if_pos c12] at H
              have c12b0 : decide (x27_2 < (l3.length : Int)) = true := decide_eq_true c12
              clear c12
              by_cases c13 : 0 ≤ x27_2
              · rw [if_pos c13] at H
                have c13b0 : decide (0 ≤ x27_2) = true := decide_eq_true c13
                clear c13
                by_cases c14 : x27_2 < (l3.length : Int)
                · rw [if_pos c14] at H
                  have c14b0 : decide (x27_2 < (l3.length : Int)) = true := decide_eq_true c14
                  clear c14
                  have HC15 := Aside0.mk H
                  clear H
                  have p152 : 0 ≤ (x27_2 : Int) := of_decide_eq_true (by first | (with_reducible assumption) | assumption)
                  have q152 : x27_2 < (l3.length : Int) := of_decide_eq_true (by first | (with_reducible assumption) | assumption)
                  obtain ⟨ad152, e152, hx152_0⟩ := Kd.at_int HR3.out x27_2 p152 q152
                  cases e152
                  replace hx152_0 := (HB.out.cell (World.block_lt_of_cell? w _ hx152_0)).trans hx152_0
                  replace p152 := eq_true p152
                  replace q152 := eq_true q152
                  go_upto_region 8 with (fail)
                  go_cut [43] (fun v43 wc => ∃ (kq : Nat) (x43_14 : Bool), v43 = .bool x43_14 ∧ Aside0 (spec_IsStroke.j2 kq l1 x9_2 x10_2 (rd l3 x27_2) l3 (l3.length : Int) x27_2 x43_14 = some r) ∧ Aside0 (kq ≤ k2) ∧ Aside0 (Below w.heap.size w wc))
                  case first =>
                    have H := HC15.out
                    clear HC15
                    replace H := Option.bind_eq_some_iff.mp H
                    obtain ⟨t153, A160, H⟩ := H
                    replace H : (if t153 = true then (if 0 ≤ (rd l3 x27_2) then (spec_IsStroke.j2 k2 l1 x9_2 x10_2 (rd l3 x27_2) l3 (l3.length : Int) x27_2 ((Go.bits .and .i64 (shr .i64 x10_2 (rd l3 x27_2)) 1) == 1)) else (none)) else (spec_IsStroke.j2 k2 l1 x9_2 x10_2 (rd l3 x27_2) l3 (l3.length : Int) x27_2 true)) = some r := H
                    have A16 := Aside0.mk A160
                    clear A160
                    by_cases c17 : t153 = true
                    · subst c17
                      have H1 : (if 0 ≤ (rd l3 x27_2) then (spec_IsStroke.j2 k2 l1 x9_2 x10_2 (rd l3 x27_2) l3 (l3.length : Int) x27_2 ((Go.bits .and .i64 (shr .i64 x10_2 (rd l3 x27_2)) 1) == 1)) else (none)) = some r := by rw [if_pos rfl] at H; exact H
                      clear H
                      have H := H1
                      clear H1
                      by_cases c18 : 0 ≤ (rd l3 x27_2)
                      · rw [if_pos c18] at H
                        have c18b0 := eq_true c18
                        have c18b1 : decide (0 ≤ (rd l3 x27_2)) = true := decide_eq_true c18
                        clear c18
                        obtain ⟨ji19, hji19⟩ : ∃ j_ : Int, (shr .i64 x10_2 (rd l3 x27_2)) = j_ := ⟨_, rfl⟩
                        replace H : (spec_IsStroke.j2 k2 l1 x9_2 x10_2 (rd l3 x27_2) l3 (l3.length : Int) x27_2 ((Go.bits .and .i64 (ji19) 1) == 1)) = some r := by first | (rw [hji19] at H; exact H) | (simp only [hji19] at H ⊢; exact H)
                        (try rw [hji19] at A16)
                        have hji19_ : (x10_2 / 2 ^ min (rd l3 x27_2).toNat 64) = ji19 := hji19
                        have hji19z : (rd l3 x27_2) ≤ 64 → (x10_2 / 2 ^ (rd l3 x27_2).toNat) = ji19 := shr_small hji19
                        have H' := Aside0.mk H
                        clear H
                        go_wp2_with (first | ((with_reducible refine gate_callee (f := 44) rfl ?_); refine goesL_ (some 35) rfl rfl Try.func44 (by kernel_rfl) rfl #[.int .i64 (rd l3 x27_2), .int .i64 0, .int .i64 (wrap64 ((l1.length : Int) - 1))] rfl (by (try simp only [List.map_toArray, List.map_cons, List.map_nil]); first | done | rfl | (simp only [List.length_drop, List.length_take]; rfl)) ?_; (with_reducible refine (spec_l01In.calls (rd l3 x27_2) 0 (wrap64 ((l1.length : Int) - 1)) true _ A16.out).mono ?_); rintro e w' ⟨rfl, ⟨nd, rfl⟩⟩; refine ⟨_, rfl, ?_⟩))
                        go_meet
                        case rel => exact ⟨_, (((Go.bits .and .i64 (ji19) 1) == 1)), (by first | rfl | (simp; done) | (simp only [← hji19] <;> (first | rfl | simp)) | (simp [*]; done)), H', ⟨by have := HJ4.out; have := HK2.out; first | omega | exact Nat.le_refl _⟩, ⟨by repeat (first | (with_reducible first | exact HB.out | apply below_alloc | apply pw_below_drewN | apply below_drew1) | exact HB.out)⟩⟩
                      · rw [if_neg c18] at H
                        exact absurd H (by simp)
                    · replace c17 := Bool.eq_false_iff.mpr c17
                      subst c17
                      have H1 : (spec_IsStroke.j2 k2 l1 x9_2 x10_2 (rd l3 x27_2) l3 (l3.length : Int) x27_2 true) = some r := by rw [if_neg (show ¬ (false = true) by decide)] at H; exact H
                      clear H
                      have H := H1
                      clear H1
                      have H' := Aside0.mk H
                      clear H
                      go_wp2_with (first | ((with_reducible refine gate_callee (f := 44) rfl ?_); refine goesL_ (some 35) rfl rfl Try.func44 (by kernel_rfl) rfl #[.int .i64 (rd l3 x27_2), .int .i64 0, .int .i64 (wrap64 ((l1.length : Int) - 1))] rfl (by (try simp only [List.map_toArray, List.map_cons, List.map_nil]); first | done | rfl | (simp only [List.length_drop, List.length_take]; rfl)) ?_; (with_reducible refine (spec_l01In.calls (rd l3 x27_2) 0 (wrap64 ((l1.length : Int) - 1)) false _ A16.out).mono ?_); rintro e w' ⟨rfl, ⟨nd, rfl⟩⟩; refine ⟨_, rfl, ?_⟩))
                      go_meet
                      case rel => exact ⟨_, (true), (by first | rfl | (simp; done) | (simp [*]; done)), H', ⟨by have := HJ4.out; have := HK2.out; first | omega | exact Nat.le_refl _⟩, ⟨by repeat (first | (with_reducible first | exact HB.out | apply below_alloc | apply pw_below_drewN | apply below_drew1) | exact HB.out)⟩⟩
                  case rest =>
                    clear HC15
                    try clear c1
                    try clear p1
                    try clear q1
                    try clear hx1
                    try clear p2
                    try clear c3
                    try clear c4
                    try clear p6
                    try clear c7
                    try clear c11
                    try clear c12
                    try clear c12b0
                    try clear c13
                    try clear c13b0
                    try clear c14
                    try clear c14b0
                    try clear p15
                    try clear q15
                    try clear hx15
                    try clear c17
                    try clear c18
                    try clear c18b0
                    try clear c18b1
                    try clear hx152_0
                    try clear p152
                    try clear p2
                    try clear p6
                    try clear q152
                    obtain ⟨kq, x43_14, rfl, HA, HJ14, HB⟩ := hcut
                    cases kq with
                    | zero => exact absurd HA.out (by simp [spec_IsStroke.j2])
                    | succ kj14 =>
                      have H := HA.out
                      clear HA
                      simp only [spec_IsStroke.j2] at H
                      by_cases c20 : x43_14 = true
                      · subst c20
                        have H1 : (some false) = some r := by rw [if_pos rfl] at H; exact H
                        clear H
                        have H := H1
                        clear H1
                        obtain rfl := Option.some.inj H
                        go_wp2
                        go_ret
                        exact ⟨by first | rfl | (simp [errW_none, errW_some] <;> rfl) | (simp [*, errW_none, errW_some] <;> rfl), by repeat (first | (with_reducible first | exact HB.out | apply below_alloc | apply pw_below_drewN | apply below_drew1) | exact HB.out)⟩
                      · replace c20 := Bool.eq_false_iff.mpr c20
                        subst c20
                        have H1 : (if 0 ≤ (rd l3 x27_2) then (if (rd l3 x27_2) < (l1.length : Int) then (if 0 < ((rd_L1 l1 (rd l3 x27_2)).length : Int) then (if x9_2 = (rd (rd_L1 l1 (rd l3 x27_2)) 0) then (if 1 < ((rd_L1 l1 (rd l3 x27_2)).length : Int) then (spec_IsStroke.l0 kj14 l1 (rd (rd_L1 l1 (rd l3 x27_2)) 1) (wrap64 (x10_2 + (shl .i64 1 (rd l3 x27_2)))) l3 (l3.length : Int) (wrap64 (x27_2 + 1))) else (none)) else (if 1 < ((rd_L1 l1 (rd l3 x27_2)).length : Int) then (if x9_2 = (rd (rd_L1 l1 (rd l3 x27_2)) 1) then (spec_IsStroke.l0 kj14 l1 (rd (rd_L1 l1 (rd l3 x27_2)) 0) (wrap64 (x10_2 + (shl .i64 1 (rd l3 x27_2)))) l3 (l3.length : Int) (wrap64 (x27_2 + 1))) else (some false)) else (none))) else (none)) else (none)) else (none)) = some r := by rw [if_neg (show ¬ (false = true) by decide)] at H; exact H
                        clear H
                        have H := H1
                        clear H1
                        by_cases c21 : 0 ≤ (rd l3 x27_2)
                        · rw [if_pos c21] at H
                          have c21b0 := eq_true c21
                          have c21b1 : decide (0 ≤ (rd l3 x27_2)) = true := decide_eq_true c21
                          clear c21
                          obtain ⟨ji22, hji22⟩ : ∃ j_ : Int, (shl .i64 1 (rd l3 x27_2)) = j_ := ⟨_, rfl⟩
                          replace H : (if (rd l3 x27_2) < (l1.length : Int) then (if 0 < ((rd_L1 l1 (rd l3 x27_2)).length : Int) then (if x9_2 = (rd (rd_L1 l1 (rd l3 x27_2)) 0) then (if 1 < ((rd_L1 l1 (rd l3 x27_2)).length : Int) then (spec_IsStroke.l0 kj14 l1 (rd (rd_L1 l1 (rd l3 x27_2)) 1) (wrap64 (x10_2 + (ji22))) l3 (l3.length : Int) (wrap64 (x27_2 + 1))) else (none)) else (if 1 < ((rd_L1 l1 (rd l3 x27_2)).length : Int) then (if x9_2 = (rd (rd_L1 l1 (rd l3 x27_2)) 1) then (spec_IsStroke.l0 kj14 l1 (rd (rd_L1 l1 (rd l3 x27_2)) 0) (wrap64 (x10_2 + (ji22))) l3 (l3.length : Int) (wrap64 (x27_2 + 1))) else (some false)) else (none))) else (none)) else (none)) = some r := by first | (rw [hji22] at H; exact H) | (simp only [hji22] at H ⊢; exact H)
                          have hji22_ : (IntKind.i64.wrap (1 * 2 ^ min (rd l3 x27_2).toNat 64)) = ji22 := hji22
                          have hji22z : (rd l3 x27_2) ≤ 64 → (IntKind.i64.wrap (1 * 2 ^ (rd l3 x27_2).toNat)) = ji22 := shl_small hji22
                          have hji22u : (IntKind.i64.wrap (2 ^ min (rd l3 x27_2).toNat 64)) = ji22 := by have h_ := hji22_; rw [Int.one_mul] at h_; exact h_
                          have hji22v : (rd l3 x27_2) ≤ 64 → (IntKind.i64.wrap (2 ^ (rd l3 x27_2).toNat)) = ji22 := fun hle_ => by have h_ := hji22z hle_; rw [Int.one_mul] at h_; exact h_
                          have hji22y : (wrap64 (1 * 2 ^ min (rd l3 x27_2).toNat 64)) = ji22 := (i64_w _).symm.trans hji22_
                          have hji22x : (rd l3 x27_2) ≤ 64 → (wrap64 (1 * 2 ^ (rd l3 x27_2).toNat)) = ji22 := fun h_ => (i64_w _).symm.trans (hji22z h_)
                          by_cases c23 : (rd l3 x27_2) < (l1.length : Int)
                          · rw [if_pos c23] at H
                            have c23b0 : decide ((rd l3 x27_2) < (l1.length : Int)) = true := decide_eq_true c23
                            clear c23
                            by_cases c24 : 0 < ((rd_L1 l1 (rd l3 x27_2)).length : Int)
                            · rw [if_pos c24] at H
                              have c24b0 : decide (0 < ((rd_L1 l1 (rd l3 x27_2)).length : Int)) = true := decide_eq_true c24
                              have c24b1 : decide (0 < (rd_L1 l1 (rd l3 x27_2)).length) = true := decide_eq_true (by omega)
                              clear c24
                              by_cases c25 : x9_2 = (rd (rd_L1 l1 (rd l3 x27_2)) 0)
                              · rw [if_pos c25] at H
                                have c25b0 : (x9_2 == (rd (rd_L1 l1 (rd l3 x27_2)) 0)) = true := beq_iff_eq.mpr c25
                                have c25b1 : (x9_2 != (rd (rd_L1 l1 (rd l3 x27_2)) 0)) = false := bne_eq_false_iff_eq.mpr c25
                                clear c25
                                by_cases c26 : 1 < ((rd_L1 l1 (rd l3 x27_2)).length : Int)
                                · rw [if_pos c26] at H
                                  have c26b0 : decide (1 < ((rd_L1 l1 (rd l3 x27_2)).length : Int)) = true := decide_eq_true c26
                                  have c26b1 : decide (1 < (rd_L1 l1 (rd l3 x27_2)).length) = true := decide_eq_true (by omega)
                                  clear c26
                                  have H' := Aside0.mk H
                                  clear H
                                  have p154 : 0 ≤ ((rd l3 x27_2) : Int) := of_decide_eq_true (by first | (with_reducible assumption) | assumption)
                                  have q154 : (rd l3 x27_2) < (l1.length : Int) := of_decide_eq_true (by first | (with_reducible assumption) | assumption)
                                  obtain ⟨ad154, A154_0, c154_0, e154, hx154_0, hl154_0, hi154_0⟩ := at_L1 HR1.out (rd l3 x27_2) p154 q154
                                  cases e154
                                  replace hx154_0 := (HB.out.cell (World.block_lt_of_cell? w _ hx154_0)).trans hx154_0
                                  have HR154_0 := Aside0.mk hi154_0
                                  have HC154_0 := Aside0.mk hl154_0
                                  clear hi154_0 hl154_0
                                  replace p154 := eq_true p154
                                  replace q154 := eq_true q154
                                  have p155 : 0 ≤ (0 : Int) := (by omega)
                                  have q155 : 0 < ((rd_L1 l1 (rd l3 x27_2)).length : Int) := of_decide_eq_true (by first | (with_reducible assumption) | assumption)
                                  obtain ⟨ad155, e155, hx155_0⟩ := Kd.at_int HR154_0.out 0 p155 q155
                                  cases e155
                                  have qi155 : (0 < (rd_L1 l1 (rd l3 x27_2)).length) = True := eq_true (by omega)
                                  (try rw [show ((0 : Int)).toNat = 0 from rfl] at hx155_0)
                                  (try rw [Addr.add_zero'] at hx155_0)
                                  replace hx155_0 := (HB.out.cell (World.block_lt_of_cell? w _ hx155_0)).trans hx155_0
                                  replace p155 := eq_true p155
                                  replace q155 := eq_true q155
                                  have p156 : 0 ≤ ((rd l3 x27_2) : Int) := of_decide_eq_true (by first | (with_reducible assumption) | assumption)
                                  have q156 : (rd l3 x27_2) < (l1.length : Int) := of_decide_eq_true (by first | (with_reducible assumption) | assumption)
                                  obtain ⟨ad156, A156_0, c156_0, e156, hx156_0, hl156_0, hi156_0⟩ := at_L1 HR1.out (rd l3 x27_2) p156 q156
                                  obtain rfl : ad154 = ad156 := (by injection e156)
                                  replace hx156_0 := (HB.out.cell (World.block_lt_of_cell? w _ hx156_0)).trans hx156_0
                                  have HR156_0 := Aside0.mk hi156_0
                                  have HC156_0 := Aside0.mk hl156_0
                                  clear hi156_0 hl156_0
                                  replace p156 := eq_true p156
                                  replace q156 := eq_true q156
                                  have ea_ := Option.some.inj (hx154_0.symm.trans hx156_0)
                                  injection ea_ with ea_ en_ ec_
                                  subst ea_
                                  subst ec_
                                  clear en_
                                  have p157 : 0 ≤ (1 : Int) := (by omega)
                                  have q157 : 1 < ((rd_L1 l1 (rd l3 x27_2)).length : Int) := of_decide_eq_true (by first | (with_reducible assumption) | assumption)
                                  obtain ⟨ad157, e157, hx157_0⟩ := Kd.at_int HR156_0.out 1 p157 q157
                                  cases e157
                                  (try simp only [show (1 : Int).toNat = 1 from rfl, Nat.reduceMul, Nat.reduceEqDiff, Go.Addr.add, ↓reduceIte] at hx157_0)
                                  have qi157 : (1 < (rd_L1 l1 (rd l3 x27_2)).length) = True := eq_true (by omega)
                                  (try rw [show ((1 : Int)).toNat = 1 from rfl] at hx157_0)
                                  replace hx157_0 := (HB.out.cell (World.block_lt_of_cell? w _ hx157_0)).trans hx157_0
                                  replace p157 := eq_true p157
                                  replace q157 := eq_true q157
                                  go_wp2
                                  go_roundg kj14
                                  case measure => have := HJ4.out; have := HK2.out; have := HJ14.out; omega
                                  case rel => exact ⟨(rd (rd_L1 l1 (rd l3 x27_2)) 1), (wrap64 (x10_2 + (ji22))), (wrap64 (x27_2 + 1)), (by first | rfl | (simp; done) | (simp [*]; done)), (by first | rfl | (simp; done) | (simp only [← hji22] <;> (first | rfl | simp)) | (simp [*]; done)), (by first | rfl | (simp; done) | (simp [*]; done)), H', ⟨by have := HJ4.out; have := HK2.out; have := HJ14.out; omega⟩, ⟨by repeat (first | (with_reducible first | exact HB.out | apply below_alloc | apply pw_below_drewN | apply below_drew1) | exact HB.out)⟩⟩
                                · rw [if_neg c26] at H
                                  exact absurd H (by simp)
                              · rw [if_neg c25] at H
                                have c25b0 : (x9_2 == (rd (rd_L1 l1 (rd l3 x27_2)) 0)) = false := beq_eq_false_iff_ne.mpr c25
                                have c25b1 : (x9_2 != (rd (rd_L1 l1 (rd l3 x27_2)) 0)) = true := bne_iff_ne.mpr c25
                                by_cases c27 : 1 < ((rd_L1 l1 (rd l3 x27_2)).length : Int)
                                · rw [if_pos c27] at H
                                  have c27b0 : decide (1 < ((rd_L1 l1 (rd l3 x27_2)).length : Int)) = true := decide_eq_true c27
                                  have c27b1 : decide (1 < (rd_L1 l1 (rd l3 x27_2)).length) = true := decide_eq_true (by omega)
                                  clear c27
                                  by_cases c28 : x9_2 = (rd (rd_L1 l1 (rd l3 x27_2)) 1)
                                  · rw [if_pos c28] at H
                                    have c28b0 : (x9_2 == (rd (rd_L1 l1 (rd l3 x27_2)) 1)) = true := beq_iff_eq.mpr c28
                                    have c28b1 : (x9_2 != (rd (rd_L1 l1 (rd l3 x27_2)) 1)) = false := bne_eq_false_iff_eq.mpr c28
                                    clear c28
                                    have H' := Aside0.mk H
                                    clear H
                                    have p154 : 0 ≤ ((rd l3 x27_2) : Int) := of_decide_eq_true (by first | (with_reducible assumption) | assumption)
                                    have q154 : (rd l3 x27_2) < (l1.length : Int) := of_decide_eq_true (by first | (with_reducible assumption) | assumption)
                                    obtain ⟨ad154, A154_0, c154_0, e154, hx154_0, hl154_0, hi154_0⟩ := at_L1 HR1.out (rd l3 x27_2) p154 q154
                                    cases e154
                                    replace hx154_0 := (HB.out.cell (World.block_lt_of_cell? w _ hx154_0)).trans hx154_0
                                    have HR154_0 := Aside0.mk hi154_0
                                    have HC154_0 := Aside0.mk hl154_0
                                    clear hi154_0 hl154_0
                                    replace p154 := eq_true p154
                                    replace q154 := eq_true q154
                                    have p155 : 0 ≤ (0 : Int) := (by omega)
                                    have q155 : 0 < ((rd_L1 l1 (rd l3 x27_2)).length : Int) := of_decide_eq_true (by first | (with_reducible assumption) | assumption)
                                    obtain ⟨ad155, e155, hx155_0⟩ := Kd.at_int HR154_0.out 0 p155 q155
                                    cases e155
                                    have qi155 : (0 < (rd_L1 l1 (rd l3 x27_2)).length) = True := eq_true (by omega)
                                    (try rw [show ((0 : Int)).toNat = 0 from rfl] at hx155_0)
                                    (try rw [Addr.add_zero'] at hx155_0)
                                    replace hx155_0 := (HB.out.cell (World.block_lt_of_cell? w _ hx155_0)).trans hx155_0
                                    replace p155 := eq_true p155
                                    replace q155 := eq_true q155
                                    have p158 : 0 ≤ ((rd l3 x27_2) : Int) := of_decide_eq_true (by first | (with_reducible assumption) | assumption)
                                    have q158 : (rd l3 x27_2) < (l1.length : Int) := of_decide_eq_true (by first | (with_reducible assumption) | assumption)
                                    obtain ⟨ad158, A158_0, c158_0, e158, hx158_0, hl158_0, hi158_0⟩ := at_L1 HR1.out (rd l3 x27_2) p158 q158
                                    obtain rfl : ad154 = ad158 := (by injection e158)
                                    replace hx158_0 := (HB.out.cell (World.block_lt_of_cell? w _ hx158_0)).trans hx158_0
                                    have HR158_0 := Aside0.mk hi158_0
                                    have HC158_0 := Aside0.mk hl158_0
                                    clear hi158_0 hl158_0
                                    replace p158 := eq_true p158
                                    replace q158 := eq_true q158
                                    have ea_ := Option.some.inj (hx154_0.symm.trans hx158_0)
                                    injection ea_ with ea_ en_ ec_
                                    subst ea_
                                    subst ec_
                                    clear en_
                                    have p159 : 0 ≤ (1 : Int) := (by omega)
                                    have q159 : 1 < ((rd_L1 l1 (rd l3 x27_2)).length : Int) := of_decide_eq_true (by first | (with_reducible assumption) | assumption)
                                    obtain ⟨ad159, e159, hx159_0⟩ := Kd.at_int HR158_0.out 1 p159 q159
                                    cases e159
                                    (try simp only [show (1 : Int).toNat = 1 from rfl, Nat.reduceMul, Nat.reduceEqDiff, Go.Addr.add, ↓reduceIte] at hx159_0)
                                    have qi159 : (1 < (rd_L1 l1 (rd l3 x27_2)).length) = True := eq_true (by omega)
                                    (try rw [show ((1 : Int)).toNat = 1 from rfl] at hx159_0)
                                    replace hx159_0 := (HB.out.cell (World.block_lt_of_cell? w _ hx159_0)).trans hx159_0
                                    replace p159 := eq_true p159
                                    replace q159 := eq_true q159
                                    have p160 : 0 ≤ ((rd l3 x27_2) : Int) := of_decide_eq_true (by first | (with_reducible assumption) | assumption)
                                    have q160 : (rd l3 x27_2) < (l1.length : Int) := of_decide_eq_true (by first | (with_reducible assumption) | assumption)
                                    obtain ⟨ad160, A160_0, c160_0, e160, hx160_0, hl160_0, hi160_0⟩ := at_L1 HR1.out (rd l3 x27_2) p160 q160
                                    obtain rfl : ad154 = ad160 := (by injection e160)
                                    replace hx160_0 := (HB.out.cell (World.block_lt_of_cell? w _ hx160_0)).trans hx160_0
                                    have HR160_0 := Aside0.mk hi160_0
                                    have HC160_0 := Aside0.mk hl160_0
                                    clear hi160_0 hl160_0
                                    replace p160 := eq_true p160
                                    replace q160 := eq_true q160
                                    have ea_ := Option.some.inj (hx154_0.symm.trans hx160_0)
                                    injection ea_ with ea_ en_ ec_
                                    subst ea_
                                    subst ec_
                                    clear en_
                                    have p161 : 0 ≤ (0 : Int) := (by omega)
                                    have q161 : 0 < ((rd_L1 l1 (rd l3 x27_2)).length : Int) := of_decide_eq_true (by first | (with_reducible assumption) | assumption)
                                    obtain ⟨ad161, e161, hx161_0⟩ := Kd.at_int HR160_0.out 0 p161 q161
                                    cases e161
                                    have qi161 : (0 < (rd_L1 l1 (rd l3 x27_2)).length) = True := eq_true (by omega)
                                    (try rw [show ((0 : Int)).toNat = 0 from rfl] at hx161_0)
                                    (try rw [Addr.add_zero'] at hx161_0)
                                    replace hx161_0 := (HB.out.cell (World.block_lt_of_cell? w _ hx161_0)).trans hx161_0
                                    replace p161 := eq_true p161
                                    replace q161 := eq_true q161
                                    go_wp2
                                    go_roundg kj14
                                    case measure => have := HJ4.out; have := HK2.out; have := HJ14.out; omega
                                    case rel => exact ⟨(rd (rd_L1 l1 (rd l3 x27_2)) 0), (wrap64 (x10_2 + (ji22))), (wrap64 (x27_2 + 1)), (by first | rfl | (simp; done) | (simp [*]; done)), (by first | rfl | (simp; done) | (simp only [← hji22] <;> (first | rfl | simp)) | (simp [*]; done)), (by first | rfl | (simp; done) | (simp [*]; done)), H', ⟨by have := HJ4.out; have := HK2.out; have := HJ14.out; omega⟩, ⟨by repeat (first | (with_reducible first | exact HB.out | apply below_alloc | apply pw_below_drewN | apply below_drew1) | exact HB.out)⟩⟩
                                  · rw [if_neg c28] at H
                                    have c28b0 : (x9_2 == (rd (rd_L1 l1 (rd l3 x27_2)) 1)) = false := beq_eq_false_iff_ne.mpr c28
                                    have c28b1 : (x9_2 != (rd (rd_L1 l1 (rd l3 x27_2)) 1)) = true := bne_iff_ne.mpr c28
                                    obtain rfl := Option.some.inj H
                                    have p154 : 0 ≤ ((rd l3 x27_2) : Int) := of_decide_eq_true (by first | (with_reducible assumption) | assumption)
                                    have q154 : (rd l3 x27_2) < (l1.length : Int) := of_decide_eq_true (by first | (with_reducible assumption) | assumption)
                                    obtain ⟨ad154, A154_0, c154_0, e154, hx154_0, hl154_0, hi154_0⟩ := at_L1 HR1.out (rd l3 x27_2) p154 q154
                                    cases e154
                                    replace hx154_0 := (HB.out.cell (World.block_lt_of_cell? w _ hx154_0)).trans hx154_0
                                    have HR154_0 := Aside0.mk hi154_0
                                    have HC154_0 := Aside0.mk hl154_0
                                    clear hi154_0 hl154_0
                                    replace p154 := eq_true p154
                                    replace q154 := eq_true q154
                                    have p155 : 0 ≤ (0 : Int) := (by omega)
                                    have q155 : 0 < ((rd_L1 l1 (rd l3 x27_2)).length : Int) := of_decide_eq_true (by first | (with_reducible assumption) | assumption)
                                    obtain ⟨ad155, e155, hx155_0⟩ := Kd.at_int HR154_0.out 0 p155 q155
                                    cases e155
                                    have qi155 : (0 < (rd_L1 l1 (rd l3 x27_2)).length) = True := eq_true (by omega)
                                    (try rw [show ((0 : Int)).toNat = 0 from rfl] at hx155_0)
                                    (try rw [Addr.add_zero'] at hx155_0)
                                    replace hx155_0 := (HB.out.cell (World.block_lt_of_cell? w _ hx155_0)).trans hx155_0
                                    replace p155 := eq_true p155
                                    replace q155 := eq_true q155
                                    have p158 : 0 ≤ ((rd l3 x27_2) : Int) := of_decide_eq_true (by first | (with_reducible assumption) | assumption)
                                    have q158 : (rd l3 x27_2) < (l1.length : Int) := of_decide_eq_true (by first | (with_reducible assumption) | assumption)
                                    obtain ⟨ad158, A158_0, c158_0, e158, hx158_0, hl158_0, hi158_0⟩ := at_L1 HR1.out (rd l3 x27_2) p158 q158
                                    obtain rfl : ad154 = ad158 := (by injection e158)
                                    replace hx158_0 := (HB.out.cell (World.block_lt_of_cell? w _ hx158_0)).trans hx158_0
                                    have HR158_0 := Aside0.mk hi158_0
                                    have HC158_0 := Aside0.mk hl158_0
                                    clear hi158_0 hl158_0
                                    replace p158 := eq_true p158
                                    replace q158 := eq_true q158
                                    have ea_ := Option.some.inj (hx154_0.symm.trans hx158_0)
                                    injection ea_ with ea_ en_ ec_
                                    subst ea_
                                    subst ec_
                                    clear en_
                                    have p159 : 0 ≤ (1 : Int) := (by omega)
                                    have q159 : 1 < ((rd_L1 l1 (rd l3 x27_2)).length : Int) := of_decide_eq_true (by first | (with_reducible assumption) | assumption)
                                    obtain ⟨ad159, e159, hx159_0⟩ := Kd.at_int HR158_0.out 1 p159 q159
                                    cases e159
                                    (try simp only [show (1 : Int).toNat = 1 from rfl, Nat.reduceMul, Nat.reduceEqDiff, Go.Addr.add, ↓reduceIte] at hx159_0)
                                    have qi159 : (1 < (rd_L1 l1 (rd l3 x27_2)).length) = True := eq_true (by omega)
                                    (try rw [show ((1 : Int)).toNat = 1 from rfl] at hx159_0)
                                    replace hx159_0 := (HB.out.cell (World.block_lt_of_cell? w _ hx159_0)).trans hx159_0
                                    replace p159 := eq_true p159
                                    replace q159 := eq_true q159
                                    go_wp2
                                    go_ret
                                    exact ⟨by first | rfl | (simp [errW_none, errW_some] <;> rfl) | (simp only [← hji22]; first | rfl | (simp [errW_none, errW_some] <;> rfl)) | (simp [*, errW_none, errW_some] <;> rfl), by repeat (first | (with_reducible first | exact HB.out | apply below_alloc | apply pw_below_drewN | apply below_drew1) | exact HB.out)⟩
                                · rw [if_neg c27] at H
                                  exact absurd H (by simp)
                            · rw [if_neg c24] at H
                              exact absurd H (by simp)
                          · rw [if_neg c23] at H
                            exact absurd H (by simp)
                        · rw [if_neg c21] at H
                          exact absurd H (by simp)
                · rw [if_neg c14] at H
                  exact absurd H (by simp)
              · rw [if_neg c13] at H
                exact absurd H (by simp)
            · rw [if_neg c12] at H
              have c12b0 : decide (x27_2 < (l3.length : Int)) = false := decide_eq_false c12
              clear c12
              obtain rfl := Option.some.inj H
              go_wp2
              go_ret
              exact ⟨by first | rfl | (simp [errW_none, errW_some] <;> rfl) | (simp [*, errW_none, errW_some] <;> rfl), by repeat (first | (with_reducible first | exact HB.out | apply below_alloc | apply pw_below_drewN | apply below_drew1) | exact HB.out)⟩

end Go.Proofs.Ytcdajmbnijmdfaa.PA
