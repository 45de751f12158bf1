-- Written for this claim by a program of this session's (ownprint.py), by way of the kit's print and hand-proved texts. Lean checks it.
import Derived.Test.YtebjpafnfmmjeaaPAx0
import Derived.Test.YtebjpafnfmmjeaaPAx2
namespace Go.Proofs.Ytebjpafnfmmjeaa.PA
open Go.RowKit Go.Proofs.YtebjpafnfmmjeaaW.PrintWords Go.Proofs.YtebjpafnfmmjeaaW.PrintLast Go.Proofs.YtebjpafnfmmjeaaW.PrintMore
attribute [local go_sem] max2_int min2_int max_two min_two max_three min_three max_four min_four   -- for this text's walks alone
set_option linter.unusedVariables false
set_option linter.unusedSimpArgs false

/-! ### spec_SortStore: function 31 -/
mutual
def spec_SortStore.l0 : Nat → List (List Int) → List (List Int) → Int → Int → Option ((List (List Int)))
  | 0, _, _, _, _ => none
  | k + 1, x3, x12, x13, x14 => if x14 < x13 then (if 0 ≤ x14 then (if x14 < (x12.length : Int) then (spec_SortStore.l1 k x3 (rd_L1 x12 x14) (x3.length : Int) x12 x13 x14) else (none)) else (none)) else (some x3)
def spec_SortStore.l1 : Nat → List (List Int) → List Int → Int → List (List Int) → Int → Int → Option ((List (List Int)))
  | 0, _, _, _, _, _, _ => none
  | k + 1, x3, x5, x6, x12, x13, x14 => if x6 > 0 then (if 0 ≤ (wrap64 (x6 - 1)) then (if (wrap64 (x6 - 1)) < (x3.length : Int) then (if 0 < ((rd_L1 x3 (wrap64 (x6 - 1))).length : Int) then (if 1 < ((rd_L1 x3 (wrap64 (x6 - 1))).length : Int) then (if 0 < (x5.length : Int) then (if 1 < (x5.length : Int) then (if (wrap64 ((rd (rd_L1 x3 (wrap64 (x6 - 1))) 0) * (rd (rd_L1 x3 (wrap64 (x6 - 1))) 1))) > (wrap64 ((rd x5 0) * (rd x5 1))) then (spec_SortStore.j2 k x3 x5 x6 x12 x13 x14 true) else (if (wrap64 ((rd (rd_L1 x3 (wrap64 (x6 - 1))) 0) * (rd (rd_L1 x3 (wrap64 (x6 - 1))) 1))) = (wrap64 ((rd x5 0) * (rd x5 1))) then (spec_SortStore.j2 k x3 x5 x6 x12 x13 x14 (decide ((rd (rd_L1 x3 (wrap64 (x6 - 1))) 0) > (rd x5 0)))) else (spec_SortStore.j2 k x3 x5 x6 x12 x13 x14 false))) else (none)) else (none)) else (none)) else (none)) else (none)) else (none)) else (spec_SortStore.j2 k x3 x5 x6 x12 x13 x14 false)
def spec_SortStore.j2 : Nat → List (List Int) → List Int → Int → List (List Int) → Int → Int → Bool → Option ((List (List Int)))
  | 0, _, _, _, _, _, _, _ => none
  | k + 1, x3, x5, x6, x12, x13, x14, x84 => if x84 = true then (spec_SortStore.l1 k x3 x5 (wrap64 (x6 - 1)) x12 x13 x14) else ((some (([] : List (List Int)) : List (List Int))).bind fun y425 => (if 0 ≤ x6 then (if x6 ≤ (x3.length : Int) then ((some (x3.take (x6 : Int).toNat : List (List Int))).bind fun y428 => (if y425.length + y428.length < 5864062014805 then ((some (y425 ++ y428 : List (List Int))).bind fun y433 => (if 0 < (x5.length : Int) then (if 1 < (x5.length : Int) then (if y433.length < 5864062014805 then ((some (y433 ++ [(([rd x5 0, rd x5 1] : List Int))] : List (List Int))).bind fun y441 => ((some (x3.drop (x6 : Int).toNat : List (List Int))).bind fun y444 => (if y441.length + y444.length < 5864062014805 then (spec_SortStore.l0 k (y441 ++ y444) x12 x13 (wrap64 (x14 + 1))) else (none)))) else (none)) else (none)) else (none))) else (none))) else (none)) else (none)))
end
def spec_SortStore.f (k : Nat) (l0 : List (List Int)) : Option ((List (List Int))) := (spec_StoreOk.f k l0).bind fun t405 => (if t405 = true then (spec_SortStore.l0 k (([] : List (List Int))) l0 (l0.length : Int) 0) else (some ([] : List (List Int))))
theorem spec_SortStore.mono_l : ∀ k, (∀ y0 y1 y2 y3, LeO (spec_SortStore.l0 k y0 y1 y2 y3) (spec_SortStore.l0 (k + 1) y0 y1 y2 y3)) ∧ (∀ y0 y1 y2 y3 y4 y5, LeO (spec_SortStore.l1 k y0 y1 y2 y3 y4 y5) (spec_SortStore.l1 (k + 1) y0 y1 y2 y3 y4 y5)) ∧ (∀ y0 y1 y2 y3 y4 y5 y6, LeO (spec_SortStore.j2 k y0 y1 y2 y3 y4 y5 y6) (spec_SortStore.j2 (k + 1) y0 y1 y2 y3 y4 y5 y6))
  | 0 => ⟨fun _ _ _ _ r h => by simp [spec_SortStore.l0] at h, fun _ _ _ _ _ _ r h => by simp [spec_SortStore.l1] at h, fun _ _ _ _ _ _ _ r h => by simp [spec_SortStore.j2] at h⟩
  | k + 1 => by
    obtain ⟨ih0, ih1, ih2⟩ := spec_SortStore.mono_l k
    refine ⟨?_, ?_, ?_⟩
    · intro y0 y1 y2 y3
      unfold spec_SortStore.l0
      repeat' first
      | (with_reducible exact ih0 _ _ _ _)
      | (with_reducible exact ih1 _ _ _ _ _ _)
      | (with_reducible exact ih2 _ _ _ _ _ _ _)
      | (with_reducible exact spec_StoreOk.mono _ _)
      | (with_reducible exact LeO.refl _)
      | (with_reducible exact LeO.none _)
      | (with_reducible refine LeO.ite ?_ ?_)
      | (with_reducible refine LeO.bind ?_ (fun _ => ?_))
      | exact ih0 _ _ _ _
      | exact ih1 _ _ _ _ _ _
      | exact ih2 _ _ _ _ _ _ _
      | exact spec_StoreOk.mono _ _
      | exact LeO.none _
      | refine LeO.ite ?_ ?_
      | refine LeO.bind ?_ (fun _ => ?_)
    · intro y0 y1 y2 y3 y4 y5
      unfold spec_SortStore.l1
      repeat' first
      | (with_reducible exact ih0 _ _ _ _)
      | (with_reducible exact ih1 _ _ _ _ _ _)
      | (with_reducible exact ih2 _ _ _ _ _ _ _)
      | (with_reducible exact spec_StoreOk.mono _ _)
      | (with_reducible exact LeO.refl _)
      | (with_reducible exact LeO.none _)
      | (with_reducible refine LeO.ite ?_ ?_)
      | (with_reducible refine LeO.bind ?_ (fun _ => ?_))
      | exact ih0 _ _ _ _
      | exact ih1 _ _ _ _ _ _
      | exact ih2 _ _ _ _ _ _ _
      | exact spec_StoreOk.mono _ _
      | exact LeO.none _
      | refine LeO.ite ?_ ?_
      | refine LeO.bind ?_ (fun _ => ?_)
    · intro y0 y1 y2 y3 y4 y5 y6
      unfold spec_SortStore.j2
      repeat' first
      | (with_reducible exact ih0 _ _ _ _)
      | (with_reducible exact ih1 _ _ _ _ _ _)
      | (with_reducible exact ih2 _ _ _ _ _ _ _)
      | (with_reducible exact spec_StoreOk.mono _ _)
      | (with_reducible exact LeO.refl _)
      | (with_reducible exact LeO.none _)
      | (with_reducible refine LeO.ite ?_ ?_)
      | (with_reducible refine LeO.bind ?_ (fun _ => ?_))
      | exact ih0 _ _ _ _
      | exact ih1 _ _ _ _ _ _
      | exact ih2 _ _ _ _ _ _ _
      | exact spec_StoreOk.mono _ _
      | exact LeO.none _
      | refine LeO.ite ?_ ?_
      | refine LeO.bind ?_ (fun _ => ?_)
theorem spec_SortStore.mono : ∀ a0 k, LeO (spec_SortStore.f k a0) (spec_SortStore.f (k + 1) a0) := by
  intro a0 k
  obtain ⟨ih0, ih1, ih2⟩ := spec_SortStore.mono_l k
  unfold spec_SortStore.f
  repeat' first
      | (with_reducible exact ih0 _ _ _ _)
      | (with_reducible exact ih1 _ _ _ _ _ _)
      | (with_reducible exact ih2 _ _ _ _ _ _ _)
      | (with_reducible exact spec_StoreOk.mono _ _)
      | (with_reducible exact LeO.refl _)
      | (with_reducible exact LeO.none _)
      | (with_reducible refine LeO.ite ?_ ?_)
      | (with_reducible refine LeO.bind ?_ (fun _ => ?_))
      | exact ih0 _ _ _ _
      | exact ih1 _ _ _ _ _ _
      | exact ih2 _ _ _ _ _ _ _
      | exact spec_StoreOk.mono _ _
      | exact LeO.none _
      | refine LeO.ite ?_ ?_
      | refine LeO.bind ?_ (fun _ => ?_)
def spec_SortStore.T8 : Bool × List (List Nat × List Nat) := (true, [([], []), ([0], [0]), ([1], [1]), ([2], [2]), ([2], [2]), ([4, 2], [2, 4]), ([3, 5, 2], [2, 3, 5]), ([6, 2], [2, 6]), ([7, 2], [2, 7]), ([8, 2], [2, 8]), ([2], [2]), ([2], [2]), ([11, 2], [2, 11]), ([10, 12, 2], [2, 10, 12]), ([13, 2], [2, 13]), ([14, 2], [2, 14]), ([15, 2], [2, 15]), ([9, 16, 2], [2, 9, 16]), ([2], [2]), ([18, 2], [2, 18]), ([19, 2], [2, 19]), ([2], [2]), ([21, 2], [2, 21]), ([22, 2], [2, 22]), ([20, 23, 2], [2, 20, 23]), ([17, 24, 2], [2, 17, 24]), ([25, 2, 2], [2, 25]), ([26], [26]), ([26], [26]), ([28, 26], [26, 28]), ([27, 29, 26], [26, 27, 29]), ([30, 26], [26, 30]), ([31, 26], [26, 31]), ([32, 26], [26, 32]), ([26], [26]), ([26], [26]), ([35, 26], [26, 35]), ([34, 36, 26], [26, 34, 36]), ([37, 26], [26, 37]), ([38, 26], [26, 38]), ([39, 26], [26, 39]), ([33, 40, 26], [26, 33, 40]), ([26], [26]), ([42, 26], [26, 42]), ([43, 26], [26, 43]), ([26], [26]), ([45, 26], [26, 45]), ([46, 26], [26, 46]), ([44, 47, 26], [26, 44, 47]), ([41, 48, 26], [26, 41, 48]), ([49, 26, 26], [26, 49]), ([50], [50]), ([50], [50]), ([52, 50], [50, 52]), ([51, 53, 50], [50, 51, 53]), ([54, 50], [50, 54]), ([55, 50], [50, 55]), ([56, 50], [50, 56]), ([50], [50]), ([58, 50], [50, 58]), ([59, 50], [50, 59]), ([57, 60, 50], [50, 57, 60]), ([50, 61, 26], [26, 50, 61]), ([26, 62, 2], [2, 26, 62]), ([2, 63], [2, 63])])
def spec_SortStore.B8 : List Nat := [0, 1, 3, 7, 7, 23, 63, 127, 255, 511, 7, 7, 2055, 7175, 15367, 31751, 64519, 131071, 7, 262151, 786439, 7, 2097159, 6291463, 16515079, 33554431, 67108863, 134217727, 134217727, 402653183, 1073741823, 2147483647, 4294967295, 8589934591, 134217727, 134217727, 34493956095, 120393302015, 257832255487, 532710162431, 1082465976319, 2199023255551, 134217727, 4398180728831, 13194273751039, 134217727, 35184506306559, 105553250484223, 277077064417279, 562949953421311, 1125899906842623, 2251799813685247, 2251799813685247, 6755399441055743, 18014398509481983, 36028797018963967, 72057594037927935, 144115188075855871, 2251799813685247, 290482175965396991, 866942928268820479, 2305843009213693951, 4611686018427387903, 9223372036854775807, 18446744073709551615]
theorem spec_SortStore.tab8 : rtab .any (opsOf Try.f31 8) = spec_SortStore.T8 := by kernel_rfl
theorem spec_SortStore.bits8 : waitsOk spec_SortStore.T8.2 spec_SortStore.B8 = true := by kernel_rfl
def spec_SortStore.T11 : Bool × List (List Nat × List Nat) := (true, [([], []), ([], []), ([1], [1]), ([2], [2]), ([], []), ([4], [4]), ([5], [5]), ([3, 6], [3, 6]), ([7], [7]), ([0, 8], [0, 8]), ([9, 9, 0, 1, 2, 3, 4, 5, 6, 7, 8, 9], [0, 9])])
def spec_SortStore.B11 : List Nat := [0, 0, 2, 6, 0, 16, 48, 126, 254, 511, 1023]
theorem spec_SortStore.tab11 : rtab .any (opsOf Try.f31 11) = spec_SortStore.T11 := by kernel_rfl
theorem spec_SortStore.bits11 : waitsOk spec_SortStore.T11.2 spec_SortStore.B11 = true := by kernel_rfl
set_option maxHeartbeats 8000000 in
set_option maxRecDepth 100000 in
theorem spec_SortStore.calls (k : Nat) (A0 : Option Addr) (c0 : Nat) (l0 : List (List Int)) (r : List (List Int)) (w : World) (hr0 : Kd.C (Kd.slice 3 (Kd.int .i64)) w A0 l0.length l0) (hc0 : l0.length ≤ c0) (h : spec_SortStore.f k l0 = some r) :
    Calls Try.prog 31 #[.slice A0 l0.length c0] w fun e w' => ∃ v0_ : Value, e = .returned (v0_) ∧ Kd.N (Kd.slice 3 (Kd.int .i64)) 40 w' w.heap.size (fun k_ => (w.heap.size ≤ k_)) v0_ r ∧ Below w.heap.size w w' := by
  have HR0 := Aside0.mk hr0
  have HC0 := Aside0.mk hc0
  clear hr0 hc0
  have HB := Aside0.mk (Below.refl w.heap.size w)
  have H : ((spec_StoreOk.f k l0).bind fun t405 => (if t405 = true then (spec_SortStore.l0 k (([] : List (List Int))) l0 (l0.length : Int) 0) else (some ([] : List (List Int))))) = some r := h
  clear h
  replace H := Option.bind_eq_some_iff.mp H
  obtain ⟨t405, A20, H⟩ := H
  replace H : (if t405 = true then (spec_SortStore.l0 k (([] : List (List Int))) l0 (l0.length : Int) 0) else (some ([] : List (List Int)))) = some r := H
  have A2 := Aside0.mk A20
  clear A20
  by_cases c3 : t405 = true
  · subst c3
    have H1 : (spec_SortStore.l0 k (([] : List (List Int))) l0 (l0.length : Int) 0) = some r := by rw [if_pos rfl] at H; exact H
    clear H
    have H := H1
    clear H1
    obtain ⟨y406, hy406⟩ : ∃ y_ : List (List Int), y_ = (([] : List (List Int))) := ⟨_, rfl⟩
    replace H : (spec_SortStore.l0 k y406 l0 (l0.length : Int) 0) = some r := by first | (rw [hy406]; with_reducible exact H) | (have H2_ := (Option.bind_some _ _).symm.trans H; rw [hy406]; with_reducible exact H2_) | (have H2_ := (Option.bind_some _ _).symm.trans H; with_reducible exact H2_) | with_reducible exact H | (rw [hy406]; exact H) | exact H
    have Ny406 := Aside0.mk hy406
    clear hy406
    have H' := Aside0.mk H
    clear H
    go_enter Try.func31, Try.ntmps31
    go_wp2_with (first | ((with_reducible refine gate_callee (f := 13) rfl ?_); refine goesL_ (some 9) rfl rfl Try.func13 (by kernel_rfl) rfl #[.slice A0 l0.length c0] rfl (by (try simp only [List.map_toArray, List.map_cons, List.map_nil]); first | done | rfl | (simp only [List.length_drop, List.length_take]; rfl)) ?_; (with_reducible refine (spec_StoreOk.calls k _ _ l0 true _ ?side1 ?side2 A2.out).mono ?_); (case side1 => repeat (first | exact HR0.out | (with_reducible refine Kd.C_alloc ?_ _) | (with_reducible refine Kd.C_drewN ?_ _) | (with_reducible refine Kd.C_drew ?_))); (case side2 => exact HC0.out); rintro e w' ⟨rfl, ⟨nd, rfl⟩⟩; refine ⟨_, rfl, ?_⟩) | ((with_reducible refine gate_dst (N := 11) rfl ?_); refine Kd.N_lit (Kd.slice 3 (Kd.int .i64)) _ 40 ?hg (N' := 11) ?hd (xs := ([] : List (List Int))) (inner := []) (ok := (fun k_ => (w.heap.size ≤ k_))) (okp := (fun k_ => (w.heap.size ≤ k_))) ?hr ?hp (fun _ hk => hk) ((show ∀ k_, w.heap.size ≤ k_ → (fun k_ => (w.heap.size ≤ k_)) k_ from fun k_ hk => (Nat.le_trans (below_size (by repeat (first | (with_reducible first | exact HB.out | apply below_alloc | apply pw_below_drewN | apply below_drew1) | exact HB.out))) hk)) _ (Nat.le_refl _)) (Below.refl _ _) (Nat.le_refl _) (by simp) ?_; (case hd => rfl); (case hg => rfl); (case hr => first | (go_simp; done) | (go_simp; rfl)); (case hp => exact (Reps.none _ _)); intro v407 w4 ho5 hb hg_ hnew_; clear hg_ hnew_; (first | rw [← Ny406.out] at ho5 | (simp only [Int.reduceToNat] at ho5; rw [← Ny406.out] at ho5)); have n0_ := Aside0.mk (Kd.N_lower ho5 (below_size (by repeat (first | (with_reducible first | exact HB.out | apply below_alloc | apply pw_below_drewN | apply below_drew1) | exact HB.out)))); have n1_ := Aside0.mk (below_step (by repeat (first | (with_reducible first | exact HB.out | apply below_alloc | apply pw_below_drewN | apply below_drew1) | exact HB.out)) hb); clear HB; have HO408 := n0_; have HB := n1_; clear n0_ n1_; clear hb ho5))
    go_loopg [3, 14] k (fun kq v3 v14 w' => ∃ (x3_1 : List (List Int)) (x14_1 : Int), v14 = .int .i64 x14_1 ∧ Aside0 (spec_SortStore.l0 kq x3_1 l0 (l0.length : Int) x14_1 = some r) ∧ Aside0 (kq ≤ k) ∧ Aside0 (Kd.N (Kd.slice 3 (Kd.int .i64)) 40 w' w.heap.size (fun k_ => (w.heap.size ≤ k_)) v3 x3_1) ∧ Aside0 (Below w.heap.size w w'))
    case atStart => exact ⟨(y406), (0), (by first | rfl | (simp; done) | (simp [*]; done)), H', ⟨Nat.le_refl _⟩, ⟨by (with_reducible repeat (first | apply Kd.N_alloc | apply Kd.N_drewN | apply Kd.N_drew)); exact HO408.out⟩, ⟨by repeat (first | (with_reducible first | exact HB.out | apply below_alloc | apply pw_below_drewN | apply below_drew1) | exact HB.out)⟩⟩
    case round =>
      clear H'
      try clear c1
      try clear p2
      try clear c3
      obtain ⟨x3_1, x14_1, rfl, HA, HK1, HO_3, HB⟩ := hrel
      cases gk with
      | zero => exact absurd HA.out (by simp [spec_SortStore.l0])
      | succ k1 =>
        have H := HA.out
        clear HA
        simp only [spec_SortStore.l0] at H
        by_cases c6 : x14_1 < (l0.length : Int)
        · rw [if_pos c6] at H
          have c6b0 : decide (x14_1 < (l0.length : Int)) = true := decide_eq_true c6
          clear c6
          by_cases c7 : 0 ≤ x14_1
          · rw [if_pos c7] at H
            have c7b0 : decide (0 ≤ x14_1) = true := decide_eq_true c7
            clear c7
            by_cases c8 : x14_1 < (l0.length : Int)
            · rw [if_pos c8] at H
              have c8b0 : decide (x14_1 < (l0.length : Int)) = true := decide_eq_true c8
              clear c8
              have H' := Aside0.mk H
              clear H
              have p409 : 0 ≤ (x14_1 : Int) := of_decide_eq_true (by first | (with_reducible assumption) | assumption)
              have q409 : x14_1 < (l0.length : Int) := of_decide_eq_true (by first | (with_reducible assumption) | assumption)
              obtain ⟨ad409, A409_0, c409_0, e409, hx409_0, hl409_0, hi409_0⟩ := at_L1 HR0.out x14_1 p409 q409
              cases e409
              replace hx409_0 := (HB.out.cell (World.block_lt_of_cell? w _ hx409_0)).trans hx409_0
              have HR409_0 := Aside0.mk hi409_0
              have HC409_0 := Aside0.mk hl409_0
              clear hi409_0 hl409_0
              replace p409 := eq_true p409
              replace q409 := eq_true q409
              obtain ⟨Ao9, co9, eo9⟩ := Kd.N_slice HO_3.out
              subst eo9
              go_wp2
              go_loopg [6] k1 (fun kq v6 w' => ∃ (x6_2 : Int), v6 = .int .i64 x6_2 ∧ Aside0 (spec_SortStore.l1 kq x3_1 (rd_L1 l0 x14_1) x6_2 l0 (l0.length : Int) x14_1 = some r) ∧ Aside0 (kq ≤ k1) ∧ Aside0 (Kd.N (Kd.slice 3 (Kd.int .i64)) 40 w' w.heap.size (fun k_ => (w.heap.size ≤ k_)) (.slice Ao9 x3_1.length co9) x3_1) ∧ Aside0 (Below w.heap.size w w'))
              case atStart => exact ⟨((x3_1.length : Int)), (by first | rfl | (simp; done) | (simp [*]; done)), H', ⟨Nat.le_refl _⟩, ⟨by (with_reducible repeat (first | apply Kd.N_alloc | apply Kd.N_drewN | apply Kd.N_drew)); exact HO_3.out⟩, ⟨by repeat (first | (with_reducible first | exact HB.out | apply below_alloc | apply pw_below_drewN | apply below_drew1) | exact HB.out)⟩⟩
              case round =>
                clear H'
                try clear c1
                try clear p2
                try clear c3
                try clear c4
                try clear p4
                try clear q4
                try clear hx4
                try clear c6
                try clear c6b0
                try clear c7
                try clear c7b0
                try clear c8
                try clear c8b0
                try clear hx409_0
                try clear p2
                try clear p409
                try clear q409
                obtain ⟨x6_2, rfl, HA, HK2, HO_3, HB⟩ := hrel
                cases gk with
                | zero => exact absurd HA.out (by simp [spec_SortStore.l1])
                | succ k2 =>
                  have H := HA.out
                  clear HA
                  simp only [spec_SortStore.l1] at H
                  have HC10 := Aside0.mk H
                  clear H
                  go_upto_region 8 with (fail)
                  go_cut [84] (fun v84 wc => ∃ (kq : Nat) (x84_9 : Bool), v84 = .bool x84_9 ∧ Aside0 (spec_SortStore.j2 kq x3_1 (rd_L1 l0 x14_1) x6_2 l0 (l0.length : Int) x14_1 x84_9 = some r) ∧ Aside0 (kq ≤ k2) ∧ Aside0 (Kd.N (Kd.slice 3 (Kd.int .i64)) 40 wc w.heap.size (fun k_ => (w.heap.size ≤ k_)) (.slice Ao9 x3_1.length co9) x3_1) ∧ Aside0 (Below w.heap.size w wc))
                  case first =>
                    have H := HC10.out
                    clear HC10
                    by_cases c11 : x6_2 > 0
                    · rw [if_pos c11] at H
                      have c11b0 : decide (0 < x6_2) = true := decide_eq_true c11
                      clear c11
                      (first | rw [c11b0] | (simp only [i64_w, i32_w]; rw [c11b0]) | skip)
                      obtain ⟨ji12, hji12⟩ : ∃ j_ : Int, (wrap64 (x6_2 - 1)) = j_ := ⟨_, rfl⟩
                      replace H : (if 0 ≤ (ji12) then (if (ji12) < (x3_1.length : Int) then (if 0 < ((rd_L1 x3_1 (ji12)).length : Int) then (if 1 < ((rd_L1 x3_1 (ji12)).length : Int) then (if 0 < ((rd_L1 l0 x14_1).length : Int) then (if 1 < ((rd_L1 l0 x14_1).length : Int) then (if (wrap64 ((rd (rd_L1 x3_1 (ji12)) 0) * (rd (rd_L1 x3_1 (ji12)) 1))) > (wrap64 ((rd (rd_L1 l0 x14_1) 0) * (rd (rd_L1 l0 x14_1) 1))) then (spec_SortStore.j2 k2 x3_1 (rd_L1 l0 x14_1) x6_2 l0 (l0.length : Int) x14_1 true) else (if (wrap64 ((rd (rd_L1 x3_1 (ji12)) 0) * (rd (rd_L1 x3_1 (ji12)) 1))) = (wrap64 ((rd (rd_L1 l0 x14_1) 0) * (rd (rd_L1 l0 x14_1) 1))) then (spec_SortStore.j2 k2 x3_1 (rd_L1 l0 x14_1) x6_2 l0 (l0.length : Int) x14_1 (decide ((rd (rd_L1 x3_1 (ji12)) 0) > (rd (rd_L1 l0 x14_1) 0)))) else (spec_SortStore.j2 k2 x3_1 (rd_L1 l0 x14_1) x6_2 l0 (l0.length : Int) x14_1 false))) else (none)) else (none)) else (none)) else (none)) else (none)) else (none)) = some r := by first | (rw [hji12] at H; exact H) | (simp only [hji12] at H ⊢; exact H)
                      have hji12w : (IntKind.i64.wrap (x6_2 - 1)) = ji12 := (i64_w _).trans hji12
                      by_cases c13 : 0 ≤ (ji12)
                      · rw [if_pos c13] at H
                        have c13b0 : decide (0 ≤ (ji12)) = true := decide_eq_true c13
                        clear c13
                        by_cases c14 : (ji12) < (x3_1.length : Int)
                        · rw [if_pos c14] at H
                          have c14b0 : decide ((ji12) < (x3_1.length : Int)) = true := decide_eq_true c14
                          clear c14
                          by_cases c15 : 0 < ((rd_L1 x3_1 (ji12)).length : Int)
                          · rw [if_pos c15] at H
                            have c15b0 : decide (0 < ((rd_L1 x3_1 (ji12)).length : Int)) = true := decide_eq_true c15
                            have c15b1 : decide (0 < (rd_L1 x3_1 (ji12)).length) = true := decide_eq_true (by omega)
                            clear c15
                            by_cases c16 : 1 < ((rd_L1 x3_1 (ji12)).length : Int)
                            · rw [if_pos c16] at H
                              have c16b0 : decide (1 < ((rd_L1 x3_1 (ji12)).length : Int)) = true := decide_eq_true c16
                              have c16b1 : decide (1 < (rd_L1 x3_1 (ji12)).length) = true := decide_eq_true (by omega)
                              clear c16
                              by_cases c17 : 0 < ((rd_L1 l0 x14_1).length : Int)
                              · rw [if_pos c17] at H
                                have c17b0 : decide (0 < ((rd_L1 l0 x14_1).length : Int)) = true := decide_eq_true c17
                                have c17b1 : decide (0 < (rd_L1 l0 x14_1).length) = true := decide_eq_true (by omega)
                                clear c17
                                by_cases c18 : 1 < ((rd_L1 l0 x14_1).length : Int)
                                · rw [if_pos c18] at H
                                  have c18b0 : decide (1 < ((rd_L1 l0 x14_1).length : Int)) = true := decide_eq_true c18
                                  have c18b1 : decide (1 < (rd_L1 l0 x14_1).length) = true := decide_eq_true (by omega)
                                  clear c18
                                  by_cases c19 : (wrap64 ((rd (rd_L1 x3_1 (ji12)) 0) * (rd (rd_L1 x3_1 (ji12)) 1))) > (wrap64 ((rd (rd_L1 l0 x14_1) 0) * (rd (rd_L1 l0 x14_1) 1)))
                                  · rw [if_pos c19] at H
                                    have c19b0 : decide ((wrap64 ((rd (rd_L1 l0 x14_1) 0) * (rd (rd_L1 l0 x14_1) 1))) < (wrap64 ((rd (rd_L1 x3_1 (ji12)) 0) * (rd (rd_L1 x3_1 (ji12)) 1)))) = true := decide_eq_true c19
                                    clear c19
                                    have H' := Aside0.mk H
                                    clear H
                                    try go_wp2
                                    have n0_ := Aside0.mk (HO_3.out)
                                    have n1_ := Aside0.mk (HB.out)
                                    clear HO_3
                                    clear HB
                                    have HO_3 := n0_
                                    have HB := n1_
                                    clear n0_ n1_
                                    have p410 : 0 ≤ ((ji12) : Int) := of_decide_eq_true (by first | (with_reducible assumption) | assumption)
                                    have q410 : (ji12) < (x3_1.length : Int) := of_decide_eq_true (by first | (with_reducible assumption) | assumption)
                                    obtain ⟨ad410, A410_0, c410_0, e410, hx410_0, hl410_0, hi410_0⟩ := at_L1 (Kd.N_reads' HO_3.out).2.2 (ji12) p410 q410
                                    cases e410
                                    obtain ⟨ce410, hce410, hMe410, hcc410⟩ := Kd.N_get HO_3.out [] (ji12) p410 (by first | exact q410 | exact of_decide_eq_true (by first | (with_reducible assumption) | assumption) | (have e_ := (Kd.N_reads' HO_3.out).1; omega))
                                    obtain ⟨ua410_0, uc410_0, rfl, ul410_0, ge410_0⟩ := Kd.FK_slice_open hMe410
                                    have hv410_0 := hcc410 0 _ rfl
                                    rw [Nat.add_zero, show ((Kd.slice 3 (Kd.int .i64))).sz = 1 from rfl, Nat.mul_one] at hv410_0
                                    replace hv410_0 := Option.some.inj (hv410_0.symm.trans hx410_0)
                                    injection hv410_0 with hva_ hvn_ hvc_
                                    rw [hva_] at ge410_0
                                    rw [hvc_] at ul410_0
                                    have HL410_0 := Aside0.mk (show Kd.V (Kd.int .i64) 3 _ w.heap.size _ _ (rd_L1 x3_1 (ji12)) from Kd.V_mk ul410_0 ge410_0)
                                    clear hva_ hvn_ hvc_ ge410_0 ul410_0
                                    clear hcc410 hce410
                                    have HR410_0 := Aside0.mk hi410_0
                                    have HC410_0 := Aside0.mk hl410_0
                                    clear hi410_0 hl410_0
                                    replace p410 := eq_true p410
                                    replace q410 := eq_true q410
                                    have p411 : 0 ≤ (0 : Int) := (by omega)
                                    have q411 : 0 < ((rd_L1 x3_1 (ji12)).length : Int) := of_decide_eq_true (by first | (with_reducible assumption) | assumption)
                                    obtain ⟨ad411, e411, hx411_0⟩ := Kd.at_int (by repeat (first | (with_reducible exact HR410_0.out) | (with_reducible refine Kd.C_alloc ?_ _) | (with_reducible refine Kd.C_drewN ?_ _) | (with_reducible refine Kd.C_drew ?_) | exact HR410_0.out)) 0 p411 q411
                                    cases e411
                                    have qi411 : (0 < (rd_L1 x3_1 (ji12)).length) = True := eq_true (by omega)
                                    (try rw [show ((0 : Int)).toNat = 0 from rfl] at hx411_0)
                                    (try rw [Addr.add_zero'] at hx411_0)
                                    replace p411 := eq_true p411
                                    replace q411 := eq_true q411
                                    have p412 : 0 ≤ ((ji12) : Int) := of_decide_eq_true (by first | (with_reducible assumption) | assumption)
                                    have q412 : (ji12) < (x3_1.length : Int) := of_decide_eq_true (by first | (with_reducible assumption) | assumption)
                                    obtain ⟨ad412, A412_0, c412_0, e412, hx412_0, hl412_0, hi412_0⟩ := at_L1 (Kd.N_reads' HO_3.out).2.2 (ji12) p412 q412
                                    obtain rfl : ad410 = ad412 := (by injection e412)
                                    obtain ⟨ce412, hce412, hMe412, hcc412⟩ := Kd.N_get HO_3.out [] (ji12) p412 (by first | exact q412 | exact of_decide_eq_true (by first | (with_reducible assumption) | assumption) | (have e_ := (Kd.N_reads' HO_3.out).1; omega))
                                    obtain ⟨ua412_0, uc412_0, rfl, ul412_0, ge412_0⟩ := Kd.FK_slice_open hMe412
                                    have hv412_0 := hcc412 0 _ rfl
                                    rw [Nat.add_zero, show ((Kd.slice 3 (Kd.int .i64))).sz = 1 from rfl, Nat.mul_one] at hv412_0
                                    replace hv412_0 := Option.some.inj (hv412_0.symm.trans hx412_0)
                                    injection hv412_0 with hva_ hvn_ hvc_
                                    rw [hva_] at ge412_0
                                    rw [hvc_] at ul412_0
                                    have HL412_0 := Aside0.mk (show Kd.V (Kd.int .i64) 3 _ w.heap.size _ _ (rd_L1 x3_1 (ji12)) from Kd.V_mk ul412_0 ge412_0)
                                    clear hva_ hvn_ hvc_ ge412_0 ul412_0
                                    clear hcc412 hce412
                                    have HR412_0 := Aside0.mk hi412_0
                                    have HC412_0 := Aside0.mk hl412_0
                                    clear hi412_0 hl412_0
                                    replace p412 := eq_true p412
                                    replace q412 := eq_true q412
                                    have ea_ := Option.some.inj (hx410_0.symm.trans hx412_0)
                                    injection ea_ with ea_ en_ ec_
                                    subst ea_
                                    subst ec_
                                    clear en_
                                    have p413 : 0 ≤ (1 : Int) := (by omega)
                                    have q413 : 1 < ((rd_L1 x3_1 (ji12)).length : Int) := of_decide_eq_true (by first | (with_reducible assumption) | assumption)
                                    obtain ⟨ad413, e413, hx413_0⟩ := Kd.at_int (by repeat (first | (with_reducible exact HR412_0.out) | (with_reducible refine Kd.C_alloc ?_ _) | (with_reducible refine Kd.C_drewN ?_ _) | (with_reducible refine Kd.C_drew ?_) | exact HR412_0.out)) 1 p413 q413
                                    cases e413
                                    (try simp only [show (1 : Int).toNat = 1 from rfl, Nat.reduceMul, Nat.reduceEqDiff, Go.Addr.add, ↓reduceIte] at hx413_0)
                                    have qi413 : (1 < (rd_L1 x3_1 (ji12)).length) = True := eq_true (by omega)
                                    (try rw [show ((1 : Int)).toNat = 1 from rfl] at hx413_0)
                                    replace p413 := eq_true p413
                                    replace q413 := eq_true q413
                                    have p414 : 0 ≤ (0 : Int) := (by omega)
                                    have q414 : 0 < ((rd_L1 l0 x14_1).length : Int) := of_decide_eq_true (by first | (with_reducible assumption) | assumption)
                                    obtain ⟨ad414, e414, hx414_0⟩ := Kd.at_int HR409_0.out 0 p414 q414
                                    have hw414_0 := hx414_0
                                    (try rw [show ((0 : Int)).toNat = 0 from rfl] at hw414_0)
                                    (try rw [show 0 * 1 = 0 from rfl] at hw414_0)
                                    (try rw [Addr.add_zero'] at hw414_0)
                                    cases e414
                                    have qi414 : (0 < (rd_L1 l0 x14_1).length) = True := eq_true (by omega)
                                    (try rw [show ((0 : Int)).toNat = 0 from rfl] at hx414_0)
                                    (try rw [Addr.add_zero'] at hx414_0)
                                    replace hx414_0 := (HB.out.cell (World.block_lt_of_cell? w _ hx414_0)).trans hx414_0
                                    replace p414 := eq_true p414
                                    replace q414 := eq_true q414
                                    have p415 : 0 ≤ (1 : Int) := (by omega)
                                    have q415 : 1 < ((rd_L1 l0 x14_1).length : Int) := of_decide_eq_true (by first | (with_reducible assumption) | assumption)
                                    obtain ⟨ad415, e415, hx415_0⟩ := Kd.at_int HR409_0.out 1 p415 q415
                                    have hw415_0 := hx415_0
                                    (try rw [show ((1 : Int)).toNat = 1 from rfl] at hw415_0)
                                    (try rw [show 1 * 1 = 1 from rfl] at hw415_0)
                                    (try simp only [Nat.reduceMul, Nat.reduceEqDiff, Go.Addr.add, ↓reduceIte] at hw415_0)
                                    obtain rfl : ad414 = ad415 := (by injection e415)
                                    (try simp only [show (1 : Int).toNat = 1 from rfl, Nat.reduceMul, Nat.reduceEqDiff, Go.Addr.add, ↓reduceIte] at hx415_0)
                                    have qi415 : (1 < (rd_L1 l0 x14_1).length) = True := eq_true (by omega)
                                    (try rw [show ((1 : Int)).toNat = 1 from rfl] at hx415_0)
                                    replace hx415_0 := (HB.out.cell (World.block_lt_of_cell? w _ hx415_0)).trans hx415_0
                                    replace p415 := eq_true p415
                                    replace q415 := eq_true q415
                                    simp only [List.append_eq, List.cons_append, List.nil_append]
                                    go_quiet (fail)
                                    try go_wp2
                                    go_meet
                                    case rel => exact ⟨_, (true), (by first | rfl | (simp; done) | (simp [*]; done)), H', ⟨by have := HK1.out; have := HK2.out; first | omega | exact Nat.le_refl _⟩, ⟨by (with_reducible repeat (first | apply Kd.N_alloc | apply Kd.N_drewN | apply Kd.N_drew)); exact HO_3.out⟩, ⟨by repeat (first | (with_reducible first | exact HB.out | apply below_alloc | apply pw_below_drewN | apply below_drew1) | exact HB.out)⟩⟩
                                  · rw [if_neg c19] at H
                                    have c19b0 : decide ((wrap64 ((rd (rd_L1 l0 x14_1) 0) * (rd (rd_L1 l0 x14_1) 1))) < (wrap64 ((rd (rd_L1 x3_1 (ji12)) 0) * (rd (rd_L1 x3_1 (ji12)) 1)))) = false := decide_eq_false c19
                                    clear c19
                                    by_cases c21 : (wrap64 ((rd (rd_L1 x3_1 (ji12)) 0) * (rd (rd_L1 x3_1 (ji12)) 1))) = (wrap64 ((rd (rd_L1 l0 x14_1) 0) * (rd (rd_L1 l0 x14_1) 1)))
                                    · rw [if_pos c21] at H
                                      have c21b0 : ((wrap64 ((rd (rd_L1 x3_1 (ji12)) 0) * (rd (rd_L1 x3_1 (ji12)) 1))) == (wrap64 ((rd (rd_L1 l0 x14_1) 0) * (rd (rd_L1 l0 x14_1) 1)))) = true := beq_iff_eq.mpr c21
                                      have c21b1 : ((wrap64 ((rd (rd_L1 x3_1 (ji12)) 0) * (rd (rd_L1 x3_1 (ji12)) 1))) != (wrap64 ((rd (rd_L1 l0 x14_1) 0) * (rd (rd_L1 l0 x14_1) 1)))) = false := bne_eq_false_iff_eq.mpr c21
                                      clear c21
                                      have H' := Aside0.mk H
                                      clear H
                                      try go_wp2
                                      have n0_ := Aside0.mk (HO_3.out)
                                      have n1_ := Aside0.mk (HB.out)
                                      clear HO_3
                                      clear HB
                                      have HO_3 := n0_
                                      have HB := n1_
                                      clear n0_ n1_
                                      have p410 : 0 ≤ ((ji12) : Int) := of_decide_eq_true (by first | (with_reducible assumption) | assumption)
                                      have q410 : (ji12) < (x3_1.length : Int) := of_decide_eq_true (by first | (with_reducible assumption) | assumption)
                                      obtain ⟨ad410, A410_0, c410_0, e410, hx410_0, hl410_0, hi410_0⟩ := at_L1 (Kd.N_reads' HO_3.out).2.2 (ji12) p410 q410
                                      cases e410
                                      obtain ⟨ce410, hce410, hMe410, hcc410⟩ := Kd.N_get HO_3.out [] (ji12) p410 (by first | exact q410 | exact of_decide_eq_true (by first | (with_reducible assumption) | assumption) | (have e_ := (Kd.N_reads' HO_3.out).1; omega))
                                      obtain ⟨ua410_0, uc410_0, rfl, ul410_0, ge410_0⟩ := Kd.FK_slice_open hMe410
                                      have hv410_0 := hcc410 0 _ rfl
                                      rw [Nat.add_zero, show ((Kd.slice 3 (Kd.int .i64))).sz = 1 from rfl, Nat.mul_one] at hv410_0
                                      replace hv410_0 := Option.some.inj (hv410_0.symm.trans hx410_0)
                                      injection hv410_0 with hva_ hvn_ hvc_
                                      rw [hva_] at ge410_0
                                      rw [hvc_] at ul410_0
                                      have HL410_0 := Aside0.mk (show Kd.V (Kd.int .i64) 3 _ w.heap.size _ _ (rd_L1 x3_1 (ji12)) from Kd.V_mk ul410_0 ge410_0)
                                      clear hva_ hvn_ hvc_ ge410_0 ul410_0
                                      clear hcc410 hce410
                                      have HR410_0 := Aside0.mk hi410_0
                                      have HC410_0 := Aside0.mk hl410_0
                                      clear hi410_0 hl410_0
                                      replace p410 := eq_true p410
                                      replace q410 := eq_true q410
                                      have p411 : 0 ≤ (0 : Int) := (by omega)
                                      have q411 : 0 < ((rd_L1 x3_1 (ji12)).length : Int) := of_decide_eq_true (by first | (with_reducible assumption) | assumption)
                                      obtain ⟨ad411, e411, hx411_0⟩ := Kd.at_int (by repeat (first | (with_reducible exact HR410_0.out) | (with_reducible refine Kd.C_alloc ?_ _) | (with_reducible refine Kd.C_drewN ?_ _) | (with_reducible refine Kd.C_drew ?_) | exact HR410_0.out)) 0 p411 q411
                                      cases e411
                                      have qi411 : (0 < (rd_L1 x3_1 (ji12)).length) = True := eq_true (by omega)
                                      (try rw [show ((0 : Int)).toNat = 0 from rfl] at hx411_0)
                                      (try rw [Addr.add_zero'] at hx411_0)
                                      replace p411 := eq_true p411
                                      replace q411 := eq_true q411
                                      have p412 : 0 ≤ ((ji12) : Int) := of_decide_eq_true (by first | (with_reducible assumption) | assumption)
                                      have q412 : (ji12) < (x3_1.length : Int) := of_decide_eq_true (by first | (with_reducible assumption) | assumption)
                                      obtain ⟨ad412, A412_0, c412_0, e412, hx412_0, hl412_0, hi412_0⟩ := at_L1 (Kd.N_reads' HO_3.out).2.2 (ji12) p412 q412
                                      obtain rfl : ad410 = ad412 := (by injection e412)
                                      obtain ⟨ce412, hce412, hMe412, hcc412⟩ := Kd.N_get HO_3.out [] (ji12) p412 (by first | exact q412 | exact of_decide_eq_true (by first | (with_reducible assumption) | assumption) | (have e_ := (Kd.N_reads' HO_3.out).1; omega))
                                      obtain ⟨ua412_0, uc412_0, rfl, ul412_0, ge412_0⟩ := Kd.FK_slice_open hMe412
                                      have hv412_0 := hcc412 0 _ rfl
                                      rw [Nat.add_zero, show ((Kd.slice 3 (Kd.int .i64))).sz = 1 from rfl, Nat.mul_one] at hv412_0
                                      replace hv412_0 := Option.some.inj (hv412_0.symm.trans hx412_0)
                                      injection hv412_0 with hva_ hvn_ hvc_
                                      rw [hva_] at ge412_0
                                      rw [hvc_] at ul412_0
                                      have HL412_0 := Aside0.mk (show Kd.V (Kd.int .i64) 3 _ w.heap.size _ _ (rd_L1 x3_1 (ji12)) from Kd.V_mk ul412_0 ge412_0)
                                      clear hva_ hvn_ hvc_ ge412_0 ul412_0
                                      clear hcc412 hce412
                                      have HR412_0 := Aside0.mk hi412_0
                                      have HC412_0 := Aside0.mk hl412_0
                                      clear hi412_0 hl412_0
                                      replace p412 := eq_true p412
                                      replace q412 := eq_true q412
                                      have ea_ := Option.some.inj (hx410_0.symm.trans hx412_0)
                                      injection ea_ with ea_ en_ ec_
                                      subst ea_
                                      subst ec_
                                      clear en_
                                      have p413 : 0 ≤ (1 : Int) := (by omega)
                                      have q413 : 1 < ((rd_L1 x3_1 (ji12)).length : Int) := of_decide_eq_true (by first | (with_reducible assumption) | assumption)
                                      obtain ⟨ad413, e413, hx413_0⟩ := Kd.at_int (by repeat (first | (with_reducible exact HR412_0.out) | (with_reducible refine Kd.C_alloc ?_ _) | (with_reducible refine Kd.C_drewN ?_ _) | (with_reducible refine Kd.C_drew ?_) | exact HR412_0.out)) 1 p413 q413
                                      cases e413
                                      (try simp only [show (1 : Int).toNat = 1 from rfl, Nat.reduceMul, Nat.reduceEqDiff, Go.Addr.add, ↓reduceIte] at hx413_0)
                                      have qi413 : (1 < (rd_L1 x3_1 (ji12)).length) = True := eq_true (by omega)
                                      (try rw [show ((1 : Int)).toNat = 1 from rfl] at hx413_0)
                                      replace p413 := eq_true p413
                                      replace q413 := eq_true q413
                                      have p414 : 0 ≤ (0 : Int) := (by omega)
                                      have q414 : 0 < ((rd_L1 l0 x14_1).length : Int) := of_decide_eq_true (by first | (with_reducible assumption) | assumption)
                                      obtain ⟨ad414, e414, hx414_0⟩ := Kd.at_int HR409_0.out 0 p414 q414
                                      have hw414_0 := hx414_0
                                      (try rw [show ((0 : Int)).toNat = 0 from rfl] at hw414_0)
                                      (try rw [show 0 * 1 = 0 from rfl] at hw414_0)
                                      (try rw [Addr.add_zero'] at hw414_0)
                                      cases e414
                                      have qi414 : (0 < (rd_L1 l0 x14_1).length) = True := eq_true (by omega)
                                      (try rw [show ((0 : Int)).toNat = 0 from rfl] at hx414_0)
                                      (try rw [Addr.add_zero'] at hx414_0)
                                      replace hx414_0 := (HB.out.cell (World.block_lt_of_cell? w _ hx414_0)).trans hx414_0
                                      replace p414 := eq_true p414
                                      replace q414 := eq_true q414
                                      have p415 : 0 ≤ (1 : Int) := (by omega)
                                      have q415 : 1 < ((rd_L1 l0 x14_1).length : Int) := of_decide_eq_true (by first | (with_reducible assumption) | assumption)
                                      obtain ⟨ad415, e415, hx415_0⟩ := Kd.at_int HR409_0.out 1 p415 q415
                                      have hw415_0 := hx415_0
                                      (try rw [show ((1 : Int)).toNat = 1 from rfl] at hw415_0)
                                      (try rw [show 1 * 1 = 1 from rfl] at hw415_0)
                                      (try simp only [Nat.reduceMul, Nat.reduceEqDiff, Go.Addr.add, ↓reduceIte] at hw415_0)
                                      obtain rfl : ad414 = ad415 := (by injection e415)
                                      (try simp only [show (1 : Int).toNat = 1 from rfl, Nat.reduceMul, Nat.reduceEqDiff, Go.Addr.add, ↓reduceIte] at hx415_0)
                                      have qi415 : (1 < (rd_L1 l0 x14_1).length) = True := eq_true (by omega)
                                      (try rw [show ((1 : Int)).toNat = 1 from rfl] at hx415_0)
                                      replace hx415_0 := (HB.out.cell (World.block_lt_of_cell? w _ hx415_0)).trans hx415_0
                                      replace p415 := eq_true p415
                                      replace q415 := eq_true q415
                                      have p416 : 0 ≤ ((ji12) : Int) := of_decide_eq_true (by first | (with_reducible assumption) | assumption)
                                      have q416 : (ji12) < (x3_1.length : Int) := of_decide_eq_true (by first | (with_reducible assumption) | assumption)
                                      obtain ⟨ad416, A416_0, c416_0, e416, hx416_0, hl416_0, hi416_0⟩ := at_L1 (Kd.N_reads' HO_3.out).2.2 (ji12) p416 q416
                                      obtain rfl : ad410 = ad416 := (by injection e416)
                                      obtain ⟨ce416, hce416, hMe416, hcc416⟩ := Kd.N_get HO_3.out [] (ji12) p416 (by first | exact q416 | exact of_decide_eq_true (by first | (with_reducible assumption) | assumption) | (have e_ := (Kd.N_reads' HO_3.out).1; omega))
                                      obtain ⟨ua416_0, uc416_0, rfl, ul416_0, ge416_0⟩ := Kd.FK_slice_open hMe416
                                      have hv416_0 := hcc416 0 _ rfl
                                      rw [Nat.add_zero, show ((Kd.slice 3 (Kd.int .i64))).sz = 1 from rfl, Nat.mul_one] at hv416_0
                                      replace hv416_0 := Option.some.inj (hv416_0.symm.trans hx416_0)
                                      injection hv416_0 with hva_ hvn_ hvc_
                                      rw [hva_] at ge416_0
                                      rw [hvc_] at ul416_0
                                      have HL416_0 := Aside0.mk (show Kd.V (Kd.int .i64) 3 _ w.heap.size _ _ (rd_L1 x3_1 (ji12)) from Kd.V_mk ul416_0 ge416_0)
                                      clear hva_ hvn_ hvc_ ge416_0 ul416_0
                                      clear hcc416 hce416
                                      have HR416_0 := Aside0.mk hi416_0
                                      have HC416_0 := Aside0.mk hl416_0
                                      clear hi416_0 hl416_0
                                      replace p416 := eq_true p416
                                      replace q416 := eq_true q416
                                      have ea_ := Option.some.inj (hx410_0.symm.trans hx416_0)
                                      injection ea_ with ea_ en_ ec_
                                      subst ea_
                                      subst ec_
                                      clear en_
                                      have p417 : 0 ≤ (0 : Int) := (by omega)
                                      have q417 : 0 < ((rd_L1 x3_1 (ji12)).length : Int) := of_decide_eq_true (by first | (with_reducible assumption) | assumption)
                                      obtain ⟨ad417, e417, hx417_0⟩ := Kd.at_int (by repeat (first | (with_reducible exact HR416_0.out) | (with_reducible refine Kd.C_alloc ?_ _) | (with_reducible refine Kd.C_drewN ?_ _) | (with_reducible refine Kd.C_drew ?_) | exact HR416_0.out)) 0 p417 q417
                                      cases e417
                                      have qi417 : (0 < (rd_L1 x3_1 (ji12)).length) = True := eq_true (by omega)
                                      (try rw [show ((0 : Int)).toNat = 0 from rfl] at hx417_0)
                                      (try rw [Addr.add_zero'] at hx417_0)
                                      replace p417 := eq_true p417
                                      replace q417 := eq_true q417
                                      have p418 : 0 ≤ ((ji12) : Int) := of_decide_eq_true (by first | (with_reducible assumption) | assumption)
                                      have q418 : (ji12) < (x3_1.length : Int) := of_decide_eq_true (by first | (with_reducible assumption) | assumption)
                                      obtain ⟨ad418, A418_0, c418_0, e418, hx418_0, hl418_0, hi418_0⟩ := at_L1 (Kd.N_reads' HO_3.out).2.2 (ji12) p418 q418
                                      obtain rfl : ad410 = ad418 := (by injection e418)
                                      obtain ⟨ce418, hce418, hMe418, hcc418⟩ := Kd.N_get HO_3.out [] (ji12) p418 (by first | exact q418 | exact of_decide_eq_true (by first | (with_reducible assumption) | assumption) | (have e_ := (Kd.N_reads' HO_3.out).1; omega))
                                      obtain ⟨ua418_0, uc418_0, rfl, ul418_0, ge418_0⟩ := Kd.FK_slice_open hMe418
                                      have hv418_0 := hcc418 0 _ rfl
                                      rw [Nat.add_zero, show ((Kd.slice 3 (Kd.int .i64))).sz = 1 from rfl, Nat.mul_one] at hv418_0
                                      replace hv418_0 := Option.some.inj (hv418_0.symm.trans hx418_0)
                                      injection hv418_0 with hva_ hvn_ hvc_
                                      rw [hva_] at ge418_0
                                      rw [hvc_] at ul418_0
                                      have HL418_0 := Aside0.mk (show Kd.V (Kd.int .i64) 3 _ w.heap.size _ _ (rd_L1 x3_1 (ji12)) from Kd.V_mk ul418_0 ge418_0)
                                      clear hva_ hvn_ hvc_ ge418_0 ul418_0
                                      clear hcc418 hce418
                                      have HR418_0 := Aside0.mk hi418_0
                                      have HC418_0 := Aside0.mk hl418_0
                                      clear hi418_0 hl418_0
                                      replace p418 := eq_true p418
                                      replace q418 := eq_true q418
                                      have ea_ := Option.some.inj (hx410_0.symm.trans hx418_0)
                                      injection ea_ with ea_ en_ ec_
                                      subst ea_
                                      subst ec_
                                      clear en_
                                      have p419 : 0 ≤ (1 : Int) := (by omega)
                                      have q419 : 1 < ((rd_L1 x3_1 (ji12)).length : Int) := of_decide_eq_true (by first | (with_reducible assumption) | assumption)
                                      obtain ⟨ad419, e419, hx419_0⟩ := Kd.at_int (by repeat (first | (with_reducible exact HR418_0.out) | (with_reducible refine Kd.C_alloc ?_ _) | (with_reducible refine Kd.C_drewN ?_ _) | (with_reducible refine Kd.C_drew ?_) | exact HR418_0.out)) 1 p419 q419
                                      cases e419
                                      (try simp only [show (1 : Int).toNat = 1 from rfl, Nat.reduceMul, Nat.reduceEqDiff, Go.Addr.add, ↓reduceIte] at hx419_0)
                                      have qi419 : (1 < (rd_L1 x3_1 (ji12)).length) = True := eq_true (by omega)
                                      (try rw [show ((1 : Int)).toNat = 1 from rfl] at hx419_0)
                                      replace p419 := eq_true p419
                                      replace q419 := eq_true q419
                                      have p420 : 0 ≤ (0 : Int) := (by omega)
                                      have q420 : 0 < ((rd_L1 l0 x14_1).length : Int) := of_decide_eq_true (by first | (with_reducible assumption) | assumption)
                                      obtain ⟨ad420, e420, hx420_0⟩ := Kd.at_int HR409_0.out 0 p420 q420
                                      have hw420_0 := hx420_0
                                      (try rw [show ((0 : Int)).toNat = 0 from rfl] at hw420_0)
                                      (try rw [show 0 * 1 = 0 from rfl] at hw420_0)
                                      (try rw [Addr.add_zero'] at hw420_0)
                                      obtain rfl : ad414 = ad420 := (by injection e420)
                                      have qi420 : (0 < (rd_L1 l0 x14_1).length) = True := eq_true (by omega)
                                      (try rw [show ((0 : Int)).toNat = 0 from rfl] at hx420_0)
                                      (try rw [Addr.add_zero'] at hx420_0)
                                      replace hx420_0 := (HB.out.cell (World.block_lt_of_cell? w _ hx420_0)).trans hx420_0
                                      replace p420 := eq_true p420
                                      replace q420 := eq_true q420
                                      have p421 : 0 ≤ (1 : Int) := (by omega)
                                      have q421 : 1 < ((rd_L1 l0 x14_1).length : Int) := of_decide_eq_true (by first | (with_reducible assumption) | assumption)
                                      obtain ⟨ad421, e421, hx421_0⟩ := Kd.at_int HR409_0.out 1 p421 q421
                                      have hw421_0 := hx421_0
                                      (try rw [show ((1 : Int)).toNat = 1 from rfl] at hw421_0)
                                      (try rw [show 1 * 1 = 1 from rfl] at hw421_0)
                                      (try simp only [Nat.reduceMul, Nat.reduceEqDiff, Go.Addr.add, ↓reduceIte] at hw421_0)
                                      obtain rfl : ad414 = ad421 := (by injection e421)
                                      (try simp only [show (1 : Int).toNat = 1 from rfl, Nat.reduceMul, Nat.reduceEqDiff, Go.Addr.add, ↓reduceIte] at hx421_0)
                                      have qi421 : (1 < (rd_L1 l0 x14_1).length) = True := eq_true (by omega)
                                      (try rw [show ((1 : Int)).toNat = 1 from rfl] at hx421_0)
                                      replace hx421_0 := (HB.out.cell (World.block_lt_of_cell? w _ hx421_0)).trans hx421_0
                                      replace p421 := eq_true p421
                                      replace q421 := eq_true q421
                                      have p422 : 0 ≤ ((ji12) : Int) := of_decide_eq_true (by first | (with_reducible assumption) | assumption)
                                      have q422 : (ji12) < (x3_1.length : Int) := of_decide_eq_true (by first | (with_reducible assumption) | assumption)
                                      obtain ⟨ad422, A422_0, c422_0, e422, hx422_0, hl422_0, hi422_0⟩ := at_L1 (Kd.N_reads' HO_3.out).2.2 (ji12) p422 q422
                                      obtain rfl : ad410 = ad422 := (by injection e422)
                                      obtain ⟨ce422, hce422, hMe422, hcc422⟩ := Kd.N_get HO_3.out [] (ji12) p422 (by first | exact q422 | exact of_decide_eq_true (by first | (with_reducible assumption) | assumption) | (have e_ := (Kd.N_reads' HO_3.out).1; omega))
                                      obtain ⟨ua422_0, uc422_0, rfl, ul422_0, ge422_0⟩ := Kd.FK_slice_open hMe422
                                      have hv422_0 := hcc422 0 _ rfl
                                      rw [Nat.add_zero, show ((Kd.slice 3 (Kd.int .i64))).sz = 1 from rfl, Nat.mul_one] at hv422_0
                                      replace hv422_0 := Option.some.inj (hv422_0.symm.trans hx422_0)
                                      injection hv422_0 with hva_ hvn_ hvc_
                                      rw [hva_] at ge422_0
                                      rw [hvc_] at ul422_0
                                      have HL422_0 := Aside0.mk (show Kd.V (Kd.int .i64) 3 _ w.heap.size _ _ (rd_L1 x3_1 (ji12)) from Kd.V_mk ul422_0 ge422_0)
                                      clear hva_ hvn_ hvc_ ge422_0 ul422_0
                                      clear hcc422 hce422
                                      have HR422_0 := Aside0.mk hi422_0
                                      have HC422_0 := Aside0.mk hl422_0
                                      clear hi422_0 hl422_0
                                      replace p422 := eq_true p422
                                      replace q422 := eq_true q422
                                      have ea_ := Option.some.inj (hx410_0.symm.trans hx422_0)
                                      injection ea_ with ea_ en_ ec_
                                      subst ea_
                                      subst ec_
                                      clear en_
                                      have p423 : 0 ≤ (0 : Int) := (by omega)
                                      have q423 : 0 < ((rd_L1 x3_1 (ji12)).length : Int) := of_decide_eq_true (by first | (with_reducible assumption) | assumption)
                                      obtain ⟨ad423, e423, hx423_0⟩ := Kd.at_int (by repeat (first | (with_reducible exact HR422_0.out) | (with_reducible refine Kd.C_alloc ?_ _) | (with_reducible refine Kd.C_drewN ?_ _) | (with_reducible refine Kd.C_drew ?_) | exact HR422_0.out)) 0 p423 q423
                                      cases e423
                                      have qi423 : (0 < (rd_L1 x3_1 (ji12)).length) = True := eq_true (by omega)
                                      (try rw [show ((0 : Int)).toNat = 0 from rfl] at hx423_0)
                                      (try rw [Addr.add_zero'] at hx423_0)
                                      replace p423 := eq_true p423
                                      replace q423 := eq_true q423
                                      have p424 : 0 ≤ (0 : Int) := (by omega)
                                      have q424 : 0 < ((rd_L1 l0 x14_1).length : Int) := of_decide_eq_true (by first | (with_reducible assumption) | assumption)
                                      obtain ⟨ad424, e424, hx424_0⟩ := Kd.at_int HR409_0.out 0 p424 q424
                                      have hw424_0 := hx424_0
                                      (try rw [show ((0 : Int)).toNat = 0 from rfl] at hw424_0)
                                      (try rw [show 0 * 1 = 0 from rfl] at hw424_0)
                                      (try rw [Addr.add_zero'] at hw424_0)
                                      obtain rfl : ad414 = ad424 := (by injection e424)
                                      have qi424 : (0 < (rd_L1 l0 x14_1).length) = True := eq_true (by omega)
                                      (try rw [show ((0 : Int)).toNat = 0 from rfl] at hx424_0)
                                      (try rw [Addr.add_zero'] at hx424_0)
                                      replace hx424_0 := (HB.out.cell (World.block_lt_of_cell? w _ hx424_0)).trans hx424_0
                                      replace p424 := eq_true p424
                                      replace q424 := eq_true q424
                                      simp only [List.append_eq, List.cons_append, List.nil_append]
                                      go_quiet (fail)
                                      try go_wp2
                                      go_meet
                                      case rel => exact ⟨_, (decide ((rd (rd_L1 x3_1 (ji12)) 0) > (rd (rd_L1 l0 x14_1) 0))), (by first | rfl | (simp; done) | (simp only [← hji12] <;> (first | rfl | simp)) | (simp [*]; done)), H', ⟨by have := HK1.out; have := HK2.out; first | omega | exact Nat.le_refl _⟩, ⟨by (with_reducible repeat (first | apply Kd.N_alloc | apply Kd.N_drewN | apply Kd.N_drew)); exact HO_3.out⟩, ⟨by repeat (first | (with_reducible first | exact HB.out | apply below_alloc | apply pw_below_drewN | apply below_drew1) | exact HB.out)⟩⟩
                                    · rw [if_neg c21] at H
                                      have c21b0 : ((wrap64 ((rd (rd_L1 x3_1 (ji12)) 0) * (rd (rd_L1 x3_1 (ji12)) 1))) == (wrap64 ((rd (rd_L1 l0 x14_1) 0) * (rd (rd_L1 l0 x14_1) 1)))) = false := beq_eq_false_iff_ne.mpr c21
                                      have c21b1 : ((wrap64 ((rd (rd_L1 x3_1 (ji12)) 0) * (rd (rd_L1 x3_1 (ji12)) 1))) != (wrap64 ((rd (rd_L1 l0 x14_1) 0) * (rd (rd_L1 l0 x14_1) 1)))) = true := bne_iff_ne.mpr c21
                                      have H' := Aside0.mk H
                                      clear H
                                      try go_wp2
                                      have n0_ := Aside0.mk (HO_3.out)
                                      have n1_ := Aside0.mk (HB.out)
                                      clear HO_3
                                      clear HB
                                      have HO_3 := n0_
                                      have HB := n1_
                                      clear n0_ n1_
                                      have p410 : 0 ≤ ((ji12) : Int) := of_decide_eq_true (by first | (with_reducible assumption) | assumption)
                                      have q410 : (ji12) < (x3_1.length : Int) := of_decide_eq_true (by first | (with_reducible assumption) | assumption)
                                      obtain ⟨ad410, A410_0, c410_0, e410, hx410_0, hl410_0, hi410_0⟩ := at_L1 (Kd.N_reads' HO_3.out).2.2 (ji12) p410 q410
                                      cases e410
                                      obtain ⟨ce410, hce410, hMe410, hcc410⟩ := Kd.N_get HO_3.out [] (ji12) p410 (by first | exact q410 | exact of_decide_eq_true (by first | (with_reducible assumption) | assumption) | (have e_ := (Kd.N_reads' HO_3.out).1; omega))
                                      obtain ⟨ua410_0, uc410_0, rfl, ul410_0, ge410_0⟩ := Kd.FK_slice_open hMe410
                                      have hv410_0 := hcc410 0 _ rfl
                                      rw [Nat.add_zero, show ((Kd.slice 3 (Kd.int .i64))).sz = 1 from rfl, Nat.mul_one] at hv410_0
                                      replace hv410_0 := Option.some.inj (hv410_0.symm.trans hx410_0)
                                      injection hv410_0 with hva_ hvn_ hvc_
                                      rw [hva_] at ge410_0
                                      rw [hvc_] at ul410_0
                                      have HL410_0 := Aside0.mk (show Kd.V (Kd.int .i64) 3 _ w.heap.size _ _ (rd_L1 x3_1 (ji12)) from Kd.V_mk ul410_0 ge410_0)
                                      clear hva_ hvn_ hvc_ ge410_0 ul410_0
                                      clear hcc410 hce410
                                      have HR410_0 := Aside0.mk hi410_0
                                      have HC410_0 := Aside0.mk hl410_0
                                      clear hi410_0 hl410_0
                                      replace p410 := eq_true p410
                                      replace q410 := eq_true q410
                                      have p411 : 0 ≤ (0 : Int) := (by omega)
                                      have q411 : 0 < ((rd_L1 x3_1 (ji12)).length : Int) := of_decide_eq_true (by first | (with_reducible assumption) | assumption)
                                      obtain ⟨ad411, e411, hx411_0⟩ := Kd.at_int (by repeat (first | (with_reducible exact HR410_0.out) | (with_reducible refine Kd.C_alloc ?_ _) | (with_reducible refine Kd.C_drewN ?_ _) | (with_reducible refine Kd.C_drew ?_) | exact HR410_0.out)) 0 p411 q411
                                      cases e411
                                      have qi411 : (0 < (rd_L1 x3_1 (ji12)).length) = True := eq_true (by omega)
                                      (try rw [show ((0 : Int)).toNat = 0 from rfl] at hx411_0)
                                      (try rw [Addr.add_zero'] at hx411_0)
                                      replace p411 := eq_true p411
                                      replace q411 := eq_true q411
                                      have p412 : 0 ≤ ((ji12) : Int) := of_decide_eq_true (by first | (with_reducible assumption) | assumption)
                                      have q412 : (ji12) < (x3_1.length : Int) := of_decide_eq_true (by first | (with_reducible assumption) | assumption)
                                      obtain ⟨ad412, A412_0, c412_0, e412, hx412_0, hl412_0, hi412_0⟩ := at_L1 (Kd.N_reads' HO_3.out).2.2 (ji12) p412 q412
                                      obtain rfl : ad410 = ad412 := (by injection e412)
                                      obtain ⟨ce412, hce412, hMe412, hcc412⟩ := Kd.N_get HO_3.out [] (ji12) p412 (by first | exact q412 | exact of_decide_eq_true (by first | (with_reducible assumption) | assumption) | (have e_ := (Kd.N_reads' HO_3.out).1; omega))
                                      obtain ⟨ua412_0, uc412_0, rfl, ul412_0, ge412_0⟩ := Kd.FK_slice_open hMe412
                                      have hv412_0 := hcc412 0 _ rfl
                                      rw [Nat.add_zero, show ((Kd.slice 3 (Kd.int .i64))).sz = 1 from rfl, Nat.mul_one] at hv412_0
                                      replace hv412_0 := Option.some.inj (hv412_0.symm.trans hx412_0)
                                      injection hv412_0 with hva_ hvn_ hvc_
                                      rw [hva_] at ge412_0
                                      rw [hvc_] at ul412_0
                                      have HL412_0 := Aside0.mk (show Kd.V (Kd.int .i64) 3 _ w.heap.size _ _ (rd_L1 x3_1 (ji12)) from Kd.V_mk ul412_0 ge412_0)
                                      clear hva_ hvn_ hvc_ ge412_0 ul412_0
                                      clear hcc412 hce412
                                      have HR412_0 := Aside0.mk hi412_0
                                      have HC412_0 := Aside0.mk hl412_0
                                      clear hi412_0 hl412_0
                                      replace p412 := eq_true p412
                                      replace q412 := eq_true q412
                                      have ea_ := Option.some.inj (hx410_0.symm.trans hx412_0)
                                      injection ea_ with ea_ en_ ec_
                                      subst ea_
                                      subst ec_
                                      clear en_
                                      have p413 : 0 ≤ (1 : Int) := (by omega)
                                      have q413 : 1 < ((rd_L1 x3_1 (ji12)).length : Int) := of_decide_eq_true (by first | (with_reducible assumption) | assumption)
                                      obtain ⟨ad413, e413, hx413_0⟩ := Kd.at_int (by repeat (first | (with_reducible exact HR412_0.out) | (with_reducible refine Kd.C_alloc ?_ _) | (with_reducible refine Kd.C_drewN ?_ _) | (with_reducible refine Kd.C_drew ?_) | exact HR412_0.out)) 1 p413 q413
                                      cases e413
                                      (try simp only [show (1 : Int).toNat = 1 from rfl, Nat.reduceMul, Nat.reduceEqDiff, Go.Addr.add, ↓reduceIte] at hx413_0)
                                      have qi413 : (1 < (rd_L1 x3_1 (ji12)).length) = True := eq_true (by omega)
                                      (try rw [show ((1 : Int)).toNat = 1 from rfl] at hx413_0)
                                      replace p413 := eq_true p413
                                      replace q413 := eq_true q413
                                      have p414 : 0 ≤ (0 : Int) := (by omega)
                                      have q414 : 0 < ((rd_L1 l0 x14_1).length : Int) := of_decide_eq_true (by first | (with_reducible assumption) | assumption)
                                      obtain ⟨ad414, e414, hx414_0⟩ := Kd.at_int HR409_0.out 0 p414 q414
                                      have hw414_0 := hx414_0
                                      (try rw [show ((0 : Int)).toNat = 0 from rfl] at hw414_0)
                                      (try rw [show 0 * 1 = 0 from rfl] at hw414_0)
                                      (try rw [Addr.add_zero'] at hw414_0)
                                      cases e414
                                      have qi414 : (0 < (rd_L1 l0 x14_1).length) = True := eq_true (by omega)
                                      (try rw [show ((0 : Int)).toNat = 0 from rfl] at hx414_0)
                                      (try rw [Addr.add_zero'] at hx414_0)
                                      replace hx414_0 := (HB.out.cell (World.block_lt_of_cell? w _ hx414_0)).trans hx414_0
                                      replace p414 := eq_true p414
                                      replace q414 := eq_true q414
                                      have p415 : 0 ≤ (1 : Int) := (by omega)
                                      have q415 : 1 < ((rd_L1 l0 x14_1).length : Int) := of_decide_eq_true (by first | (with_reducible assumption) | assumption)
                                      obtain ⟨ad415, e415, hx415_0⟩ := Kd.at_int HR409_0.out 1 p415 q415
                                      have hw415_0 := hx415_0
                                      (try rw [show ((1 : Int)).toNat = 1 from rfl] at hw415_0)
                                      (try rw [show 1 * 1 = 1 from rfl] at hw415_0)
                                      (try simp only [Nat.reduceMul, Nat.reduceEqDiff, Go.Addr.add, ↓reduceIte] at hw415_0)
                                      obtain rfl : ad414 = ad415 := (by injection e415)
                                      (try simp only [show (1 : Int).toNat = 1 from rfl, Nat.reduceMul, Nat.reduceEqDiff, Go.Addr.add, ↓reduceIte] at hx415_0)
                                      have qi415 : (1 < (rd_L1 l0 x14_1).length) = True := eq_true (by omega)
                                      (try rw [show ((1 : Int)).toNat = 1 from rfl] at hx415_0)
                                      replace hx415_0 := (HB.out.cell (World.block_lt_of_cell? w _ hx415_0)).trans hx415_0
                                      replace p415 := eq_true p415
                                      replace q415 := eq_true q415
                                      have p416 : 0 ≤ ((ji12) : Int) := of_decide_eq_true (by first | (with_reducible assumption) | assumption)
                                      have q416 : (ji12) < (x3_1.length : Int) := of_decide_eq_true (by first | (with_reducible assumption) | assumption)
                                      obtain ⟨ad416, A416_0, c416_0, e416, hx416_0, hl416_0, hi416_0⟩ := at_L1 (Kd.N_reads' HO_3.out).2.2 (ji12) p416 q416
                                      obtain rfl : ad410 = ad416 := (by injection e416)
                                      obtain ⟨ce416, hce416, hMe416, hcc416⟩ := Kd.N_get HO_3.out [] (ji12) p416 (by first | exact q416 | exact of_decide_eq_true (by first | (with_reducible assumption) | assumption) | (have e_ := (Kd.N_reads' HO_3.out).1; omega))
                                      obtain ⟨ua416_0, uc416_0, rfl, ul416_0, ge416_0⟩ := Kd.FK_slice_open hMe416
                                      have hv416_0 := hcc416 0 _ rfl
                                      rw [Nat.add_zero, show ((Kd.slice 3 (Kd.int .i64))).sz = 1 from rfl, Nat.mul_one] at hv416_0
                                      replace hv416_0 := Option.some.inj (hv416_0.symm.trans hx416_0)
                                      injection hv416_0 with hva_ hvn_ hvc_
                                      rw [hva_] at ge416_0
                                      rw [hvc_] at ul416_0
                                      have HL416_0 := Aside0.mk (show Kd.V (Kd.int .i64) 3 _ w.heap.size _ _ (rd_L1 x3_1 (ji12)) from Kd.V_mk ul416_0 ge416_0)
                                      clear hva_ hvn_ hvc_ ge416_0 ul416_0
                                      clear hcc416 hce416
                                      have HR416_0 := Aside0.mk hi416_0
                                      have HC416_0 := Aside0.mk hl416_0
                                      clear hi416_0 hl416_0
                                      replace p416 := eq_true p416
                                      replace q416 := eq_true q416
                                      have ea_ := Option.some.inj (hx410_0.symm.trans hx416_0)
                                      injection ea_ with ea_ en_ ec_
                                      subst ea_
                                      subst ec_
                                      clear en_
                                      have p417 : 0 ≤ (0 : Int) := (by omega)
                                      have q417 : 0 < ((rd_L1 x3_1 (ji12)).length : Int) := of_decide_eq_true (by first | (with_reducible assumption) | assumption)
                                      obtain ⟨ad417, e417, hx417_0⟩ := Kd.at_int (by repeat (first | (with_reducible exact HR416_0.out) | (with_reducible refine Kd.C_alloc ?_ _) | (with_reducible refine Kd.C_drewN ?_ _) | (with_reducible refine Kd.C_drew ?_) | exact HR416_0.out)) 0 p417 q417
                                      cases e417
                                      have qi417 : (0 < (rd_L1 x3_1 (ji12)).length) = True := eq_true (by omega)
                                      (try rw [show ((0 : Int)).toNat = 0 from rfl] at hx417_0)
                                      (try rw [Addr.add_zero'] at hx417_0)
                                      replace p417 := eq_true p417
                                      replace q417 := eq_true q417
                                      have p418 : 0 ≤ ((ji12) : Int) := of_decide_eq_true (by first | (with_reducible assumption) | assumption)
                                      have q418 : (ji12) < (x3_1.length : Int) := of_decide_eq_true (by first | (with_reducible assumption) | assumption)
                                      obtain ⟨ad418, A418_0, c418_0, e418, hx418_0, hl418_0, hi418_0⟩ := at_L1 (Kd.N_reads' HO_3.out).2.2 (ji12) p418 q418
                                      obtain rfl : ad410 = ad418 := (by injection e418)
                                      obtain ⟨ce418, hce418, hMe418, hcc418⟩ := Kd.N_get HO_3.out [] (ji12) p418 (by first | exact q418 | exact of_decide_eq_true (by first | (with_reducible assumption) | assumption) | (have e_ := (Kd.N_reads' HO_3.out).1; omega))
                                      obtain ⟨ua418_0, uc418_0, rfl, ul418_0, ge418_0⟩ := Kd.FK_slice_open hMe418
                                      have hv418_0 := hcc418 0 _ rfl
                                      rw [Nat.add_zero, show ((Kd.slice 3 (Kd.int .i64))).sz = 1 from rfl, Nat.mul_one] at hv418_0
                                      replace hv418_0 := Option.some.inj (hv418_0.symm.trans hx418_0)
                                      injection hv418_0 with hva_ hvn_ hvc_
                                      rw [hva_] at ge418_0
                                      rw [hvc_] at ul418_0
                                      have HL418_0 := Aside0.mk (show Kd.V (Kd.int .i64) 3 _ w.heap.size _ _ (rd_L1 x3_1 (ji12)) from Kd.V_mk ul418_0 ge418_0)
                                      clear hva_ hvn_ hvc_ ge418_0 ul418_0
                                      clear hcc418 hce418
                                      have HR418_0 := Aside0.mk hi418_0
                                      have HC418_0 := Aside0.mk hl418_0
                                      clear hi418_0 hl418_0
                                      replace p418 := eq_true p418
                                      replace q418 := eq_true q418
                                      have ea_ := Option.some.inj (hx410_0.symm.trans hx418_0)
                                      injection ea_ with ea_ en_ ec_
                                      subst ea_
                                      subst ec_
                                      clear en_
                                      have p419 : 0 ≤ (1 : Int) := (by omega)
                                      have q419 : 1 < ((rd_L1 x3_1 (ji12)).length : Int) := of_decide_eq_true (by first | (with_reducible assumption) | assumption)
                                      obtain ⟨ad419, e419, hx419_0⟩ := Kd.at_int (by repeat (first | (with_reducible exact HR418_0.out) | (with_reducible refine Kd.C_alloc ?_ _) | (with_reducible refine Kd.C_drewN ?_ _) | (with_reducible refine Kd.C_drew ?_) | exact HR418_0.out)) 1 p419 q419
                                      cases e419
                                      (try simp only [show (1 : Int).toNat = 1 from rfl, Nat.reduceMul, Nat.reduceEqDiff, Go.Addr.add, ↓reduceIte] at hx419_0)
                                      have qi419 : (1 < (rd_L1 x3_1 (ji12)).length) = True := eq_true (by omega)
                                      (try rw [show ((1 : Int)).toNat = 1 from rfl] at hx419_0)
                                      replace p419 := eq_true p419
                                      replace q419 := eq_true q419
                                      have p420 : 0 ≤ (0 : Int) := (by omega)
                                      have q420 : 0 < ((rd_L1 l0 x14_1).length : Int) := of_decide_eq_true (by first | (with_reducible assumption) | assumption)
                                      obtain ⟨ad420, e420, hx420_0⟩ := Kd.at_int HR409_0.out 0 p420 q420
                                      have hw420_0 := hx420_0
                                      (try rw [show ((0 : Int)).toNat = 0 from rfl] at hw420_0)
                                      (try rw [show 0 * 1 = 0 from rfl] at hw420_0)
                                      (try rw [Addr.add_zero'] at hw420_0)
                                      obtain rfl : ad414 = ad420 := (by injection e420)
                                      have qi420 : (0 < (rd_L1 l0 x14_1).length) = True := eq_true (by omega)
                                      (try rw [show ((0 : Int)).toNat = 0 from rfl] at hx420_0)
                                      (try rw [Addr.add_zero'] at hx420_0)
                                      replace hx420_0 := (HB.out.cell (World.block_lt_of_cell? w _ hx420_0)).trans hx420_0
                                      replace p420 := eq_true p420
                                      replace q420 := eq_true q420
                                      have p421 : 0 ≤ (1 : Int) := (by omega)
                                      have q421 : 1 < ((rd_L1 l0 x14_1).length : Int) := of_decide_eq_true (by first | (with_reducible assumption) | assumption)
                                      obtain ⟨ad421, e421, hx421_0⟩ := Kd.at_int HR409_0.out 1 p421 q421
                                      have hw421_0 := hx421_0
                                      (try rw [show ((1 : Int)).toNat = 1 from rfl] at hw421_0)
                                      (try rw [show 1 * 1 = 1 from rfl] at hw421_0)
                                      (try simp only [Nat.reduceMul, Nat.reduceEqDiff, Go.Addr.add, ↓reduceIte] at hw421_0)
                                      obtain rfl : ad414 = ad421 := (by injection e421)
                                      (try simp only [show (1 : Int).toNat = 1 from rfl, Nat.reduceMul, Nat.reduceEqDiff, Go.Addr.add, ↓reduceIte] at hx421_0)
                                      have qi421 : (1 < (rd_L1 l0 x14_1).length) = True := eq_true (by omega)
                                      (try rw [show ((1 : Int)).toNat = 1 from rfl] at hx421_0)
                                      replace hx421_0 := (HB.out.cell (World.block_lt_of_cell? w _ hx421_0)).trans hx421_0
                                      replace p421 := eq_true p421
                                      replace q421 := eq_true q421
                                      simp only [List.append_eq, List.cons_append, List.nil_append]
                                      go_quiet (fail)
                                      try go_wp2
                                      go_meet
                                      case rel => exact ⟨_, (false), (by first | rfl | (simp; done) | (simp [*]; done)), H', ⟨by have := HK1.out; have := HK2.out; first | omega | exact Nat.le_refl _⟩, ⟨by (with_reducible repeat (first | apply Kd.N_alloc | apply Kd.N_drewN | apply Kd.N_drew)); exact HO_3.out⟩, ⟨by repeat (first | (with_reducible first | exact HB.out | apply below_alloc | apply pw_below_drewN | apply below_drew1) | exact HB.out)⟩⟩
                                · rw [if_neg c18] at H
                                  exact absurd H (by simp)
                              · rw [if_neg c17] at H
                                exact absurd H (by simp)
                            · rw [if_neg c16] at H
                              exact absurd H (by simp)
                          · rw [if_neg c15] at H
                            exact absurd H (by simp)
                        · rw [if_neg c14] at H
                          exact absurd H (by simp)
                      · rw [if_neg c13] at H
                        exact absurd H (by simp)
                    · rw [if_neg c11] at H
                      have c11b0 : decide (0 < x6_2) = false := decide_eq_false c11
                      clear c11
                      (first | rw [c11b0] | (simp only [i64_w, i32_w]; rw [c11b0]) | skip)
                      have H' := Aside0.mk H
                      clear H
                      try go_wp2
                      have n0_ := Aside0.mk (HO_3.out)
                      have n1_ := Aside0.mk (HB.out)
                      clear HO_3
                      clear HB
                      have HO_3 := n0_
                      have HB := n1_
                      clear n0_ n1_
                      simp only [List.append_eq, List.cons_append, List.nil_append]
                      go_quiet (fail)
                      try go_wp2
                      go_meet
                      case rel => exact ⟨_, (false), (by first | rfl | (simp; done) | (simp [*]; done)), H', ⟨by have := HK1.out; have := HK2.out; first | omega | exact Nat.le_refl _⟩, ⟨by (with_reducible repeat (first | apply Kd.N_alloc | apply Kd.N_drewN | apply Kd.N_drew)); exact HO_3.out⟩, ⟨by repeat (first | (with_reducible first | exact HB.out | apply below_alloc | apply pw_below_drewN | apply below_drew1) | exact HB.out)⟩⟩
                  case rest =>
                    clear HC10
                    try clear c1
                    try clear p2
                    try clear c11
                    try clear c11b0
                    try clear c13
                    try clear c14
                    try clear c15
                    try clear c16
                    try clear c17
                    try clear c18
                    obtain ⟨kq, x84_9, rfl, HA, HJ9, HO_3, HB⟩ := hcut
                    cases kq with
                    | zero => exact absurd HA.out (by simp [spec_SortStore.j2])
                    | succ kj9 =>
                      have H := HA.out
                      clear HA
                      simp only [spec_SortStore.j2] at H
                      by_cases c25 : x84_9 = true
                      · subst c25
                        have H1 : (spec_SortStore.l1 kj9 x3_1 (rd_L1 l0 x14_1) (wrap64 (x6_2 - 1)) l0 (l0.length : Int) x14_1) = some r := by rw [if_pos rfl] at H; exact H
                        clear H
                        have H := H1
                        clear H1
                        have H' := Aside0.mk H
                        clear H
                        go_wp2
                        go_roundg kj9
                        case measure => have := HK1.out; have := HK2.out; have := HJ9.out; omega
                        case rel => exact ⟨(wrap64 (x6_2 - 1)), (by first | rfl | (simp; done) | (simp [*]; done)), H', ⟨by have := HK1.out; have := HK2.out; have := HJ9.out; omega⟩, ⟨by (with_reducible repeat (first | apply Kd.N_alloc | apply Kd.N_drewN | apply Kd.N_drew)); exact HO_3.out⟩, ⟨by repeat (first | (with_reducible first | exact HB.out | apply below_alloc | apply pw_below_drewN | apply below_drew1) | exact HB.out)⟩⟩
                      · replace c25 := Bool.eq_false_iff.mpr c25
                        subst c25
                        have H1 : ((some (([] : List (List Int)) : List (List Int))).bind fun y425 => (if 0 ≤ x6_2 then (if x6_2 ≤ (x3_1.length : Int) then ((some (x3_1.take (x6_2 : Int).toNat : List (List Int))).bind fun y428 => (if y425.length + y428.length < 5864062014805 then ((some (y425 ++ y428 : List (List Int))).bind fun y433 => (if 0 < ((rd_L1 l0 x14_1).length : Int) then (if 1 < ((rd_L1 l0 x14_1).length : Int) then (if y433.length < 5864062014805 then ((some (y433 ++ [(([rd (rd_L1 l0 x14_1) 0, rd (rd_L1 l0 x14_1) 1] : List Int))] : List (List Int))).bind fun y441 => ((some (x3_1.drop (x6_2 : Int).toNat : List (List Int))).bind fun y444 => (if y441.length + y444.length < 5864062014805 then (spec_SortStore.l0 kj9 (y441 ++ y444) l0 (l0.length : Int) (wrap64 (x14_1 + 1))) else (none)))) else (none)) else (none)) else (none))) else (none))) else (none)) else (none))) = some r := by rw [if_neg (show ¬ (false = true) by decide)] at H; exact H
                        clear H
                        have H := H1
                        clear H1
                        obtain ⟨y425, hy425⟩ : ∃ y_ : List (List Int), y_ = (([] : List (List Int))) := ⟨_, rfl⟩
                        replace H : (if 0 ≤ x6_2 then (if x6_2 ≤ (x3_1.length : Int) then ((some (x3_1.take (x6_2 : Int).toNat : List (List Int))).bind fun y428 => (if y425.length + y428.length < 5864062014805 then ((some (y425 ++ y428 : List (List Int))).bind fun y433 => (if 0 < ((rd_L1 l0 x14_1).length : Int) then (if 1 < ((rd_L1 l0 x14_1).length : Int) then (if y433.length < 5864062014805 then ((some (y433 ++ [(([rd (rd_L1 l0 x14_1) 0, rd (rd_L1 l0 x14_1) 1] : List Int))] : List (List Int))).bind fun y441 => ((some (x3_1.drop (x6_2 : Int).toNat : List (List Int))).bind fun y444 => (if y441.length + y444.length < 5864062014805 then (spec_SortStore.l0 kj9 (y441 ++ y444) l0 (l0.length : Int) (wrap64 (x14_1 + 1))) else (none)))) else (none)) else (none)) else (none))) else (none))) else (none)) else (none)) = some r := by first | (rw [hy425]; with_reducible exact H) | (have H2_ := (Option.bind_some _ _).symm.trans H; rw [hy425]; with_reducible exact H2_) | (have H2_ := (Option.bind_some _ _).symm.trans H; with_reducible exact H2_) | with_reducible exact H | (rw [hy425]; exact H) | exact H
                        have Ny425 := Aside0.mk hy425
                        clear hy425
                        by_cases c26 : 0 ≤ x6_2
                        · rw [if_pos c26] at H
                          have c26b0 := eq_true c26
                          have c26b1 : decide (0 ≤ x6_2) = true := decide_eq_true c26
                          clear c26
                          by_cases c27 : x6_2 ≤ (x3_1.length : Int)
                          · rw [if_pos c27] at H
                            have c27b0 := eq_true c27
                            have c27b1 : decide (x6_2 ≤ (x3_1.length : Int)) = true := decide_eq_true c27
                            clear c27
                            obtain ⟨y428, hy428⟩ : ∃ y_ : List (List Int), y_ = (x3_1.take (x6_2 : Int).toNat) := ⟨_, rfl⟩
                            replace H : (if y425.length + y428.length < 5864062014805 then ((some (y425 ++ y428 : List (List Int))).bind fun y433 => (if 0 < ((rd_L1 l0 x14_1).length : Int) then (if 1 < ((rd_L1 l0 x14_1).length : Int) then (if y433.length < 5864062014805 then ((some (y433 ++ [(([rd (rd_L1 l0 x14_1) 0, rd (rd_L1 l0 x14_1) 1] : List Int))] : List (List Int))).bind fun y441 => ((some (x3_1.drop (x6_2 : Int).toNat : List (List Int))).bind fun y444 => (if y441.length + y444.length < 5864062014805 then (spec_SortStore.l0 kj9 (y441 ++ y444) l0 (l0.length : Int) (wrap64 (x14_1 + 1))) else (none)))) else (none)) else (none)) else (none))) else (none)) = some r := by first | (rw [hy428]; with_reducible exact H) | (have H2_ := (Option.bind_some _ _).symm.trans H; rw [hy428]; with_reducible exact H2_) | (have H2_ := (Option.bind_some _ _).symm.trans H; with_reducible exact H2_) | with_reducible exact H | (rw [hy428]; exact H) | exact H
                            have Ny428 := Aside0.mk hy428
                            clear hy428
                            by_cases c28 : y425.length + y428.length < 5864062014805
                            · rw [if_pos c28] at H
                              have LMc28 := Aside0.mk c28
                              clear c28
                              obtain ⟨y433, hy433⟩ : ∃ y_ : List (List Int), y_ = (y425 ++ y428) := ⟨_, rfl⟩
                              replace H : (if 0 < ((rd_L1 l0 x14_1).length : Int) then (if 1 < ((rd_L1 l0 x14_1).length : Int) then (if y433.length < 5864062014805 then ((some (y433 ++ [(([rd (rd_L1 l0 x14_1) 0, rd (rd_L1 l0 x14_1) 1] : List Int))] : List (List Int))).bind fun y441 => ((some (x3_1.drop (x6_2 : Int).toNat : List (List Int))).bind fun y444 => (if y441.length + y444.length < 5864062014805 then (spec_SortStore.l0 kj9 (y441 ++ y444) l0 (l0.length : Int) (wrap64 (x14_1 + 1))) else (none)))) else (none)) else (none)) else (none)) = some r := by first | (rw [hy433]; with_reducible exact H) | (have H2_ := (Option.bind_some _ _).symm.trans H; rw [hy433]; with_reducible exact H2_) | (have H2_ := (Option.bind_some _ _).symm.trans H; with_reducible exact H2_) | with_reducible exact H | (rw [hy433]; exact H) | exact H
                              have Ny433 := Aside0.mk hy433
                              clear hy433
                              by_cases c29 : 0 < ((rd_L1 l0 x14_1).length : Int)
                              · rw [if_pos c29] at H
                                have c29b0 : decide (0 < ((rd_L1 l0 x14_1).length : Int)) = true := decide_eq_true c29
                                have c29b1 : decide (0 < (rd_L1 l0 x14_1).length) = true := decide_eq_true (by omega)
                                clear c29
                                by_cases c30 : 1 < ((rd_L1 l0 x14_1).length : Int)
                                · rw [if_pos c30] at H
                                  have c30b0 : decide (1 < ((rd_L1 l0 x14_1).length : Int)) = true := decide_eq_true c30
                                  have c30b1 : decide (1 < (rd_L1 l0 x14_1).length) = true := decide_eq_true (by omega)
                                  clear c30
                                  obtain ⟨y438, hy438⟩ : ∃ y_ : List Int, y_ = (([rd (rd_L1 l0 x14_1) 0, rd (rd_L1 l0 x14_1) 1] : List Int)) := ⟨_, rfl⟩
                                  replace H : (if y433.length < 5864062014805 then ((some (y433 ++ [y438] : List (List Int))).bind fun y441 => ((some (x3_1.drop (x6_2 : Int).toNat : List (List Int))).bind fun y444 => (if y441.length + y444.length < 5864062014805 then (spec_SortStore.l0 kj9 (y441 ++ y444) l0 (l0.length : Int) (wrap64 (x14_1 + 1))) else (none)))) else (none)) = some r := by first | (rw [hy438]; with_reducible exact H) | (have H2_ := (Option.bind_some _ _).symm.trans H; rw [hy438]; with_reducible exact H2_) | (have H2_ := (Option.bind_some _ _).symm.trans H; with_reducible exact H2_) | with_reducible exact H | (rw [hy438]; exact H) | exact H
                                  have Ny438 := Aside0.mk hy438
                                  clear hy438
                                  by_cases c31 : y433.length < 5864062014805
                                  · rw [if_pos c31] at H
                                    have LMc31 := Aside0.mk c31
                                    clear c31
                                    obtain ⟨y441, hy441⟩ : ∃ y_ : List (List Int), y_ = (y433 ++ [y438]) := ⟨_, rfl⟩
                                    replace H : ((some (x3_1.drop (x6_2 : Int).toNat : List (List Int))).bind fun y444 => (if y441.length + y444.length < 5864062014805 then (spec_SortStore.l0 kj9 (y441 ++ y444) l0 (l0.length : Int) (wrap64 (x14_1 + 1))) else (none))) = some r := by first | (rw [hy441]; with_reducible exact H) | (have H2_ := (Option.bind_some _ _).symm.trans H; rw [hy441]; with_reducible exact H2_) | (have H2_ := (Option.bind_some _ _).symm.trans H; with_reducible exact H2_) | with_reducible exact H | (rw [hy441]; exact H) | exact H
                                    have Ny441 := Aside0.mk hy441
                                    clear hy441
                                    have c32b0 := eq_true (of_decide_eq_true (by first | (with_reducible assumption) | assumption) : 0 ≤ x6_2)
                                    have c33b0 := eq_true (of_decide_eq_true (by first | (with_reducible assumption) | assumption) : x6_2 ≤ (x3_1.length : Int))
                                    obtain ⟨y444, hy444⟩ : ∃ y_ : List (List Int), y_ = (x3_1.drop (x6_2 : Int).toNat) := ⟨_, rfl⟩
                                    replace H : (if y441.length + y444.length < 5864062014805 then (spec_SortStore.l0 kj9 (y441 ++ y444) l0 (l0.length : Int) (wrap64 (x14_1 + 1))) else (none)) = some r := by first | (rw [hy444]; with_reducible exact H) | (have H2_ := (Option.bind_some _ _).symm.trans H; rw [hy444]; with_reducible exact H2_) | (have H2_ := (Option.bind_some _ _).symm.trans H; with_reducible exact H2_) | with_reducible exact H | (rw [hy444]; exact H) | exact H
                                    have Ny444 := Aside0.mk hy444
                                    clear hy444
                                    by_cases c34 : y441.length + y444.length < 5864062014805
                                    · rw [if_pos c34] at H
                                      have LMc34 := Aside0.mk c34
                                      clear c34
                                      obtain ⟨y449, hy449⟩ : ∃ y_ : List (List Int), y_ = (y441 ++ y444) := ⟨_, rfl⟩
                                      replace H : (spec_SortStore.l0 kj9 y449 l0 (l0.length : Int) (wrap64 (x14_1 + 1))) = some r := by first | (rw [hy449]; with_reducible exact H) | (have H2_ := (Option.bind_some _ _).symm.trans H; rw [hy449]; with_reducible exact H2_) | (have H2_ := (Option.bind_some _ _).symm.trans H; with_reducible exact H2_) | with_reducible exact H | (rw [hy449]; exact H) | exact H
                                      have Ny449 := Aside0.mk hy449
                                      clear hy449
                                      have H' := Aside0.mk H
                                      clear H
                                      try go_wp2_with (first | ((with_reducible refine gate_dst (N := 87) rfl ?_); refine Kd.N_lit (Kd.slice 3 (Kd.int .i64)) _ 40 ?hg (N' := 87) ?hd (xs := ([] : List (List Int))) (inner := []) (ok := (fun k_ => (w.heap.size ≤ k_) ∧ some k_ ≠ (.slice Ao9 x3_1.length co9 : Value).ownBlock)) (okp := (fun k_ => (w.heap.size ≤ k_) ∧ some k_ ≠ (.slice Ao9 x3_1.length co9 : Value).ownBlock)) ?hr ?hp (fun _ hk => hk) ((show ∀ k_, wc.heap.size ≤ k_ → (fun k_ => (w.heap.size ≤ k_) ∧ some k_ ≠ (.slice Ao9 x3_1.length co9 : Value).ownBlock) k_ from fun k_ hk => ⟨(Nat.le_trans (below_size (by repeat (first | (with_reducible first | exact HB.out | apply below_alloc | apply pw_below_drewN | apply below_drew1) | exact HB.out))) hk), Kd.fresh' (Kd.N_lt (by (with_reducible repeat (first | apply Kd.N_alloc | apply Kd.N_drewN | apply Kd.N_drew)); exact HO_3.out)) k_ hk⟩) _ (Nat.le_refl _)) (Below.refl _ _) (Nat.le_refl _) (by simp) ?_; (case hd => rfl); (case hg => rfl); (case hr => first | (go_simp; done) | (go_simp; rfl)); (case hp => exact (Reps.none _ _)); intro v426 w35 ho36 hb hg_ hnew_; clear hg_ hnew_; (first | rw [← Ny425.out] at ho36 | (simp only [Int.reduceToNat] at ho36; rw [← Ny425.out] at ho36)); have n0_ := Aside0.mk (Kd.N_elder' (by (with_reducible repeat (first | apply Kd.N_alloc | apply Kd.N_drewN | apply Kd.N_drew)); exact HO_3.out) (Kd.N_base ho36) hb); have n1_ := Aside0.mk (Kd.N_lower ho36 (below_size (by repeat (first | (with_reducible first | exact HB.out | apply below_alloc | apply pw_below_drewN | apply below_drew1) | exact HB.out)))); have n2_ := Aside0.mk (below_step (by repeat (first | (with_reducible first | exact HB.out | apply below_alloc | apply pw_below_drewN | apply below_drew1) | exact HB.out)) hb); clear HO_3; clear HB; have HO_3 := n0_; have HO427 := n1_; have HB := n2_; clear n0_ n1_ n2_; clear hb ho36; have q37 : (x6_2 : Int) ≤ ((x3_1.length : Int) : Int) := of_decide_eq_true (by first | (with_reducible assumption) | assumption); obtain ⟨i037, hi037, _, hsz37, _⟩ := info_parts info40; have hroom37 : x3_1.length ≤ co9 := (Kd.N_reads' HO_3.out).2.1; have hC37 : Kd.F (Kd.slice 3 (Kd.int .i64)) _ _ Ao9 x3_1.length x3_1 := (Kd.V_at (base := w.heap.size) (Kd.N_V HO_3.out)).2.2; have hcut37 := cut_to (P := Try.prog) 22 40 .i64 Try.underlying22 hi037 Ao9 x3_1.length co9 x6_2 (of_decide_eq_true (by first | (with_reducible assumption) | assumption)) q37 hroom37; have hr37 := Kd.F_take (m := (x6_2 : Int).toNat) hC37 (by omega); have hy37 : y428.length = (x6_2 : Int).toNat := (by rw [Ny428.out, List.length_take]; omega); rw [← Ny428.out] at hr37; rw [← hy37] at hcut37; have HO432 := Aside0.mk (show Kd.V (Kd.slice 3 (Kd.int .i64)) 40 _ w.heap.size _ (.slice Ao9 y428.length co9) y428 from Kd.V_mk (by omega) hr37); have HC432 := Aside0.mk (show y428.length ≤ co9 from by omega); clear hr37 hC37 hroom37 hi037 hsz37; have KY37 := Aside0.mk hy37; clear hy37; replace q37 := eq_true q37) | ((with_reducible refine gate_builtin (b := .append) (xs := #[.tmp 87, .tmp 90]) rfl ?_); at_builtin; refine Kd.N_append_rows (Kd.slice 3 (Kd.int .i64)) (w0 := w) w.heap.size rfl (.tmp 87) (.tmp 90) 22 40 (.slice none 0 0) 24 rfl Try.underlying22 info40 rfl (by decide) (by omega) v426 y425 y428 _ _ _ (fun k_ => (w.heap.size ≤ k_)) (fun k_ => ((fun k_ => (w.heap.size ≤ k_))) k_ ∧ some k_ ≠ (v426 : Value).ownBlock) rfl rfl ?aO ?aR (fun _ hk => hk) ?aF ?aB ?aS ?aL ?_; (case aR => exact (by skip; exact Kd.V_F (Kd.V_mono (ok' := (fun k_ => ((fun k_ => (w.heap.size ≤ k_))) k_ ∧ some k_ ≠ (v426 : Value).ownBlock)) (HO432.out) (fun k_ hk => ⟨hk.1, hk.2⟩)))); (case aB => exact (by repeat (first | (with_reducible first | exact HB.out | apply below_alloc | apply pw_below_drewN | apply below_drew1) | exact HB.out))); (case aF => exact (fun k_ hk => (Nat.le_trans (below_size (by repeat (first | (with_reducible first | exact HB.out | apply below_alloc | apply pw_below_drewN | apply below_drew1) | exact HB.out))) hk))); (case aO => exact (by (with_reducible repeat (first | apply Kd.N_alloc | apply Kd.N_drewN | apply Kd.N_drew)); exact Kd.N_mono HO427.out (fun _ hk => hk.1))); (case aS => exact (below_size (by repeat (first | (with_reducible first | exact HB.out | apply below_alloc | apply pw_below_drewN | apply below_drew1) | exact HB.out)))); (case aL => have := LMc28.out; omega); intro v434 w38 ho hb hg hat; rw [← Ny433.out] at ho; have n0_ := Aside0.mk (Kd.N_afterv (ok := (fun k_ => (w.heap.size ≤ k_))) (by (with_reducible repeat (first | apply Kd.N_alloc | apply Kd.N_drewN | apply Kd.N_drew)); exact HO_3.out) hg hat); have n1_ := Aside0.mk (Kd.V_afterv (ok := (fun k_ => (w.heap.size ≤ k_))) (by (with_reducible repeat (first | apply Kd.V_alloc | apply Kd.V_drewN | apply Kd.V_drew)); exact HO432.out) hg hat); have n2_ := Aside0.mk (hb); have n3_ := Aside0.mk (ho); clear HO_3; clear HO432; clear HB; clear HO427; have HO_3 := n0_; have HO432 := n1_; have HB := n2_; have HO435 := n3_; clear n0_ n1_ n2_ n3_; clear ho hb hg hat))
                                      have n0_ := Aside0.mk (Kd.N_drew HO_3.out)
                                      have n1_ := Aside0.mk (Kd.V_drew HO432.out)
                                      have n2_ := Aside0.mk (Kd.N_drew HO435.out)
                                      have n3_ := Aside0.mk (below_drew1 HB.out)
                                      clear HO_3
                                      clear HO432
                                      clear HO435
                                      clear HB
                                      have HO_3 := n0_
                                      have HO432 := n1_
                                      have HO435 := n2_
                                      have HB := n3_
                                      clear n0_ n1_ n2_ n3_
                                      have p436 : 0 ≤ (0 : Int) := (by omega)
                                      have q436 : 0 < ((rd_L1 l0 x14_1).length : Int) := of_decide_eq_true (by first | (with_reducible assumption) | assumption)
                                      obtain ⟨ad436, e436, hx436_0⟩ := Kd.at_int HR409_0.out 0 p436 q436
                                      have hw436_0 := hx436_0
                                      (try rw [show ((0 : Int)).toNat = 0 from rfl] at hw436_0)
                                      (try rw [show 0 * 1 = 0 from rfl] at hw436_0)
                                      (try rw [Addr.add_zero'] at hw436_0)
                                      cases e436
                                      have qi436 : (0 < (rd_L1 l0 x14_1).length) = True := eq_true (by omega)
                                      (try rw [show ((0 : Int)).toNat = 0 from rfl] at hx436_0)
                                      (try rw [Addr.add_zero'] at hx436_0)
                                      replace hx436_0 := (HB.out.cell (World.block_lt_of_cell? w _ hx436_0)).trans hx436_0
                                      replace p436 := eq_true p436
                                      replace q436 := eq_true q436
                                      have p437 : 0 ≤ (1 : Int) := (by omega)
                                      have q437 : 1 < ((rd_L1 l0 x14_1).length : Int) := of_decide_eq_true (by first | (with_reducible assumption) | assumption)
                                      obtain ⟨ad437, e437, hx437_0⟩ := Kd.at_int HR409_0.out 1 p437 q437
                                      have hw437_0 := hx437_0
                                      (try rw [show ((1 : Int)).toNat = 1 from rfl] at hw437_0)
                                      (try rw [show 1 * 1 = 1 from rfl] at hw437_0)
                                      (try simp only [Nat.reduceMul, Nat.reduceEqDiff, Go.Addr.add, ↓reduceIte] at hw437_0)
                                      obtain rfl : ad436 = ad437 := (by injection e437)
                                      (try simp only [show (1 : Int).toNat = 1 from rfl, Nat.reduceMul, Nat.reduceEqDiff, Go.Addr.add, ↓reduceIte] at hx437_0)
                                      have qi437 : (1 < (rd_L1 l0 x14_1).length) = True := eq_true (by omega)
                                      (try rw [show ((1 : Int)).toNat = 1 from rfl] at hx437_0)
                                      replace hx437_0 := (HB.out.cell (World.block_lt_of_cell? w _ hx437_0)).trans hx437_0
                                      replace p437 := eq_true p437
                                      replace q437 := eq_true q437
                                      refine start_ (n := 11) (S := fun w' => w'.cell? ad436 = some (.int .i64 (rd (rd_L1 l0 x14_1) 0)) ∧ w'.cell? ⟨ad436.block, ad436.off + 1, none⟩ = some (.int .i64 (rd (rd_L1 l0 x14_1) 1))) (ds := []) #[false, false, false, false, false, false, false, false, false, false, false] (by kernel_rfl) rfl rfl ⟨((HB.out.cell (World.block_lt_of_cell? w _ hw436_0)).trans hw436_0), ((HB.out.cell (World.block_lt_of_cell? w _ hw437_0)).trans hw437_0)⟩ (fun hHeld => ?_); refine with_tabW spec_SortStore.tab11 spec_SortStore.bits11 (fun HT_ HW_ => ?_)
                                      generalize w38.drew = w39 at HO_3 HO432 HO435 HB hx436_0 hx437_0 hHeld ⊢
                                      refine pure_ (i := 0) (N := some 92) (v := ?_) (a' := ?_) #[true, false, false, false, false, false, false, false, false, false, false] rfl rfl (any_of HT_.out (by kernel_rfl)) (fun _ _ _ h => h) (Or.inl ⟨by rfl, ?_⟩) ?_ ?_
                                      rotate_left
                                      · intro w'
                                        go_simp
                                        with_reducible rfl
                                      rotate_left
                                      · simp only [Act.put, List.setIfInBounds_toArray, List.set_cons_zero, List.set_cons_succ, i64_w, i32_w]
                                        rfl
                                      refine pure_ (i := 1) (N := some 93) (v := ?_) (a' := ?_) #[true, true, false, false, false, false, false, false, false, false, false] rfl rfl (any_of HT_.out (by kernel_rfl)) (fun _ _ _ h => h) (Or.inl ⟨by rfl, ?_⟩) ?_ ?_
                                      rotate_left
                                      · intro w'
                                        go_simp
                                        with_reducible rfl
                                      rotate_left
                                      · simp only [Act.put, List.setIfInBounds_toArray, List.set_cons_zero, List.set_cons_succ, i64_w, i32_w]
                                        rfl
                                      refine pure_ (i := 2) (N := some 94) (v := ?_) (a' := ?_) #[true, true, true, false, false, false, false, false, false, false, false] rfl rfl (any_of HT_.out (by kernel_rfl)) (fun _ _ _ h => h) (Or.inl ⟨by rfl, ?_⟩) ?_ ?_
                                      rotate_left
                                      · intro w'
                                        go_simp
                                        with_reducible rfl
                                      rotate_left
                                      · simp only [Act.put, List.setIfInBounds_toArray, List.set_cons_zero, List.set_cons_succ, i64_w, i32_w]
                                        rfl
                                      refine pure_ (i := 4) (N := some 96) (v := ?_) (a' := ?_) #[true, true, true, false, true, false, false, false, false, false, false] rfl rfl (any_of HT_.out (by kernel_rfl)) (fun _ _ _ h => h) (Or.inl ⟨by rfl, ?_⟩) ?_ ?_
                                      rotate_left
                                      · intro w'
                                        go_simp
                                        with_reducible rfl
                                      rotate_left
                                      · simp only [Act.put, List.setIfInBounds_toArray, List.set_cons_zero, List.set_cons_succ, i64_w, i32_w]
                                        rfl
                                      refine pure_ (i := 5) (N := some 97) (v := ?_) (a' := ?_) #[true, true, true, false, true, true, false, false, false, false, false] rfl rfl (any_of HT_.out (by kernel_rfl)) (fun _ _ _ h => h) (Or.inl ⟨by rfl, ?_⟩) ?_ ?_
                                      rotate_left
                                      · intro w'
                                        go_simp
                                        with_reducible rfl
                                      rotate_left
                                      · simp only [Act.put, List.setIfInBounds_toArray, List.set_cons_zero, List.set_cons_succ, i64_w, i32_w]
                                        rfl
                                      refine take_ (i := 3) (N := some 95) (v := ?_) (a' := ?_) #[true, true, true, true, true, true, false, false, false, false, false] rfl rfl (take_ofW HT_.out HW_.out (by kernel_rfl)) (fun _ _ _ h => h) (Or.inl ⟨by rfl, ?_⟩) hHeld ?_ ?_
                                      rotate_left
                                      · rintro w' ⟨s0, s1⟩
                                        go_simp
                                        with_reducible rfl
                                      rotate_left
                                      · simp only [Act.put, List.setIfInBounds_toArray, List.set_cons_zero, List.set_cons_succ, i64_w, i32_w]
                                        rfl
                                      refine take_ (i := 6) (N := some 98) (v := ?_) (a' := ?_) #[true, true, true, true, true, true, true, false, false, false, false] rfl rfl (take_ofW HT_.out HW_.out (by kernel_rfl)) (fun _ _ _ h => h) (Or.inl ⟨by rfl, ?_⟩) hHeld ?_ ?_
                                      rotate_left
                                      · rintro w' ⟨s0, s1⟩
                                        go_simp
                                        with_reducible rfl
                                      rotate_left
                                      · simp only [Act.put, List.setIfInBounds_toArray, List.set_cons_zero, List.set_cons_succ, i64_w, i32_w]
                                        rfl
                                      refine one_ (i := 7) (N := some 99) #[true, true, true, true, true, true, true, true, false, false, false] rfl rfl (one_of HT_.out (by kernel_rfl)) (by decide) (fun K hK => ?_)
                                      refine Kd.R_lit_step (Kd.int .i64) _ 3 ?hg (N := 99) ?hd (xs := ([rd (rd_L1 l0 x14_1) 0, rd (rd_L1 l0 x14_1) 1] : List Int)) (inner := [.int .i64 (rd (rd_L1 l0 x14_1) 0), .int .i64 (rd (rd_L1 l0 x14_1) 1)]) (ok := fun _ => True) (okp := fun _ => True) ?hr ?hp (fun _ hk => hk) trivial (Below.refl _ _) (Nat.le_refl _) (by simp) ?_; (case hd => rfl); (case hg => rfl); (case hr => first | (go_simp; done) | (go_simp; rfl)); (case hp => exact (Reps.one (show Kd.M (Kd.int .i64) _ _ _ (rd (rd_L1 l0 x14_1) 0) [.int .i64 (rd (rd_L1 l0 x14_1) 0)] from rfl) (Reps.one (show Kd.M (Kd.int .i64) _ _ _ (rd (rd_L1 l0 x14_1) 1) [.int .i64 (rd (rd_L1 l0 x14_1) 1)] from rfl) (Reps.none _ _))))
                                      intro v439 w40 ho41 hb hg_ hnew_
                                      clear hg_ hnew_
                                      (first | rw [← Ny438.out] at ho41 | (simp only [Int.reduceToNat] at ho41; rw [← Ny438.out] at ho41))
                                      have n0_ := Aside0.mk (Kd.N_elder' (by (with_reducible repeat (first | apply Kd.N_alloc | apply Kd.N_drewN | apply Kd.N_drew)); exact HO_3.out) (Kd.R_base ho41) hb)
                                      have n1_ := Aside0.mk (Kd.V_elder' (by (with_reducible repeat (first | apply Kd.V_alloc | apply Kd.V_drewN | apply Kd.V_drew)); exact HO432.out) (Kd.R_base ho41) hb)
                                      have n2_ := Aside0.mk (Kd.N_elder' (by (with_reducible repeat (first | apply Kd.N_alloc | apply Kd.N_drewN | apply Kd.N_drew)); exact HO435.out) (Kd.R_base ho41) hb)
                                      have n3_ := Aside0.mk (Kd.R_lower (Kd.R_newM (M := fun k_ => (w.heap.size ≤ k_)) ho41 (below_size (by repeat (first | (with_reducible first | exact HB.out | apply below_alloc | apply pw_below_drewN | apply below_drew1) | exact HB.out))) (fun k_ h_ => h_)) (below_size (by repeat (first | (with_reducible first | exact HB.out | apply below_alloc | apply pw_below_drewN | apply below_drew1) | exact HB.out))))
                                      have n4_ := Aside0.mk (below_step (by repeat (first | (with_reducible first | exact HB.out | apply below_alloc | apply pw_below_drewN | apply below_drew1) | exact HB.out)) hb)
                                      clear HO_3
                                      clear HO432
                                      clear HO435
                                      clear HB
                                      have HO_3 := n0_
                                      have HO432 := n1_
                                      have HO435 := n2_
                                      have HO440 := n3_
                                      have HB := n4_
                                      clear n0_ n1_ n2_ n3_ n4_
                                      clear hb ho41
                                      obtain ⟨Ao43, co43, eo43⟩ := Kd.R_slice HO440.out
                                      (first | subst eo43 | (injection eo43 with f1_ f2_ f3_; have f4_ := f1_.symm; have f5_ := f3_.symm; clear f1_ f2_ f3_; subst f4_; subst f5_))
                                      refine hK.out _ _ ⟨((HB.out.cell (World.block_lt_of_cell? w _ hw436_0)).trans hw436_0), ((HB.out.cell (World.block_lt_of_cell? w _ hw437_0)).trans hw437_0)⟩ (fun hHeld => ?_)
                                      clear hK K
                                      refine norm_ (a' := ?_) ?_ ?_
                                      rotate_left
                                      · show Act.put _ (some 99) _ = _
                                        simp only [Act.put, List.setIfInBounds_toArray, List.set_cons_zero, List.set_cons_succ, i64_w, i32_w]
                                        rfl
                                      refine one_ (i := 8) (N := some 100) #[true, true, true, true, true, true, true, true, true, false, false] rfl rfl (one_of HT_.out (by kernel_rfl)) (by decide) (fun K hK => ?_)
                                      refine value_ (w1 := ?_) (v := ?_) (by rfl) rfl ?_ ?_
                                      rotate_left 2
                                      · go_simp
                                        constructor
                                        · rfl
                                        · rfl
                                      refine hK.out _ _ ⟨(World.cell?_alloc_lt _ _ _ (World.block_lt_of_cell? _ _ (((HB.out.cell (World.block_lt_of_cell? w _ hw436_0)).trans hw436_0)))).trans (((HB.out.cell (World.block_lt_of_cell? w _ hw436_0)).trans hw436_0)), (World.cell?_alloc_lt _ _ _ (World.block_lt_of_cell? _ _ (((HB.out.cell (World.block_lt_of_cell? w _ hw437_0)).trans hw437_0)))).trans (((HB.out.cell (World.block_lt_of_cell? w _ hw437_0)).trans hw437_0))⟩ (fun hHeld => ?_)
                                      clear hK K
                                      refine norm_ (a' := ?_) ?_ ?_
                                      rotate_left
                                      · show Act.put _ (some 100) _ = _
                                        simp only [Act.put, List.setIfInBounds_toArray, List.set_cons_zero, List.set_cons_succ, i64_w, i32_w]
                                        rfl
                                      refine one_ (i := 9) (N := some 101) #[true, true, true, true, true, true, true, true, true, true, false] rfl rfl (one_of HT_.out (by kernel_rfl)) (by decide) (fun K hK => ?_)
                                      refine Kd.N_append_step (Kd.slice 3 (Kd.int .i64)) (w0 := w) w.heap.size (by rfl) (.tmp 92) (.tmp 100) 22 40 (.slice none 0 0) 24 rfl Try.underlying22 info40 rfl (by decide) (by omega) v434 y433 y438 [.slice Ao43 y438.length co43] (fun k_ => (w.heap.size ≤ k_)) (fun k_ => ((fun k_ => (w.heap.size ≤ k_))) k_ ∧ some k_ ≠ (v434 : Value).ownBlock) rfl rfl ?aP (fun _ hk => hk) ?aF ?aO ?aB ?aS ?aL ?_
                                      (case aP => exact (Kd.FK_slice_mk (Kd.R_reads' (Kd.R_mono (ok' := (fun k_ => ((fun k_ => (w.heap.size ≤ k_))) k_ ∧ some k_ ≠ (v434 : Value).ownBlock)) (Kd.R_apart' (HO440.out) (Kd.N_typed HO435.out) (by decide)) (fun k_ hk => ⟨hk.1.1, hk.2⟩))).2.1 (Kd.R_F (Kd.R_mono (ok' := (fun k_ => ((fun k_ => (w.heap.size ≤ k_))) k_ ∧ some k_ ≠ (v434 : Value).ownBlock)) (Kd.R_apart' (HO440.out) (Kd.N_typed HO435.out) (by decide)) (fun k_ hk => ⟨hk.1.1, hk.2⟩)))))
                                      (case aB => exact (by repeat (first | (with_reducible first | exact HB.out | apply below_alloc | apply pw_below_drewN | apply below_drew1) | exact HB.out)))
                                      (case aF => exact (fun k_ hk => (Nat.le_trans (below_size (by repeat (first | (with_reducible first | exact HB.out | apply below_alloc | apply pw_below_drewN | apply below_drew1) | exact HB.out))) hk)))
                                      (case aO => exact (by (with_reducible repeat (first | apply Kd.N_alloc | apply Kd.N_drewN | apply Kd.N_drew)); exact Kd.N_mono HO435.out (fun _ hk => hk.1)))
                                      (case aS => exact (below_size (by repeat (first | (with_reducible first | exact HB.out | apply below_alloc | apply pw_below_drewN | apply below_drew1) | exact HB.out))))
                                      (case aL => have := LMc31.out; omega)
                                      intro v442 w42 ho hb hg hat
                                      rw [← Ny441.out] at ho
                                      have n0_ := Aside0.mk (Kd.N_afterv (ok := (fun k_ => (w.heap.size ≤ k_) ∧ some k_ ≠ (.slice Ao43 y438.length co43 : Value).ownBlock)) (by (with_reducible repeat (first | apply Kd.N_alloc | apply Kd.N_drewN | apply Kd.N_drew)); exact Kd.N_mono HO_3.out (fun _ hk => ⟨⟨hk.1.1, hk.2⟩, hk.1.2⟩)) hg hat)
                                      have n1_ := Aside0.mk (Kd.V_afterv (ok := (fun k_ => (w.heap.size ≤ k_) ∧ some k_ ≠ (.slice Ao43 y438.length co43 : Value).ownBlock)) (by (with_reducible repeat (first | apply Kd.V_alloc | apply Kd.V_drewN | apply Kd.V_drew)); exact Kd.V_mono HO432.out (fun _ hk => ⟨⟨hk.1.1, hk.2⟩, hk.1.2⟩)) hg hat)
                                      have n2_ := Aside0.mk (hb)
                                      have n3_ := Aside0.mk (ho)
                                      clear HO_3
                                      clear HO432
                                      clear HB
                                      clear HO435
                                      clear HO440
                                      have HO_3 := n0_
                                      have HO432 := n1_
                                      have HB := n2_
                                      have HO443 := n3_
                                      clear n0_ n1_ n2_ n3_
                                      clear ho hb hg hat
                                      refine hK.out _ _ ⟨((HB.out.cell (World.block_lt_of_cell? w _ hw436_0)).trans hw436_0), ((HB.out.cell (World.block_lt_of_cell? w _ hw437_0)).trans hw437_0)⟩ (fun hHeld => ?_)
                                      clear hK K
                                      refine norm_ (a' := ?_) ?_ ?_
                                      rotate_left
                                      · show Act.put _ (some 101) _ = _
                                        simp only [Act.put, List.setIfInBounds_toArray, List.set_cons_zero, List.set_cons_succ, i64_w, i32_w]
                                        rfl
                                      refine pure_ (i := 10) (N := some 7) (v := ?_) (a' := ?_) #[true, true, true, true, true, true, true, true, true, true, true] rfl rfl (any_of HT_.out (by kernel_rfl)) (fun _ _ _ h => h) (Or.inl ⟨by rfl, ?_⟩) ?_ ?_
                                      rotate_left
                                      · intro w'
                                        go_simp
                                        with_reducible rfl
                                      rotate_left
                                      · simp only [Act.put, List.setIfInBounds_toArray, List.set_cons_zero, List.set_cons_succ, i64_w, i32_w]
                                        rfl
                                      refine done_ (done_of HT_.out (by kernel_rfl)) ?_
                                      have q44 : (x6_2 : Int) ≤ ((x3_1.length : Int) : Int) := of_decide_eq_true (by first | (with_reducible assumption) | assumption)
                                      obtain ⟨i044, hi044, _, hsz44, _⟩ := info_parts info40
                                      have hroom44 : x3_1.length ≤ co9 := (Kd.N_reads' HO_3.out).2.1
                                      have hC44 : Kd.F (Kd.slice 3 (Kd.int .i64)) _ _ Ao9 x3_1.length x3_1 := (Kd.V_at (base := w.heap.size) (Kd.N_V HO_3.out)).2.2
                                      have q044 : (0 : Int) ≤ (x6_2 : Int) := of_decide_eq_true (by first | (with_reducible assumption) | assumption)
                                      have hcut44 := cut_from (P := Try.prog) 22 40 .i64 Try.underlying22 hi044 1 hsz44 Ao9 x3_1.length co9 x6_2 q044 q44
                                      have hr44 := Kd.F_cut (m := (x6_2 : Int).toNat) (c := co9) hC44 (by omega) hroom44
                                      obtain ⟨A44, hA44⟩ : ∃ A1, A1 = (if co9 = (x6_2 : Int).toNat then Ao9 else (Ao9 : Option Addr).map (·.add ((x6_2 : Int).toNat * 1))) := ⟨_, rfl⟩
                                      obtain ⟨c44, hc44⟩ : ∃ c1, c1 = co9 - (x6_2 : Int).toNat := ⟨_, rfl⟩
                                      have hy44 : y444.length = x3_1.length - (x6_2 : Int).toNat := (by rw [Ny444.out, List.length_drop] <;> omega)
                                      rw [show (x3_1).drop (x6_2 : Int).toNat = y444 from Ny444.out.symm] at hr44
                                      replace hr44 : Kd.F (Kd.slice 3 (Kd.int .i64)) _ _ A44 y444.length y444 := (by rw [hA44]; exact hr44)
                                      rw [← hy44, ← hA44, ← hc44] at hcut44
                                      have HO448 := Aside0.mk (show Kd.V (Kd.slice 3 (Kd.int .i64)) 40 _ w.heap.size _ (.slice A44 y444.length c44) y444 from Kd.V_mk (by rw [hy44, hc44]; exact Nat.sub_le_sub_right hroom44 _) hr44)
                                      have HC448 := Aside0.mk (show y444.length ≤ c44 from by rw [hy44, hc44]; exact Nat.sub_le_sub_right hroom44 _)
                                      clear hr44 hC44 hroom44 hi044 hsz44 hc44
                                      have KY44 := Aside0.mk hy44
                                      have KA44 := Aside0.mk hA44
                                      clear hy44 hA44
                                      replace q44 := eq_true q44
                                      try go_wp2_with (first | ((with_reducible refine gate_builtin (b := .append) (xs := #[.tmp 102, .tmp 105]) rfl ?_); at_builtin; refine Kd.N_append_rows (Kd.slice 3 (Kd.int .i64)) (w0 := w) w.heap.size rfl (.tmp 102) (.tmp 105) 22 40 (.slice none 0 0) 24 rfl Try.underlying22 info40 rfl (by decide) (by omega) v442 y441 y444 _ _ _ (fun k_ => (w.heap.size ≤ k_)) (fun k_ => ((fun k_ => (w.heap.size ≤ k_))) k_ ∧ some k_ ≠ (v442 : Value).ownBlock) rfl rfl ?aO ?aR (fun _ hk => hk) ?aF ?aB ?aS ?aL ?_; (case aR => exact (by skip; exact Kd.V_F (Kd.V_mono (ok' := (fun k_ => ((fun k_ => (w.heap.size ≤ k_))) k_ ∧ some k_ ≠ (v442 : Value).ownBlock)) (HO448.out) (fun k_ hk => ⟨hk.1.1, hk.2⟩)))); (case aB => exact (by repeat (first | (with_reducible first | exact HB.out | apply below_alloc | apply pw_below_drewN | apply below_drew1) | exact HB.out))); (case aF => exact (fun k_ hk => (Nat.le_trans (below_size (by repeat (first | (with_reducible first | exact HB.out | apply below_alloc | apply pw_below_drewN | apply below_drew1) | exact HB.out))) hk))); (case aO => exact (by (with_reducible repeat (first | apply Kd.N_alloc | apply Kd.N_drewN | apply Kd.N_drew)); exact HO443.out)); (case aS => exact (below_size (by repeat (first | (with_reducible first | exact HB.out | apply below_alloc | apply pw_below_drewN | apply below_drew1) | exact HB.out)))); (case aL => have := LMc34.out; omega); intro v450 w45 ho hb hg hat; rw [← Ny449.out] at ho; have n0_ := Aside0.mk (Kd.N_afterv (ok := (fun k_ => (w.heap.size ≤ k_))) (by (with_reducible repeat (first | apply Kd.N_alloc | apply Kd.N_drewN | apply Kd.N_drew)); exact Kd.N_mono HO_3.out (fun _ hk => ⟨hk.1.1, hk.2⟩)) hg hat); have n1_ := Aside0.mk (Kd.V_afterv (ok := (fun k_ => (w.heap.size ≤ k_))) (by (with_reducible repeat (first | apply Kd.V_alloc | apply Kd.V_drewN | apply Kd.V_drew)); exact Kd.V_mono HO432.out (fun _ hk => ⟨hk.1.1, hk.2⟩)) hg hat); have n2_ := Aside0.mk (Kd.V_afterv (ok := (fun k_ => (w.heap.size ≤ k_))) (by (with_reducible repeat (first | apply Kd.V_alloc | apply Kd.V_drewN | apply Kd.V_drew)); exact Kd.V_mono HO448.out (fun _ hk => ⟨hk.1.1, hk.2⟩)) hg hat); have n3_ := Aside0.mk (hb); have n4_ := Aside0.mk (ho); clear HO_3; clear HO432; clear HO448; clear HB; clear HO443; have HO_3 := n0_; have HO432 := n1_; have HO448 := n2_; have HB := n3_; have HO451 := n4_; clear n0_ n1_ n2_ n3_ n4_; clear ho hb hg hat))
                                      go_roundg kj9
                                      case measure => have := HK1.out; have := HK2.out; have := HJ9.out; omega
                                      case rel => exact ⟨(y449), (wrap64 (x14_1 + 1)), (by first | rfl | (simp; done) | (simp [*]; done)), H', ⟨by have := HK1.out; have := HK2.out; have := HJ9.out; omega⟩, ⟨by (with_reducible repeat (first | apply Kd.N_alloc | apply Kd.N_drewN | apply Kd.N_drew)); exact HO451.out⟩, ⟨by repeat (first | (with_reducible first | exact HB.out | apply below_alloc | apply pw_below_drewN | apply below_drew1) | exact HB.out)⟩⟩
                                    · rw [if_neg c34] at H
                                      exact absurd H (by simp)
                                  · rw [if_neg c31] at H
                                    exact absurd H (by simp)
                                · rw [if_neg c30] at H
                                  exact absurd H (by simp)
                              · rw [if_neg c29] at H
                                exact absurd H (by simp)
                            · rw [if_neg c28] at H
                              exact absurd H (by simp)
                          · rw [if_neg c27] at H
                            exact absurd H (by simp)
                        · rw [if_neg c26] at H
                          exact absurd H (by simp)
            · rw [if_neg c8] at H
              exact absurd H (by simp)
          · rw [if_neg c7] at H
            exact absurd H (by simp)
        · rw [if_neg c6] at H
          have c6b0 : decide (x14_1 < (l0.length : Int)) = false := decide_eq_false c6
          clear c6
          obtain rfl := Option.some.inj H
          go_wp2
          go_ret
          exact ⟨_, by first | rfl | (simp [errW_none, errW_some] <;> rfl) | (simp [*, errW_none, errW_some] <;> rfl), by (with_reducible repeat (first | apply Kd.N_alloc | apply Kd.N_drewN | apply Kd.N_drew)); exact HO_3.out, by repeat (first | (with_reducible first | exact HB.out | apply below_alloc | apply pw_below_drewN | apply below_drew1) | exact HB.out)⟩
  · replace c3 := Bool.eq_false_iff.mpr c3
    subst c3
    have H1 : (some ([] : List (List Int))) = some r := by rw [if_neg (show ¬ (false = true) by decide)] at H; exact H
    clear H
    have H := H1
    clear H1
    obtain rfl := Option.some.inj H
    go_enter Try.func31, Try.ntmps31
    go_wp2_with (first | ((with_reducible refine gate_callee (f := 13) rfl ?_); refine goesL_ (some 9) rfl rfl Try.func13 (by kernel_rfl) rfl #[.slice A0 l0.length c0] rfl (by (try simp only [List.map_toArray, List.map_cons, List.map_nil]); first | done | rfl | (simp only [List.length_drop, List.length_take]; rfl)) ?_; (with_reducible refine (spec_StoreOk.calls k _ _ l0 false _ ?side1 ?side2 A2.out).mono ?_); (case side1 => repeat (first | exact HR0.out | (with_reducible refine Kd.C_alloc ?_ _) | (with_reducible refine Kd.C_drewN ?_ _) | (with_reducible refine Kd.C_drew ?_))); (case side2 => exact HC0.out); rintro e w' ⟨rfl, ⟨nd, rfl⟩⟩; refine ⟨_, rfl, ?_⟩))
    go_ret
    exact ⟨_, by first | rfl | (simp [errW_none, errW_some] <;> rfl) | (simp [*, errW_none, errW_some] <;> rfl), by first | exact Kd.S_nil _ _ _ _ _ | exact Kd.N_nil _ _ _ _ _ | exact Kd.V_nil _ _ _ _ _ | exact Kd.Q_nil _ _ _ _ _ | exact Kd.R_nil _ _ _ _ _, by repeat (first | (with_reducible first | exact HB.out | apply below_alloc | apply pw_below_drewN | apply below_drew1) | exact HB.out)⟩

end Go.Proofs.Ytebjpafnfmmjeaa.PA
