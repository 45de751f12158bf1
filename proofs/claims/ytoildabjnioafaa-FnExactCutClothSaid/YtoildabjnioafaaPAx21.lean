-- Written for this claim by a program of this session's (ownprint.py), by way of the kit's print and hand-proved texts. Lean checks it.
import Derived.Test.YtoildabjnioafaaPAx0
import Derived.Test.YtoildabjnioafaaPAx8
namespace Go.Proofs.Ytoildabjnioafaa.PA
open Go.RowKit Go.Proofs.YtoildabjnioafaaW.PrintWords Go.Proofs.YtoildabjnioafaaW.PrintLast Go.Proofs.YtoildabjnioafaaW.PrintMore
attribute [local go_sem] max2_int min2_int max_two min_two max_three min_three max_four min_four   -- for this text's walks alone
set_option linter.unusedVariables false
set_option linter.unusedSimpArgs false

/-! ### impl_CutCloth: function 31 (by hand) -/
def cutRows (a0 a1 : Int) (l : List Int) : List (List Int) := [[0, 0, a0, rd l 1], [0, rd l 1, rd l 0, rd l 3], [wrap64 (rd l 0 + rd l 2), rd l 1, wrap64 (wrap64 (a0 - rd l 0) - rd l 2), rd l 3], [0, wrap64 (rd l 1 + rd l 3), a0, wrap64 (wrap64 (a1 - rd l 1) - rd l 3)]]
def cutGood (r : List Int) : Bool := decide (rd r 2 > 0) && decide (rd r 3 > 0)
def impl_CutCloth.f (a0 : Int) (a1 : Int) (l2 : List Int) : Option (List (List Int)) := (impl_WindowOk.f a0 a1 l2).bind fun t => (if t = true then (if 3 < l2.length then some ((cutRows a0 a1 l2).filter cutGood) else none) else (some ([] : List (List Int))))
theorem six_blocks (w : World) (o0 o1 o2 o3 o4 o5 : Obj) : Below w.heap.size w ((((((w.alloc o0).alloc o1).alloc o2).alloc o3).alloc o4).alloc o5) ∧ ((((((w.alloc o0).alloc o1).alloc o2).alloc o3).alloc o4).alloc o5).heap.size = w.heap.size + 6 ∧
    ((((((w.alloc o0).alloc o1).alloc o2).alloc o3).alloc o4).alloc o5).heap[w.heap.size]? = some o0 ∧ ((((((w.alloc o0).alloc o1).alloc o2).alloc o3).alloc o4).alloc o5).heap[w.heap.size + 1]? = some o1 ∧ ((((((w.alloc o0).alloc o1).alloc o2).alloc o3).alloc o4).alloc o5).heap[w.heap.size + 2]? = some o2 ∧
    ((((((w.alloc o0).alloc o1).alloc o2).alloc o3).alloc o4).alloc o5).heap[w.heap.size + 3]? = some o3 ∧ ((((((w.alloc o0).alloc o1).alloc o2).alloc o3).alloc o4).alloc o5).heap[w.heap.size + 4]? = some o4 ∧ ((((((w.alloc o0).alloc o1).alloc o2).alloc o3).alloc o4).alloc o5).heap[w.heap.size + 5]? = some o5 := by
  have n : ∀ (W : World) (o : Obj) (k : Nat), W.heap.size = k → (W.alloc o).heap[k]? = some o := fun W o k hk => by subst hk; simpa using heap_alloc_new W o
  have s1 : (w.alloc o0).heap.size = w.heap.size + 1 := by simp
  have s2 : ((w.alloc o0).alloc o1).heap.size = w.heap.size + 2 := by simp
  have s3 : (((w.alloc o0).alloc o1).alloc o2).heap.size = w.heap.size + 3 := by simp
  have s4 : ((((w.alloc o0).alloc o1).alloc o2).alloc o3).heap.size = w.heap.size + 4 := by simp
  have s5 : (((((w.alloc o0).alloc o1).alloc o2).alloc o3).alloc o4).heap.size = w.heap.size + 5 := by simp
  exact ⟨below_alloc (below_alloc (below_alloc (below_alloc (below_alloc (below_alloc (Below.refl _ _) _) _) _) _) _) _, by simp, blk_alloc (blk_alloc (blk_alloc (blk_alloc (blk_alloc (n w o0 _ rfl) _) _) _) _) _, blk_alloc (blk_alloc (blk_alloc (blk_alloc (n _ o1 _ s1) _) _) _) _, blk_alloc (blk_alloc (blk_alloc (n _ o2 _ s2) _) _) _, blk_alloc (blk_alloc (n _ o3 _ s3) _) _, blk_alloc (n _ o4 _ s4) _, n _ o5 _ s5⟩
theorem row_of_block {W : World} {base g : Nat} {xs : List Int} (hb : W.heap[g]? = some (.cells (xs.map (Value.int .i64)).toArray 3 (0, 0))) (hg : base ≤ g) (hl : xs.length ≤ 9223372036854775807) : Kd.R (Kd.int .i64) 3 W base (fun k_ => k_ = g) (.slice (some ⟨g, 0, none⟩) xs.length xs.length) xs :=
  ⟨fun k hk => by simp [Value.ownBlock] at hk; exact hk.symm, xs.map (Value.int .i64), ⟨by simp [Kd.int, Kd.scalar], .inr ⟨g, xs.length, _, rfl, hg, hb, Nat.le_refl _, hl, by simp [Kd.int, Kd.scalar], by simp [Kd.int, Kd.scalar, List.take_of_length_le]⟩⟩, Kd.reps_scalar _⟩
structure CutInv (w w' : World) (B : Nat) (R4 : List (List Int)) (v : Value) (i : Nat) : Prop where
  hS : Kd.S (Kd.slice 3 (Kd.int .i64)) 29 w' w.heap.size (fun k => (∀ j, i ≤ j → j < 4 → k ≠ B + 1 + j) ∧ k ≠ B + 5) v ((R4.take i).filter cutGood)
  rows : ∀ j, i ≤ j → j < 4 → w'.heap[B + 1 + j]? = some (.cells ((R4.getD j []).map (Value.int .i64)).toArray 3 (0, 0))
  lit : w'.heap[B + 5]? = some (.cells #[.slice (some ⟨B + 1, 0, none⟩) 4 4, .slice (some ⟨B + 1 + 1, 0, none⟩) 4 4, .slice (some ⟨B + 1 + 1 + 1, 0, none⟩) 4 4, .slice (some ⟨B + 1 + 1 + 1 + 1, 0, none⟩) 4 4] 29 (0, 0))
  below : Below w.heap.size w w'
  base : w.heap.size ≤ B
  big : B + 6 ≤ w'.heap.size
set_option maxHeartbeats 4000000 in
set_option maxRecDepth 100000 in
theorem impl_CutCloth.calls (a0 : Int) (a1 : Int) (A2 : Option Addr) (c2 : Nat) (l2 : List Int) (r : List (List Int)) (w : World) (hr2 : Kd.C (Kd.int .i64) w A2 l2.length l2) (hc2 : l2.length ≤ c2) (h : impl_CutCloth.f a0 a1 l2 = some r) :
    Calls Try.prog 31 #[.int .i64 a0, .int .i64 a1, .slice A2 l2.length c2] w fun e w' => ∃ v0_ : Value, e = .returned (v0_) ∧ Kd.S (Kd.slice 3 (Kd.int .i64)) 29 w' w.heap.size (fun _ => True) v0_ r ∧ Below w.heap.size w w' := by
  have HR2 := Aside0.mk hr2
  have HC2 := Aside0.mk hc2
  clear hr2 hc2
  unfold impl_CutCloth.f at h
  obtain ⟨t, ht, h⟩ := Option.bind_eq_some_iff.1 h
  have HT := Aside0.mk ht
  clear ht
  by_cases c : t = true
  case neg =>
    rw [if_neg c] at h
    obtain rfl : t = false := by simpa using c
    obtain rfl := Option.some.inj h
    clear c h
    go_enter Try.func31, Try.ntmps31
    go_wp2_with fail
    refine (impl_WindowOk.calls a0 a1 _ _ l2 false _ HR2.out HC2.out HT.out).mono ?_
    rintro e w1 ⟨rfl, hb⟩
    have HB := Aside0.mk hb
    clear hb
    go_wp2
    go_ret
    exact ⟨_, rfl, Kd.S_nil _ _ _ _ _, HB.out⟩
  rw [if_pos c] at h
  subst c
  by_cases c3 : 3 < l2.length
  case neg => rw [if_neg c3] at h; cases h
  rw [if_pos c3] at h
  have H := Aside0.mk (Option.some.inj h)
  clear h
  obtain ⟨x, hx⟩ : ∃ x, x = rd l2 0 := ⟨_, rfl⟩
  obtain ⟨y, hy⟩ : ∃ y, y = rd l2 1 := ⟨_, rfl⟩
  obtain ⟨v, hv⟩ : ∃ v, v = rd l2 2 := ⟨_, rfl⟩
  obtain ⟨u, hu⟩ : ∃ u, u = rd l2 3 := ⟨_, rfl⟩
  obtain ⟨ad, rfl, k0⟩ := Kd.at_int HR2.out 0 (by omega) (by omega)
  obtain ⟨ad1, e1, k1⟩ := Kd.at_int HR2.out 1 (by omega) (by omega)
  obtain rfl : ad = ad1 := by injection e1
  obtain ⟨ad2, e2, k2⟩ := Kd.at_int HR2.out 2 (by omega) (by omega)
  obtain rfl : ad = ad2 := by injection e2
  obtain ⟨ad3, e3, k3⟩ := Kd.at_int HR2.out 3 (by omega) (by omega)
  obtain rfl : ad = ad3 := by injection e3
  clear e1 e2 e3
  rw [← hx] at k0
  rw [← hy] at k1
  rw [← hv] at k2
  rw [← hu] at k3
  simp only [show ((0 : Int)).toNat = 0 from rfl, show ((1 : Int)).toNat = 1 from rfl, show ((2 : Int)).toNat = 2 from rfl, show ((3 : Int)).toNat = 3 from rfl, Addr.add_zero', Nat.reduceMul, Nat.reduceEqDiff, Go.Addr.add, ↓reduceIte] at k0 k1 k2 k3
  have HX := Aside0.mk hx
  have HY := Aside0.mk hy
  have HV := Aside0.mk hv
  have HU := Aside0.mk hu
  have q0 : (0 < l2.length) = True := eq_true (by omega)
  have q1 : (1 < l2.length) = True := eq_true (by omega)
  have q2 : (2 < l2.length) = True := eq_true (by omega)
  have q3 : (3 < l2.length) = True := eq_true (by omega)
  clear hx hy hv hu
  have p0 : (0 < (l2.length : Int)) = True := eq_true (by omega)
  have p1 : (1 < (l2.length : Int)) = True := eq_true (by omega)
  have p2 : (2 < (l2.length : Int)) = True := eq_true (by omega)
  have p3 : (3 < (l2.length : Int)) = True := eq_true (by omega)
  have C3 := Aside0.mk c3
  clear c3
  go_enter Try.func31, Try.ntmps31
  go_wp2_with fail
  refine (impl_WindowOk.calls a0 a1 _ _ l2 true _ HR2.out HC2.out HT.out).mono ?_
  rintro e w1 ⟨rfl, hb⟩
  have z0 := hb.cell (World.block_lt_of_cell? w _ k0)
  have z1 := hb.cell (World.block_lt_of_cell? w _ k1)
  have z2 := hb.cell (World.block_lt_of_cell? w _ k2)
  have z3 := hb.cell (World.block_lt_of_cell? w _ k3)
  rw [k0] at z0
  rw [k1] at z1
  rw [k2] at z2
  rw [k3] at z3
  have HB := Aside0.mk hb
  clear hb k0 k1 k2 k3
  go_wp2
  go_quiet (fail)
  go_wp2
  obtain ⟨R4, hR4⟩ : ∃ z, z = cutRows a0 a1 l2 := ⟨_, rfl⟩
  have HR4 : Aside0 (R4 = [[0, 0, a0, y], [0, y, x, u], [wrap64 (x + v), y, wrap64 (wrap64 (a0 - x) - v), u], [0, wrap64 (y + u), a0, wrap64 (wrap64 (a1 - y) - u)]]) := ⟨by rw [hR4, HX.out, HY.out, HV.out, HU.out]; rfl⟩
  have HF : Aside0 (R4.filter cutGood = r) := ⟨by rw [hR4]; exact H.out⟩
  have HL : Aside0 (R4.length = 4 ∧ ∀ j, j < 4 → (R4.getD j []).length = 4) := ⟨by rw [HR4.out]; exact ⟨rfl, fun j hj => by rcases (show j = 0 ∨ j = 1 ∨ j = 2 ∨ j = 3 by omega) with rfl | rfl | rfl | rfl <;> rfl⟩⟩
  clear hR4 H
  go_loopg [11, 62] 4 (fun gg v11 v62 w' => ∃ (i : Nat), v62 = .int .i64 i ∧ i ≤ 4 ∧ 4 - i ≤ gg ∧ Aside0 (CutInv w w' w1.heap.size R4 v11 i))
  case atStart =>
    refine ⟨0, rfl, by omega, by omega, ⟨?_⟩⟩
    obtain ⟨s0, s1, b0, b1, b2, b3, b4, b5⟩ := six_blocks (w1.drewN nq) (Obj.cells #[] 29) (Obj.cells #[Value.int .i64 0, Value.int .i64 0, Value.int .i64 a0, Value.int .i64 y] 3) (Obj.cells #[Value.int .i64 0, Value.int .i64 y, Value.int .i64 x, Value.int .i64 u] 3) (Obj.cells #[Value.int .i64 (wrap64 (x + v)), Value.int .i64 y, Value.int .i64 (wrap64 (wrap64 (a0 - x) - v)), Value.int .i64 u] 3) (Obj.cells #[Value.int .i64 0, Value.int .i64 (wrap64 (y + u)), Value.int .i64 a0, Value.int .i64 (wrap64 (wrap64 (a1 - y) - u))] 3) (Obj.cells #[.slice (some ⟨w1.heap.size + 1, 0, none⟩) 4 4, .slice (some ⟨w1.heap.size + 1 + 1, 0, none⟩) 4 4, .slice (some ⟨w1.heap.size + 1 + 1 + 1, 0, none⟩) 4 4, .slice (some ⟨w1.heap.size + 1 + 1 + 1 + 1, 0, none⟩) 4 4] 29)
    have sz : (w1.drewN nq).heap.size = w1.heap.size := rfl
    rw [sz] at s0 s1 b0 b1 b2 b3 b4 b5
    refine ⟨?_, ?_, b5, below_then HB.out HB.out.size (below_then (pw_below_drewN (Below.refl _ _) nq) (Nat.le_refl _) s0), HB.out.size, by omega⟩
    · refine Kd.S_mono (Kd.S_bare ⟨fun k hk => ?_, [], ⟨rfl, .inr ⟨w1.heap.size, 0, #[], rfl, HB.out.size, b0, Nat.le_refl _, by decide, rfl, rfl⟩⟩, Reps.none _ _⟩) (ok := fun k => k = w1.heap.size) (fun k hk => ?_)
      · simp [Value.ownBlock] at hk
        exact hk.symm
      · subst hk
        exact ⟨fun j _ _ => by omega, by omega⟩
    · intro j _ hj
      rw [HR4.out]
      rcases (show j = 0 ∨ j = 1 ∨ j = 2 ∨ j = 3 by omega) with rfl | rfl | rfl | rfl
      · exact b1
      · exact b2
      · exact b3
      · exact b4
  case round =>
    obtain ⟨i, rfl, hi4, hg, HI⟩ := hrel
    by_cases hlt : i < 4
    · have hltz : (i : Int) < 4 := by omega
      have hk : wr.cell? ⟨w1.heap.size + 1 + 1 + 1 + 1 + 1, i, none⟩ = some (.slice (some ⟨w1.heap.size + 1 + i, 0, none⟩) 4 4) := by
        have := HI.out.lit
        rw [show w1.heap.size + 5 = w1.heap.size + 1 + 1 + 1 + 1 + 1 by omega] at this
        simp only [World.cell?, this]
        rcases (show i = 0 ∨ i = 1 ∨ i = 2 ∨ i = 3 by omega) with rfl | rfl | rfl | rfl <;> rfl
      have hrow := row_of_block (base := w.heap.size) (HI.out.rows i (Nat.le_refl _) hlt) (by have := HI.out.base; omega) (by rw [HL.out.2 i hlt]; omega)
      obtain ⟨p, hp⟩ : ∃ p, p = R4.getD i [] := ⟨_, rfl⟩
      obtain ⟨G, hG⟩ : ∃ G, G = w1.heap.size + 1 + i := ⟨_, rfl⟩
      have hpl := HL.out.2 i hlt
      rw [← hp] at hrow hpl
      rw [← hG] at hrow hk
      rw [hpl] at hrow
      have HG := Aside0.mk hG
      have HP := Aside0.mk hp
      have HPL := Aside0.mk hpl
      obtain ⟨ad2, e2, k2⟩ := Kd.at_int (Kd.R_reads' hrow).2.2 2 (by omega) (by omega)
      obtain ⟨ad3, e3, k3⟩ := Kd.at_int (Kd.R_reads' hrow).2.2 3 (by omega) (by omega)
      injection e2 with e2
      injection e3 with e3
      subst e2
      subst e3
      obtain ⟨a, ha⟩ : ∃ a, a = rd p 2 := ⟨_, rfl⟩
      obtain ⟨b, hb⟩ : ∃ b, b = rd p 3 := ⟨_, rfl⟩
      rw [← ha] at k2
      rw [← hb] at k3
      simp only [show ((2 : Int)).toNat = 2 from rfl, show ((3 : Int)).toNat = 3 from rfl, Nat.reduceMul, Nat.reduceEqDiff, Go.Addr.add, ↓reduceIte, Nat.zero_add] at k2 k3
      have HROW := Aside0.mk hrow
      have HA := Aside0.mk ha
      have HB2 := Aside0.mk hb
      clear hG hp hpl hrow ha hb
      have HT4 : Aside0 (((R4.take (i + 1)).filter cutGood) = (R4.take i).filter cutGood ++ (if cutGood p then [p] else [])) := ⟨by
        have hl4 : i < R4.length := by have := HL.out.1; omega
        have e1 : R4[i] = p := by rw [HP.out, List.getD_eq_getElem?_getD, List.getElem?_eq_getElem hl4]; rfl
        rw [List.take_succ_eq_append_getElem hl4, List.filter_append, e1]
        simp only [List.filter_cons, List.filter_nil]⟩
      have HN : Aside0 (((R4.take i).filter cutGood).length ≤ 4) := ⟨by
        have h1 := List.length_filter_le cutGood (R4.take i)
        have h2 := List.length_take_le i R4
        omega⟩
      by_cases c1 : 0 < a
      · by_cases c2 : 0 < b
        · have hgood : cutGood p = true := by unfold cutGood; rw [← HA.out, ← HB2.out]; simp [c1, c2]
          have HGD := Aside0.mk hgood
          clear hgood
          go_wp2_with (first | ((with_reducible refine gate_builtin (b := .append) (xs := #[.tmp 76, .tmp 78]) rfl ?_); at_builtin; refine Kd.S_append (Kd.slice 3 (Kd.int .i64)) (w0 := w) w.heap.size rfl (.tmp 76) (.tmp 78) 37 29 (.slice none 0 0) 24 rfl Try.underlying37 info29 rfl (by decide) (by omega) u11 ((R4.take i).filter cutGood) p [.slice (some ⟨G, 0, none⟩) 4 4] (fun k => (∀ j, i + 1 ≤ j → j < 4 → k ≠ w1.heap.size + 1 + j) ∧ k ≠ w1.heap.size + 5) (fun k_ => k_ = G) rfl rfl ?aP ?aK ?aF ?aO ?aB ?aS ?aL ?_; (case aP => exact Kd.M_row HROW.out); (case aB => exact HI.out.below); (case aK => intro k_ hk_; subst hk_; have h0 := HG.out; exact ⟨⟨fun j _ _ => by omega, by omega⟩, fun e_ => ((Kd.S_R HI.out.hS).1 _ e_.symm).1 i (Nat.le_refl _) hlt h0⟩); (case aF => intro k_ hk_; have h1 := HI.out.big; exact ⟨fun j _ _ => by omega, by omega⟩); (case aO => exact Kd.S_mono HI.out.hS (fun k_ hk_ => ⟨⟨fun j h1 h2 => hk_.1 j (by omega) h2, hk_.2⟩, fun e_ => hk_.1 i (Nat.le_refl _) hlt (by rw [e_]; exact HG.out)⟩)); (case aS => exact HI.out.below.size); (case aL => have := HN.out; omega); intro v1 w2 ho hb hgr hat; have HI2 : Aside0 (CutInv w w2 w1.heap.size R4 v1 (i + 1)) := ⟨⟨by rw [HT4.out, if_pos HGD.out]; exact ho, fun j h1 h2 => (hgr.block _ (by have := HI.out.big; omega) (fun e_ => ((Kd.S_R HI.out.hS).1 _ e_.symm).1 j (by omega) h2 rfl)).trans (HI.out.rows j (by omega) h2), (hgr.block _ (by have := HI.out.big; omega) (fun e_ => ((Kd.S_R HI.out.hS).1 _ e_.symm).2 rfl)).trans HI.out.lit, hb, HI.out.base, Nat.le_trans HI.out.big hgr.size⟩⟩; clear HI ho hb hgr hat))
          go_roundg (4 - (i + 1))
          case measure => omega
          case rel => exact ⟨i + 1, by go_num, by omega, by omega, HI2⟩
        · have hgood : cutGood p = false := by unfold cutGood; rw [← HB2.out]; simp [c2]
          have HI2 : Aside0 (CutInv w wr w1.heap.size R4 u11 (i + 1)) := ⟨⟨by rw [HT4.out, hgood, if_neg (by simp), List.append_nil]; exact Kd.S_mono HI.out.hS (fun k_ hk_ => ⟨fun j h1 h2 => hk_.1 j (by omega) h2, hk_.2⟩), fun j h1 h2 => HI.out.rows j (by omega) h2, HI.out.lit, HI.out.below, HI.out.base, HI.out.big⟩⟩
          clear hgood
          go_wp2
          go_roundg (4 - (i + 1))
          case measure => omega
          case rel => exact ⟨i + 1, by go_num, by omega, by omega, HI2⟩
      · have hgood : cutGood p = false := by unfold cutGood; rw [← HA.out]; simp [c1]
        have HI2 : Aside0 (CutInv w wr w1.heap.size R4 u11 (i + 1)) := ⟨⟨by rw [HT4.out, hgood, if_neg (by simp), List.append_nil]; exact Kd.S_mono HI.out.hS (fun k_ hk_ => ⟨fun j h1 h2 => hk_.1 j (by omega) h2, hk_.2⟩), fun j h1 h2 => HI.out.rows j (by omega) h2, HI.out.lit, HI.out.below, HI.out.base, HI.out.big⟩⟩
        clear hgood
        go_wp2
        go_roundg (4 - (i + 1))
        case measure => omega
        case rel => exact ⟨i + 1, by go_num, by omega, by omega, HI2⟩
    · have hltz : ¬ (i : Int) < 4 := by omega
      have e4 : R4.take i = R4 := List.take_of_length_le (by have := HL.out.1; omega)
      have HS := HI.out.hS
      rw [e4, HF.out] at HS
      have HS2 := Aside0.mk HS
      clear HS e4
      go_wp2
      go_ret
      exact ⟨_, rfl, Kd.S_mono HS2.out (fun _ _ => trivial), HI.out.below⟩

end Go.Proofs.Ytoildabjnioafaa.PA
