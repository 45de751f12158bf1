-- Written for this claim by a program of this session's (ownprint.py), by way of the kit's print and hand-proved texts. Lean checks it.
import Derived.Test.YtoildabjnioafaaPAx0
import Derived.Test.YtoildabjnioafaaPAx4
import Derived.Test.YtoildabjnioafaaPAx18
import Derived.Test.YtoildabjnioafaaPAx28
namespace Go.Proofs.Ytoildabjnioafaa.PA
open Go.RowKit Go.Proofs.YtoildabjnioafaaW.PrintWords Go.Proofs.YtoildabjnioafaaW.PrintLast Go.Proofs.YtoildabjnioafaaW.PrintMore
attribute [local go_sem] max2_int min2_int max_two min_two max_three min_three max_four min_four   -- for this text's walks alone
set_option linter.unusedVariables false
set_option linter.unusedSimpArgs false

/-! ### impl_GreatestClear: function 40 (by hand) -/
/-- The first row with the greatest product, the program's way. -/
def bestI : List (List Int) → Option (List Int) → Option (List Int)
  | [], b => b
  | a :: l, none => bestI l (some a)
  | a :: l, some b => if wrap64 (rd b 2 * rd b 3) < wrap64 (rd a 2 * rd a 3) then bestI l (some a) else bestI l (some b)
def finI : Option (List Int) → List Int × Bool
  | none => ([], false)
  | some b => (b, true)
def impl_GreatestClear.f (k : Nat) (a0 : Int) (a1 : Int) (a2 : Int) : Option (List Int × Bool) := (impl_ShapeOk.f a0 a1 a2).bind fun t => if t = true then ((impl_clearWindows.f k a0 a1 a2).bind fun l => if allFour l = true then some (finI (bestI l none)) else none) else some ([], false)
theorem impl_GreatestClear.mono : ∀ a0 a1 a2 k, LeO (impl_GreatestClear.f k a0 a1 a2) (impl_GreatestClear.f (k + 1) a0 a1 a2) := by
  intro a0 a1 a2 k
  unfold impl_GreatestClear.f
  repeat' first
      | (with_reducible exact impl_clearWindows.mono _ _ _ _)
      | (with_reducible exact LeO.refl _)
      | (with_reducible exact LeO.none _)
      | (with_reducible refine LeO.ite ?_ ?_)
      | (with_reducible refine LeO.bind ?_ (fun _ => ?_))
theorem greatest_nil (w : World) : (binOp .eql 29 (.slice none 0 0) (.slice none 0 0)).run Try.prog w = .ok (.bool true) w := run_eql_slice_nil w 29 3 none 0 0 (by kernel_rfl)
theorem greatest_some (w : World) (a : Addr) (n c : Nat) : (binOp .eql 29 (.slice (some a) n c) (.slice none 0 0)).run Try.prog w = .ok (.bool false) w := run_eql_slice_nil w 29 3 (some a) n c (by kernel_rfl)
theorem greatest_nil2 (w : World) : (binOp .neq 29 (.slice none 0 0) (.slice none 0 0)).run Try.prog w = .ok (.bool false) w := run_neq_slice_nil w 29 3 none 0 0 (by kernel_rfl)
theorem greatest_some2 (w : World) (a : Addr) (n c : Nat) : (binOp .neq 29 (.slice (some a) n c) (.slice none 0 0)).run Try.prog w = .ok (.bool true) w := run_neq_slice_nil w 29 3 (some a) n c (by kernel_rfl)
attribute [local go_sem] greatest_nil greatest_some greatest_nil2 greatest_some2
set_option maxHeartbeats 4000000 in
set_option maxRecDepth 100000 in
theorem impl_GreatestClear.calls (k : Nat) (a0 : Int) (a1 : Int) (a2 : Int) (r1 : List Int) (r2 : Bool) (w : World) (h : impl_GreatestClear.f k a0 a1 a2 = some (r1, r2)) :
    Calls Try.prog 40 #[.int .i64 a0, .int .i64 a1, .int .i64 a2] w fun e w' => ∃ v0_ : Value, e = .returned (.tuple #[v0_, .bool r2]) ∧ Kd.R (Kd.int .i64) 3 w' w.heap.size (fun _ => True) v0_ r1 ∧ Below w.heap.size w w' := by
  unfold impl_GreatestClear.f at h
  obtain ⟨t, ht, h⟩ := Option.bind_eq_some_iff.1 h
  have HT := Aside0.mk ht
  clear ht
  by_cases c : t = true
  case neg =>
    rw [if_neg c] at h
    obtain rfl : t = false := by simpa using c
    simp only [Option.some.injEq, Prod.mk.injEq] at h
    obtain ⟨rfl, rfl⟩ := h
    clear c
    go_enter Try.func40, Try.ntmps40
    go_wp2_with fail
    refine (impl_ShapeOk.calls a0 a1 a2 false _ HT.out).mono ?_
    rintro e w1 ⟨rfl, ⟨nd, rfl⟩⟩
    go_wp2
    go_ret2
    exact ⟨_, rfl, Kd.R_nil _ _ _ _ _, pw_below_drewN (Below.refl _ _) nd⟩
  rw [if_pos c] at h
  subst c
  obtain ⟨L, hL, h⟩ := Option.bind_eq_some_iff.1 h
  have HL := Aside0.mk hL
  clear hL
  by_cases c4 : allFour L = true
  case neg => rw [if_neg c4] at h; cases h
  rw [if_pos c4] at h
  have H4 := Aside0.mk c4
  have H := Aside0.mk (Option.some.inj h)
  clear c4 h
  go_enter Try.func40, Try.ntmps40
  go_wp2_with fail
  refine (impl_ShapeOk.calls a0 a1 a2 true _ HT.out).mono ?_
  rintro e w1 ⟨rfl, ⟨nd, rfl⟩⟩
  go_wp2_with fail
  refine (impl_clearWindows.calls k a0 a1 a2 L _ HL.out).mono ?_
  rintro e w2 ⟨v2, rfl, hS, hb⟩
  obtain ⟨A, c, rfl⟩ := Kd.S_slice hS
  have HS : Aside0 (Kd.S (Kd.slice 3 (Kd.int .i64)) 29 w2 w.heap.size (fun _ => True) (.slice A L.length c) L) := ⟨hS⟩
  have HB := Aside0.mk (below_then (pw_below_drewN (Below.refl w.heap.size w) nd) (Nat.le_refl _) hb)
  clear hS hb
  have hlen : L.length ≤ 9223372036854775807 := (Kd.S_reads' HS.out).2.2.2.1
  go_wp2
  go_loopg [8, 21] L.length (fun gg v8 v21 wr => ∃ (i q : Nat) (st : Option (List Int)), v21 = .int .i64 i ∧ i ≤ L.length ∧ L.length - i ≤ gg ∧ wr = w2.drewN q ∧ ((v8 = .slice none 0 0 ∧ Aside0 (st = none)) ∨ ∃ (ad : Addr) (cb : Nat) (b : List Int), v8 = .slice (some ad) b.length cb ∧ Aside0 (st = some b ∧ b.length = 4 ∧ Kd.R (Kd.int .i64) 3 w2 w.heap.size (fun _ => True) (.slice (some ad) b.length cb) b)) ∧ Aside0 (bestI (L.drop i) st = bestI L none))
  case atStart => exact ⟨0, 0, none, rfl, by omega, by omega, rfl, .inl ⟨rfl, ⟨rfl⟩⟩, ⟨rfl⟩⟩
  case round =>
    obtain ⟨i, q, st, rfl, hi, hg, rfl, hv, HA⟩ := hrel
    by_cases hlt : i < L.length
    · have hltz : (i : Int) < (L.length : Int) := by omega
      obtain ⟨g, cap, eA, _⟩ := Kd.S_form HS.out (by omega)
      injection eA with eA _ eC
      subst eA
      obtain ⟨A', c', hcell, hR⟩ := rows_at HS.out i hlt
      have h4 := allFour_at H4.out hlt
      obtain ⟨p, hp⟩ : ∃ p, p = L.getD i [] := ⟨_, rfl⟩
      rw [← hp] at hcell hR h4
      obtain ⟨ad, rfl, k2⟩ := Kd.at_int (Kd.R_reads' hR).2.2 2 (by omega) (by omega)
      obtain ⟨ad3, e3, k3⟩ := Kd.at_int (Kd.R_reads' hR).2.2 3 (by omega) (by omega)
      obtain rfl : ad = ad3 := by injection e3
      obtain ⟨x, hx⟩ : ∃ x, x = rd p 2 := ⟨_, rfl⟩
      obtain ⟨y, hy⟩ : ∃ y, y = rd p 3 := ⟨_, rfl⟩
      rw [← hx] at k2
      rw [← hy] at k3
      simp only [show ((2 : Int)).toNat = 2 from rfl, show ((3 : Int)).toNat = 3 from rfl, Nat.reduceMul, Nat.reduceEqDiff, Go.Addr.add, ↓reduceIte] at k2 k3
      have hdrop : L.drop i = p :: L.drop (i + 1) := by
        rw [List.drop_eq_getElem_cons hlt, hp, List.getD_eq_getElem?_getD, List.getElem?_eq_getElem hlt]
        rfl
      have HP : Aside0 (p.length = 4 ∧ Kd.R (Kd.int .i64) 3 w2 w.heap.size (fun _ => True) (.slice (some ad) p.length c') p) := ⟨h4, hR⟩
      have p2 : (2 < (p.length : Int)) = True := eq_true (by omega)
      have p3 : (3 < (p.length : Int)) = True := eq_true (by omega)
      have n2 : (2 < p.length) = True := eq_true (by omega)
      have n3 : (3 < p.length) = True := eq_true (by omega)
      rcases hv with ⟨rfl, hst⟩ | ⟨ad2, cb, b, rfl, hb⟩
      · have HST : Aside0 (bestI (L.drop (i + 1)) (some p) = bestI L none) := ⟨by rw [← HA.out, hdrop, hst.out]; rfl⟩
        clear hp hR h4 hx hy hdrop eC HA e3 hst
        go_wp2
        repeat (go_quiet (fail); try go_wp2)
        go_roundg (L.length - (i + 1))
        case measure => omega
        case rel => exact ⟨i + 1, _, some p, by go_num, by omega, by omega, rfl, .inr ⟨ad, c', p, rfl, ⟨rfl, HP.out⟩⟩, HST⟩
      · obtain ⟨e0, hb4, hRb⟩ := hb.out
        obtain ⟨bd2, f2, j2⟩ := Kd.at_int (Kd.R_reads' hRb).2.2 2 (by omega) (by omega)
        obtain rfl : ad2 = bd2 := by injection f2
        obtain ⟨bd3, f3, j3⟩ := Kd.at_int (Kd.R_reads' hRb).2.2 3 (by omega) (by omega)
        obtain rfl : ad2 = bd3 := by injection f3
        obtain ⟨u, hu⟩ : ∃ u, u = rd b 2 := ⟨_, rfl⟩
        obtain ⟨v, hv⟩ : ∃ v, v = rd b 3 := ⟨_, rfl⟩
        rw [← hu] at j2
        rw [← hv] at j3
        simp only [show ((2 : Int)).toNat = 2 from rfl, show ((3 : Int)).toNat = 3 from rfl, Nat.reduceMul, Nat.reduceEqDiff, Go.Addr.add, ↓reduceIte] at j2 j3
        obtain ⟨z, hz⟩ : ∃ z, z = wrap64 (x * y) := ⟨_, rfl⟩
        obtain ⟨t, ht⟩ : ∃ t, t = wrap64 (u * v) := ⟨_, rfl⟩
        have b2 : (2 < (b.length : Int)) = True := eq_true (by omega)
        have b3 : (3 < (b.length : Int)) = True := eq_true (by omega)
        have m2 : (2 < b.length) = True := eq_true (by omega)
        have m3 : (3 < b.length) = True := eq_true (by omega)
        have hstep : bestI (L.drop (i + 1)) (some (if t < z then p else b)) = bestI L none := by
          rw [← HA.out, hdrop, e0]
          simp only [bestI, ← hx, ← hy, ← hz, ← hu, ← hv, ← ht]
          split <;> rfl
        have HST := Aside0.mk hstep
        clear hp hR h4 hx hy hdrop eC HA e3 hstep hu hv f2 f3 e0 hb4 hRb
        by_cases cm : t < z
        · have HST2 : Aside0 (bestI (L.drop (i + 1)) (some p) = bestI L none) := ⟨by have := HST.out; rwa [if_pos cm] at this⟩
          have d1 : decide (t < z) = true := decide_eq_true cm
          replace cm := eq_true cm
          have hw : IntKind.i64.wrap (x * y) = z := by rw [hz, IntKind.wrap_i64]; unfold wrap64; rfl
          have hw2 : wrap64 (x * y) = z := hz.symm
          have hw3 : IntKind.i64.wrap (u * v) = t := by rw [ht, IntKind.wrap_i64]; unfold wrap64; rfl
          have hw4 : wrap64 (u * v) = t := ht.symm
          clear hz ht HST
          go_wp2
          repeat (go_quiet (fail); try go_wp2)
          clear hw hw2 hw3 hw4
          go_roundg (L.length - (i + 1))
          case measure => omega
          case rel => exact ⟨i + 1, _, some p, by go_num, by omega, by omega, rfl, .inr ⟨ad, c', p, rfl, ⟨rfl, HP.out⟩⟩, HST2⟩
        · have HST2 : Aside0 (bestI (L.drop (i + 1)) (some b) = bestI L none) := ⟨by have := HST.out; rwa [if_neg cm] at this⟩
          have d1 : decide (t < z) = false := decide_eq_false cm
          replace cm := eq_false cm
          have hw : IntKind.i64.wrap (x * y) = z := by rw [hz, IntKind.wrap_i64]; unfold wrap64; rfl
          have hw2 : wrap64 (x * y) = z := hz.symm
          have hw3 : IntKind.i64.wrap (u * v) = t := by rw [ht, IntKind.wrap_i64]; unfold wrap64; rfl
          have hw4 : wrap64 (u * v) = t := ht.symm
          clear hz ht HST
          go_wp2
          repeat (go_quiet (fail); try go_wp2)
          clear hw hw2 hw3 hw4
          go_roundg (L.length - (i + 1))
          case measure => omega
          case rel => exact ⟨i + 1, _, some b, by go_num, by omega, by omega, rfl, .inr ⟨ad2, cb, b, rfl, ⟨rfl, hb.out.2⟩⟩, HST2⟩
    · have hltz : ¬ (i : Int) < (L.length : Int) := by omega
      have hA := HA.out
      rw [List.drop_of_length_le (by omega)] at hA
      simp only [bestI] at hA
      have hH := H.out
      rw [← hA] at hH
      clear hA HA H
      rcases hv with ⟨rfl, hst⟩ | ⟨ad2, cb, b, rfl, hb⟩
      · rw [hst.out] at hH
        simp only [finI, Prod.mk.injEq] at hH
        obtain ⟨rfl, rfl⟩ := hH
        clear hst
        go_wp2
        go_ret2
        exact ⟨_, rfl, Kd.R_nil _ _ _ _ _, below_then HB.out HB.out.size (pw_below_drewN (Below.refl _ _) _)⟩
      · rw [hb.out.1] at hH
        simp only [finI, Prod.mk.injEq] at hH
        obtain ⟨rfl, rfl⟩ := hH
        go_wp2
        go_ret2
        exact ⟨_, rfl, Kd.R_drewN hb.out.2.2 _, below_then HB.out HB.out.size (pw_below_drewN (Below.refl _ _) _)⟩

end Go.Proofs.Ytoildabjnioafaa.PA
