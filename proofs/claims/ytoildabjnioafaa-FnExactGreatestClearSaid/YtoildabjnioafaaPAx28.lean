-- Written for this claim by a program of this session's (ownprint.py), by way of the kit's print and hand-proved texts. Lean checks it.
import Derived.Test.YtoildabjnioafaaPAx0
import Derived.Test.YtoildabjnioafaaPAx3
import Derived.Test.YtoildabjnioafaaPAx16
namespace Go.Proofs.Ytoildabjnioafaa.PA
open Go.RowKit Go.Proofs.YtoildabjnioafaaW.PrintWords Go.Proofs.YtoildabjnioafaaW.PrintLast Go.Proofs.YtoildabjnioafaaW.PrintMore
attribute [local go_sem] max2_int min2_int max_two min_two max_three min_three max_four min_four   -- for this text's walks alone
set_option linter.unusedVariables false
set_option linter.unusedSimpArgs false

/-! ### spec_GreatestClear: function 39 (by hand) -/
theorem rows_at {W : World} {base g n cap : Nat} {ok : Nat → Prop} {xs : List (List Int)} (h : Kd.S (Kd.slice 3 (Kd.int .i64)) 29 W base ok (.slice (some ⟨g, 0, none⟩) n cap) xs) (i : Nat) (hi : i < xs.length) :
    ∃ (A : Option Addr) (c : Nat), W.cell? ⟨g, i, none⟩ = some (.slice A (xs.getD i []).length c) ∧ Kd.R (Kd.int .i64) 3 W base ok (.slice A (xs.getD i []).length c) (xs.getD i []) := by
  have hn : n = xs.length := (Kd.S_reads' h).1
  obtain ⟨c, hc, hM, hcell⟩ := Kd.R_getA (Kd.S_R h) [] (i : Int) (by omega) (by omega)
  obtain ⟨v, rfl, hR⟩ := hM
  rw [Int.toNat_natCast] at hR hcell
  obtain ⟨A, c, rfl⟩ := Kd.R_slice hR
  refine ⟨A, c, ?_, Kd.R_mono hR (fun k hk => hk.1)⟩
  have := hcell 0 _ rfl
  rw [add_at] at this
  simpa [Kd.slice] using this
theorem row_of_cells {W : World} {base g : Nat} {xs : List Int} (hb : W.heap[g]? = some (.cells (xs.map (Value.int .i64)).toArray 3 (0, 0))) (hg : base ≤ g) (hl : xs.length ≤ 9223372036854775807) : Kd.R (Kd.int .i64) 3 W base (fun k_ => k_ = g) (.slice (some ⟨g, 0, none⟩) xs.length xs.length) xs :=
  ⟨fun k hk => by simp [Value.ownBlock] at hk; exact hk.symm, xs.map (Value.int .i64), ⟨by simp [Kd.int, Kd.scalar], .inr ⟨g, xs.length, _, rfl, hg, hb, Nat.le_refl _, hl, by simp [Kd.int, Kd.scalar], by simp [Kd.int, Kd.scalar, List.take_of_length_le]⟩⟩, Kd.reps_scalar _⟩
/-- The first row with the greatest product, the reference's way. -/
def bestG : List (List Int) → List Int → Int → List Int × Int
  | [], b, m => (b, m)
  | a :: l, b, m => if m < wrap64 (rd a 2 * rd a 3) then bestG l a (wrap64 (rd a 2 * rd a 3)) else bestG l b m
def allFour (l : List (List Int)) : Bool := l.all (fun r => decide (r.length = 4))
theorem allFour_at {l : List (List Int)} (h : allFour l = true) {i : Nat} (hi : i < l.length) : (l.getD i []).length = 4 := by
  rw [List.getD_eq_getElem?_getD, List.getElem?_eq_getElem hi, Option.getD_some]
  have := List.all_eq_true.1 h l[i] (List.getElem_mem hi)
  simpa using this
def spec_GreatestClear.f (k : Nat) (a0 : Int) (a1 : Int) (a2 : Int) : Option (List Int × Bool) := (spec_ShapeOk.f a0 a1 a2).bind fun t => if t = true then ((spec_l20All.f k a0 a1 a2).bind fun l => if allFour l = true then (if (bestG l [] 0).2 = 0 then some ([], false) else some ((bestG l [] 0).1, true)) else none) else some ([], false)
theorem spec_GreatestClear.mono : ∀ a0 a1 a2 k, LeO (spec_GreatestClear.f k a0 a1 a2) (spec_GreatestClear.f (k + 1) a0 a1 a2) := by
  intro a0 a1 a2 k
  unfold spec_GreatestClear.f
  repeat' first
      | (with_reducible exact spec_l20All.mono _ _ _ _)
      | (with_reducible exact LeO.refl _)
      | (with_reducible exact LeO.none _)
      | (with_reducible refine LeO.ite ?_ ?_)
      | (with_reducible refine LeO.bind ?_ (fun _ => ?_))
set_option maxHeartbeats 4000000 in
set_option maxRecDepth 100000 in
theorem spec_GreatestClear.calls (k : Nat) (a0 : Int) (a1 : Int) (a2 : Int) (r1 : List Int) (r2 : Bool) (w : World) (h : spec_GreatestClear.f k a0 a1 a2 = some (r1, r2)) :
    Calls Try.prog 39 #[.int .i64 a0, .int .i64 a1, .int .i64 a2] w fun e w' => ∃ v0_ : Value, e = .returned (.tuple #[v0_, .bool r2]) ∧ Kd.R (Kd.int .i64) 3 w' w.heap.size (fun _ => True) v0_ r1 ∧ Below w.heap.size w w' := by
  unfold spec_GreatestClear.f at h
  obtain ⟨t, ht, h⟩ := Option.bind_eq_some_iff.1 h
  have HT := Aside0.mk ht
  clear ht
  by_cases c : t = true
  case neg =>
    rw [if_neg c] at h
    obtain rfl : t = false := by simpa using c
    simp only [Option.some.injEq, Prod.mk.injEq] at h
    obtain ⟨rfl, rfl⟩ := h
    clear c
    go_enter Try.func39, Try.ntmps39
    go_wp2_with fail
    refine (spec_ShapeOk.calls a0 a1 a2 false _ HT.out).mono ?_
    rintro e w1 ⟨rfl, ⟨nd, rfl⟩⟩
    go_wp2
    go_ret2
    exact ⟨_, rfl, Kd.R_nil _ _ _ _ _, pw_below_drewN (Below.refl _ _) nd⟩
  rw [if_pos c] at h
  subst c
  obtain ⟨L, hL, h⟩ := Option.bind_eq_some_iff.1 h
  have HL := Aside0.mk hL
  clear hL
  by_cases c4 : allFour L = true
  case neg => rw [if_neg c4] at h; cases h
  rw [if_pos c4] at h
  have H4 := Aside0.mk c4
  have H := Aside0.mk h
  clear c4 h
  go_enter Try.func39, Try.ntmps39
  go_wp2_with fail
  refine (spec_ShapeOk.calls a0 a1 a2 true _ HT.out).mono ?_
  rintro e w1 ⟨rfl, ⟨nd, rfl⟩⟩
  go_wp2_with fail
  refine (spec_l20All.calls k a0 a1 a2 L _ HL.out).mono ?_
  rintro e w2 ⟨v2, rfl, hS, hb⟩
  obtain ⟨A, c, rfl⟩ := Kd.S_slice hS
  have hbw : Below w.heap.size w ((w.drewN nd).alloc (.cells #[] 3)) := below_alloc (pw_below_drewN (Below.refl _ _) nd) _
  have hsz : ((w.drewN nd).alloc (.cells #[] 3)).heap.size = w.heap.size + 1 := by simp
  have hblk : w2.heap[w.heap.size]? = some (.cells (([] : List Int).map (Value.int .i64)).toArray 3 (0, 0)) := (hb.block w.heap.size (by omega)).trans (by have := heap_alloc_new (w.drewN nd) (.cells #[] 3); simpa using this)
  have HE := Aside0.mk (Kd.R_mono (ok' := fun _ => True) (row_of_cells hblk (Nat.le_refl _) (by decide)) (fun _ _ => trivial))
  have HS := Aside0.mk (Kd.S_lower hS hbw.size)
  have HB := Aside0.mk (below_then hbw hbw.size hb)
  clear hS hb hbw hsz hblk
  have hlen : L.length ≤ 9223372036854775807 := (Kd.S_reads' HS.out).2.2.2.1
  go_wp2
  go_loopg [8, 9, 23] L.length (fun gg v8 v9 v23 wr => ∃ (i q : Nat) (b : List Int) (m : Int), v9 = .int .i64 m ∧ v23 = .int .i64 i ∧ i ≤ L.length ∧ L.length - i ≤ gg ∧ wr = w2.drewN q ∧ Aside0 (Kd.R (Kd.int .i64) 3 w2 w.heap.size (fun _ => True) v8 b) ∧ Aside0 (bestG (L.drop i) b m = bestG L [] 0))
  case atStart => exact ⟨0, 0, [], 0, rfl, rfl, by omega, by omega, rfl, HE, ⟨rfl⟩⟩
  case round =>
    obtain ⟨i, q, b, m, rfl, rfl, hi, hg, rfl, HR, HA⟩ := hrel
    by_cases hlt : i < L.length
    · have hltz : (i : Int) < (L.length : Int) := by omega
      obtain ⟨g, cap, eA, _⟩ := Kd.S_form HS.out (by omega)
      injection eA with eA _ eC
      subst eA
      obtain ⟨A', c', hcell, hR⟩ := rows_at HS.out i hlt
      have h4 := allFour_at H4.out hlt
      obtain ⟨p, hp⟩ : ∃ p, p = L.getD i [] := ⟨_, rfl⟩
      rw [← hp] at hcell hR h4
      obtain ⟨ad, rfl, k2⟩ := Kd.at_int (Kd.R_reads' hR).2.2 2 (by omega) (by omega)
      obtain ⟨ad3, e3, k3⟩ := Kd.at_int (Kd.R_reads' hR).2.2 3 (by omega) (by omega)
      obtain rfl : ad = ad3 := by injection e3
      obtain ⟨x, hx⟩ : ∃ x, x = rd p 2 := ⟨_, rfl⟩
      obtain ⟨y, hy⟩ : ∃ y, y = rd p 3 := ⟨_, rfl⟩
      rw [← hx] at k2
      rw [← hy] at k3
      simp only [show ((2 : Int)).toNat = 2 from rfl, show ((3 : Int)).toNat = 3 from rfl, Nat.reduceMul, Nat.reduceEqDiff, Go.Addr.add, ↓reduceIte] at k2 k3
      obtain ⟨z, hz⟩ : ∃ z, z = wrap64 (x * y) := ⟨_, rfl⟩
      have hdrop : L.drop i = p :: L.drop (i + 1) := by
        rw [List.drop_eq_getElem_cons hlt, hp, List.getD_eq_getElem?_getD, List.getElem?_eq_getElem hlt]
        rfl
      have hstep : bestG (L.drop (i + 1)) (if m < z then p else b) (if m < z then z else m) = bestG L [] 0 := by
        rw [← HA.out, hdrop]
        simp only [bestG, ← hx, ← hy, ← hz]
        split <;> rfl
      have p2 : (2 < (p.length : Int)) = True := eq_true (by omega)
      have p3 : (3 < (p.length : Int)) = True := eq_true (by omega)
      have n2 : (2 < p.length) = True := eq_true (by omega)
      have n3 : (3 < p.length) = True := eq_true (by omega)
      have HP := Aside0.mk hR
      have HST := Aside0.mk hstep
      clear hp hR h4 hx hy hdrop hstep eC HA e3
      by_cases cm : m < z
      · have HST2 : Aside0 (bestG (L.drop (i + 1)) p z = bestG L [] 0) := ⟨by have := HST.out; rwa [if_pos cm, if_pos cm] at this⟩
        have d1 : decide (m < z) = true := decide_eq_true cm
        replace cm := eq_true cm
        have hw : IntKind.i64.wrap (x * y) = z := by rw [hz, IntKind.wrap_i64]; unfold wrap64; rfl
        have hw2 : wrap64 (x * y) = z := hz.symm
        clear hz HST
        go_wp2
        repeat (go_quiet (fail); try go_wp2)
        go_roundg (L.length - (i + 1))
        case measure => omega
        case rel => exact ⟨i + 1, _, p, z, rfl, by go_num, by omega, by omega, rfl, HP, HST2⟩
      · have HST2 : Aside0 (bestG (L.drop (i + 1)) b m = bestG L [] 0) := ⟨by have := HST.out; rwa [if_neg cm, if_neg cm] at this⟩
        have d1 : decide (m < z) = false := decide_eq_false cm
        replace cm := eq_false cm
        have hw : IntKind.i64.wrap (x * y) = z := by rw [hz, IntKind.wrap_i64]; unfold wrap64; rfl
        have hw2 : wrap64 (x * y) = z := hz.symm
        clear hz HST
        go_wp2
        repeat (go_quiet (fail); try go_wp2)
        go_roundg (L.length - (i + 1))
        case measure => omega
        case rel => exact ⟨i + 1, _, b, m, rfl, by go_num, by omega, by omega, rfl, HR, HST2⟩
    · have hltz : ¬ (i : Int) < (L.length : Int) := by omega
      have hA := HA.out
      rw [List.drop_of_length_le (by omega)] at hA
      simp only [bestG] at hA
      have hH := H.out
      rw [← hA] at hH
      clear hA HA H
      by_cases cm : m = 0
      · rw [if_pos cm] at hH
        subst cm
        simp only [Option.some.injEq, Prod.mk.injEq] at hH
        obtain ⟨rfl, rfl⟩ := hH
        go_wp2
        go_ret2
        exact ⟨_, rfl, Kd.R_nil _ _ _ _ _, below_then HB.out HB.out.size (pw_below_drewN (Below.refl _ _) _)⟩
      · rw [if_neg cm] at hH
        simp only [Option.some.injEq, Prod.mk.injEq] at hH
        obtain ⟨rfl, rfl⟩ := hH
        go_wp2
        go_ret2
        exact ⟨_, rfl, Kd.R_drewN HR.out _, below_then HB.out HB.out.size (pw_below_drewN (Below.refl _ _) _)⟩

end Go.Proofs.Ytoildabjnioafaa.PA
