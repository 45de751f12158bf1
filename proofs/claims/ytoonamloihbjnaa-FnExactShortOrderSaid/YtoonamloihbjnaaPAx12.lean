-- Written for this claim by a program of this session's (ownprint.py), by way of the kit's print and hand-proved texts. Lean checks it.
import Derived.Test.YtoonamloihbjnaaPAx0
import Derived.Test.YtoonamloihbjnaaPAx5
import Derived.Test.YtoonamloihbjnaaPAx10
import Derived.Test.YtoonamloihbjnaaPAx11
namespace Go.Proofs.Ytoonamloihbjnaa.PA
open Go.RowKit Go.Proofs.YtoonamloihbjnaaW.PrintWords Go.Proofs.YtoonamloihbjnaaW.PrintLast Go.Proofs.YtoonamloihbjnaaW.PrintMore
attribute [local go_sem] max2_int min2_int max_two min_two max_three min_three max_four min_four   -- for this text's walks alone
set_option linter.unusedVariables false
set_option linter.unusedSimpArgs false

/-! ### impl_orderBy: function 52 (by hand) -/
/-- What the order goes by: the difference of a column's numbers. -/
def cfBy (l : List (List Int)) (c x y : Int) : Option Int :=
  if (0 ≤ x ∧ x < (l.length : Int)) ∧ (0 ≤ y ∧ y < (l.length : Int)) then
    (if (0 ≤ c ∧ c < ((rd_L1 l x).length : Int)) ∧ c < ((rd_L1 l y).length : Int) then some (wrap64 (rd (rd_L1 l x) c - rd (rd_L1 l y) c)) else none)
  else none
set_option maxHeartbeats 4000000 in
set_option maxRecDepth 100000 in
theorem impl_orderBy_1.calls (l : List (List Int)) (c x y r : Int) (b1 b2 : Nat) (A : Option Addr) (cp : Nat) (W : World) (h1 : W.cell? ⟨b1, 0, none⟩ = some (.slice A l.length cp)) (h2 : W.cell? ⟨b2, 0, none⟩ = some (.int .i64 c)) (hC : Kd.C (Kd.slice 3 (Kd.int .i64)) W A l.length l) (h : cfBy l c x y = some r) :
    Calls Try.prog 65 #[.int .i64 x, .int .i64 y, .pointer (some ⟨b1, 0, none⟩), .pointer (some ⟨b2, 0, none⟩)] W fun e w' => e = .returned (.int .i64 r) ∧ Drawn0 W w' := by
  unfold cfBy at h
  by_cases p1 : (0 ≤ x ∧ x < (l.length : Int)) ∧ (0 ≤ y ∧ y < (l.length : Int))
  case neg => rw [if_neg p1] at h; cases h
  rw [if_pos p1] at h
  by_cases p2 : (0 ≤ c ∧ c < ((rd_L1 l x).length : Int)) ∧ c < ((rd_L1 l y).length : Int)
  case neg => rw [if_neg p2] at h; cases h
  rw [if_pos p2] at h
  obtain rfl := Option.some.inj h
  clear h
  obtain ⟨ad, A1, c1, e1, hx1, hl1, hi1⟩ := at_L1 hC x p1.1.1 p1.1.2
  subst e1
  obtain ⟨ad', A2, c2, e2, hx2, hl2, hi2⟩ := at_L1 hC y p1.2.1 p1.2.2
  injection e2 with e2
  subst e2
  obtain ⟨f1, g1, k1⟩ := Kd.at_int hi1 c p2.1.1 p2.1.2
  subst g1
  obtain ⟨f2, g2, k2⟩ := Kd.at_int hi2 c p2.1.1 p2.2
  subst g2
  have q1 := p1.1.1
  have q2 := p1.1.2
  have q3 := p1.2.1
  have q4 := p1.2.2
  have q5 := p2.1.1
  have q6 := p2.1.2
  have q7 := p2.2
  generalize rd (rd_L1 l x) c = u at k1 ⊢
  generalize rd (rd_L1 l y) c = v at k2 ⊢
  generalize (rd_L1 l x).length = n1 at *
  generalize (rd_L1 l y).length = n2 at *
  generalize l.length = n at *
  clear hC hi1 hi2 hl1 hl2 p1 p2
  replace q1 := eq_true q1
  replace q2 := eq_true q2
  replace q3 := eq_true q3
  replace q4 := eq_true q4
  replace q5 := eq_true q5
  replace q6 := eq_true q6
  replace q7 := eq_true q7
  go_enter Try.func65, Try.ntmps65
  go_wp2
  skip
  go_quiet (fail)
  all_goals (try go_wp2)
  go_ret
  exact ⟨rfl, ⟨_, rfl⟩⟩

set_option maxHeartbeats 4000000 in
set_option maxRecDepth 100000 in
/-- Fewer than twenty elements: one insertion sort. -/
theorem slices_stableCmpFunc_int.calls (cf : Int → Int → Option Int) (gf : Nat) (lb : Array Value) (eg : ∀ args w, (callFunc gf args).run Try.prog w = .ok (.enter gf args) w) (k : Nat) (P0_ : Nat → Prop) (u9000_ : Value) (l0 : List Int) (r : List Int) (w0 w : World) (hB : Below w0.heap.size w0 w)
    (hcmp : ∀ (x y r : Int) (w' : World), Below w0.heap.size w0 w' → cf x y = some r → Calls Try.prog gf (#[.int .i64 x, .int .i64 y] ++ lb) w' fun e w'' => e = .returned (.int .i64 r) ∧ Drawn0 w' w'') (ho0 : Kd.R (Kd.int .i64) 3 w w0.heap.size P0_ u9000_ l0) (hn : l0.length < 20) (h : slices_insertionSortCmpFunc_int.f cf k l0 0 (l0.length : Int) 0 = some r) :
    Calls Try.prog 71 #[u9000_, .int .i64 (l0.length : Int), .func (.func gf) #[] lb] w fun e w' => e = .returned (.tuple #[]) ∧ Kd.R (Kd.int .i64) 3 w' w0.heap.size (fun k_ => (P0_ k_ ∨ w.heap.size ≤ k_)) u9000_ r ∧ Below w0.heap.size w0 w' ∧ Kept w w' (fun k_ => P0_ k_) := by
  have hc := slices_insertionSortCmpFunc_int.calls cf gf lb eg k P0_ u9000_ l0 0 (l0.length : Int) 0 r w0 w hB hcmp ho0 h
  have hn' : (l0.length : Int) < 20 := by omega
  generalize (l0.length : Int) = n at *
  have d1 : ¬ (20 ≤ n) := by omega
  have d2 : ¬ (20 < n) := by omega
  have e1 : (20 ≤ n) = False := eq_false d1
  have e2 : (20 < n) = False := eq_false d2
  have e3 : decide (20 ≤ n) = false := decide_eq_false d1
  have e4 : decide (20 < n) = false := decide_eq_false d2
  clear hB hcmp ho0 h hn hn'
  have HC := Aside0.mk hc
  clear hc
  go_enter Try.func71, Try.ntmps71
  go_wp2
  go_loopg [7, 8] 0 (fun _ v7 v8 w' => v7 = .int .i64 0 ∧ v8 = .int .i64 20 ∧ w' = w)
  case atStart => exact ⟨rfl, rfl, rfl⟩
  case round =>
    obtain ⟨rfl, rfl, rfl⟩ := hrel
    go_wp2_with (go_at_call 83; refine HC.out.mono ?_; rintro e w1 ⟨rfl, h1, h2, h3⟩; have H1 := Aside0.mk h1; have H2 := Aside0.mk h2; have H3 := Aside0.mk h3; clear h1 h2 h3)
    go_loopg [6, 7, 8] 0 (fun _ v6 v7 v8 w' => v6 = .int .i64 20 ∧ v7 = .int .i64 0 ∧ v8 = .int .i64 20 ∧ w' = w1)
    case atStart => exact ⟨rfl, rfl, rfl, rfl⟩
    case round =>
      obtain ⟨rfl, rfl, rfl, rfl⟩ := hrel
      go_wp2
      first | go_end0 | ((try simp only [Exit.inBlock, Exit.then]); refine bodyPost_ret (results_none rfl _ _ _) rfl ?_)
      exact ⟨rfl, H1.out, H2.out, H3.out⟩
set_option maxHeartbeats 4000000 in
set_option maxRecDepth 100000 in
theorem slices_SortStableFunc_int.calls (cf : Int → Int → Option Int) (gf : Nat) (lb : Array Value) (eg : ∀ args w, (callFunc gf args).run Try.prog w = .ok (.enter gf args) w) (k : Nat) (P0_ : Nat → Prop) (u9000_ : Value) (l0 : List Int) (r : List Int) (w0 w : World) (hB : Below w0.heap.size w0 w)
    (hcmp : ∀ (x y r : Int) (w' : World), Below w0.heap.size w0 w' → cf x y = some r → Calls Try.prog gf (#[.int .i64 x, .int .i64 y] ++ lb) w' fun e w'' => e = .returned (.int .i64 r) ∧ Drawn0 w' w'') (ho0 : Kd.R (Kd.int .i64) 3 w w0.heap.size P0_ u9000_ l0) (hn : l0.length < 20) (h : slices_insertionSortCmpFunc_int.f cf k l0 0 (l0.length : Int) 0 = some r) :
    Calls Try.prog 64 #[u9000_, .func (.func gf) #[] lb] w fun e w' => e = .returned (.tuple #[]) ∧ Kd.R (Kd.int .i64) 3 w' w0.heap.size (fun k_ => (P0_ k_ ∨ w.heap.size ≤ k_)) u9000_ r ∧ Below w0.heap.size w0 w' ∧ Kept w w' (fun k_ => P0_ k_) := by
  have hc := slices_stableCmpFunc_int.calls cf gf lb eg k P0_ u9000_ l0 r w0 w hB hcmp ho0 hn h
  obtain ⟨A, c, rfl⟩ := Kd.R_slice ho0
  clear hB hcmp ho0 h hn
  have HC := Aside0.mk hc
  clear hc
  go_enter Try.func64, Try.ntmps64
  go_wp2_with (go_at_call 71; refine HC.out.mono ?_; rintro e w1 ⟨rfl, h1, h2, h3⟩; have H1 := Aside0.mk h1; have H2 := Aside0.mk h2; have H3 := Aside0.mk h3; clear h1 h2 h3)
  first | go_end0 | ((try simp only [Exit.inBlock, Exit.then]); refine bodyPost_ret (results_none rfl _ _ _) rfl ?_)
  exact ⟨rfl, H1.out, H2.out, H3.out⟩
/-- The indices, put in order by a column, equals as they were. -/
def impl_orderBy.f (k : Nat) (l0 : List (List Int)) (a1 : Int) : Option (List Int) := (impl_orderOf.f k (l0.length : Int)).bind fun o => (if o.length < 20 then (slices_insertionSortCmpFunc_int.f (cfBy l0 a1) k o 0 (o.length : Int) 0) else (none))
theorem impl_orderBy.mono : ∀ a0 a1 k, LeO (impl_orderBy.f k a0 a1) (impl_orderBy.f (k + 1) a0 a1) := by
  intro a0 a1 k
  unfold impl_orderBy.f
  repeat' first
      | (with_reducible exact impl_orderOf.mono _ _)
      | (with_reducible exact slices_insertionSortCmpFunc_int.mono _ _ _ _ _ _)
      | (with_reducible exact LeO.refl _)
      | (with_reducible exact LeO.none _)
      | (with_reducible refine LeO.ite ?_ ?_)
      | (with_reducible refine LeO.bind ?_ (fun _ => ?_))
set_option maxHeartbeats 4000000 in
set_option maxRecDepth 100000 in
theorem impl_orderBy.calls (k : Nat) (A0 : Option Addr) (c0 : Nat) (l0 : List (List Int)) (a1 : Int) (r : List Int) (w : World) (hr0 : Kd.C (Kd.slice 3 (Kd.int .i64)) w A0 l0.length l0) (hc0 : l0.length ≤ c0) (h : impl_orderBy.f k l0 a1 = some r) :
    Calls Try.prog 52 #[.slice A0 l0.length c0, .int .i64 a1] w fun e w' => ∃ v0_ : Value, e = .returned (v0_) ∧ Kd.R (Kd.int .i64) 3 w' w.heap.size (fun _ => True) v0_ r ∧ Below w.heap.size w w' := by
  unfold impl_orderBy.f at h
  obtain ⟨o, ho, h⟩ := Option.bind_eq_some_iff.1 h
  by_cases hl : o.length < 20
  case neg => rw [if_neg hl] at h; cases h
  rw [if_pos hl] at h
  have hb0 : Below w.heap.size w ((w.alloc (.cells #[.slice A0 l0.length c0] 22)).alloc (.cells #[.int .i64 a1] 3)) := (((Below.refl _ _).alloc (Nat.le_refl _) _).alloc (by simp) _)
  have g1 : ((w.alloc (.cells #[.slice A0 l0.length c0] 22)).alloc (.cells #[.int .i64 a1] 3)).cell? ⟨w.heap.size, 0, none⟩ = some (.slice A0 l0.length c0) := by simp
  have g2 : ((w.alloc (.cells #[.slice A0 l0.length c0] 22)).alloc (.cells #[.int .i64 a1] 3)).cell? ⟨w.heap.size + 1, 0, none⟩ = some (.int .i64 a1) := by simp
  have gs : ((w.alloc (.cells #[.slice A0 l0.length c0] 22)).alloc (.cells #[.int .i64 a1] 3)).heap.size = w.heap.size + 2 := by simp
  have hC := Kd.C_below hr0 hb0
  generalize hwB : ((w.alloc (.cells #[.slice A0 l0.length c0] 22)).alloc (.cells #[.int .i64 a1] 3)) = wB at hb0 g1 g2 gs hC
  have eg : ∀ args w, (callFunc 65 args).run Try.prog w = .ok (.enter 65 args) w := enters_of Try.func65 (by kernel_rfl) rfl
  have hcmp : Aside0 (∀ (x y r : Int) (w' : World), Below wB.heap.size wB w' → cfBy l0 a1 x y = some r → Calls Try.prog 65 (#[.int .i64 x, .int .i64 y] ++ #[.pointer (some ⟨w.heap.size, 0, none⟩), .pointer (some ⟨w.heap.size + 1, 0, none⟩)]) w' fun e w'' => e = .returned (.int .i64 r) ∧ Drawn0 w' w'') := ⟨fun x y r w' hb hr => impl_orderBy_1.calls l0 a1 x y r w.heap.size (w.heap.size + 1) A0 c0 w'
    (by rw [← g1]; simp only [World.cell?]; rw [hb.block w.heap.size (by omega)]) (by rw [← g2]; simp only [World.cell?]; rw [hb.block (w.heap.size + 1) (by omega)]) (Kd.C_below hC hb) hr⟩
  have HB0 := Aside0.mk hb0
  have HO := Aside0.mk ho
  have HL := Aside0.mk hl
  have H := Aside0.mk h
  have HG := Aside0.mk g1
  clear hb0 ho hl h g2 gs hC hr0
  go_enter Try.func52, Try.ntmps52
  go_wp2_with fail
  refine (impl_orderOf.calls k (l0.length : Int) o _ HO.out).mono ?_
  rintro e w2 ⟨v2, rfl, h1, h2⟩
  obtain ⟨A2, c2, rfl⟩ := Kd.R_slice h1
  have HV := Aside0.mk h1
  have HB2 := Aside0.mk h2
  clear h1 h2
  go_wp2_with fail
  refine (slices_SortStableFunc_int.calls (cfBy l0 a1) 65 _ eg k (fun _ => True) _ o r wB w2 HB2.out hcmp.out HV.out HL.out H.out).mono ?_
  rintro e w3 ⟨rfl, h1, h2, h3⟩
  have K1 := Aside0.mk h1
  have K2 := Aside0.mk h2
  clear h1 h2 h3
  go_wp2
  go_ret
  exact ⟨_, rfl, Kd.R_mono (Kd.R_lower K1.out HB0.out.size) (fun _ _ => trivial), below_then HB0.out HB0.out.size K2.out⟩

/-! ### impl_DueOrder: function 20 -/
def impl_DueOrder.f (k : Nat) (l0 : List (List Int)) : Option (List Int) := (impl_WorksOk.f l0).bind fun t208 => (if t208 = true then ((impl_orderBy.f k l0 1).bind fun t209 => (some t209)) else (some ([] : List Int)))
theorem impl_DueOrder.mono : ∀ a0 k, LeO (impl_DueOrder.f k a0) (impl_DueOrder.f (k + 1) a0) := by
  intro a0 k
  unfold impl_DueOrder.f
  repeat' first
      | (with_reducible exact impl_orderBy.mono _ _ _)
      | (with_reducible exact LeO.refl _)
      | (with_reducible exact LeO.none _)
      | (with_reducible refine LeO.ite ?_ ?_)
      | (with_reducible refine LeO.bind ?_ (fun _ => ?_))
      | exact impl_orderBy.mono _ _ _
      | exact LeO.none _
      | refine LeO.ite ?_ ?_
      | refine LeO.bind ?_ (fun _ => ?_)
set_option maxHeartbeats 8000000 in
set_option maxRecDepth 100000 in
theorem impl_DueOrder.calls (k : Nat) (A0 : Option Addr) (c0 : Nat) (l0 : List (List Int)) (r : List Int) (w : World) (hr0 : Kd.C (Kd.slice 3 (Kd.int .i64)) w A0 l0.length l0) (hc0 : l0.length ≤ c0) (h : impl_DueOrder.f k l0 = some r) :
    Calls Try.prog 20 #[.slice A0 l0.length c0] w fun e w' => ∃ v0_ : Value, e = .returned (v0_) ∧ Kd.R (Kd.int .i64) 3 w' w.heap.size (fun _ => True) v0_ r ∧ Below w.heap.size w w' := by
  have HR0 := Aside0.mk hr0
  have HC0 := Aside0.mk hc0
  clear hr0 hc0
  have HB := Aside0.mk (Below.refl w.heap.size w)
  have H : ((impl_WorksOk.f l0).bind fun t208 => (if t208 = true then ((impl_orderBy.f k l0 1).bind fun t209 => (some t209)) else (some ([] : List Int)))) = some r := h
  clear h
  replace H := Option.bind_eq_some_iff.mp H
  obtain ⟨t208, A20, H⟩ := H
  replace H : (if t208 = true then ((impl_orderBy.f k l0 1).bind fun t209 => (some t209)) else (some ([] : List Int))) = some r := H
  have A2 := Aside0.mk A20
  clear A20
  by_cases c3 : t208 = true
  · subst c3
    have H1 : ((impl_orderBy.f k l0 1).bind fun t209 => (some t209)) = some r := by rw [if_pos rfl] at H; exact H
    clear H
    have H := H1
    clear H1
    replace H := Option.bind_eq_some_iff.mp H
    obtain ⟨t209, A40, H⟩ := H
    replace H : (some t209) = some r := H
    have A4 := Aside0.mk A40
    clear A40
    obtain rfl := Option.some.inj H
    go_enter Try.func20, Try.ntmps20
    go_wp2_with (first | ((with_reducible refine gate_callee (f := 17) rfl ?_); refine goesL_ (some 4) rfl rfl Try.func17 (by kernel_rfl) rfl #[.slice A0 l0.length c0] rfl (by (try simp only [List.map_toArray, List.map_cons, List.map_nil]); first | done | rfl | (simp only [List.length_drop, List.length_take]; rfl)) ?_; (with_reducible refine (impl_WorksOk.calls _ _ l0 true _ ?side1 ?side2 A2.out).mono ?_); (case side1 => repeat (first | exact HR0.out | (with_reducible refine Kd.C_alloc ?_ _) | (with_reducible refine Kd.C_drewN ?_ _) | (with_reducible refine Kd.C_drew ?_))); (case side2 => exact HC0.out); rintro e w' ⟨rfl, ⟨nd, rfl⟩⟩; refine ⟨_, rfl, ?_⟩) | ((with_reducible refine gate_callee (f := 52) rfl ?_); refine goesL_ (some 7) rfl rfl Try.func52 (by kernel_rfl) rfl #[.slice A0 l0.length c0, .int .i64 1] rfl (by (try simp only [List.map_toArray, List.map_cons, List.map_nil]); first | done | rfl | (simp only [List.length_drop, List.length_take]; rfl)) ?_; (with_reducible refine (impl_orderBy.calls k _ _ l0 1 t209 _ ?side1 ?side2 A4.out).mono ?_); (case side1 => repeat (first | exact HR0.out | (with_reducible refine Kd.C_alloc ?_ _) | (with_reducible refine Kd.C_drewN ?_ _) | (with_reducible refine Kd.C_drew ?_))); (case side2 => exact HC0.out); rintro e w5 ⟨v210, rfl, ho0, hb⟩; refine ⟨_, rfl, ?_⟩; have n0_ := Aside0.mk (Kd.R_lower ho0 (below_size (by repeat (first | (with_reducible first | exact HB.out | apply below_alloc | apply pw_below_drewN | apply below_drew1) | exact HB.out)))); have n1_ := Aside0.mk (below_step (by repeat (first | (with_reducible first | exact HB.out | apply below_alloc | apply pw_below_drewN | apply below_drew1) | exact HB.out)) hb); clear HB; have HO211 := n0_; have HB := n1_; clear n0_ n1_; (try clear hb); (try clear hb2); (try clear hk); (try clear hi); (try clear ho0)))
    go_ret
    exact ⟨_, by first | rfl | (simp [errW_none, errW_some] <;> rfl) | (simp [*, errW_none, errW_some] <;> rfl), by (with_reducible repeat (first | apply Kd.R_alloc | apply Kd.R_drewN | apply Kd.R_drew)); exact HO211.out, by repeat (first | (with_reducible first | exact HB.out | apply below_alloc | apply pw_below_drewN | apply below_drew1) | exact HB.out)⟩
  · replace c3 := Bool.eq_false_iff.mpr c3
    subst c3
    have H1 : (some ([] : List Int)) = some r := by rw [if_neg (show ¬ (false = true) by decide)] at H; exact H
    clear H
    have H := H1
    clear H1
    obtain rfl := Option.some.inj H
    go_enter Try.func20, Try.ntmps20
    go_wp2_with (first | ((with_reducible refine gate_callee (f := 17) rfl ?_); refine goesL_ (some 4) rfl rfl Try.func17 (by kernel_rfl) rfl #[.slice A0 l0.length c0] rfl (by (try simp only [List.map_toArray, List.map_cons, List.map_nil]); first | done | rfl | (simp only [List.length_drop, List.length_take]; rfl)) ?_; (with_reducible refine (impl_WorksOk.calls _ _ l0 false _ ?side1 ?side2 A2.out).mono ?_); (case side1 => repeat (first | exact HR0.out | (with_reducible refine Kd.C_alloc ?_ _) | (with_reducible refine Kd.C_drewN ?_ _) | (with_reducible refine Kd.C_drew ?_))); (case side2 => exact HC0.out); rintro e w' ⟨rfl, ⟨nd, rfl⟩⟩; refine ⟨_, rfl, ?_⟩))
    go_ret
    exact ⟨_, by first | rfl | (simp [errW_none, errW_some] <;> rfl) | (simp [*, errW_none, errW_some] <;> rfl), by first | exact Kd.R_nil _ _ _ _ _ | exact Kd.N_nil _ _ _ _ _ | exact Kd.V_nil _ _ _ _ _ | exact Kd.Q_nil _ _ _ _ _ | exact Kd.S_nil _ _ _ _ _, by repeat (first | (with_reducible first | exact HB.out | apply below_alloc | apply pw_below_drewN | apply below_drew1) | exact HB.out)⟩

end Go.Proofs.Ytoonamloihbjnaa.PA
