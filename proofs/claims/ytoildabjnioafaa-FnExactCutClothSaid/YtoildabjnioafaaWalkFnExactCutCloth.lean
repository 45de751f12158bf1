/- The walk of the law FnExactCutCloth with its marks: where the chain of its callees' functions ends in 'true', the machine's call returns true and nothing that was there is turned. Written by a program of this session's (lawwalk.py). -/
import Derived.Test.YtoildabjnioafaaPAx20
import Derived.Test.YtoildabjnioafaaPAx21
import Derived.Test.YtoildabjnioafaaPAx22
import Derived.Test.YtoildabjnioafaaPAx23
import Derived.Test.YtoildabjnioafaaPAx24
import Derived.Test.YtoildabjnioafaaPAx7
import Derived.Test.YtoildabjnioafaaPAx9
namespace Go.Proofs.Ytoildabjnioafaa.PA
open Go.RowKit Go.Proofs.YtoildabjnioafaaW.PrintWords Go.Proofs.YtoildabjnioafaaW.PrintLast Go.Proofs.YtoildabjnioafaaW.PrintMore
set_option linter.unusedVariables false
set_option linter.unusedSimpArgs false

def laws_FnExactCutCloth.f (k : Nat) (a0 : Int) (a1 : Int) (l2 : List Int) : Option Bool := if (l2.length : Int) > 1048576 then some true else ((laws_toIntS.f k l2).bind fun u2 => ((spec_CutCloth.f k a0 a1 u2).bind fun W => ((laws_toIntS.f k l2).bind fun x2 => ((impl_CutCloth.f a0 a1 x2).bind fun G => ((laws_eqIntSS.f k G W).bind fun e0 => if e0 = true then ((laws_toIntS.f k l2).bind fun y2 => (laws_eqIntS.f k x2 y2).bind fun f2 => if f2 = true then ((laws_markIntS.f k x2 1).bind fun M2 => (if 0 ≤ M2.1 then ((laws_markIntSS.f k G 1).bind fun N0 => ((laws_heldIntSS.f k N0.2 1).bind fun q0 => if 0 ≤ q0 then (if q0 = N0.1 then ((laws_toIntS.f k l2).bind fun z2 => ((impl_CutCloth.f a0 a1 z2).bind fun H => ((laws_eqIntSS.f k H W).bind fun d0 => if d0 = true then (some true) else none))) else none) else none)) else none)) else none) else none)))))
set_option maxHeartbeats 8000000 in
set_option maxRecDepth 100000 in
theorem laws_FnExactCutCloth.calls (k : Nat) (a0 : Int) (a1 : Int) (A2 : Option Addr) (c2 : Nat) (l2 : List Int) (r : Bool) (w : World) (hr2 : Kd.C (Kd.int .i64) w A2 l2.length l2) (hc2 : l2.length ≤ c2) (h : laws_FnExactCutCloth.f k a0 a1 l2 = some r) :
    Calls Try.prog 10 #[.int .i64 a0, .int .i64 a1, .slice A2 l2.length c2] w fun e w' => e = .returned (.bool r) ∧ Below w.heap.size w w' := by
  unfold laws_FnExactCutCloth.f at h
  have HR2 := Aside0.mk hr2
  have HC2 := Aside0.mk hc2
  clear hr2 hc2
  by_cases n2 : (l2.length : Int) > 1048576
  · rw [if_pos n2] at h
    obtain rfl := Option.some.inj h
    clear h
    go_enter Try.func10, Try.ntmps10
    go_wp2
    go_ret
    exact ⟨rfl, Below.refl _ _⟩
  rw [if_neg n2] at h
  replace h := Option.bind_eq_some_iff.1 h
  obtain ⟨u2, b_u2, h⟩ := h
  have Q_u2 := Aside0.mk b_u2
  clear b_u2
  replace h := Option.bind_eq_some_iff.1 h
  obtain ⟨W, b_W, h⟩ := h
  have Q_W := Aside0.mk b_W
  clear b_W
  replace h := Option.bind_eq_some_iff.1 h
  obtain ⟨x2, b_x2, h⟩ := h
  have Q_x2 := Aside0.mk b_x2
  clear b_x2
  replace h := Option.bind_eq_some_iff.1 h
  obtain ⟨G, b_G, h⟩ := h
  have Q_G := Aside0.mk b_G
  clear b_G
  obtain ⟨W0, rfl⟩ : ∃ z, z = W := ⟨_, rfl⟩
  obtain ⟨G0, rfl⟩ : ∃ z, z = G := ⟨_, rfl⟩
  replace h := Option.bind_eq_some_iff.1 h
  obtain ⟨e0, b_e0, h⟩ := h
  have Q_e0 := Aside0.mk b_e0
  clear b_e0
  by_cases t_e0 : e0 = true
  case neg => rw [if_neg t_e0] at h; cases h
  rw [if_pos t_e0] at h
  subst t_e0
  replace h := Option.bind_eq_some_iff.1 h
  obtain ⟨y2, b_y2, h⟩ := h
  have Q_y2 := Aside0.mk b_y2
  clear b_y2
  replace h := Option.bind_eq_some_iff.1 h
  obtain ⟨f2, b_f2, h⟩ := h
  have Q_f2 := Aside0.mk b_f2
  clear b_f2
  by_cases t_f2 : f2 = true
  case neg => rw [if_neg t_f2] at h; cases h
  rw [if_pos t_f2] at h
  subst t_f2
  replace h := Option.bind_eq_some_iff.1 h
  obtain ⟨⟨m2a, m2b⟩, b_M2, h⟩ := h
  dsimp only at h
  have Q_M2 := Aside0.mk b_M2
  clear b_M2
  by_cases g_0 : 0 ≤ m2a
  case neg => rw [if_neg g_0] at h; cases h
  rw [if_pos g_0] at h
  replace h := Option.bind_eq_some_iff.1 h
  obtain ⟨⟨n0a, n0b⟩, b_N0, h⟩ := h
  dsimp only at h
  have Q_N0 := Aside0.mk b_N0
  clear b_N0
  replace h := Option.bind_eq_some_iff.1 h
  obtain ⟨q0, b_q0, h⟩ := h
  have Q_q0 := Aside0.mk b_q0
  clear b_q0
  by_cases g_q0 : 0 ≤ q0
  case neg => rw [if_neg g_q0] at h; cases h
  rw [if_pos g_q0] at h
  by_cases t_q : q0 = n0a
  case neg => rw [if_neg t_q] at h; cases h
  rw [if_pos t_q] at h
  subst t_q
  replace h := Option.bind_eq_some_iff.1 h
  obtain ⟨z2, b_z2, h⟩ := h
  have Q_z2 := Aside0.mk b_z2
  clear b_z2
  replace h := Option.bind_eq_some_iff.1 h
  obtain ⟨H, b_H, h⟩ := h
  have Q_H := Aside0.mk b_H
  clear b_H
  obtain ⟨H0, rfl⟩ : ∃ z, z = H := ⟨_, rfl⟩
  replace h := Option.bind_eq_some_iff.1 h
  obtain ⟨d0, b_d0, h⟩ := h
  have Q_d0 := Aside0.mk b_d0
  clear b_d0
  by_cases t_d0 : d0 = true
  case neg => rw [if_neg t_d0] at h; cases h
  rw [if_pos t_d0] at h
  subst t_d0
  obtain rfl := Option.some.inj h
  clear h
  go_enter Try.func10, Try.ntmps10
  go_wp2_with fail
  refine (laws_toIntS.calls k _ _ l2 u2 w HR2.out HC2.out Q_u2.out).mono ?_
  rintro e w1 ⟨v_u2, rfl, ho_u2, hb⟩
  have Z1 := Aside0.mk hb.size
  have B1 := Aside0.mk hb
  obtain ⟨A_u2, c_u2, rfl, hl_u2, hC_u2⟩ := Kd.R_reads ho_u2
  clear hl_u2 hC_u2
  have F_u2 : Aside0 (Kd.R (Kd.int .i64) 3 w1 w.heap.size (fun k_ => k_ < w1.heap.size) (.slice A_u2 u2.length c_u2) u2) := ⟨Kd.R_mono (Kd.R_bound ho_u2) (fun _ hk => hk.2.2.1)⟩
  clear ho_u2
  clear hb
  go_wp2_with fail
  refine (spec_CutCloth.calls k a0 a1 _ _ u2 W0 w1 (Kd.R_reads' F_u2.out).2.2 (Kd.R_reads' F_u2.out).2.1 Q_W.out).mono ?_
  rintro e w2 ⟨v_W0, rfl, ho_W0, hb⟩
  have Z2 := Aside0.mk hb.size
  have B2 := Aside0.mk (below_then B1.out B1.out.size hb)
  obtain ⟨A_W0, c_W0, rfl, hl_W0, hC_W0⟩ := Kd.N_reads ho_W0
  clear hl_W0 hC_W0
  have F_W0 : Aside0 (Kd.N (Kd.slice 3 (Kd.int .i64)) 29 w2 w1.heap.size (fun k_ => w1.heap.size ≤ k_ ∧ k_ < w2.heap.size) (.slice A_W0 W0.length c_W0) W0) := ⟨Kd.N_mono (Kd.N_bound ho_W0) (fun _ hk => hk)⟩
  clear ho_W0
  have T_u2 := Aside0.mk (Kd.R_below F_u2.out hb)
  clear F_u2
  have F_u2 : Aside0 (Kd.R (Kd.int .i64) 3 w2 w.heap.size (fun k_ => k_ < w1.heap.size) (.slice A_u2 u2.length c_u2) u2) := T_u2
  clear T_u2
  clear hb
  clear F_u2
  go_wp2_with fail
  refine (laws_toIntS.calls k _ _ l2 x2 w2 (Kd.C_below HR2.out B2.out) HC2.out Q_x2.out).mono ?_
  rintro e w3 ⟨v_x2, rfl, ho_x2, hb⟩
  have Z3 := Aside0.mk hb.size
  have B3 := Aside0.mk (below_then B2.out B2.out.size hb)
  obtain ⟨A_x2, c_x2, rfl, hl_x2, hC_x2⟩ := Kd.R_reads ho_x2
  clear hl_x2 hC_x2
  have F_x2 : Aside0 (Kd.R (Kd.int .i64) 3 w3 w2.heap.size (fun k_ => k_ < w3.heap.size) (.slice A_x2 x2.length c_x2) x2) := ⟨Kd.R_mono (Kd.R_bound ho_x2) (fun _ hk => hk.2.2.1)⟩
  clear ho_x2
  have T_W0 := Aside0.mk (Kd.N_below F_W0.out hb)
  clear F_W0
  have F_W0 : Aside0 (Kd.N (Kd.slice 3 (Kd.int .i64)) 29 w3 w1.heap.size (fun k_ => w1.heap.size ≤ k_ ∧ k_ < w2.heap.size) (.slice A_W0 W0.length c_W0) W0) := T_W0
  clear T_W0
  clear hb
  go_wp2_with fail
  refine (impl_CutCloth.calls a0 a1 _ _ x2 G0 w3 (Kd.R_reads' F_x2.out).2.2 (Kd.R_reads' F_x2.out).2.1 Q_G.out).mono ?_
  rintro e w4 ⟨v_G0, rfl, ho_G0, hb⟩
  have Z4 := Aside0.mk hb.size
  have B4 := Aside0.mk (below_then B3.out B3.out.size hb)
  obtain ⟨A_G0, c_G0, rfl, hl_G0, hC_G0⟩ := Kd.S_reads ho_G0
  clear hl_G0 hC_G0
  have F_G0 : Aside0 (Kd.S (Kd.slice 3 (Kd.int .i64)) 29 w4 w3.heap.size (fun k_ => k_ < w4.heap.size) (.slice A_G0 G0.length c_G0) G0) := ⟨Kd.S_mono (Kd.S_bound ho_G0) (fun _ hk => hk.2.2.1)⟩
  clear ho_G0
  have T_W0 := Aside0.mk (Kd.N_below F_W0.out hb)
  clear F_W0
  have F_W0 : Aside0 (Kd.N (Kd.slice 3 (Kd.int .i64)) 29 w4 w1.heap.size (fun k_ => w1.heap.size ≤ k_ ∧ k_ < w2.heap.size) (.slice A_W0 W0.length c_W0) W0) := T_W0
  clear T_W0
  have T_x2 := Aside0.mk (Kd.R_below F_x2.out hb)
  clear F_x2
  have F_x2 : Aside0 (Kd.R (Kd.int .i64) 3 w4 w2.heap.size (fun k_ => k_ < w3.heap.size) (.slice A_x2 x2.length c_x2) x2) := T_x2
  clear T_x2
  clear hb
  go_wp2_with fail
  refine (laws_eqIntSS.calls k _ _ G0 _ _ W0 true w4 (Kd.S_reads' F_G0.out).2.2 (Kd.S_reads' F_G0.out).2.1 (Kd.N_reads' F_W0.out).2.2 (Kd.N_reads' F_W0.out).2.1 Q_e0.out).mono ?_
  rintro e w5 ⟨rfl, hd⟩
  have hb := hd.below
  clear hd
  have Z5 := Aside0.mk hb.size
  have B5 := Aside0.mk (below_then B4.out B4.out.size hb)
  have T_W0 := Aside0.mk (Kd.N_below F_W0.out hb)
  clear F_W0
  have F_W0 : Aside0 (Kd.N (Kd.slice 3 (Kd.int .i64)) 29 w5 w1.heap.size (fun k_ => w1.heap.size ≤ k_ ∧ k_ < w2.heap.size) (.slice A_W0 W0.length c_W0) W0) := T_W0
  clear T_W0
  have T_x2 := Aside0.mk (Kd.R_below F_x2.out hb)
  clear F_x2
  have F_x2 : Aside0 (Kd.R (Kd.int .i64) 3 w5 w2.heap.size (fun k_ => k_ < w3.heap.size) (.slice A_x2 x2.length c_x2) x2) := T_x2
  clear T_x2
  have T_G0 := Aside0.mk (Kd.S_below F_G0.out hb)
  clear F_G0
  have F_G0 : Aside0 (Kd.S (Kd.slice 3 (Kd.int .i64)) 29 w5 w3.heap.size (fun k_ => k_ < w4.heap.size) (.slice A_G0 G0.length c_G0) G0) := T_G0
  clear T_G0
  clear hb
  go_wp2_with fail
  refine (laws_toIntS.calls k _ _ l2 y2 w5 (Kd.C_below HR2.out B5.out) HC2.out Q_y2.out).mono ?_
  rintro e w6 ⟨v_y2, rfl, ho_y2, hb⟩
  have Z6 := Aside0.mk hb.size
  have B6 := Aside0.mk (below_then B5.out B5.out.size hb)
  obtain ⟨A_y2, c_y2, rfl, hl_y2, hC_y2⟩ := Kd.R_reads ho_y2
  clear hl_y2 hC_y2
  have F_y2 : Aside0 (Kd.R (Kd.int .i64) 3 w6 w5.heap.size (fun k_ => k_ < w6.heap.size) (.slice A_y2 y2.length c_y2) y2) := ⟨Kd.R_mono (Kd.R_bound ho_y2) (fun _ hk => hk.2.2.1)⟩
  clear ho_y2
  have T_W0 := Aside0.mk (Kd.N_below F_W0.out hb)
  clear F_W0
  have F_W0 : Aside0 (Kd.N (Kd.slice 3 (Kd.int .i64)) 29 w6 w1.heap.size (fun k_ => w1.heap.size ≤ k_ ∧ k_ < w2.heap.size) (.slice A_W0 W0.length c_W0) W0) := T_W0
  clear T_W0
  have T_x2 := Aside0.mk (Kd.R_below F_x2.out hb)
  clear F_x2
  have F_x2 : Aside0 (Kd.R (Kd.int .i64) 3 w6 w2.heap.size (fun k_ => k_ < w3.heap.size) (.slice A_x2 x2.length c_x2) x2) := T_x2
  clear T_x2
  have T_G0 := Aside0.mk (Kd.S_below F_G0.out hb)
  clear F_G0
  have F_G0 : Aside0 (Kd.S (Kd.slice 3 (Kd.int .i64)) 29 w6 w3.heap.size (fun k_ => k_ < w4.heap.size) (.slice A_G0 G0.length c_G0) G0) := T_G0
  clear T_G0
  clear hb
  go_wp2_with fail
  refine (laws_eqIntS.calls k _ _ x2 _ _ y2 true w6 (Kd.R_reads' F_x2.out).2.2 (Kd.R_reads' F_x2.out).2.1 (Kd.R_reads' F_y2.out).2.2 (Kd.R_reads' F_y2.out).2.1 Q_f2.out).mono ?_
  rintro e w7 ⟨rfl, hd⟩
  have hb := hd.below
  clear hd
  have Z7 := Aside0.mk hb.size
  have B7 := Aside0.mk (below_then B6.out B6.out.size hb)
  have T_W0 := Aside0.mk (Kd.N_below F_W0.out hb)
  clear F_W0
  have F_W0 : Aside0 (Kd.N (Kd.slice 3 (Kd.int .i64)) 29 w7 w1.heap.size (fun k_ => w1.heap.size ≤ k_ ∧ k_ < w2.heap.size) (.slice A_W0 W0.length c_W0) W0) := T_W0
  clear T_W0
  have T_x2 := Aside0.mk (Kd.R_below F_x2.out hb)
  clear F_x2
  have F_x2 : Aside0 (Kd.R (Kd.int .i64) 3 w7 w2.heap.size (fun k_ => k_ < w3.heap.size) (.slice A_x2 x2.length c_x2) x2) := T_x2
  clear T_x2
  have T_G0 := Aside0.mk (Kd.S_below F_G0.out hb)
  clear F_G0
  have F_G0 : Aside0 (Kd.S (Kd.slice 3 (Kd.int .i64)) 29 w7 w3.heap.size (fun k_ => k_ < w4.heap.size) (.slice A_G0 G0.length c_G0) G0) := T_G0
  clear T_G0
  have T_y2 := Aside0.mk (Kd.R_below F_y2.out hb)
  clear F_y2
  have F_y2 : Aside0 (Kd.R (Kd.int .i64) 3 w7 w5.heap.size (fun k_ => k_ < w6.heap.size) (.slice A_y2 y2.length c_y2) y2) := T_y2
  clear T_y2
  clear hb
  clear F_y2
  go_wp2_with fail
  refine (laws_markIntS.calls k (fun k_ => w2.heap.size ≤ k_ ∧ k_ < w3.heap.size) _ x2 1 m2a m2b w w7 B7.out (Kd.R_mono (Kd.R_lower (Kd.R_bound F_x2.out) (by have y1 := Z1.out; have y2 := Z2.out; have y3 := Z3.out; have y4 := Z4.out; have y5 := Z5.out; have y6 := Z6.out; have y7 := Z7.out; omega)) (fun k_ hk => ⟨hk.2.1, hk.1⟩)) Q_M2.out).mono ?_
  rintro e w8 ⟨rfl, ho, hb, hkp⟩
  have Z8 := Aside0.mk hkp.1
  have B8 := Aside0.mk hb
  have T_W0 := Aside0.mk (Kd.N_mono (Kd.N_step (Kd.N_bound F_W0.out) (fun k_ hk hs => hkp.2 k_ hs (fun z => by have z1 := z.1; have z2 := z.2; have z3 := hk.1.1; have z4 := hk.1.2; have y1 := Z1.out; have y2 := Z2.out; have y3 := Z3.out; have y4 := Z4.out; have y5 := Z5.out; have y6 := Z6.out; have y7 := Z7.out; omega))) (fun _ hk => hk.1))
  clear F_W0
  have F_W0 : Aside0 (Kd.N (Kd.slice 3 (Kd.int .i64)) 29 w8 w1.heap.size (fun k_ => w1.heap.size ≤ k_ ∧ k_ < w2.heap.size) (.slice A_W0 W0.length c_W0) W0) := T_W0
  clear T_W0
  have T_G0 := Aside0.mk (Kd.S_mono (Kd.S_step (Kd.S_bound F_G0.out) (fun k_ hk hs => hkp.2 k_ hs (fun z => by have z1 := z.1; have z2 := z.2; have z3 := hk.1; have z4 := hk.2.1; have y1 := Z1.out; have y2 := Z2.out; have y3 := Z3.out; have y4 := Z4.out; have y5 := Z5.out; have y6 := Z6.out; have y7 := Z7.out; omega))) (fun _ hk => hk.1))
  clear F_G0
  have F_G0 : Aside0 (Kd.S (Kd.slice 3 (Kd.int .i64)) 29 w8 w3.heap.size (fun k_ => k_ < w4.heap.size) (.slice A_G0 G0.length c_G0) G0) := T_G0
  clear T_G0
  clear F_x2 ho
  clear hb hkp
  go_wp2_with fail
  refine (laws_eqIntSS.calls k _ _ G0 _ _ W0 true w8 (Kd.S_reads' F_G0.out).2.2 (Kd.S_reads' F_G0.out).2.1 (Kd.N_reads' F_W0.out).2.2 (Kd.N_reads' F_W0.out).2.1 Q_e0.out).mono ?_
  rintro e w9 ⟨rfl, hd⟩
  have hb := hd.below
  clear hd
  have Z9 := Aside0.mk hb.size
  have B9 := Aside0.mk (below_then B8.out B8.out.size hb)
  have T_W0 := Aside0.mk (Kd.N_below F_W0.out hb)
  clear F_W0
  have F_W0 : Aside0 (Kd.N (Kd.slice 3 (Kd.int .i64)) 29 w9 w1.heap.size (fun k_ => w1.heap.size ≤ k_ ∧ k_ < w2.heap.size) (.slice A_W0 W0.length c_W0) W0) := T_W0
  clear T_W0
  have T_G0 := Aside0.mk (Kd.S_below F_G0.out hb)
  clear F_G0
  have F_G0 : Aside0 (Kd.S (Kd.slice 3 (Kd.int .i64)) 29 w9 w3.heap.size (fun k_ => k_ < w4.heap.size) (.slice A_G0 G0.length c_G0) G0) := T_G0
  clear T_G0
  clear hb
  go_wp2_with fail
  refine (laws_markIntSS.calls k w3.heap.size w4.heap.size _ G0 1 q0 n0b w w9 B9.out (by have y1 := Z1.out; have y2 := Z2.out; have y3 := Z3.out; have y4 := Z4.out; have y5 := Z5.out; have y6 := Z6.out; have y7 := Z7.out; have y8 := Z8.out; have y9 := Z9.out; omega) (Kd.S_mono (Kd.S_lower (Kd.S_bound F_G0.out) (by have y1 := Z1.out; have y2 := Z2.out; have y3 := Z3.out; have y4 := Z4.out; have y5 := Z5.out; have y6 := Z6.out; have y7 := Z7.out; have y8 := Z8.out; have y9 := Z9.out; omega)) (fun k_ hk => ⟨hk.2.1, hk.1⟩)) Q_N0.out).mono ?_
  rintro e w10 ⟨rfl, ho, hb, hkp⟩
  have Z10 := Aside0.mk hkp.1
  have B10 := Aside0.mk hb
  have T_W0 := Aside0.mk (Kd.N_mono (Kd.N_step (Kd.N_bound F_W0.out) (fun k_ hk hs => hkp.2 k_ hs (fun z => by have z1 := z.1; have z2 := z.2; have z3 := hk.1.1; have z4 := hk.1.2; have y1 := Z1.out; have y2 := Z2.out; have y3 := Z3.out; have y4 := Z4.out; have y5 := Z5.out; have y6 := Z6.out; have y7 := Z7.out; have y8 := Z8.out; have y9 := Z9.out; omega))) (fun _ hk => hk.1))
  clear F_W0
  have F_W0 : Aside0 (Kd.N (Kd.slice 3 (Kd.int .i64)) 29 w10 w1.heap.size (fun k_ => w1.heap.size ≤ k_ ∧ k_ < w2.heap.size) (.slice A_W0 W0.length c_W0) W0) := T_W0
  clear T_W0
  have T_ : Aside0 (Kd.S (Kd.slice 3 (Kd.int .i64)) 29 w10 w.heap.size (fun k_ => k_ < w4.heap.size) (.slice A_G0 G0.length c_G0) n0b) := ⟨Kd.S_mono ho (fun k_ hk => hk.2)⟩
  clear F_G0 ho
  have EL : G0.length = n0b.length := (Kd.S_reads' T_.out).1
  rw [EL] at T_
  rw [EL]
  clear EL
  have F_G0 : Aside0 (Kd.S (Kd.slice 3 (Kd.int .i64)) 29 w10 w.heap.size (fun k_ => k_ < w4.heap.size) (.slice A_G0 n0b.length c_G0) n0b) := T_
  clear T_
  clear hb hkp
  go_wp2_with fail
  refine (laws_heldIntSS.calls k _ _ n0b 1 q0 w10 (Kd.S_reads' F_G0.out).2.2 (Kd.S_reads' F_G0.out).2.1 Q_q0.out).mono ?_
  rintro e w11 ⟨rfl, hd⟩
  have hb := hd.below
  clear hd
  have Z11 := Aside0.mk hb.size
  have B11 := Aside0.mk (below_then B10.out B10.out.size hb)
  have T_W0 := Aside0.mk (Kd.N_below F_W0.out hb)
  clear F_W0
  have F_W0 : Aside0 (Kd.N (Kd.slice 3 (Kd.int .i64)) 29 w11 w1.heap.size (fun k_ => w1.heap.size ≤ k_ ∧ k_ < w2.heap.size) (.slice A_W0 W0.length c_W0) W0) := T_W0
  clear T_W0
  have T_G0 := Aside0.mk (Kd.S_below F_G0.out hb)
  clear F_G0
  have F_G0 : Aside0 (Kd.S (Kd.slice 3 (Kd.int .i64)) 29 w11 w.heap.size (fun k_ => k_ < w4.heap.size) (.slice A_G0 n0b.length c_G0) n0b) := T_G0
  clear T_G0
  clear hb
  go_wp2_with fail
  refine (laws_toIntS.calls k _ _ l2 z2 w11 (Kd.C_below HR2.out B11.out) HC2.out Q_z2.out).mono ?_
  rintro e w12 ⟨v_z2, rfl, ho_z2, hb⟩
  have Z12 := Aside0.mk hb.size
  have B12 := Aside0.mk (below_then B11.out B11.out.size hb)
  obtain ⟨A_z2, c_z2, rfl, hl_z2, hC_z2⟩ := Kd.R_reads ho_z2
  clear hl_z2 hC_z2
  have F_z2 : Aside0 (Kd.R (Kd.int .i64) 3 w12 w11.heap.size (fun k_ => k_ < w12.heap.size) (.slice A_z2 z2.length c_z2) z2) := ⟨Kd.R_mono (Kd.R_bound ho_z2) (fun _ hk => hk.2.2.1)⟩
  clear ho_z2
  have T_W0 := Aside0.mk (Kd.N_below F_W0.out hb)
  clear F_W0
  have F_W0 : Aside0 (Kd.N (Kd.slice 3 (Kd.int .i64)) 29 w12 w1.heap.size (fun k_ => w1.heap.size ≤ k_ ∧ k_ < w2.heap.size) (.slice A_W0 W0.length c_W0) W0) := T_W0
  clear T_W0
  have T_G0 := Aside0.mk (Kd.S_below F_G0.out hb)
  clear F_G0
  have F_G0 : Aside0 (Kd.S (Kd.slice 3 (Kd.int .i64)) 29 w12 w.heap.size (fun k_ => k_ < w4.heap.size) (.slice A_G0 n0b.length c_G0) n0b) := T_G0
  clear T_G0
  clear hb
  go_wp2_with fail
  refine (impl_CutCloth.calls a0 a1 _ _ z2 H0 w12 (Kd.R_reads' F_z2.out).2.2 (Kd.R_reads' F_z2.out).2.1 Q_H.out).mono ?_
  rintro e w13 ⟨v_H0, rfl, ho_H0, hb⟩
  have Z13 := Aside0.mk hb.size
  have B13 := Aside0.mk (below_then B12.out B12.out.size hb)
  obtain ⟨A_H0, c_H0, rfl, hl_H0, hC_H0⟩ := Kd.S_reads ho_H0
  clear hl_H0 hC_H0
  have F_H0 : Aside0 (Kd.S (Kd.slice 3 (Kd.int .i64)) 29 w13 w12.heap.size (fun k_ => k_ < w13.heap.size) (.slice A_H0 H0.length c_H0) H0) := ⟨Kd.S_mono (Kd.S_bound ho_H0) (fun _ hk => hk.2.2.1)⟩
  clear ho_H0
  have T_W0 := Aside0.mk (Kd.N_below F_W0.out hb)
  clear F_W0
  have F_W0 : Aside0 (Kd.N (Kd.slice 3 (Kd.int .i64)) 29 w13 w1.heap.size (fun k_ => w1.heap.size ≤ k_ ∧ k_ < w2.heap.size) (.slice A_W0 W0.length c_W0) W0) := T_W0
  clear T_W0
  have T_G0 := Aside0.mk (Kd.S_below F_G0.out hb)
  clear F_G0
  have F_G0 : Aside0 (Kd.S (Kd.slice 3 (Kd.int .i64)) 29 w13 w.heap.size (fun k_ => k_ < w4.heap.size) (.slice A_G0 n0b.length c_G0) n0b) := T_G0
  clear T_G0
  have T_z2 := Aside0.mk (Kd.R_below F_z2.out hb)
  clear F_z2
  have F_z2 : Aside0 (Kd.R (Kd.int .i64) 3 w13 w11.heap.size (fun k_ => k_ < w12.heap.size) (.slice A_z2 z2.length c_z2) z2) := T_z2
  clear T_z2
  clear hb
  clear F_z2
  go_wp2_with fail
  refine (laws_eqIntSS.calls k _ _ H0 _ _ W0 true w13 (Kd.S_reads' F_H0.out).2.2 (Kd.S_reads' F_H0.out).2.1 (Kd.N_reads' F_W0.out).2.2 (Kd.N_reads' F_W0.out).2.1 Q_d0.out).mono ?_
  rintro e w14 ⟨rfl, hd⟩
  have hb := hd.below
  clear hd
  have Z14 := Aside0.mk hb.size
  have B14 := Aside0.mk (below_then B13.out B13.out.size hb)
  have T_W0 := Aside0.mk (Kd.N_below F_W0.out hb)
  clear F_W0
  have F_W0 : Aside0 (Kd.N (Kd.slice 3 (Kd.int .i64)) 29 w14 w1.heap.size (fun k_ => w1.heap.size ≤ k_ ∧ k_ < w2.heap.size) (.slice A_W0 W0.length c_W0) W0) := T_W0
  clear T_W0
  have T_G0 := Aside0.mk (Kd.S_below F_G0.out hb)
  clear F_G0
  have F_G0 : Aside0 (Kd.S (Kd.slice 3 (Kd.int .i64)) 29 w14 w.heap.size (fun k_ => k_ < w4.heap.size) (.slice A_G0 n0b.length c_G0) n0b) := T_G0
  clear T_G0
  have T_H0 := Aside0.mk (Kd.S_below F_H0.out hb)
  clear F_H0
  have F_H0 : Aside0 (Kd.S (Kd.slice 3 (Kd.int .i64)) 29 w14 w12.heap.size (fun k_ => k_ < w13.heap.size) (.slice A_H0 H0.length c_H0) H0) := T_H0
  clear T_H0
  clear hb
  go_wp2_with fail
  refine (laws_heldIntSS.calls k _ _ n0b 1 q0 w14 (Kd.S_reads' F_G0.out).2.2 (Kd.S_reads' F_G0.out).2.1 Q_q0.out).mono ?_
  rintro e w15 ⟨rfl, hd⟩
  have hb := hd.below
  clear hd
  have Z15 := Aside0.mk hb.size
  have B15 := Aside0.mk (below_then B14.out B14.out.size hb)
  have T_W0 := Aside0.mk (Kd.N_below F_W0.out hb)
  clear F_W0
  have F_W0 : Aside0 (Kd.N (Kd.slice 3 (Kd.int .i64)) 29 w15 w1.heap.size (fun k_ => w1.heap.size ≤ k_ ∧ k_ < w2.heap.size) (.slice A_W0 W0.length c_W0) W0) := T_W0
  clear T_W0
  have T_G0 := Aside0.mk (Kd.S_below F_G0.out hb)
  clear F_G0
  have F_G0 : Aside0 (Kd.S (Kd.slice 3 (Kd.int .i64)) 29 w15 w.heap.size (fun k_ => k_ < w4.heap.size) (.slice A_G0 n0b.length c_G0) n0b) := T_G0
  clear T_G0
  have T_H0 := Aside0.mk (Kd.S_below F_H0.out hb)
  clear F_H0
  have F_H0 : Aside0 (Kd.S (Kd.slice 3 (Kd.int .i64)) 29 w15 w12.heap.size (fun k_ => k_ < w13.heap.size) (.slice A_H0 H0.length c_H0) H0) := T_H0
  clear T_H0
  clear hb
  go_wp2_with fail
  go_ret
  exact ⟨rfl, B15.out⟩
end Go.Proofs.Ytoildabjnioafaa.PA
