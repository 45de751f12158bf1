/- The walk of the law FnExactSortStore with its marks: where the chain of its callees' functions ends in 'true', the machine's call returns true and nothing that was there is turned. Written by a program of this session's (lawwalk.py). -/
import Derived.Test.YtebjpafnfmmjeaaPAx1
import Derived.Test.YtebjpafnfmmjeaaPAx17
import Derived.Test.YtebjpafnfmmjeaaPAx18
import Derived.Test.YtebjpafnfmmjeaaPAx19
import Derived.Test.YtebjpafnfmmjeaaPAx28
import Derived.Test.YtebjpafnfmmjeaaPAx30
import Derived.Test.YtebjpafnfmmjeaaPAx4
import Derived.Test.YtebjpafnfmmjeaaPAx7
namespace Go.Proofs.Ytebjpafnfmmjeaa.PA
open Go.RowKit Go.Proofs.YtebjpafnfmmjeaaW.PrintWords Go.Proofs.YtebjpafnfmmjeaaW.PrintLast Go.Proofs.YtebjpafnfmmjeaaW.PrintMore
set_option linter.unusedVariables false
set_option linter.unusedSimpArgs false

def laws_FnExactSortStore.f (k : Nat) (l0 : List (List Int)) : Option Bool := (laws_szIntSS.f k l0 1048576).bind fun s0 => if s0 < 0 then some true else ((laws_toIntSS.f k l0).bind fun u0 => ((spec_SortStore.f k u0).bind fun W => ((laws_toIntSS.f k l0).bind fun x0 => ((impl_SortStore.f k x0).bind fun G => ((laws_eqIntSS.f k G W).bind fun e0 => if e0 = true then ((laws_toIntSS.f k l0).bind fun y0 => (laws_eqIntSS.f k x0 y0).bind fun f0 => if f0 = true then ((laws_markIntSS.f k x0 1).bind fun M0 => (if 0 ≤ M0.1 then ((laws_markIntSS.f k G 1).bind fun N0 => ((laws_heldIntSS.f k N0.2 1).bind fun q0 => if 0 ≤ q0 then (if q0 = N0.1 then ((laws_toIntSS.f k l0).bind fun z0 => ((impl_SortStore.f k z0).bind fun H => ((laws_eqIntSS.f k H W).bind fun d0 => if d0 = true then (some true) else none))) else none) else none)) else none)) else none) else none)))))
set_option maxHeartbeats 8000000 in
set_option maxRecDepth 100000 in
theorem laws_FnExactSortStore.calls (k : Nat) (A0 : Option Addr) (c0 : Nat) (l0 : List (List Int)) (r : Bool) (w : World) (hr0 : Kd.C (Kd.slice 3 (Kd.int .i64)) w A0 l0.length l0) (hc0 : l0.length ≤ c0) (h : laws_FnExactSortStore.f k l0 = some r) :
    Calls Try.prog 10 #[.slice A0 l0.length c0] w fun e w' => e = .returned (.bool r) ∧ Below w.heap.size w w' := by
  unfold laws_FnExactSortStore.f at h
  have HR0 := Aside0.mk hr0
  have HC0 := Aside0.mk hc0
  clear hr0 hc0
  replace h := Option.bind_eq_some_iff.1 h
  obtain ⟨s0, b_s0, h⟩ := h
  have Q_s0 := Aside0.mk b_s0
  clear b_s0
  by_cases m0 : s0 < 0
  · rw [if_pos m0] at h
    obtain rfl := Option.some.inj h
    clear h
    go_enter Try.func10, Try.ntmps10
    go_wp2_with fail
    refine (laws_szIntSS.calls k _ _ l0 1048576 s0 _ HR0.out HC0.out Q_s0.out).mono ?_
    rintro e w1 ⟨rfl, hd⟩
    have B1 := Aside0.mk hd.below
    clear hd
    go_wp2_with fail
    go_ret
    exact ⟨rfl, B1.out⟩
  rw [if_neg m0] at h
  replace h := Option.bind_eq_some_iff.1 h
  obtain ⟨u0, b_u0, h⟩ := h
  have Q_u0 := Aside0.mk b_u0
  clear b_u0
  replace h := Option.bind_eq_some_iff.1 h
  obtain ⟨W, b_W, h⟩ := h
  have Q_W := Aside0.mk b_W
  clear b_W
  replace h := Option.bind_eq_some_iff.1 h
  obtain ⟨x0, b_x0, h⟩ := h
  have Q_x0 := Aside0.mk b_x0
  clear b_x0
  replace h := Option.bind_eq_some_iff.1 h
  obtain ⟨G, b_G, h⟩ := h
  have Q_G := Aside0.mk b_G
  clear b_G
  obtain ⟨W0, rfl⟩ : ∃ z, z = W := ⟨_, rfl⟩
  obtain ⟨G0, rfl⟩ : ∃ z, z = G := ⟨_, rfl⟩
  replace h := Option.bind_eq_some_iff.1 h
  obtain ⟨e0, b_e0, h⟩ := h
  have Q_e0 := Aside0.mk b_e0
  clear b_e0
  by_cases t_e0 : e0 = true
  case neg => rw [if_neg t_e0] at h; cases h
  rw [if_pos t_e0] at h
  subst t_e0
  replace h := Option.bind_eq_some_iff.1 h
  obtain ⟨y0, b_y0, h⟩ := h
  have Q_y0 := Aside0.mk b_y0
  clear b_y0
  replace h := Option.bind_eq_some_iff.1 h
  obtain ⟨f0, b_f0, h⟩ := h
  have Q_f0 := Aside0.mk b_f0
  clear b_f0
  by_cases t_f0 : f0 = true
  case neg => rw [if_neg t_f0] at h; cases h
  rw [if_pos t_f0] at h
  subst t_f0
  replace h := Option.bind_eq_some_iff.1 h
  obtain ⟨⟨m0a, m0b⟩, b_M0, h⟩ := h
  dsimp only at h
  have Q_M0 := Aside0.mk b_M0
  clear b_M0
  by_cases g_0 : 0 ≤ m0a
  case neg => rw [if_neg g_0] at h; cases h
  rw [if_pos g_0] at h
  replace h := Option.bind_eq_some_iff.1 h
  obtain ⟨⟨n0a, n0b⟩, b_N0, h⟩ := h
  dsimp only at h
  have Q_N0 := Aside0.mk b_N0
  clear b_N0
  replace h := Option.bind_eq_some_iff.1 h
  obtain ⟨q0, b_q0, h⟩ := h
  have Q_q0 := Aside0.mk b_q0
  clear b_q0
  by_cases g_q0 : 0 ≤ q0
  case neg => rw [if_neg g_q0] at h; cases h
  rw [if_pos g_q0] at h
  by_cases t_q : q0 = n0a
  case neg => rw [if_neg t_q] at h; cases h
  rw [if_pos t_q] at h
  subst t_q
  replace h := Option.bind_eq_some_iff.1 h
  obtain ⟨z0, b_z0, h⟩ := h
  have Q_z0 := Aside0.mk b_z0
  clear b_z0
  replace h := Option.bind_eq_some_iff.1 h
  obtain ⟨H, b_H, h⟩ := h
  have Q_H := Aside0.mk b_H
  clear b_H
  obtain ⟨H0, rfl⟩ : ∃ z, z = H := ⟨_, rfl⟩
  replace h := Option.bind_eq_some_iff.1 h
  obtain ⟨d0, b_d0, h⟩ := h
  have Q_d0 := Aside0.mk b_d0
  clear b_d0
  by_cases t_d0 : d0 = true
  case neg => rw [if_neg t_d0] at h; cases h
  rw [if_pos t_d0] at h
  subst t_d0
  obtain rfl := Option.some.inj h
  clear h
  go_enter Try.func10, Try.ntmps10
  go_wp2_with fail
  refine (laws_szIntSS.calls k _ _ l0 1048576 s0 w HR0.out HC0.out Q_s0.out).mono ?_
  rintro e w1 ⟨rfl, hd⟩
  have hb := hd.below
  clear hd
  have Z1 := Aside0.mk hb.size
  have B1 := Aside0.mk hb
  clear hb
  go_wp2_with fail
  refine (laws_toIntSS.calls k _ _ l0 u0 w1 (Kd.C_below HR0.out B1.out) HC0.out Q_u0.out).mono ?_
  rintro e w2 ⟨v_u0, rfl, ho_u0, hb⟩
  have Z2 := Aside0.mk hb.size
  have B2 := Aside0.mk (below_then B1.out B1.out.size hb)
  obtain ⟨A_u0, c_u0, rfl, hl_u0, hC_u0⟩ := Kd.S_reads ho_u0
  clear hl_u0 hC_u0
  have F_u0 : Aside0 (Kd.S (Kd.slice 3 (Kd.int .i64)) 40 w2 w1.heap.size (fun k_ => k_ < w2.heap.size) (.slice A_u0 u0.length c_u0) u0) := ⟨Kd.S_mono (Kd.S_bound ho_u0) (fun _ hk => hk.2.2.1)⟩
  clear ho_u0
  clear hb
  go_wp2_with fail
  refine (spec_SortStore.calls k _ _ u0 W0 w2 (Kd.S_reads' F_u0.out).2.2 (Kd.S_reads' F_u0.out).2.1 Q_W.out).mono ?_
  rintro e w3 ⟨v_W0, rfl, ho_W0, hb⟩
  have Z3 := Aside0.mk hb.size
  have B3 := Aside0.mk (below_then B2.out B2.out.size hb)
  obtain ⟨A_W0, c_W0, rfl, hl_W0, hC_W0⟩ := Kd.N_reads ho_W0
  clear hl_W0 hC_W0
  have F_W0 : Aside0 (Kd.N (Kd.slice 3 (Kd.int .i64)) 40 w3 w2.heap.size (fun k_ => w2.heap.size ≤ k_ ∧ k_ < w3.heap.size) (.slice A_W0 W0.length c_W0) W0) := ⟨Kd.N_mono (Kd.N_bound ho_W0) (fun _ hk => hk)⟩
  clear ho_W0
  have T_u0 := Aside0.mk (Kd.S_below F_u0.out hb)
  clear F_u0
  have F_u0 : Aside0 (Kd.S (Kd.slice 3 (Kd.int .i64)) 40 w3 w1.heap.size (fun k_ => k_ < w2.heap.size) (.slice A_u0 u0.length c_u0) u0) := T_u0
  clear T_u0
  clear hb
  clear F_u0
  go_wp2_with fail
  refine (laws_toIntSS.calls k _ _ l0 x0 w3 (Kd.C_below HR0.out B3.out) HC0.out Q_x0.out).mono ?_
  rintro e w4 ⟨v_x0, rfl, ho_x0, hb⟩
  have Z4 := Aside0.mk hb.size
  have B4 := Aside0.mk (below_then B3.out B3.out.size hb)
  obtain ⟨A_x0, c_x0, rfl, hl_x0, hC_x0⟩ := Kd.S_reads ho_x0
  clear hl_x0 hC_x0
  have F_x0 : Aside0 (Kd.S (Kd.slice 3 (Kd.int .i64)) 40 w4 w3.heap.size (fun k_ => k_ < w4.heap.size) (.slice A_x0 x0.length c_x0) x0) := ⟨Kd.S_mono (Kd.S_bound ho_x0) (fun _ hk => hk.2.2.1)⟩
  clear ho_x0
  have T_W0 := Aside0.mk (Kd.N_below F_W0.out hb)
  clear F_W0
  have F_W0 : Aside0 (Kd.N (Kd.slice 3 (Kd.int .i64)) 40 w4 w2.heap.size (fun k_ => w2.heap.size ≤ k_ ∧ k_ < w3.heap.size) (.slice A_W0 W0.length c_W0) W0) := T_W0
  clear T_W0
  clear hb
  go_wp2_with fail
  refine (impl_SortStore.calls k _ _ x0 G0 w4 (Kd.S_reads' F_x0.out).2.2 (Kd.S_reads' F_x0.out).2.1 Q_G.out).mono ?_
  rintro e w5 ⟨v_G0, rfl, ho_G0, hb⟩
  have Z5 := Aside0.mk hb.size
  have B5 := Aside0.mk (below_then B4.out B4.out.size hb)
  obtain ⟨A_G0, c_G0, rfl, hl_G0, hC_G0⟩ := Kd.S_reads ho_G0
  clear hl_G0 hC_G0
  have F_G0 : Aside0 (Kd.S (Kd.slice 3 (Kd.int .i64)) 40 w5 w4.heap.size (fun k_ => k_ < w5.heap.size) (.slice A_G0 G0.length c_G0) G0) := ⟨Kd.S_mono (Kd.S_bound ho_G0) (fun _ hk => hk.2.2.1)⟩
  clear ho_G0
  have T_W0 := Aside0.mk (Kd.N_below F_W0.out hb)
  clear F_W0
  have F_W0 : Aside0 (Kd.N (Kd.slice 3 (Kd.int .i64)) 40 w5 w2.heap.size (fun k_ => w2.heap.size ≤ k_ ∧ k_ < w3.heap.size) (.slice A_W0 W0.length c_W0) W0) := T_W0
  clear T_W0
  have T_x0 := Aside0.mk (Kd.S_below F_x0.out hb)
  clear F_x0
  have F_x0 : Aside0 (Kd.S (Kd.slice 3 (Kd.int .i64)) 40 w5 w3.heap.size (fun k_ => k_ < w4.heap.size) (.slice A_x0 x0.length c_x0) x0) := T_x0
  clear T_x0
  clear hb
  go_wp2_with fail
  refine (laws_eqIntSS.calls k _ _ G0 _ _ W0 true w5 (Kd.S_reads' F_G0.out).2.2 (Kd.S_reads' F_G0.out).2.1 (Kd.N_reads' F_W0.out).2.2 (Kd.N_reads' F_W0.out).2.1 Q_e0.out).mono ?_
  rintro e w6 ⟨rfl, hd⟩
  have hb := hd.below
  clear hd
  have Z6 := Aside0.mk hb.size
  have B6 := Aside0.mk (below_then B5.out B5.out.size hb)
  have T_W0 := Aside0.mk (Kd.N_below F_W0.out hb)
  clear F_W0
  have F_W0 : Aside0 (Kd.N (Kd.slice 3 (Kd.int .i64)) 40 w6 w2.heap.size (fun k_ => w2.heap.size ≤ k_ ∧ k_ < w3.heap.size) (.slice A_W0 W0.length c_W0) W0) := T_W0
  clear T_W0
  have T_x0 := Aside0.mk (Kd.S_below F_x0.out hb)
  clear F_x0
  have F_x0 : Aside0 (Kd.S (Kd.slice 3 (Kd.int .i64)) 40 w6 w3.heap.size (fun k_ => k_ < w4.heap.size) (.slice A_x0 x0.length c_x0) x0) := T_x0
  clear T_x0
  have T_G0 := Aside0.mk (Kd.S_below F_G0.out hb)
  clear F_G0
  have F_G0 : Aside0 (Kd.S (Kd.slice 3 (Kd.int .i64)) 40 w6 w4.heap.size (fun k_ => k_ < w5.heap.size) (.slice A_G0 G0.length c_G0) G0) := T_G0
  clear T_G0
  clear hb
  go_wp2_with fail
  refine (laws_toIntSS.calls k _ _ l0 y0 w6 (Kd.C_below HR0.out B6.out) HC0.out Q_y0.out).mono ?_
  rintro e w7 ⟨v_y0, rfl, ho_y0, hb⟩
  have Z7 := Aside0.mk hb.size
  have B7 := Aside0.mk (below_then B6.out B6.out.size hb)
  obtain ⟨A_y0, c_y0, rfl, hl_y0, hC_y0⟩ := Kd.S_reads ho_y0
  clear hl_y0 hC_y0
  have F_y0 : Aside0 (Kd.S (Kd.slice 3 (Kd.int .i64)) 40 w7 w6.heap.size (fun k_ => k_ < w7.heap.size) (.slice A_y0 y0.length c_y0) y0) := ⟨Kd.S_mono (Kd.S_bound ho_y0) (fun _ hk => hk.2.2.1)⟩
  clear ho_y0
  have T_W0 := Aside0.mk (Kd.N_below F_W0.out hb)
  clear F_W0
  have F_W0 : Aside0 (Kd.N (Kd.slice 3 (Kd.int .i64)) 40 w7 w2.heap.size (fun k_ => w2.heap.size ≤ k_ ∧ k_ < w3.heap.size) (.slice A_W0 W0.length c_W0) W0) := T_W0
  clear T_W0
  have T_x0 := Aside0.mk (Kd.S_below F_x0.out hb)
  clear F_x0
  have F_x0 : Aside0 (Kd.S (Kd.slice 3 (Kd.int .i64)) 40 w7 w3.heap.size (fun k_ => k_ < w4.heap.size) (.slice A_x0 x0.length c_x0) x0) := T_x0
  clear T_x0
  have T_G0 := Aside0.mk (Kd.S_below F_G0.out hb)
  clear F_G0
  have F_G0 : Aside0 (Kd.S (Kd.slice 3 (Kd.int .i64)) 40 w7 w4.heap.size (fun k_ => k_ < w5.heap.size) (.slice A_G0 G0.length c_G0) G0) := T_G0
  clear T_G0
  clear hb
  go_wp2_with fail
  refine (laws_eqIntSS.calls k _ _ x0 _ _ y0 true w7 (Kd.S_reads' F_x0.out).2.2 (Kd.S_reads' F_x0.out).2.1 (Kd.S_reads' F_y0.out).2.2 (Kd.S_reads' F_y0.out).2.1 Q_f0.out).mono ?_
  rintro e w8 ⟨rfl, hd⟩
  have hb := hd.below
  clear hd
  have Z8 := Aside0.mk hb.size
  have B8 := Aside0.mk (below_then B7.out B7.out.size hb)
  have T_W0 := Aside0.mk (Kd.N_below F_W0.out hb)
  clear F_W0
  have F_W0 : Aside0 (Kd.N (Kd.slice 3 (Kd.int .i64)) 40 w8 w2.heap.size (fun k_ => w2.heap.size ≤ k_ ∧ k_ < w3.heap.size) (.slice A_W0 W0.length c_W0) W0) := T_W0
  clear T_W0
  have T_x0 := Aside0.mk (Kd.S_below F_x0.out hb)
  clear F_x0
  have F_x0 : Aside0 (Kd.S (Kd.slice 3 (Kd.int .i64)) 40 w8 w3.heap.size (fun k_ => k_ < w4.heap.size) (.slice A_x0 x0.length c_x0) x0) := T_x0
  clear T_x0
  have T_G0 := Aside0.mk (Kd.S_below F_G0.out hb)
  clear F_G0
  have F_G0 : Aside0 (Kd.S (Kd.slice 3 (Kd.int .i64)) 40 w8 w4.heap.size (fun k_ => k_ < w5.heap.size) (.slice A_G0 G0.length c_G0) G0) := T_G0
  clear T_G0
  have T_y0 := Aside0.mk (Kd.S_below F_y0.out hb)
  clear F_y0
  have F_y0 : Aside0 (Kd.S (Kd.slice 3 (Kd.int .i64)) 40 w8 w6.heap.size (fun k_ => k_ < w7.heap.size) (.slice A_y0 y0.length c_y0) y0) := T_y0
  clear T_y0
  clear hb
  clear F_y0
  go_wp2_with fail
  refine (laws_markIntSS.calls k w3.heap.size w4.heap.size _ x0 1 m0a m0b w w8 B8.out (by have y1 := Z1.out; have y2 := Z2.out; have y3 := Z3.out; have y4 := Z4.out; have y5 := Z5.out; have y6 := Z6.out; have y7 := Z7.out; have y8 := Z8.out; omega) (Kd.S_mono (Kd.S_lower (Kd.S_bound F_x0.out) (by have y1 := Z1.out; have y2 := Z2.out; have y3 := Z3.out; have y4 := Z4.out; have y5 := Z5.out; have y6 := Z6.out; have y7 := Z7.out; have y8 := Z8.out; omega)) (fun k_ hk => ⟨hk.2.1, hk.1⟩)) Q_M0.out).mono ?_
  rintro e w9 ⟨rfl, ho, hb, hkp⟩
  have Z9 := Aside0.mk hkp.1
  have B9 := Aside0.mk hb
  have T_W0 := Aside0.mk (Kd.N_mono (Kd.N_step (Kd.N_bound F_W0.out) (fun k_ hk hs => hkp.2 k_ hs (fun z => by have z1 := z.1; have z2 := z.2; have z3 := hk.1.1; have z4 := hk.1.2; have y1 := Z1.out; have y2 := Z2.out; have y3 := Z3.out; have y4 := Z4.out; have y5 := Z5.out; have y6 := Z6.out; have y7 := Z7.out; have y8 := Z8.out; omega))) (fun _ hk => hk.1))
  clear F_W0
  have F_W0 : Aside0 (Kd.N (Kd.slice 3 (Kd.int .i64)) 40 w9 w2.heap.size (fun k_ => w2.heap.size ≤ k_ ∧ k_ < w3.heap.size) (.slice A_W0 W0.length c_W0) W0) := T_W0
  clear T_W0
  have T_G0 := Aside0.mk (Kd.S_mono (Kd.S_step (Kd.S_bound F_G0.out) (fun k_ hk hs => hkp.2 k_ hs (fun z => by have z1 := z.1; have z2 := z.2; have z3 := hk.1; have z4 := hk.2.1; have y1 := Z1.out; have y2 := Z2.out; have y3 := Z3.out; have y4 := Z4.out; have y5 := Z5.out; have y6 := Z6.out; have y7 := Z7.out; have y8 := Z8.out; omega))) (fun _ hk => hk.1))
  clear F_G0
  have F_G0 : Aside0 (Kd.S (Kd.slice 3 (Kd.int .i64)) 40 w9 w4.heap.size (fun k_ => k_ < w5.heap.size) (.slice A_G0 G0.length c_G0) G0) := T_G0
  clear T_G0
  clear F_x0 ho
  clear hb hkp
  go_wp2_with fail
  refine (laws_eqIntSS.calls k _ _ G0 _ _ W0 true w9 (Kd.S_reads' F_G0.out).2.2 (Kd.S_reads' F_G0.out).2.1 (Kd.N_reads' F_W0.out).2.2 (Kd.N_reads' F_W0.out).2.1 Q_e0.out).mono ?_
  rintro e w10 ⟨rfl, hd⟩
  have hb := hd.below
  clear hd
  have Z10 := Aside0.mk hb.size
  have B10 := Aside0.mk (below_then B9.out B9.out.size hb)
  have T_W0 := Aside0.mk (Kd.N_below F_W0.out hb)
  clear F_W0
  have F_W0 : Aside0 (Kd.N (Kd.slice 3 (Kd.int .i64)) 40 w10 w2.heap.size (fun k_ => w2.heap.size ≤ k_ ∧ k_ < w3.heap.size) (.slice A_W0 W0.length c_W0) W0) := T_W0
  clear T_W0
  have T_G0 := Aside0.mk (Kd.S_below F_G0.out hb)
  clear F_G0
  have F_G0 : Aside0 (Kd.S (Kd.slice 3 (Kd.int .i64)) 40 w10 w4.heap.size (fun k_ => k_ < w5.heap.size) (.slice A_G0 G0.length c_G0) G0) := T_G0
  clear T_G0
  clear hb
  go_wp2_with fail
  refine (laws_markIntSS.calls k w4.heap.size w5.heap.size _ G0 1 q0 n0b w w10 B10.out (by have y1 := Z1.out; have y2 := Z2.out; have y3 := Z3.out; have y4 := Z4.out; have y5 := Z5.out; have y6 := Z6.out; have y7 := Z7.out; have y8 := Z8.out; have y9 := Z9.out; have y10 := Z10.out; omega) (Kd.S_mono (Kd.S_lower (Kd.S_bound F_G0.out) (by have y1 := Z1.out; have y2 := Z2.out; have y3 := Z3.out; have y4 := Z4.out; have y5 := Z5.out; have y6 := Z6.out; have y7 := Z7.out; have y8 := Z8.out; have y9 := Z9.out; have y10 := Z10.out; omega)) (fun k_ hk => ⟨hk.2.1, hk.1⟩)) Q_N0.out).mono ?_
  rintro e w11 ⟨rfl, ho, hb, hkp⟩
  have Z11 := Aside0.mk hkp.1
  have B11 := Aside0.mk hb
  have T_W0 := Aside0.mk (Kd.N_mono (Kd.N_step (Kd.N_bound F_W0.out) (fun k_ hk hs => hkp.2 k_ hs (fun z => by have z1 := z.1; have z2 := z.2; have z3 := hk.1.1; have z4 := hk.1.2; have y1 := Z1.out; have y2 := Z2.out; have y3 := Z3.out; have y4 := Z4.out; have y5 := Z5.out; have y6 := Z6.out; have y7 := Z7.out; have y8 := Z8.out; have y9 := Z9.out; have y10 := Z10.out; omega))) (fun _ hk => hk.1))
  clear F_W0
  have F_W0 : Aside0 (Kd.N (Kd.slice 3 (Kd.int .i64)) 40 w11 w2.heap.size (fun k_ => w2.heap.size ≤ k_ ∧ k_ < w3.heap.size) (.slice A_W0 W0.length c_W0) W0) := T_W0
  clear T_W0
  have T_ : Aside0 (Kd.S (Kd.slice 3 (Kd.int .i64)) 40 w11 w.heap.size (fun k_ => k_ < w5.heap.size) (.slice A_G0 G0.length c_G0) n0b) := ⟨Kd.S_mono ho (fun k_ hk => hk.2)⟩
  clear F_G0 ho
  have EL : G0.length = n0b.length := (Kd.S_reads' T_.out).1
  rw [EL] at T_
  rw [EL]
  clear EL
  have F_G0 : Aside0 (Kd.S (Kd.slice 3 (Kd.int .i64)) 40 w11 w.heap.size (fun k_ => k_ < w5.heap.size) (.slice A_G0 n0b.length c_G0) n0b) := T_
  clear T_
  clear hb hkp
  go_wp2_with fail
  refine (laws_heldIntSS.calls k _ _ n0b 1 q0 w11 (Kd.S_reads' F_G0.out).2.2 (Kd.S_reads' F_G0.out).2.1 Q_q0.out).mono ?_
  rintro e w12 ⟨rfl, hd⟩
  have hb := hd.below
  clear hd
  have Z12 := Aside0.mk hb.size
  have B12 := Aside0.mk (below_then B11.out B11.out.size hb)
  have T_W0 := Aside0.mk (Kd.N_below F_W0.out hb)
  clear F_W0
  have F_W0 : Aside0 (Kd.N (Kd.slice 3 (Kd.int .i64)) 40 w12 w2.heap.size (fun k_ => w2.heap.size ≤ k_ ∧ k_ < w3.heap.size) (.slice A_W0 W0.length c_W0) W0) := T_W0
  clear T_W0
  have T_G0 := Aside0.mk (Kd.S_below F_G0.out hb)
  clear F_G0
  have F_G0 : Aside0 (Kd.S (Kd.slice 3 (Kd.int .i64)) 40 w12 w.heap.size (fun k_ => k_ < w5.heap.size) (.slice A_G0 n0b.length c_G0) n0b) := T_G0
  clear T_G0
  clear hb
  go_wp2_with fail
  refine (laws_toIntSS.calls k _ _ l0 z0 w12 (Kd.C_below HR0.out B12.out) HC0.out Q_z0.out).mono ?_
  rintro e w13 ⟨v_z0, rfl, ho_z0, hb⟩
  have Z13 := Aside0.mk hb.size
  have B13 := Aside0.mk (below_then B12.out B12.out.size hb)
  obtain ⟨A_z0, c_z0, rfl, hl_z0, hC_z0⟩ := Kd.S_reads ho_z0
  clear hl_z0 hC_z0
  have F_z0 : Aside0 (Kd.S (Kd.slice 3 (Kd.int .i64)) 40 w13 w12.heap.size (fun k_ => k_ < w13.heap.size) (.slice A_z0 z0.length c_z0) z0) := ⟨Kd.S_mono (Kd.S_bound ho_z0) (fun _ hk => hk.2.2.1)⟩
  clear ho_z0
  have T_W0 := Aside0.mk (Kd.N_below F_W0.out hb)
  clear F_W0
  have F_W0 : Aside0 (Kd.N (Kd.slice 3 (Kd.int .i64)) 40 w13 w2.heap.size (fun k_ => w2.heap.size ≤ k_ ∧ k_ < w3.heap.size) (.slice A_W0 W0.length c_W0) W0) := T_W0
  clear T_W0
  have T_G0 := Aside0.mk (Kd.S_below F_G0.out hb)
  clear F_G0
  have F_G0 : Aside0 (Kd.S (Kd.slice 3 (Kd.int .i64)) 40 w13 w.heap.size (fun k_ => k_ < w5.heap.size) (.slice A_G0 n0b.length c_G0) n0b) := T_G0
  clear T_G0
  clear hb
  go_wp2_with fail
  refine (impl_SortStore.calls k _ _ z0 H0 w13 (Kd.S_reads' F_z0.out).2.2 (Kd.S_reads' F_z0.out).2.1 Q_H.out).mono ?_
  rintro e w14 ⟨v_H0, rfl, ho_H0, hb⟩
  have Z14 := Aside0.mk hb.size
  have B14 := Aside0.mk (below_then B13.out B13.out.size hb)
  obtain ⟨A_H0, c_H0, rfl, hl_H0, hC_H0⟩ := Kd.S_reads ho_H0
  clear hl_H0 hC_H0
  have F_H0 : Aside0 (Kd.S (Kd.slice 3 (Kd.int .i64)) 40 w14 w13.heap.size (fun k_ => k_ < w14.heap.size) (.slice A_H0 H0.length c_H0) H0) := ⟨Kd.S_mono (Kd.S_bound ho_H0) (fun _ hk => hk.2.2.1)⟩
  clear ho_H0
  have T_W0 := Aside0.mk (Kd.N_below F_W0.out hb)
  clear F_W0
  have F_W0 : Aside0 (Kd.N (Kd.slice 3 (Kd.int .i64)) 40 w14 w2.heap.size (fun k_ => w2.heap.size ≤ k_ ∧ k_ < w3.heap.size) (.slice A_W0 W0.length c_W0) W0) := T_W0
  clear T_W0
  have T_G0 := Aside0.mk (Kd.S_below F_G0.out hb)
  clear F_G0
  have F_G0 : Aside0 (Kd.S (Kd.slice 3 (Kd.int .i64)) 40 w14 w.heap.size (fun k_ => k_ < w5.heap.size) (.slice A_G0 n0b.length c_G0) n0b) := T_G0
  clear T_G0
  have T_z0 := Aside0.mk (Kd.S_below F_z0.out hb)
  clear F_z0
  have F_z0 : Aside0 (Kd.S (Kd.slice 3 (Kd.int .i64)) 40 w14 w12.heap.size (fun k_ => k_ < w13.heap.size) (.slice A_z0 z0.length c_z0) z0) := T_z0
  clear T_z0
  clear hb
  clear F_z0
  go_wp2_with fail
  refine (laws_eqIntSS.calls k _ _ H0 _ _ W0 true w14 (Kd.S_reads' F_H0.out).2.2 (Kd.S_reads' F_H0.out).2.1 (Kd.N_reads' F_W0.out).2.2 (Kd.N_reads' F_W0.out).2.1 Q_d0.out).mono ?_
  rintro e w15 ⟨rfl, hd⟩
  have hb := hd.below
  clear hd
  have Z15 := Aside0.mk hb.size
  have B15 := Aside0.mk (below_then B14.out B14.out.size hb)
  have T_W0 := Aside0.mk (Kd.N_below F_W0.out hb)
  clear F_W0
  have F_W0 : Aside0 (Kd.N (Kd.slice 3 (Kd.int .i64)) 40 w15 w2.heap.size (fun k_ => w2.heap.size ≤ k_ ∧ k_ < w3.heap.size) (.slice A_W0 W0.length c_W0) W0) := T_W0
  clear T_W0
  have T_G0 := Aside0.mk (Kd.S_below F_G0.out hb)
  clear F_G0
  have F_G0 : Aside0 (Kd.S (Kd.slice 3 (Kd.int .i64)) 40 w15 w.heap.size (fun k_ => k_ < w5.heap.size) (.slice A_G0 n0b.length c_G0) n0b) := T_G0
  clear T_G0
  have T_H0 := Aside0.mk (Kd.S_below F_H0.out hb)
  clear F_H0
  have F_H0 : Aside0 (Kd.S (Kd.slice 3 (Kd.int .i64)) 40 w15 w13.heap.size (fun k_ => k_ < w14.heap.size) (.slice A_H0 H0.length c_H0) H0) := T_H0
  clear T_H0
  clear hb
  go_wp2_with fail
  refine (laws_heldIntSS.calls k _ _ n0b 1 q0 w15 (Kd.S_reads' F_G0.out).2.2 (Kd.S_reads' F_G0.out).2.1 Q_q0.out).mono ?_
  rintro e w16 ⟨rfl, hd⟩
  have hb := hd.below
  clear hd
  have Z16 := Aside0.mk hb.size
  have B16 := Aside0.mk (below_then B15.out B15.out.size hb)
  have T_W0 := Aside0.mk (Kd.N_below F_W0.out hb)
  clear F_W0
  have F_W0 : Aside0 (Kd.N (Kd.slice 3 (Kd.int .i64)) 40 w16 w2.heap.size (fun k_ => w2.heap.size ≤ k_ ∧ k_ < w3.heap.size) (.slice A_W0 W0.length c_W0) W0) := T_W0
  clear T_W0
  have T_G0 := Aside0.mk (Kd.S_below F_G0.out hb)
  clear F_G0
  have F_G0 : Aside0 (Kd.S (Kd.slice 3 (Kd.int .i64)) 40 w16 w.heap.size (fun k_ => k_ < w5.heap.size) (.slice A_G0 n0b.length c_G0) n0b) := T_G0
  clear T_G0
  have T_H0 := Aside0.mk (Kd.S_below F_H0.out hb)
  clear F_H0
  have F_H0 : Aside0 (Kd.S (Kd.slice 3 (Kd.int .i64)) 40 w16 w13.heap.size (fun k_ => k_ < w14.heap.size) (.slice A_H0 H0.length c_H0) H0) := T_H0
  clear T_H0
  clear hb
  go_wp2_with fail
  go_ret
  exact ⟨rfl, B16.out⟩
end Go.Proofs.Ytebjpafnfmmjeaa.PA
