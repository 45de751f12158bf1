/- Texts of this claim put together in build order (FnExactTakeAll). -/
import Derived.Test.YtebjpafnfmmjeaaMTakeAll0
import Derived.Test.YtebjpafnfmmjeaaMTakeAll1
import Derived.Test.YtebjpafnfmmjeaaMTakeAll3
import Derived.Test.YtebjpafnfmmjeaaMTakeAll4
import Derived.Test.YtebjpafnfmmjeaaMTakeAll2
import Derived.Deep.Matrix
import Derived.Test.YtebjpafnfmmjeaaRows
import Derived.WalkKit
import Derived.ProofKit
import Derived.OpenShut
import Derived.ShutString
import Derived.ChangeOld
import Derived.Below
import Derived.SizedLaws
/- The walk of the law FnExactTakeAll with its marks: where the chain of its callees' functions ends in 'true', the machine's call returns true and nothing that was there is turned. Written by a program of this session's (lawwalk.py). -/
namespace Go.Proofs.Ytebjpafnfmmjeaa.PA
open Go.RowKit Go.Proofs.YtebjpafnfmmjeaaW.PrintWords Go.Proofs.YtebjpafnfmmjeaaW.PrintLast Go.Proofs.YtebjpafnfmmjeaaW.PrintMore
set_option linter.unusedVariables false
set_option linter.unusedSimpArgs false
def laws_FnExactTakeAll.f (k : Nat) (l0 : List (List Int)) (l1 : List (List Int)) : Option Bool := (laws_szIntSS.f k l0 1048576).bind fun s0 => if s0 < 0 then some true else ((laws_szIntSS.f k l1 s0).bind fun s1 => if s1 < 0 then some true else ((laws_toIntSS.f k l0).bind fun u0 => ((laws_toIntSS.f k l1).bind fun u1 => ((spec_TakeAll.f k u0 u1).bind fun W => ((laws_toIntSS.f k l0).bind fun x0 => ((laws_toIntSS.f k l1).bind fun x1 => ((impl_TakeAll.f k x0 x1).bind fun G => ((laws_eqIntSS.f k G.1 W.1).bind fun e0 => if e0 = true then (if G.2 = W.2 then ((laws_toIntSS.f k l0).bind fun y0 => (laws_eqIntSS.f k x0 y0).bind fun f0 => if f0 = true then ((laws_toIntSS.f k l1).bind fun y1 => (laws_eqIntSS.f k x1 y1).bind fun f1 => if f1 = true then ((laws_markIntSS.f k x0 1).bind fun M0 => ((laws_markIntSS.f k x1 M0.1).bind fun M1 => (if 0 ≤ M1.1 then ((laws_markIntSS.f k G.1 1).bind fun N0 => ((laws_heldIntSS.f k N0.2 1).bind fun q0 => if 0 ≤ q0 then (if q0 = N0.1 then ((laws_toIntSS.f k l0).bind fun z0 => ((laws_toIntSS.f k l1).bind fun z1 => ((impl_TakeAll.f k z0 z1).bind fun H => ((laws_eqIntSS.f k H.1 W.1).bind fun d0 => if d0 = true then (if H.2 = W.2 then (some true) else none) else none)))) else none) else none)) else none))) else none) else none) else none) else none))))))))
set_option maxHeartbeats 8000000 in
set_option maxRecDepth 100000 in
theorem laws_FnExactTakeAll.calls (k : Nat) (A0 : Option Addr) (c0 : Nat) (l0 : List (List Int)) (A1 : Option Addr) (c1 : Nat) (l1 : List (List Int)) (r : Bool) (w : World) (hr0 : Kd.C (Kd.slice 3 (Kd.int .i64)) w A0 l0.length l0) (hc0 : l0.length ≤ c0) (hr1 : Kd.C (Kd.slice 3 (Kd.int .i64)) w A1 l1.length l1) (hc1 : l1.length ≤ c1) (h : laws_FnExactTakeAll.f k l0 l1 = some r) :
    Calls Try.prog 9 #[.slice A0 l0.length c0, .slice A1 l1.length c1] w fun e w' => e = .returned (.bool r) ∧ Below w.heap.size w w' := by
  unfold laws_FnExactTakeAll.f at h
  have HR0 := Aside0.mk hr0
  have HC0 := Aside0.mk hc0
  clear hr0 hc0
  have HR1 := Aside0.mk hr1
  have HC1 := Aside0.mk hc1
  clear hr1 hc1
  replace h := Option.bind_eq_some_iff.1 h
  obtain ⟨s0, b_s0, h⟩ := h
  have Q_s0 := Aside0.mk b_s0
  clear b_s0
  by_cases m0 : s0 < 0
  · rw [if_pos m0] at h
    obtain rfl := Option.some.inj h
    clear h
    go_enter Try.func9, Try.ntmps9
    go_wp2_with fail
    refine (laws_szIntSS.calls k _ _ l0 1048576 s0 _ HR0.out HC0.out Q_s0.out).mono ?_
    rintro e w1 ⟨rfl, hd⟩
    have B1 := Aside0.mk hd.below
    clear hd
    go_wp2_with fail
    go_ret
    exact ⟨rfl, B1.out⟩
  rw [if_neg m0] at h
  replace h := Option.bind_eq_some_iff.1 h
  obtain ⟨s1, b_s1, h⟩ := h
  have Q_s1 := Aside0.mk b_s1
  clear b_s1
  by_cases m1 : s1 < 0
  · rw [if_pos m1] at h
    obtain rfl := Option.some.inj h
    clear h
    go_enter Try.func9, Try.ntmps9
    go_wp2_with fail
    refine (laws_szIntSS.calls k _ _ l0 1048576 s0 _ HR0.out HC0.out Q_s0.out).mono ?_
    rintro e w1 ⟨rfl, hd⟩
    have B1 := Aside0.mk hd.below
    clear hd
    go_wp2_with fail
    refine (laws_szIntSS.calls k _ _ l1 s0 s1 _ (Kd.C_below HR1.out B1.out) HC1.out Q_s1.out).mono ?_
    rintro e w2 ⟨rfl, hd⟩
    have B2 := Aside0.mk (below_then B1.out B1.out.size hd.below)
    clear hd
    go_wp2_with fail
    go_ret
    exact ⟨rfl, B2.out⟩
  rw [if_neg m1] at h
  replace h := Option.bind_eq_some_iff.1 h
  obtain ⟨u0, b_u0, h⟩ := h
  have Q_u0 := Aside0.mk b_u0
  clear b_u0
  replace h := Option.bind_eq_some_iff.1 h
  obtain ⟨u1, b_u1, h⟩ := h
  have Q_u1 := Aside0.mk b_u1
  clear b_u1
  replace h := Option.bind_eq_some_iff.1 h
  obtain ⟨W, b_W, h⟩ := h
  have Q_W := Aside0.mk b_W
  clear b_W
  replace h := Option.bind_eq_some_iff.1 h
  obtain ⟨x0, b_x0, h⟩ := h
  have Q_x0 := Aside0.mk b_x0
  clear b_x0
  replace h := Option.bind_eq_some_iff.1 h
  obtain ⟨x1, b_x1, h⟩ := h
  have Q_x1 := Aside0.mk b_x1
  clear b_x1
  replace h := Option.bind_eq_some_iff.1 h
  obtain ⟨G, b_G, h⟩ := h
  have Q_G := Aside0.mk b_G
  clear b_G
  obtain ⟨W0, W1⟩ := W
  obtain ⟨G0, G1⟩ := G
  replace h := Option.bind_eq_some_iff.1 h
  obtain ⟨e0, b_e0, h⟩ := h
  have Q_e0 := Aside0.mk b_e0
  clear b_e0
  by_cases t_e0 : e0 = true
  case neg => rw [if_neg t_e0] at h; cases h
  rw [if_pos t_e0] at h
  subst t_e0
  by_cases t_G1 : G1 = W1
  case neg => rw [if_neg t_G1] at h; cases h
  rw [if_pos t_G1] at h
  subst t_G1
  replace h := Option.bind_eq_some_iff.1 h
  obtain ⟨y0, b_y0, h⟩ := h
  have Q_y0 := Aside0.mk b_y0
  clear b_y0
  replace h := Option.bind_eq_some_iff.1 h
  obtain ⟨f0, b_f0, h⟩ := h
  have Q_f0 := Aside0.mk b_f0
  clear b_f0
  by_cases t_f0 : f0 = true
  case neg => rw [if_neg t_f0] at h; cases h
  rw [if_pos t_f0] at h
  subst t_f0
  replace h := Option.bind_eq_some_iff.1 h
  obtain ⟨y1, b_y1, h⟩ := h
  have Q_y1 := Aside0.mk b_y1
  clear b_y1
  replace h := Option.bind_eq_some_iff.1 h
  obtain ⟨f1, b_f1, h⟩ := h
  have Q_f1 := Aside0.mk b_f1
  clear b_f1
  by_cases t_f1 : f1 = true
  case neg => rw [if_neg t_f1] at h; cases h
  rw [if_pos t_f1] at h
  subst t_f1
  replace h := Option.bind_eq_some_iff.1 h
  obtain ⟨⟨m0a, m0b⟩, b_M0, h⟩ := h
  dsimp only at h
  have Q_M0 := Aside0.mk b_M0
  clear b_M0
  replace h := Option.bind_eq_some_iff.1 h
  obtain ⟨⟨m1a, m1b⟩, b_M1, h⟩ := h
  dsimp only at h
  have Q_M1 := Aside0.mk b_M1
  clear b_M1
  by_cases g_0 : 0 ≤ m1a
  case neg => rw [if_neg g_0] at h; cases h
  rw [if_pos g_0] at h
  replace h := Option.bind_eq_some_iff.1 h
  obtain ⟨⟨n0a, n0b⟩, b_N0, h⟩ := h
  dsimp only at h
  have Q_N0 := Aside0.mk b_N0
  clear b_N0
  replace h := Option.bind_eq_some_iff.1 h
  obtain ⟨q0, b_q0, h⟩ := h
  have Q_q0 := Aside0.mk b_q0
  clear b_q0
  by_cases g_q0 : 0 ≤ q0
  case neg => rw [if_neg g_q0] at h; cases h
  rw [if_pos g_q0] at h
  by_cases t_q : q0 = n0a
  case neg => rw [if_neg t_q] at h; cases h
  rw [if_pos t_q] at h
  subst t_q
  replace h := Option.bind_eq_some_iff.1 h
  obtain ⟨z0, b_z0, h⟩ := h
  have Q_z0 := Aside0.mk b_z0
  clear b_z0
  replace h := Option.bind_eq_some_iff.1 h
  obtain ⟨z1, b_z1, h⟩ := h
  have Q_z1 := Aside0.mk b_z1
  clear b_z1
  replace h := Option.bind_eq_some_iff.1 h
  obtain ⟨H, b_H, h⟩ := h
  have Q_H := Aside0.mk b_H
  clear b_H
  obtain ⟨H0, H1⟩ := H
  replace h := Option.bind_eq_some_iff.1 h
  obtain ⟨d0, b_d0, h⟩ := h
  have Q_d0 := Aside0.mk b_d0
  clear b_d0
  by_cases t_d0 : d0 = true
  case neg => rw [if_neg t_d0] at h; cases h
  rw [if_pos t_d0] at h
  subst t_d0
  by_cases t_H1 : H1 = G1
  case neg => rw [if_neg t_H1] at h; cases h
  rw [if_pos t_H1] at h
  subst t_H1
  obtain rfl := Option.some.inj h
  clear h
  go_enter Try.func9, Try.ntmps9
  go_wp2_with fail
  refine (laws_szIntSS.calls k _ _ l0 1048576 s0 w HR0.out HC0.out Q_s0.out).mono ?_
  rintro e w1 ⟨rfl, hd⟩
  have hb := hd.below
  clear hd
  have Z1 := Aside0.mk hb.size
  have B1 := Aside0.mk hb
  clear hb
  go_wp2_with fail
  refine (laws_szIntSS.calls k _ _ l1 s0 s1 w1 (Kd.C_below HR1.out B1.out) HC1.out Q_s1.out).mono ?_
  rintro e w2 ⟨rfl, hd⟩
  have hb := hd.below
  clear hd
  have Z2 := Aside0.mk hb.size
  have B2 := Aside0.mk (below_then B1.out B1.out.size hb)
  clear hb
  go_wp2_with fail
  refine (laws_toIntSS.calls k _ _ l0 u0 w2 (Kd.C_below HR0.out B2.out) HC0.out Q_u0.out).mono ?_
  rintro e w3 ⟨v_u0, rfl, ho_u0, hb⟩
  have Z3 := Aside0.mk hb.size
  have B3 := Aside0.mk (below_then B2.out B2.out.size hb)
  obtain ⟨A_u0, c_u0, rfl, hl_u0, hC_u0⟩ := Kd.S_reads ho_u0
  clear hl_u0 hC_u0
  have F_u0 : Aside0 (Kd.S (Kd.slice 3 (Kd.int .i64)) 40 w3 w2.heap.size (fun k_ => k_ < w3.heap.size) (.slice A_u0 u0.length c_u0) u0) := ⟨Kd.S_mono (Kd.S_bound ho_u0) (fun _ hk => hk.2.2.1)⟩
  clear ho_u0
  clear hb
  go_wp2_with fail
  refine (laws_toIntSS.calls k _ _ l1 u1 w3 (Kd.C_below HR1.out B3.out) HC1.out Q_u1.out).mono ?_
  rintro e w4 ⟨v_u1, rfl, ho_u1, hb⟩
  have Z4 := Aside0.mk hb.size
  have B4 := Aside0.mk (below_then B3.out B3.out.size hb)
  obtain ⟨A_u1, c_u1, rfl, hl_u1, hC_u1⟩ := Kd.S_reads ho_u1
  clear hl_u1 hC_u1
  have F_u1 : Aside0 (Kd.S (Kd.slice 3 (Kd.int .i64)) 40 w4 w3.heap.size (fun k_ => k_ < w4.heap.size) (.slice A_u1 u1.length c_u1) u1) := ⟨Kd.S_mono (Kd.S_bound ho_u1) (fun _ hk => hk.2.2.1)⟩
  clear ho_u1
  have T_u0 := Aside0.mk (Kd.S_below F_u0.out hb)
  clear F_u0
  have F_u0 : Aside0 (Kd.S (Kd.slice 3 (Kd.int .i64)) 40 w4 w2.heap.size (fun k_ => k_ < w3.heap.size) (.slice A_u0 u0.length c_u0) u0) := T_u0
  clear T_u0
  clear hb
  go_wp2_with fail
  refine (spec_TakeAll.calls k _ _ u0 _ _ u1 W0 H1 w4 (Kd.S_reads' F_u0.out).2.2 (Kd.S_reads' F_u0.out).2.1 (Kd.S_reads' F_u1.out).2.2 (Kd.S_reads' F_u1.out).2.1 Q_W.out).mono ?_
  rintro e w5 ⟨v_W0, rfl, ho_W0, hb⟩
  have Z5 := Aside0.mk hb.size
  have B5 := Aside0.mk (below_then B4.out B4.out.size hb)
  obtain ⟨A_W0, c_W0, rfl, hl_W0, hC_W0⟩ := Kd.N_reads ho_W0
  clear hl_W0 hC_W0
  have F_W0 : Aside0 (Kd.N (Kd.slice 3 (Kd.int .i64)) 40 w5 w4.heap.size (fun k_ => w4.heap.size ≤ k_ ∧ k_ < w5.heap.size) (.slice A_W0 W0.length c_W0) W0) := ⟨Kd.N_mono (Kd.N_bound ho_W0) (fun _ hk => hk)⟩
  clear ho_W0
  have T_u0 := Aside0.mk (Kd.S_below F_u0.out hb)
  clear F_u0
  have F_u0 : Aside0 (Kd.S (Kd.slice 3 (Kd.int .i64)) 40 w5 w2.heap.size (fun k_ => k_ < w3.heap.size) (.slice A_u0 u0.length c_u0) u0) := T_u0
  clear T_u0
  have T_u1 := Aside0.mk (Kd.S_below F_u1.out hb)
  clear F_u1
  have F_u1 : Aside0 (Kd.S (Kd.slice 3 (Kd.int .i64)) 40 w5 w3.heap.size (fun k_ => k_ < w4.heap.size) (.slice A_u1 u1.length c_u1) u1) := T_u1
  clear T_u1
  clear hb
  clear F_u0
  clear F_u1
  go_wp2_with fail
  refine (laws_toIntSS.calls k _ _ l0 x0 w5 (Kd.C_below HR0.out B5.out) HC0.out Q_x0.out).mono ?_
  rintro e w6 ⟨v_x0, rfl, ho_x0, hb⟩
  have Z6 := Aside0.mk hb.size
  have B6 := Aside0.mk (below_then B5.out B5.out.size hb)
  obtain ⟨A_x0, c_x0, rfl, hl_x0, hC_x0⟩ := Kd.S_reads ho_x0
  clear hl_x0 hC_x0
  have F_x0 : Aside0 (Kd.S (Kd.slice 3 (Kd.int .i64)) 40 w6 w5.heap.size (fun k_ => k_ < w6.heap.size) (.slice A_x0 x0.length c_x0) x0) := ⟨Kd.S_mono (Kd.S_bound ho_x0) (fun _ hk => hk.2.2.1)⟩
  clear ho_x0
  have T_W0 := Aside0.mk (Kd.N_below F_W0.out hb)
  clear F_W0
  have F_W0 : Aside0 (Kd.N (Kd.slice 3 (Kd.int .i64)) 40 w6 w4.heap.size (fun k_ => w4.heap.size ≤ k_ ∧ k_ < w5.heap.size) (.slice A_W0 W0.length c_W0) W0) := T_W0
  clear T_W0
  clear hb
  go_wp2_with fail
  refine (laws_toIntSS.calls k _ _ l1 x1 w6 (Kd.C_below HR1.out B6.out) HC1.out Q_x1.out).mono ?_
  rintro e w7 ⟨v_x1, rfl, ho_x1, hb⟩
  have Z7 := Aside0.mk hb.size
  have B7 := Aside0.mk (below_then B6.out B6.out.size hb)
  obtain ⟨A_x1, c_x1, rfl, hl_x1, hC_x1⟩ := Kd.S_reads ho_x1
  clear hl_x1 hC_x1
  have F_x1 : Aside0 (Kd.S (Kd.slice 3 (Kd.int .i64)) 40 w7 w6.heap.size (fun k_ => k_ < w7.heap.size) (.slice A_x1 x1.length c_x1) x1) := ⟨Kd.S_mono (Kd.S_bound ho_x1) (fun _ hk => hk.2.2.1)⟩
  clear ho_x1
  have T_W0 := Aside0.mk (Kd.N_below F_W0.out hb)
  clear F_W0
  have F_W0 : Aside0 (Kd.N (Kd.slice 3 (Kd.int .i64)) 40 w7 w4.heap.size (fun k_ => w4.heap.size ≤ k_ ∧ k_ < w5.heap.size) (.slice A_W0 W0.length c_W0) W0) := T_W0
  clear T_W0
  have T_x0 := Aside0.mk (Kd.S_below F_x0.out hb)
  clear F_x0
  have F_x0 : Aside0 (Kd.S (Kd.slice 3 (Kd.int .i64)) 40 w7 w5.heap.size (fun k_ => k_ < w6.heap.size) (.slice A_x0 x0.length c_x0) x0) := T_x0
  clear T_x0
  clear hb
  go_wp2_with fail
  refine (impl_TakeAll.calls k _ _ x0 _ _ x1 G0 H1 w7 (Kd.S_reads' F_x0.out).2.2 (Kd.S_reads' F_x0.out).2.1 (Kd.S_reads' F_x1.out).2.2 (Kd.S_reads' F_x1.out).2.1 Q_G.out).mono ?_
  rintro e w8 ⟨v_G0, rfl, ho_G0, hb⟩
  have Z8 := Aside0.mk hb.size
  have B8 := Aside0.mk (below_then B7.out B7.out.size hb)
  obtain ⟨A_G0, c_G0, rfl, hl_G0, hC_G0⟩ := Kd.S_reads ho_G0
  clear hl_G0 hC_G0
  have F_G0 : Aside0 (Kd.S (Kd.slice 3 (Kd.int .i64)) 40 w8 w7.heap.size (fun k_ => k_ < w8.heap.size) (.slice A_G0 G0.length c_G0) G0) := ⟨Kd.S_mono (Kd.S_bound ho_G0) (fun _ hk => hk.2.2.1)⟩
  clear ho_G0
  have T_W0 := Aside0.mk (Kd.N_below F_W0.out hb)
  clear F_W0
  have F_W0 : Aside0 (Kd.N (Kd.slice 3 (Kd.int .i64)) 40 w8 w4.heap.size (fun k_ => w4.heap.size ≤ k_ ∧ k_ < w5.heap.size) (.slice A_W0 W0.length c_W0) W0) := T_W0
  clear T_W0
  have T_x0 := Aside0.mk (Kd.S_below F_x0.out hb)
  clear F_x0
  have F_x0 : Aside0 (Kd.S (Kd.slice 3 (Kd.int .i64)) 40 w8 w5.heap.size (fun k_ => k_ < w6.heap.size) (.slice A_x0 x0.length c_x0) x0) := T_x0
  clear T_x0
  have T_x1 := Aside0.mk (Kd.S_below F_x1.out hb)
  clear F_x1
  have F_x1 : Aside0 (Kd.S (Kd.slice 3 (Kd.int .i64)) 40 w8 w6.heap.size (fun k_ => k_ < w7.heap.size) (.slice A_x1 x1.length c_x1) x1) := T_x1
  clear T_x1
  clear hb
  go_wp2_with fail
  refine (laws_eqIntSS.calls k _ _ G0 _ _ W0 true w8 (Kd.S_reads' F_G0.out).2.2 (Kd.S_reads' F_G0.out).2.1 (Kd.N_reads' F_W0.out).2.2 (Kd.N_reads' F_W0.out).2.1 Q_e0.out).mono ?_
  rintro e w9 ⟨rfl, hd⟩
  have hb := hd.below
  clear hd
  have Z9 := Aside0.mk hb.size
  have B9 := Aside0.mk (below_then B8.out B8.out.size hb)
  have T_W0 := Aside0.mk (Kd.N_below F_W0.out hb)
  clear F_W0
  have F_W0 : Aside0 (Kd.N (Kd.slice 3 (Kd.int .i64)) 40 w9 w4.heap.size (fun k_ => w4.heap.size ≤ k_ ∧ k_ < w5.heap.size) (.slice A_W0 W0.length c_W0) W0) := T_W0
  clear T_W0
  have T_x0 := Aside0.mk (Kd.S_below F_x0.out hb)
  clear F_x0
  have F_x0 : Aside0 (Kd.S (Kd.slice 3 (Kd.int .i64)) 40 w9 w5.heap.size (fun k_ => k_ < w6.heap.size) (.slice A_x0 x0.length c_x0) x0) := T_x0
  clear T_x0
  have T_x1 := Aside0.mk (Kd.S_below F_x1.out hb)
  clear F_x1
  have F_x1 : Aside0 (Kd.S (Kd.slice 3 (Kd.int .i64)) 40 w9 w6.heap.size (fun k_ => k_ < w7.heap.size) (.slice A_x1 x1.length c_x1) x1) := T_x1
  clear T_x1
  have T_G0 := Aside0.mk (Kd.S_below F_G0.out hb)
  clear F_G0
  have F_G0 : Aside0 (Kd.S (Kd.slice 3 (Kd.int .i64)) 40 w9 w7.heap.size (fun k_ => k_ < w8.heap.size) (.slice A_G0 G0.length c_G0) G0) := T_G0
  clear T_G0
  clear hb
  go_wp2_with fail
  refine (laws_toIntSS.calls k _ _ l0 y0 w9 (Kd.C_below HR0.out B9.out) HC0.out Q_y0.out).mono ?_
  rintro e w10 ⟨v_y0, rfl, ho_y0, hb⟩
  have Z10 := Aside0.mk hb.size
  have B10 := Aside0.mk (below_then B9.out B9.out.size hb)
  obtain ⟨A_y0, c_y0, rfl, hl_y0, hC_y0⟩ := Kd.S_reads ho_y0
  clear hl_y0 hC_y0
  have F_y0 : Aside0 (Kd.S (Kd.slice 3 (Kd.int .i64)) 40 w10 w9.heap.size (fun k_ => k_ < w10.heap.size) (.slice A_y0 y0.length c_y0) y0) := ⟨Kd.S_mono (Kd.S_bound ho_y0) (fun _ hk => hk.2.2.1)⟩
  clear ho_y0
  have T_W0 := Aside0.mk (Kd.N_below F_W0.out hb)
  clear F_W0
  have F_W0 : Aside0 (Kd.N (Kd.slice 3 (Kd.int .i64)) 40 w10 w4.heap.size (fun k_ => w4.heap.size ≤ k_ ∧ k_ < w5.heap.size) (.slice A_W0 W0.length c_W0) W0) := T_W0
  clear T_W0
  have T_x0 := Aside0.mk (Kd.S_below F_x0.out hb)
  clear F_x0
  have F_x0 : Aside0 (Kd.S (Kd.slice 3 (Kd.int .i64)) 40 w10 w5.heap.size (fun k_ => k_ < w6.heap.size) (.slice A_x0 x0.length c_x0) x0) := T_x0
  clear T_x0
  have T_x1 := Aside0.mk (Kd.S_below F_x1.out hb)
  clear F_x1
  have F_x1 : Aside0 (Kd.S (Kd.slice 3 (Kd.int .i64)) 40 w10 w6.heap.size (fun k_ => k_ < w7.heap.size) (.slice A_x1 x1.length c_x1) x1) := T_x1
  clear T_x1
  have T_G0 := Aside0.mk (Kd.S_below F_G0.out hb)
  clear F_G0
  have F_G0 : Aside0 (Kd.S (Kd.slice 3 (Kd.int .i64)) 40 w10 w7.heap.size (fun k_ => k_ < w8.heap.size) (.slice A_G0 G0.length c_G0) G0) := T_G0
  clear T_G0
  clear hb
  go_wp2_with fail
  refine (laws_eqIntSS.calls k _ _ x0 _ _ y0 true w10 (Kd.S_reads' F_x0.out).2.2 (Kd.S_reads' F_x0.out).2.1 (Kd.S_reads' F_y0.out).2.2 (Kd.S_reads' F_y0.out).2.1 Q_f0.out).mono ?_
  rintro e w11 ⟨rfl, hd⟩
  have hb := hd.below
  clear hd
  have Z11 := Aside0.mk hb.size
  have B11 := Aside0.mk (below_then B10.out B10.out.size hb)
  have T_W0 := Aside0.mk (Kd.N_below F_W0.out hb)
  clear F_W0
  have F_W0 : Aside0 (Kd.N (Kd.slice 3 (Kd.int .i64)) 40 w11 w4.heap.size (fun k_ => w4.heap.size ≤ k_ ∧ k_ < w5.heap.size) (.slice A_W0 W0.length c_W0) W0) := T_W0
  clear T_W0
  have T_x0 := Aside0.mk (Kd.S_below F_x0.out hb)
  clear F_x0
  have F_x0 : Aside0 (Kd.S (Kd.slice 3 (Kd.int .i64)) 40 w11 w5.heap.size (fun k_ => k_ < w6.heap.size) (.slice A_x0 x0.length c_x0) x0) := T_x0
  clear T_x0
  have T_x1 := Aside0.mk (Kd.S_below F_x1.out hb)
  clear F_x1
  have F_x1 : Aside0 (Kd.S (Kd.slice 3 (Kd.int .i64)) 40 w11 w6.heap.size (fun k_ => k_ < w7.heap.size) (.slice A_x1 x1.length c_x1) x1) := T_x1
  clear T_x1
  have T_G0 := Aside0.mk (Kd.S_below F_G0.out hb)
  clear F_G0
  have F_G0 : Aside0 (Kd.S (Kd.slice 3 (Kd.int .i64)) 40 w11 w7.heap.size (fun k_ => k_ < w8.heap.size) (.slice A_G0 G0.length c_G0) G0) := T_G0
  clear T_G0
  have T_y0 := Aside0.mk (Kd.S_below F_y0.out hb)
  clear F_y0
  have F_y0 : Aside0 (Kd.S (Kd.slice 3 (Kd.int .i64)) 40 w11 w9.heap.size (fun k_ => k_ < w10.heap.size) (.slice A_y0 y0.length c_y0) y0) := T_y0
  clear T_y0
  clear hb
  clear F_y0
  go_wp2_with fail
  refine (laws_toIntSS.calls k _ _ l1 y1 w11 (Kd.C_below HR1.out B11.out) HC1.out Q_y1.out).mono ?_
  rintro e w12 ⟨v_y1, rfl, ho_y1, hb⟩
  have Z12 := Aside0.mk hb.size
  have B12 := Aside0.mk (below_then B11.out B11.out.size hb)
  obtain ⟨A_y1, c_y1, rfl, hl_y1, hC_y1⟩ := Kd.S_reads ho_y1
  clear hl_y1 hC_y1
  have F_y1 : Aside0 (Kd.S (Kd.slice 3 (Kd.int .i64)) 40 w12 w11.heap.size (fun k_ => k_ < w12.heap.size) (.slice A_y1 y1.length c_y1) y1) := ⟨Kd.S_mono (Kd.S_bound ho_y1) (fun _ hk => hk.2.2.1)⟩
  clear ho_y1
  have T_W0 := Aside0.mk (Kd.N_below F_W0.out hb)
  clear F_W0
  have F_W0 : Aside0 (Kd.N (Kd.slice 3 (Kd.int .i64)) 40 w12 w4.heap.size (fun k_ => w4.heap.size ≤ k_ ∧ k_ < w5.heap.size) (.slice A_W0 W0.length c_W0) W0) := T_W0
  clear T_W0
  have T_x0 := Aside0.mk (Kd.S_below F_x0.out hb)
  clear F_x0
  have F_x0 : Aside0 (Kd.S (Kd.slice 3 (Kd.int .i64)) 40 w12 w5.heap.size (fun k_ => k_ < w6.heap.size) (.slice A_x0 x0.length c_x0) x0) := T_x0
  clear T_x0
  have T_x1 := Aside0.mk (Kd.S_below F_x1.out hb)
  clear F_x1
  have F_x1 : Aside0 (Kd.S (Kd.slice 3 (Kd.int .i64)) 40 w12 w6.heap.size (fun k_ => k_ < w7.heap.size) (.slice A_x1 x1.length c_x1) x1) := T_x1
  clear T_x1
  have T_G0 := Aside0.mk (Kd.S_below F_G0.out hb)
  clear F_G0
  have F_G0 : Aside0 (Kd.S (Kd.slice 3 (Kd.int .i64)) 40 w12 w7.heap.size (fun k_ => k_ < w8.heap.size) (.slice A_G0 G0.length c_G0) G0) := T_G0
  clear T_G0
  clear hb
  go_wp2_with fail
  refine (laws_eqIntSS.calls k _ _ x1 _ _ y1 true w12 (Kd.S_reads' F_x1.out).2.2 (Kd.S_reads' F_x1.out).2.1 (Kd.S_reads' F_y1.out).2.2 (Kd.S_reads' F_y1.out).2.1 Q_f1.out).mono ?_
  rintro e w13 ⟨rfl, hd⟩
  have hb := hd.below
  clear hd
  have Z13 := Aside0.mk hb.size
  have B13 := Aside0.mk (below_then B12.out B12.out.size hb)
  have T_W0 := Aside0.mk (Kd.N_below F_W0.out hb)
  clear F_W0
  have F_W0 : Aside0 (Kd.N (Kd.slice 3 (Kd.int .i64)) 40 w13 w4.heap.size (fun k_ => w4.heap.size ≤ k_ ∧ k_ < w5.heap.size) (.slice A_W0 W0.length c_W0) W0) := T_W0
  clear T_W0
  have T_x0 := Aside0.mk (Kd.S_below F_x0.out hb)
  clear F_x0
  have F_x0 : Aside0 (Kd.S (Kd.slice 3 (Kd.int .i64)) 40 w13 w5.heap.size (fun k_ => k_ < w6.heap.size) (.slice A_x0 x0.length c_x0) x0) := T_x0
  clear T_x0
  have T_x1 := Aside0.mk (Kd.S_below F_x1.out hb)
  clear F_x1
  have F_x1 : Aside0 (Kd.S (Kd.slice 3 (Kd.int .i64)) 40 w13 w6.heap.size (fun k_ => k_ < w7.heap.size) (.slice A_x1 x1.length c_x1) x1) := T_x1
  clear T_x1
  have T_G0 := Aside0.mk (Kd.S_below F_G0.out hb)
  clear F_G0
  have F_G0 : Aside0 (Kd.S (Kd.slice 3 (Kd.int .i64)) 40 w13 w7.heap.size (fun k_ => k_ < w8.heap.size) (.slice A_G0 G0.length c_G0) G0) := T_G0
  clear T_G0
  have T_y1 := Aside0.mk (Kd.S_below F_y1.out hb)
  clear F_y1
  have F_y1 : Aside0 (Kd.S (Kd.slice 3 (Kd.int .i64)) 40 w13 w11.heap.size (fun k_ => k_ < w12.heap.size) (.slice A_y1 y1.length c_y1) y1) := T_y1
  clear T_y1
  clear hb
  clear F_y1
  go_wp2_with fail
  refine (laws_markIntSS.calls k w5.heap.size w6.heap.size _ x0 1 m0a m0b w w13 B13.out (by have y1 := Z1.out; have y2 := Z2.out; have y3 := Z3.out; have y4 := Z4.out; have y5 := Z5.out; have y6 := Z6.out; have y7 := Z7.out; have y8 := Z8.out; have y9 := Z9.out; have y10 := Z10.out; have y11 := Z11.out; have y12 := Z12.out; have y13 := Z13.out; omega) (Kd.S_mono (Kd.S_lower (Kd.S_bound F_x0.out) (by have y1 := Z1.out; have y2 := Z2.out; have y3 := Z3.out; have y4 := Z4.out; have y5 := Z5.out; have y6 := Z6.out; have y7 := Z7.out; have y8 := Z8.out; have y9 := Z9.out; have y10 := Z10.out; have y11 := Z11.out; have y12 := Z12.out; have y13 := Z13.out; omega)) (fun k_ hk => ⟨hk.2.1, hk.1⟩)) Q_M0.out).mono ?_
  rintro e w14 ⟨rfl, ho, hb, hkp⟩
  have Z14 := Aside0.mk hkp.1
  have B14 := Aside0.mk hb
  have T_W0 := Aside0.mk (Kd.N_mono (Kd.N_step (Kd.N_bound F_W0.out) (fun k_ hk hs => hkp.2 k_ hs (fun z => by have z1 := z.1; have z2 := z.2; have z3 := hk.1.1; have z4 := hk.1.2; have y1 := Z1.out; have y2 := Z2.out; have y3 := Z3.out; have y4 := Z4.out; have y5 := Z5.out; have y6 := Z6.out; have y7 := Z7.out; have y8 := Z8.out; have y9 := Z9.out; have y10 := Z10.out; have y11 := Z11.out; have y12 := Z12.out; have y13 := Z13.out; omega))) (fun _ hk => hk.1))
  clear F_W0
  have F_W0 : Aside0 (Kd.N (Kd.slice 3 (Kd.int .i64)) 40 w14 w4.heap.size (fun k_ => w4.heap.size ≤ k_ ∧ k_ < w5.heap.size) (.slice A_W0 W0.length c_W0) W0) := T_W0
  clear T_W0
  have T_x1 := Aside0.mk (Kd.S_mono (Kd.S_step (Kd.S_bound F_x1.out) (fun k_ hk hs => hkp.2 k_ hs (fun z => by have z1 := z.1; have z2 := z.2; have z3 := hk.1; have z4 := hk.2.1; have y1 := Z1.out; have y2 := Z2.out; have y3 := Z3.out; have y4 := Z4.out; have y5 := Z5.out; have y6 := Z6.out; have y7 := Z7.out; have y8 := Z8.out; have y9 := Z9.out; have y10 := Z10.out; have y11 := Z11.out; have y12 := Z12.out; have y13 := Z13.out; omega))) (fun _ hk => hk.1))
  clear F_x1
  have F_x1 : Aside0 (Kd.S (Kd.slice 3 (Kd.int .i64)) 40 w14 w6.heap.size (fun k_ => k_ < w7.heap.size) (.slice A_x1 x1.length c_x1) x1) := T_x1
  clear T_x1
  have T_G0 := Aside0.mk (Kd.S_mono (Kd.S_step (Kd.S_bound F_G0.out) (fun k_ hk hs => hkp.2 k_ hs (fun z => by have z1 := z.1; have z2 := z.2; have z3 := hk.1; have z4 := hk.2.1; have y1 := Z1.out; have y2 := Z2.out; have y3 := Z3.out; have y4 := Z4.out; have y5 := Z5.out; have y6 := Z6.out; have y7 := Z7.out; have y8 := Z8.out; have y9 := Z9.out; have y10 := Z10.out; have y11 := Z11.out; have y12 := Z12.out; have y13 := Z13.out; omega))) (fun _ hk => hk.1))
  clear F_G0
  have F_G0 : Aside0 (Kd.S (Kd.slice 3 (Kd.int .i64)) 40 w14 w7.heap.size (fun k_ => k_ < w8.heap.size) (.slice A_G0 G0.length c_G0) G0) := T_G0
  clear T_G0
  clear F_x0 ho
  clear hb hkp
  go_wp2_with fail
  refine (laws_markIntSS.calls k w6.heap.size w7.heap.size _ x1 m0a m1a m1b w w14 B14.out (by have y1 := Z1.out; have y2 := Z2.out; have y3 := Z3.out; have y4 := Z4.out; have y5 := Z5.out; have y6 := Z6.out; have y7 := Z7.out; have y8 := Z8.out; have y9 := Z9.out; have y10 := Z10.out; have y11 := Z11.out; have y12 := Z12.out; have y13 := Z13.out; have y14 := Z14.out; omega) (Kd.S_mono (Kd.S_lower (Kd.S_bound F_x1.out) (by have y1 := Z1.out; have y2 := Z2.out; have y3 := Z3.out; have y4 := Z4.out; have y5 := Z5.out; have y6 := Z6.out; have y7 := Z7.out; have y8 := Z8.out; have y9 := Z9.out; have y10 := Z10.out; have y11 := Z11.out; have y12 := Z12.out; have y13 := Z13.out; have y14 := Z14.out; omega)) (fun k_ hk => ⟨hk.2.1, hk.1⟩)) Q_M1.out).mono ?_
  rintro e w15 ⟨rfl, ho, hb, hkp⟩
  have Z15 := Aside0.mk hkp.1
  have B15 := Aside0.mk hb
  have T_W0 := Aside0.mk (Kd.N_mono (Kd.N_step (Kd.N_bound F_W0.out) (fun k_ hk hs => hkp.2 k_ hs (fun z => by have z1 := z.1; have z2 := z.2; have z3 := hk.1.1; have z4 := hk.1.2; have y1 := Z1.out; have y2 := Z2.out; have y3 := Z3.out; have y4 := Z4.out; have y5 := Z5.out; have y6 := Z6.out; have y7 := Z7.out; have y8 := Z8.out; have y9 := Z9.out; have y10 := Z10.out; have y11 := Z11.out; have y12 := Z12.out; have y13 := Z13.out; have y14 := Z14.out; omega))) (fun _ hk => hk.1))
  clear F_W0
  have F_W0 : Aside0 (Kd.N (Kd.slice 3 (Kd.int .i64)) 40 w15 w4.heap.size (fun k_ => w4.heap.size ≤ k_ ∧ k_ < w5.heap.size) (.slice A_W0 W0.length c_W0) W0) := T_W0
  clear T_W0
  have T_G0 := Aside0.mk (Kd.S_mono (Kd.S_step (Kd.S_bound F_G0.out) (fun k_ hk hs => hkp.2 k_ hs (fun z => by have z1 := z.1; have z2 := z.2; have z3 := hk.1; have z4 := hk.2.1; have y1 := Z1.out; have y2 := Z2.out; have y3 := Z3.out; have y4 := Z4.out; have y5 := Z5.out; have y6 := Z6.out; have y7 := Z7.out; have y8 := Z8.out; have y9 := Z9.out; have y10 := Z10.out; have y11 := Z11.out; have y12 := Z12.out; have y13 := Z13.out; have y14 := Z14.out; omega))) (fun _ hk => hk.1))
  clear F_G0
  have F_G0 : Aside0 (Kd.S (Kd.slice 3 (Kd.int .i64)) 40 w15 w7.heap.size (fun k_ => k_ < w8.heap.size) (.slice A_G0 G0.length c_G0) G0) := T_G0
  clear T_G0
  clear F_x1 ho
  clear hb hkp
  go_wp2_with fail
  refine (laws_eqIntSS.calls k _ _ G0 _ _ W0 true w15 (Kd.S_reads' F_G0.out).2.2 (Kd.S_reads' F_G0.out).2.1 (Kd.N_reads' F_W0.out).2.2 (Kd.N_reads' F_W0.out).2.1 Q_e0.out).mono ?_
  rintro e w16 ⟨rfl, hd⟩
  have hb := hd.below
  clear hd
  have Z16 := Aside0.mk hb.size
  have B16 := Aside0.mk (below_then B15.out B15.out.size hb)
  have T_W0 := Aside0.mk (Kd.N_below F_W0.out hb)
  clear F_W0
  have F_W0 : Aside0 (Kd.N (Kd.slice 3 (Kd.int .i64)) 40 w16 w4.heap.size (fun k_ => w4.heap.size ≤ k_ ∧ k_ < w5.heap.size) (.slice A_W0 W0.length c_W0) W0) := T_W0
  clear T_W0
  have T_G0 := Aside0.mk (Kd.S_below F_G0.out hb)
  clear F_G0
  have F_G0 : Aside0 (Kd.S (Kd.slice 3 (Kd.int .i64)) 40 w16 w7.heap.size (fun k_ => k_ < w8.heap.size) (.slice A_G0 G0.length c_G0) G0) := T_G0
  clear T_G0
  clear hb
  go_wp2_with fail
  refine (laws_markIntSS.calls k w7.heap.size w8.heap.size _ G0 1 q0 n0b w w16 B16.out (by have y1 := Z1.out; have y2 := Z2.out; have y3 := Z3.out; have y4 := Z4.out; have y5 := Z5.out; have y6 := Z6.out; have y7 := Z7.out; have y8 := Z8.out; have y9 := Z9.out; have y10 := Z10.out; have y11 := Z11.out; have y12 := Z12.out; have y13 := Z13.out; have y14 := Z14.out; have y15 := Z15.out; have y16 := Z16.out; omega) (Kd.S_mono (Kd.S_lower (Kd.S_bound F_G0.out) (by have y1 := Z1.out; have y2 := Z2.out; have y3 := Z3.out; have y4 := Z4.out; have y5 := Z5.out; have y6 := Z6.out; have y7 := Z7.out; have y8 := Z8.out; have y9 := Z9.out; have y10 := Z10.out; have y11 := Z11.out; have y12 := Z12.out; have y13 := Z13.out; have y14 := Z14.out; have y15 := Z15.out; have y16 := Z16.out; omega)) (fun k_ hk => ⟨hk.2.1, hk.1⟩)) Q_N0.out).mono ?_
  rintro e w17 ⟨rfl, ho, hb, hkp⟩
  have Z17 := Aside0.mk hkp.1
  have B17 := Aside0.mk hb
  have T_W0 := Aside0.mk (Kd.N_mono (Kd.N_step (Kd.N_bound F_W0.out) (fun k_ hk hs => hkp.2 k_ hs (fun z => by have z1 := z.1; have z2 := z.2; have z3 := hk.1.1; have z4 := hk.1.2; have y1 := Z1.out; have y2 := Z2.out; have y3 := Z3.out; have y4 := Z4.out; have y5 := Z5.out; have y6 := Z6.out; have y7 := Z7.out; have y8 := Z8.out; have y9 := Z9.out; have y10 := Z10.out; have y11 := Z11.out; have y12 := Z12.out; have y13 := Z13.out; have y14 := Z14.out; have y15 := Z15.out; have y16 := Z16.out; omega))) (fun _ hk => hk.1))
  clear F_W0
  have F_W0 : Aside0 (Kd.N (Kd.slice 3 (Kd.int .i64)) 40 w17 w4.heap.size (fun k_ => w4.heap.size ≤ k_ ∧ k_ < w5.heap.size) (.slice A_W0 W0.length c_W0) W0) := T_W0
  clear T_W0
  have T_ : Aside0 (Kd.S (Kd.slice 3 (Kd.int .i64)) 40 w17 w.heap.size (fun k_ => k_ < w8.heap.size) (.slice A_G0 G0.length c_G0) n0b) := ⟨Kd.S_mono ho (fun k_ hk => hk.2)⟩
  clear F_G0 ho
  have EL : G0.length = n0b.length := (Kd.S_reads' T_.out).1
  rw [EL] at T_
  rw [EL]
  clear EL
  have F_G0 : Aside0 (Kd.S (Kd.slice 3 (Kd.int .i64)) 40 w17 w.heap.size (fun k_ => k_ < w8.heap.size) (.slice A_G0 n0b.length c_G0) n0b) := T_
  clear T_
  clear hb hkp
  go_wp2_with fail
  refine (laws_heldIntSS.calls k _ _ n0b 1 q0 w17 (Kd.S_reads' F_G0.out).2.2 (Kd.S_reads' F_G0.out).2.1 Q_q0.out).mono ?_
  rintro e w18 ⟨rfl, hd⟩
  have hb := hd.below
  clear hd
  have Z18 := Aside0.mk hb.size
  have B18 := Aside0.mk (below_then B17.out B17.out.size hb)
  have T_W0 := Aside0.mk (Kd.N_below F_W0.out hb)
  clear F_W0
  have F_W0 : Aside0 (Kd.N (Kd.slice 3 (Kd.int .i64)) 40 w18 w4.heap.size (fun k_ => w4.heap.size ≤ k_ ∧ k_ < w5.heap.size) (.slice A_W0 W0.length c_W0) W0) := T_W0
  clear T_W0
  have T_G0 := Aside0.mk (Kd.S_below F_G0.out hb)
  clear F_G0
  have F_G0 : Aside0 (Kd.S (Kd.slice 3 (Kd.int .i64)) 40 w18 w.heap.size (fun k_ => k_ < w8.heap.size) (.slice A_G0 n0b.length c_G0) n0b) := T_G0
  clear T_G0
  clear hb
  go_wp2_with fail
  refine (laws_toIntSS.calls k _ _ l0 z0 w18 (Kd.C_below HR0.out B18.out) HC0.out Q_z0.out).mono ?_
  rintro e w19 ⟨v_z0, rfl, ho_z0, hb⟩
  have Z19 := Aside0.mk hb.size
  have B19 := Aside0.mk (below_then B18.out B18.out.size hb)
  obtain ⟨A_z0, c_z0, rfl, hl_z0, hC_z0⟩ := Kd.S_reads ho_z0
  clear hl_z0 hC_z0
  have F_z0 : Aside0 (Kd.S (Kd.slice 3 (Kd.int .i64)) 40 w19 w18.heap.size (fun k_ => k_ < w19.heap.size) (.slice A_z0 z0.length c_z0) z0) := ⟨Kd.S_mono (Kd.S_bound ho_z0) (fun _ hk => hk.2.2.1)⟩
  clear ho_z0
  have T_W0 := Aside0.mk (Kd.N_below F_W0.out hb)
  clear F_W0
  have F_W0 : Aside0 (Kd.N (Kd.slice 3 (Kd.int .i64)) 40 w19 w4.heap.size (fun k_ => w4.heap.size ≤ k_ ∧ k_ < w5.heap.size) (.slice A_W0 W0.length c_W0) W0) := T_W0
  clear T_W0
  have T_G0 := Aside0.mk (Kd.S_below F_G0.out hb)
  clear F_G0
  have F_G0 : Aside0 (Kd.S (Kd.slice 3 (Kd.int .i64)) 40 w19 w.heap.size (fun k_ => k_ < w8.heap.size) (.slice A_G0 n0b.length c_G0) n0b) := T_G0
  clear T_G0
  clear hb
  go_wp2_with fail
  refine (laws_toIntSS.calls k _ _ l1 z1 w19 (Kd.C_below HR1.out B19.out) HC1.out Q_z1.out).mono ?_
  rintro e w20 ⟨v_z1, rfl, ho_z1, hb⟩
  have Z20 := Aside0.mk hb.size
  have B20 := Aside0.mk (below_then B19.out B19.out.size hb)
  obtain ⟨A_z1, c_z1, rfl, hl_z1, hC_z1⟩ := Kd.S_reads ho_z1
  clear hl_z1 hC_z1
  have F_z1 : Aside0 (Kd.S (Kd.slice 3 (Kd.int .i64)) 40 w20 w19.heap.size (fun k_ => k_ < w20.heap.size) (.slice A_z1 z1.length c_z1) z1) := ⟨Kd.S_mono (Kd.S_bound ho_z1) (fun _ hk => hk.2.2.1)⟩
  clear ho_z1
  have T_W0 := Aside0.mk (Kd.N_below F_W0.out hb)
  clear F_W0
  have F_W0 : Aside0 (Kd.N (Kd.slice 3 (Kd.int .i64)) 40 w20 w4.heap.size (fun k_ => w4.heap.size ≤ k_ ∧ k_ < w5.heap.size) (.slice A_W0 W0.length c_W0) W0) := T_W0
  clear T_W0
  have T_G0 := Aside0.mk (Kd.S_below F_G0.out hb)
  clear F_G0
  have F_G0 : Aside0 (Kd.S (Kd.slice 3 (Kd.int .i64)) 40 w20 w.heap.size (fun k_ => k_ < w8.heap.size) (.slice A_G0 n0b.length c_G0) n0b) := T_G0
  clear T_G0
  have T_z0 := Aside0.mk (Kd.S_below F_z0.out hb)
  clear F_z0
  have F_z0 : Aside0 (Kd.S (Kd.slice 3 (Kd.int .i64)) 40 w20 w18.heap.size (fun k_ => k_ < w19.heap.size) (.slice A_z0 z0.length c_z0) z0) := T_z0
  clear T_z0
  clear hb
  go_wp2_with fail
  refine (impl_TakeAll.calls k _ _ z0 _ _ z1 H0 H1 w20 (Kd.S_reads' F_z0.out).2.2 (Kd.S_reads' F_z0.out).2.1 (Kd.S_reads' F_z1.out).2.2 (Kd.S_reads' F_z1.out).2.1 Q_H.out).mono ?_
  rintro e w21 ⟨v_H0, rfl, ho_H0, hb⟩
  have Z21 := Aside0.mk hb.size
  have B21 := Aside0.mk (below_then B20.out B20.out.size hb)
  obtain ⟨A_H0, c_H0, rfl, hl_H0, hC_H0⟩ := Kd.S_reads ho_H0
  clear hl_H0 hC_H0
  have F_H0 : Aside0 (Kd.S (Kd.slice 3 (Kd.int .i64)) 40 w21 w20.heap.size (fun k_ => k_ < w21.heap.size) (.slice A_H0 H0.length c_H0) H0) := ⟨Kd.S_mono (Kd.S_bound ho_H0) (fun _ hk => hk.2.2.1)⟩
  clear ho_H0
  have T_W0 := Aside0.mk (Kd.N_below F_W0.out hb)
  clear F_W0
  have F_W0 : Aside0 (Kd.N (Kd.slice 3 (Kd.int .i64)) 40 w21 w4.heap.size (fun k_ => w4.heap.size ≤ k_ ∧ k_ < w5.heap.size) (.slice A_W0 W0.length c_W0) W0) := T_W0
  clear T_W0
  have T_G0 := Aside0.mk (Kd.S_below F_G0.out hb)
  clear F_G0
  have F_G0 : Aside0 (Kd.S (Kd.slice 3 (Kd.int .i64)) 40 w21 w.heap.size (fun k_ => k_ < w8.heap.size) (.slice A_G0 n0b.length c_G0) n0b) := T_G0
  clear T_G0
  have T_z0 := Aside0.mk (Kd.S_below F_z0.out hb)
  clear F_z0
  have F_z0 : Aside0 (Kd.S (Kd.slice 3 (Kd.int .i64)) 40 w21 w18.heap.size (fun k_ => k_ < w19.heap.size) (.slice A_z0 z0.length c_z0) z0) := T_z0
  clear T_z0
  have T_z1 := Aside0.mk (Kd.S_below F_z1.out hb)
  clear F_z1
  have F_z1 : Aside0 (Kd.S (Kd.slice 3 (Kd.int .i64)) 40 w21 w19.heap.size (fun k_ => k_ < w20.heap.size) (.slice A_z1 z1.length c_z1) z1) := T_z1
  clear T_z1
  clear hb
  clear F_z0
  clear F_z1
  go_wp2_with fail
  refine (laws_eqIntSS.calls k _ _ H0 _ _ W0 true w21 (Kd.S_reads' F_H0.out).2.2 (Kd.S_reads' F_H0.out).2.1 (Kd.N_reads' F_W0.out).2.2 (Kd.N_reads' F_W0.out).2.1 Q_d0.out).mono ?_
  rintro e w22 ⟨rfl, hd⟩
  have hb := hd.below
  clear hd
  have Z22 := Aside0.mk hb.size
  have B22 := Aside0.mk (below_then B21.out B21.out.size hb)
  have T_W0 := Aside0.mk (Kd.N_below F_W0.out hb)
  clear F_W0
  have F_W0 : Aside0 (Kd.N (Kd.slice 3 (Kd.int .i64)) 40 w22 w4.heap.size (fun k_ => w4.heap.size ≤ k_ ∧ k_ < w5.heap.size) (.slice A_W0 W0.length c_W0) W0) := T_W0
  clear T_W0
  have T_G0 := Aside0.mk (Kd.S_below F_G0.out hb)
  clear F_G0
  have F_G0 : Aside0 (Kd.S (Kd.slice 3 (Kd.int .i64)) 40 w22 w.heap.size (fun k_ => k_ < w8.heap.size) (.slice A_G0 n0b.length c_G0) n0b) := T_G0
  clear T_G0
  have T_H0 := Aside0.mk (Kd.S_below F_H0.out hb)
  clear F_H0
  have F_H0 : Aside0 (Kd.S (Kd.slice 3 (Kd.int .i64)) 40 w22 w20.heap.size (fun k_ => k_ < w21.heap.size) (.slice A_H0 H0.length c_H0) H0) := T_H0
  clear T_H0
  clear hb
  go_wp2_with fail
  refine (laws_heldIntSS.calls k _ _ n0b 1 q0 w22 (Kd.S_reads' F_G0.out).2.2 (Kd.S_reads' F_G0.out).2.1 Q_q0.out).mono ?_
  rintro e w23 ⟨rfl, hd⟩
  have hb := hd.below
  clear hd
  have Z23 := Aside0.mk hb.size
  have B23 := Aside0.mk (below_then B22.out B22.out.size hb)
  have T_W0 := Aside0.mk (Kd.N_below F_W0.out hb)
  clear F_W0
  have F_W0 : Aside0 (Kd.N (Kd.slice 3 (Kd.int .i64)) 40 w23 w4.heap.size (fun k_ => w4.heap.size ≤ k_ ∧ k_ < w5.heap.size) (.slice A_W0 W0.length c_W0) W0) := T_W0
  clear T_W0
  have T_G0 := Aside0.mk (Kd.S_below F_G0.out hb)
  clear F_G0
  have F_G0 : Aside0 (Kd.S (Kd.slice 3 (Kd.int .i64)) 40 w23 w.heap.size (fun k_ => k_ < w8.heap.size) (.slice A_G0 n0b.length c_G0) n0b) := T_G0
  clear T_G0
  have T_H0 := Aside0.mk (Kd.S_below F_H0.out hb)
  clear F_H0
  have F_H0 : Aside0 (Kd.S (Kd.slice 3 (Kd.int .i64)) 40 w23 w20.heap.size (fun k_ => k_ < w21.heap.size) (.slice A_H0 H0.length c_H0) H0) := T_H0
  clear T_H0
  clear hb
  go_wp2_with fail
  go_ret
  exact ⟨rfl, B23.out⟩
end Go.Proofs.Ytebjpafnfmmjeaa.PA
/- ints -/
namespace Go.Proofs.Ytebjpafnfmmjeaa.PA
open Go.RowKit Go.Proofs.YtebjpafnfmmjeaaW.PrintWords Go.Proofs.YtebjpafnfmmjeaaW.PrintLast Go.Proofs.YtebjpafnfmmjeaaW.PrintMore
set_option linter.unusedVariables false
set_option linter.unusedSimpArgs false
theorem w64 {x : Int} (h0 : -9223372036854775808 ≤ x) (h1 : x < 9223372036854775808) : wrap64 x = x := by
  unfold wrap64
  omega
theorem rd_get {l : List Int} {i : Nat} (h : i < l.length) : rd l (i : Int) = l[i] := by simp [rd, List.getD_eq_getElem?_getD, h]
theorem ev_eq {α : Type} {g : Nat → Option α} {r r' : α} (h : Ev g r) (e : r = r') : Ev g r' := e ▸ h
theorem ev_const {α : Type} {a : Option α} {r : α} (h : a = some r) : Ev (fun _ => a) r := ⟨0, fun _ _ => h⟩
theorem take_step {l : List Int} {i : Nat} (h : i < l.length) : l.take (i + 1) = l.take i ++ [l[i]] := by
  rw [List.take_succ_eq_append_getElem h]
theorem toIntS_l (x0 : List Int) (hx : x0.length < 9223372036854775807) : ∀ (d i : Nat) (x3 : List Int), i + d = x0.length → x3.length = x0.length → x3.take i = x0.take i → Ev (fun k => laws_toIntS.l0 k x0 x3 (i : Int)) x0 := by
  intro d
  induction d with
  | zero =>
    intro i x3 hi hl ht
    have e : x3 = x0 := by
      have h1 : x3.take i = x3 := List.take_of_length_le (by omega)
      have h2 : x0.take i = x0 := List.take_of_length_le (by omega)
      rw [h1, h2] at ht
      exact ht
    refine Ev.step (f := fun _ => some x0) (fun k => ?_) (Ev.now _)
    simp only [laws_toIntS.l0]
    rw [if_neg (by omega), e]
  | succ d ih =>
    intro i x3 hi hl ht
    have hlt : i < x0.length := by omega
    refine Ev.step (f := fun k => laws_toIntS.l0 k x0 (x3.set i x0[i]) ((i + 1 : Nat) : Int)) (fun k => ?_) (ih (i + 1) (x3.set i x0[i]) (by omega) (by simpa using hl) ?_)
    · simp only [laws_toIntS.l0]
      rw [if_pos (by omega), if_pos (by omega), if_pos (by omega), rd_get hlt, w64 (by omega) (by omega)]
      simp
    · rw [take_step (by simpa using (by omega : i < x3.length)), take_step hlt, List.take_set_of_le (Nat.le_refl _), ht]
      simp
theorem toIntS_ev (l : List Int) (hl : l.length ≤ 1048576) : Ev (fun k => laws_toIntS.f k l) l := by
  have h := toIntS_l l (by omega) l.length 0 (List.replicate l.length 0) (by omega) (by simp) (by simp)
  refine Ev.congr (fun k => ?_) h
  unfold laws_toIntS.f
  rw [if_pos (by omega), if_pos (by simp; omega)]
  simp
theorem eqIntS_l (x0 x1 : List Int) (hx : x0.length < 9223372036854775807) (hl : x0.length = x1.length) : ∀ (d i : Nat), i + d = x0.length → x0.take i = x1.take i → Ev (fun k => laws_eqIntS.l0 k x0 x1 (i : Int)) (decide (x0 = x1)) := by
  intro d
  induction d with
  | zero =>
    intro i hi ht
    have e : x0 = x1 := by
      have h1 : x0.take i = x0 := List.take_of_length_le (by omega)
      have h2 : x1.take i = x1 := List.take_of_length_le (by omega)
      rw [h1, h2] at ht
      exact ht
    refine Ev.step (f := fun _ => some (decide (x0 = x1))) (fun k => ?_) (Ev.now _)
    simp only [laws_eqIntS.l0]
    rw [if_neg (by omega), decide_eq_true e]
  | succ d ih =>
    intro i hi ht
    have hlt : i < x0.length := by omega
    have hlt1 : i < x1.length := by omega
    by_cases he : x0[i] = x1[i]
    · refine Ev.step (f := fun k => laws_eqIntS.l0 k x0 x1 ((i + 1 : Nat) : Int)) (fun k => ?_) (ih (i + 1) (by omega) ?_)
      · simp only [laws_eqIntS.l0]
        rw [if_pos (by omega), if_pos (by omega), if_pos (by omega), rd_get hlt, rd_get hlt1, if_pos he, w64 (by omega) (by omega)]
        simp
      · rw [take_step hlt, take_step hlt1, ht, he]
    · have hne : ¬ x0 = x1 := fun e => he (by subst e; rfl)
      refine Ev.step (f := fun _ => some (decide (x0 = x1))) (fun k => ?_) (Ev.now _)
      simp only [laws_eqIntS.l0]
      rw [if_pos (by omega), if_pos (by omega), if_pos (by omega), rd_get hlt, rd_get hlt1, if_neg he, decide_eq_false hne]
theorem eqIntS_ev (l m : List Int) (hl : l.length < 9223372036854775807) : Ev (fun k => laws_eqIntS.f k l m) (decide (l = m)) := by
  by_cases h : l.length = m.length
  · refine Ev.congr (fun k => ?_) (eqIntS_l l m hl h l.length 0 (by omega) (by simp))
    unfold laws_eqIntS.f
    rw [if_pos (by omega)]
    rfl
  · have hne : ¬ l = m := fun e => h (by rw [e])
    refine ev_eq (ev_const (a := some false) rfl |>.congr (fun k => ?_)) (decide_eq_false hne).symm
    unfold laws_eqIntS.f
    rw [if_neg (by omega)]
theorem rdL_get {l : List (List Int)} {i : Nat} (h : i < l.length) : rd_L1 l (i : Int) = l[i] := by simp [rd_L1, List.getD_eq_getElem?_getD, h]
theorem takeL_step {l : List (List Int)} {i : Nat} (h : i < l.length) : l.take (i + 1) = l.take i ++ [l[i]] := by
  rw [List.take_succ_eq_append_getElem h]
theorem toIntSS_l (x0 : List (List Int)) (hx : x0.length ≤ 1048576) (hr : ∀ r ∈ x0, r.length ≤ 1048576) : ∀ (d i : Nat) (x3 : List (List Int)), i + d = x0.length → x3.length = x0.length → x3.take i = x0.take i → Ev (fun k => laws_toIntSS.l0 k x0 x3 (i : Int)) x0 := by
  intro d
  induction d with
  | zero =>
    intro i x3 hi hl ht
    have e : x3 = x0 := by
      have h1 : x3.take i = x3 := List.take_of_length_le (by omega)
      have h2 : x0.take i = x0 := List.take_of_length_le (by omega)
      rw [h1, h2] at ht
      exact ht
    refine Ev.step (f := fun _ => some x0) (fun k => ?_) (Ev.now _)
    simp only [laws_toIntSS.l0]
    rw [if_neg (by omega), e]
  | succ d ih =>
    intro i x3 hi hl ht
    have hlt : i < x0.length := by omega
    have hnext := ih (i + 1) (x3.set i x0[i]) (by omega) (by simpa using hl) (by
      rw [takeL_step (by simpa using (by omega : i < x3.length)), takeL_step hlt, List.take_set_of_le (Nat.le_refl _), ht]
      simp)
    refine Ev.step (fun k => rfl) ?_
    simp only [laws_toIntSS.l0]
    refine Ev.congr (fun k => (if_pos (by omega)).trans (if_pos (by omega))) ?_
    rw [rdL_get hlt]
    refine Ev.bind (toIntS_ev x0[i] (hr _ (List.getElem_mem hlt))) ?_
    refine Ev.congr (fun k => (if_pos (by omega)).trans ?_) hnext
    rw [w64 (by omega) (by omega)]
    simp
theorem toIntSS_ev (l : List (List Int)) (hl : l.length ≤ 1048576) (hr : ∀ r ∈ l, r.length ≤ 1048576) : Ev (fun k => laws_toIntSS.f k l) l := by
  have h := toIntSS_l l hl hr l.length 0 (List.replicate l.length []) (by omega) (by simp) (by simp)
  refine Ev.congr (fun k => ?_) h
  unfold laws_toIntSS.f
  rw [if_pos (by omega), if_pos (by simp; omega)]
  simp
theorem eqIntSS_l (x0 x1 : List (List Int)) (hx : x0.length < 9223372036854775807) (hr : ∀ r ∈ x0, r.length < 9223372036854775807) (hl : x0.length = x1.length) : ∀ (d i : Nat), i + d = x0.length → x0.take i = x1.take i → Ev (fun k => laws_eqIntSS.l0 k x0 x1 (i : Int)) (decide (x0 = x1)) := by
  intro d
  induction d with
  | zero =>
    intro i hi ht
    have e : x0 = x1 := by
      have h1 : x0.take i = x0 := List.take_of_length_le (by omega)
      have h2 : x1.take i = x1 := List.take_of_length_le (by omega)
      rw [h1, h2] at ht
      exact ht
    refine Ev.step (f := fun _ => some (decide (x0 = x1))) (fun k => ?_) (Ev.now _)
    simp only [laws_eqIntSS.l0]
    rw [if_neg (by omega), decide_eq_true e]
  | succ d ih =>
    intro i hi ht
    have hlt : i < x0.length := by omega
    have hlt1 : i < x1.length := by omega
    refine Ev.step (fun k => rfl) ?_
    simp only [laws_eqIntSS.l0]
    refine Ev.congr (fun k => (if_pos (by omega)).trans ((if_pos (by omega)).trans (if_pos (by omega)))) ?_
    rw [rdL_get hlt, rdL_get hlt1]
    refine Ev.bind (eqIntS_ev x0[i] x1[i] (hr _ (List.getElem_mem hlt))) ?_
    by_cases he : x0[i] = x1[i]
    · refine Ev.congr (fun k => (if_pos (by simpa using he)).trans ?_) (ih (i + 1) (by omega) ?_)
      · rw [w64 (by omega) (by omega)]
        rfl
      · rw [takeL_step hlt, takeL_step hlt1, ht, he]
    · have hne : ¬ x0 = x1 := fun e => he (by subst e; rfl)
      rw [decide_eq_false hne]
      exact Ev.congr (fun k => if_neg (by simpa using he)) (Ev.now _)
theorem eqIntSS_ev (l m : List (List Int)) (hl : l.length < 9223372036854775807) (hr : ∀ r ∈ l, r.length < 9223372036854775807) : Ev (fun k => laws_eqIntSS.f k l m) (decide (l = m)) := by
  by_cases h : l.length = m.length
  · refine Ev.congr (fun k => ?_) (eqIntSS_l l m hl hr h l.length 0 (by omega) (by simp))
    unfold laws_eqIntSS.f
    rw [if_pos (by omega)]
    rfl
  · have hne : ¬ l = m := fun e => h (by rw [e])
    refine ev_eq (ev_const (a := some false) rfl |>.congr (fun k => ?_)) (decide_eq_false hne).symm
    unfold laws_eqIntSS.f
    rw [if_neg (by omega)]
theorem l01In_eq (a b c : Int) : spec_l01In.f a b c = some (decide (b ≤ a ∧ a ≤ c)) := by
  unfold spec_l01In.f
  by_cases h : a ≥ b
  · rw [if_pos h]; simp [h]
  · rw [if_neg h]; simp [h]
theorem within_eq (a b c : Int) : impl_within.f a b c = some (decide (b ≤ a ∧ a ≤ c)) := l01In_eq a b c
end Go.Proofs.Ytebjpafnfmmjeaa.PA
/- stores -/
namespace Go.Proofs.Ytebjpafnfmmjeaa.PA
open Go.RowKit Go.Proofs.YtebjpafnfmmjeaaW.PrintWords Go.Proofs.YtebjpafnfmmjeaaW.PrintLast Go.Proofs.YtebjpafnfmmjeaaW.PrintMore
set_option linter.unusedVariables false
set_option linter.unusedSimpArgs false
theorem isRemnant_eq (a b : Int) : impl_isRemnant.f a b = some (decide (1 ≤ a ∧ a ≤ 100 ∧ 1 ≤ b ∧ b ≤ 100)) := by
  unfold impl_isRemnant.f
  rw [within_eq]
  simp only [Option.bind_some]
  by_cases c : 1 ≤ a ∧ a ≤ 100
  · rw [if_pos (by simpa using c), within_eq]
    simp only [Option.bind_some]
    congr 1
    rw [decide_eq_decide]
    omega
  · rw [if_neg (by simpa using c)]
    congr 1
    exact (decide_eq_false (fun z => c ⟨z.1, z.2.1⟩)).symm
structure RowOk (r : List Int) : Prop where
  len : r.length = 2
  w1 : 1 ≤ rd r 0
  w2 : rd r 0 ≤ 100
  h1 : 1 ≤ rd r 1
  h2 : rd r 1 ≤ 100
theorem badRow_false {r : List Int} : badRow r = false ↔ RowOk r := by
  unfold badRow
  rw [Bool.not_eq_false', decide_eq_true_iff]
  exact ⟨fun ⟨a, b, c, d, e⟩ => ⟨a, b, c, d, e⟩, fun ⟨a, b, c, d, e⟩ => ⟨a, b, c, d, e⟩⟩
theorem storeOk_iff {l : List (List Int)} : storeOk l = true ↔ l.length ≤ 20 ∧ ∀ r ∈ l, RowOk r := by
  unfold storeOk
  rw [Bool.and_eq_true, decide_eq_true_iff, Bool.not_eq_true', List.any_eq_false]
  constructor
  · rintro ⟨a, b⟩
    exact ⟨a, fun r hr => badRow_false.1 (by simpa using b r hr)⟩
  · rintro ⟨a, b⟩
    exact ⟨a, fun r hr => by simpa using badRow_false.2 (b r hr)⟩
theorem spec_StoreOk_l (l : List (List Int)) (hl : l.length ≤ 20) : ∀ (d i : Nat), i + d = l.length → Ev (fun k => spec_StoreOk.l0 k l (l.length : Int) (i : Int)) (!((l.drop i).any badRow)) := by
  intro d
  induction d with
  | zero =>
    intro i hi
    refine Ev.step (f := fun _ => some (!((l.drop i).any badRow))) (fun k => ?_) (Ev.now _)
    simp only [spec_StoreOk.l0]
    rw [if_neg (by omega), List.drop_of_length_le (by omega)]
    rfl
  | succ d ih =>
    intro i hi
    have hlt : i < l.length := by omega
    have hd : (l.drop i).any badRow = (badRow l[i] || (l.drop (i + 1)).any badRow) := by rw [List.drop_eq_getElem_cons hlt, List.any_cons]
    rw [hd]
    cases c : badRow l[i] with
    | false =>
      rw [Bool.false_or]
      refine Ev.step (f := fun k => spec_StoreOk.l0 k l (l.length : Int) ((i + 1 : Nat) : Int)) (fun k => ?_) (ih (i + 1) (by omega))
      obtain ⟨c1, c2, c3, c4, c5⟩ := badRow_false.1 c
      simp only [spec_StoreOk.l0, l01In_eq, Option.bind_some]
      rw [if_pos (by omega), if_pos (by omega), if_pos (by omega), rdL_get hlt, if_pos (by omega), if_pos (by omega), if_pos (by simpa using ⟨c2, c3⟩), if_pos (by omega), if_pos (by simpa using ⟨c4, c5⟩), w64 (by omega) (by omega)]
      rfl
    | true =>
      rw [Bool.true_or]
      refine Ev.step (f := fun k => some false) (fun k => ?_) (Ev.now _)
      have hc : ¬ RowOk l[i] := fun z => by rw [badRow_false.2 z] at c; cases c
      simp only [spec_StoreOk.l0, l01In_eq, Option.bind_some]
      rw [if_pos (by omega), if_pos (by omega), if_pos (by omega), rdL_get hlt]
      by_cases e1 : l[i].length = 2
      · rw [if_pos (by omega), if_pos (by omega)]
        by_cases e2 : 1 ≤ rd l[i] 0 ∧ rd l[i] 0 ≤ 100
        · rw [if_pos (by simpa using e2), if_pos (by omega)]
          by_cases e3 : 1 ≤ rd l[i] 1 ∧ rd l[i] 1 ≤ 100
          · exact absurd ⟨e1, e2.1, e2.2, e3.1, e3.2⟩ hc
          · rw [if_neg (by simpa using e3)]
        · rw [if_neg (by simpa using e2)]
      · rw [if_neg (by omega)]
theorem spec_StoreOk_ev (l : List (List Int)) : Ev (fun k => spec_StoreOk.f k l) (storeOk l) := by
  unfold spec_StoreOk.f
  by_cases c : l.length ≤ 20
  · refine Ev.congr (fun k => if_neg (by omega)) (ev_eq (spec_StoreOk_l l c l.length 0 (by omega)) ?_)
    unfold storeOk
    rw [decide_eq_true c]
    rfl
  · refine ev_eq (Ev.congr (fun k => if_pos (by omega)) (Ev.now false)) ?_
    unfold storeOk
    rw [decide_eq_false c]
    rfl
theorem impl_StoreOk_ev (l : List (List Int)) : Ev (fun _ => impl_StoreOk.f l) (storeOk l) := ev_const rfl
def rowArea (r : List Int) : Int := rd r 0 * rd r 1
theorem rowArea_bd {r : List Int} (h : RowOk r) : 1 ≤ rowArea r ∧ rowArea r ≤ 10000 := by
  obtain ⟨_, a, b, c, d⟩ := h
  have p1 : 1 * 1 ≤ rd r 0 * rd r 1 := Int.mul_le_mul a c (by omega) (by omega)
  have p2 : rd r 0 * rd r 1 ≤ 100 * 100 := Int.mul_le_mul b d (by omega) (by omega)
  unfold rowArea
  omega
def pick (l : List (List Int)) (w h best : Int) (i : Nat) : Int :=
  if rd (l.getD i []) 0 ≥ w ∧ rd (l.getD i []) 1 ≥ h ∧ (best < 0 ∨ rowArea (l.getD i []) < rowArea (l.getD best.toNat [])) then (i : Int) else best
def smallL (l : List (List Int)) (w h : Int) : Nat → Nat → Int → Int
  | 0, _, best => best
  | d + 1, i, best => smallL l w h d (i + 1) (pick l w h best i)
def smallest (l : List (List Int)) (w h : Int) : Int :=
  if storeOk l = true ∧ (1 ≤ w ∧ w ≤ 100 ∧ 1 ≤ h ∧ h ≤ 100) then smallL l w h l.length 0 (-1) else -1
theorem getD_get {l : List (List Int)} {i : Nat} (h : i < l.length) : l.getD i [] = l[i] := by simp [List.getD_eq_getElem?_getD, h]
theorem spec_small_l (l : List (List Int)) (w h : Int) (hl : l.length ≤ 20) (hr : ∀ r ∈ l, RowOk r) : ∀ (d i : Nat) (best : Int), i + d = l.length → -1 ≤ best → best < i →
    Ev (fun k => spec_SmallestFor.l0 k l w h best l (l.length : Int) (i : Int)) (smallL l w h d i best) := by
  intro d
  induction d with
  | zero =>
    intro i best hi h0 h1
    refine Ev.step (f := fun _ => some best) (fun k => ?_) (Ev.now _)
    simp only [spec_SmallestFor.l0]
    rw [if_neg (by omega)]
  | succ d ih =>
    intro i best hi h0 h1
    have hlt : i < l.length := by omega
    have hrow := hr l[i] (List.getElem_mem hlt)
    have ha := rowArea_bd hrow
    unfold rowArea at ha
    simp only [smallL]
    have hp : -1 ≤ pick l w h best i ∧ pick l w h best i < ((i + 1 : Nat) : Int) := by unfold pick; split <;> omega
    refine Ev.step (f := fun k => spec_SmallestFor.l0 k l w h (pick l w h best i) l (l.length : Int) ((i + 1 : Nat) : Int)) (fun k => ?_) (ih (i + 1) (pick l w h best i) (by omega) hp.1 hp.2)
    simp only [spec_SmallestFor.l0]
    unfold pick
    rw [getD_get hlt, if_pos (by omega), if_pos (by omega), if_pos (by omega), rdL_get hlt, w64 (x := (i : Int) + 1) (by omega) (by omega), show ((i : Int) + 1) = ((i + 1 : Nat) : Int) by omega]
    rw [if_pos (by have := hrow.len; omega)]
    by_cases c1 : rd l[i] 0 ≥ w
    · rw [if_pos c1, if_pos (by have := hrow.len; omega)]
      by_cases c2 : rd l[i] 1 ≥ h
      · rw [if_pos c2]
        by_cases c3 : best < 0
        · rw [if_pos c3, if_pos ⟨c1, c2, .inl c3⟩]
        · obtain ⟨b, rfl⟩ := Int.eq_ofNat_of_zero_le (a := best) (by omega)
          have hb : b < l.length := by omega
          have hrow2 := hr l[b] (List.getElem_mem hb)
          have ha2 := rowArea_bd hrow2
          unfold rowArea at ha2
          rw [if_neg c3, if_pos (by omega), if_pos (by omega), rdL_get hb, if_pos (by have := hrow2.len; omega), if_pos (by have := hrow2.len; omega), w64 (x := rd l[i] 0 * rd l[i] 1) (by omega) (by omega), w64 (x := rd l[b] 0 * rd l[b] 1) (by omega) (by omega)]
          rw [Int.toNat_natCast, getD_get hb]
          by_cases c4 : rd l[i] 0 * rd l[i] 1 < rd l[b] 0 * rd l[b] 1
          · rw [if_pos c4, if_pos ⟨c1, c2, .inr c4⟩]
          · rw [if_neg c4, if_neg (fun z => z.2.2.elim c3 c4)]
      · rw [if_neg c2, if_neg (fun z => c2 z.2.1)]
    · rw [if_neg c1, if_neg (fun z => c1 z.1)]
theorem impl_small_l (l : List (List Int)) (w h : Int) (hl : l.length ≤ 20) (hr : ∀ r ∈ l, RowOk r) : ∀ (d i : Nat) (best : Int), i + d = l.length → -1 ≤ best → best < i →
    Ev (fun k => impl_SmallestFor.l0 k l w h best l (l.length : Int) (i : Int)) (smallL l w h d i best) := by
  intro d
  induction d with
  | zero =>
    intro i best hi h0 h1
    refine Ev.step (f := fun _ => some best) (fun k => ?_) (Ev.now _)
    simp only [impl_SmallestFor.l0]
    rw [if_neg (by omega)]
  | succ d ih =>
    intro i best hi h0 h1
    have hlt : i < l.length := by omega
    have hrow := hr l[i] (List.getElem_mem hlt)
    have ha := rowArea_bd hrow
    unfold rowArea at ha
    simp only [smallL]
    have hp : -1 ≤ pick l w h best i ∧ pick l w h best i < ((i + 1 : Nat) : Int) := by unfold pick; split <;> omega
    refine Ev.step (f := fun k => impl_SmallestFor.l0 k l w h (pick l w h best i) l (l.length : Int) ((i + 1 : Nat) : Int)) (fun k => ?_) (ih (i + 1) (pick l w h best i) (by omega) hp.1 hp.2)
    simp only [impl_SmallestFor.l0]
    unfold pick
    rw [getD_get hlt, if_pos (by omega), if_pos (by omega), if_pos (by omega), rdL_get hlt, w64 (x := (i : Int) + 1) (by omega) (by omega), show ((i : Int) + 1) = ((i + 1 : Nat) : Int) by omega]
    rw [if_pos (by have := hrow.len; omega)]
    by_cases c1 : rd l[i] 0 ≥ w
    · rw [if_pos c1, if_pos (by have := hrow.len; omega)]
      by_cases c2 : rd l[i] 1 ≥ h
      · rw [if_pos c2]
        by_cases c3 : best < 0
        · rw [if_pos c3, if_pos ⟨c1, c2, .inl c3⟩]
        · obtain ⟨b, rfl⟩ := Int.eq_ofNat_of_zero_le (a := best) (by omega)
          have hb : b < l.length := by omega
          have hrow2 := hr l[b] (List.getElem_mem hb)
          have ha2 := rowArea_bd hrow2
          unfold rowArea at ha2
          rw [if_neg c3, if_pos (by omega), if_pos (by omega), rdL_get hb, if_pos (by have := hrow2.len; omega), if_pos (by have := hrow2.len; omega), w64 (x := rd l[i] 0 * rd l[i] 1) (by omega) (by omega), w64 (x := rd l[b] 0 * rd l[b] 1) (by omega) (by omega)]
          rw [Int.toNat_natCast, getD_get hb]
          by_cases c4 : rd l[i] 0 * rd l[i] 1 < rd l[b] 0 * rd l[b] 1
          · rw [if_pos c4, if_pos ⟨c1, c2, .inr c4⟩]
          · rw [if_neg c4, if_neg (fun z => z.2.2.elim c3 c4)]
      · rw [if_neg c2, if_neg (fun z => c2 z.2.1)]
    · rw [if_neg c1, if_neg (fun z => c1 z.1)]
theorem spec_small_ev (l : List (List Int)) (w h : Int) : Ev (fun k => spec_SmallestFor.f k l w h) (smallest l w h) := by
  unfold spec_SmallestFor.f smallest
  refine Ev.bind (spec_StoreOk_ev l) ?_
  have no : ∀ c : Prop, [Decidable c] → ¬ c → Ev (fun k => spec_SmallestFor.j0 k l w h true) (if c then smallL l w h l.length 0 (-1) else -1) := by
    intro c _ hc
    rw [if_neg hc]
    refine Ev.step (f := fun _ => some (-1)) (fun k => ?_) (Ev.now _)
    simp only [spec_SmallestFor.j0]
    rw [if_pos trivial]
  by_cases c0 : storeOk l = true
  · refine Ev.congr (fun k => if_pos c0) ?_
    refine Ev.bind (ev_const (l01In_eq w 1 100)) ?_
    by_cases c1 : 1 ≤ w ∧ w ≤ 100
    · refine Ev.congr (fun k => if_pos (by simpa using c1)) ?_
      refine Ev.bind (ev_const (l01In_eq h 1 100)) ?_
      by_cases c2 : 1 ≤ h ∧ h ≤ 100
      · rw [if_pos ⟨c0, c1.1, c1.2, c2.1, c2.2⟩, decide_eq_true c2]
        obtain ⟨h1, h2⟩ := storeOk_iff.1 c0
        refine Ev.step (f := fun k => spec_SmallestFor.l0 k l w h (-1) l (l.length : Int) ((0 : Nat) : Int)) (fun k => ?_) (spec_small_l l w h h1 h2 l.length 0 (-1) (by omega) (by omega) (by omega))
        simp only [spec_SmallestFor.j0]
        rw [if_neg (by simp)]
        rfl
      · rw [decide_eq_false c2]
        exact no _ (fun z => c2 z.2.2.2)
    · exact Ev.congr (fun k => if_neg (by simpa using c1)) (no _ (fun z => c1 ⟨z.2.1, z.2.2.1⟩))
  · exact Ev.congr (fun k => if_neg c0) (no _ (fun z => c0 z.1))
theorem impl_small_ev (l : List (List Int)) (w h : Int) : Ev (fun k => impl_SmallestFor.f k l w h) (smallest l w h) := by
  unfold impl_SmallestFor.f smallest
  refine Ev.bind (impl_StoreOk_ev l) ?_
  have no : ∀ c : Prop, [Decidable c] → ¬ c → Ev (fun k => impl_SmallestFor.j0 k l w h true) (if c then smallL l w h l.length 0 (-1) else -1) := by
    intro c _ hc
    rw [if_neg hc]
    refine Ev.step (f := fun _ => some (-1)) (fun k => ?_) (Ev.now _)
    simp only [impl_SmallestFor.j0]
    rw [if_pos trivial]
  by_cases c0 : storeOk l = true
  · refine Ev.congr (fun k => if_pos c0) ?_
    refine Ev.bind (ev_const (isRemnant_eq w h)) ?_
    by_cases c1 : 1 ≤ w ∧ w ≤ 100 ∧ 1 ≤ h ∧ h ≤ 100
    · rw [if_pos ⟨c0, c1⟩, decide_eq_true c1]
      obtain ⟨h1, h2⟩ := storeOk_iff.1 c0
      refine Ev.step (f := fun k => impl_SmallestFor.l0 k l w h (-1) l (l.length : Int) ((0 : Nat) : Int)) (fun k => ?_) (impl_small_l l w h h1 h2 l.length 0 (-1) (by omega) (by omega) (by omega))
      simp only [impl_SmallestFor.j0]
      rw [if_neg (by simp)]
      rfl
    · rw [decide_eq_false c1]
      exact no _ (fun z => c1 z.2)
  · exact Ev.congr (fun k => if_neg c0) (no _ (fun z => c0 z.1))
end Go.Proofs.Ytebjpafnfmmjeaa.PA
/- total lengths -/
namespace Go.Proofs.Ytebjpafnfmmjeaa.PA
open Go.RowKit Go.Proofs.YtebjpafnfmmjeaaW.PrintWords Go.Proofs.YtebjpafnfmmjeaaW.PrintLast Go.Proofs.YtebjpafnfmmjeaaW.PrintMore
set_option linter.unusedVariables false
set_option linter.unusedSimpArgs false
def totlen : List (List Int) → Nat
  | [] => 0
  | r :: l => r.length + totlen l
theorem mem_totlen {l : List (List Int)} {r : List Int} (h : r ∈ l) : r.length ≤ totlen l := by
  induction l with
  | nil => cases h
  | cons x l ih =>
    simp only [totlen]
    rcases List.mem_cons.1 h with rfl | h
    · omega
    · have := ih h
      omega
theorem totlen_le (B : Nat) : ∀ (l : List (List Int)), (∀ r ∈ l, r.length ≤ B) → totlen l ≤ l.length * B := by
  intro l
  induction l with
  | nil => intro _; simp [totlen]
  | cons x l ih =>
    intro h
    have h1 := ih (fun r hr => h r (List.mem_cons_of_mem _ hr))
    have h2 := h x List.mem_cons_self
    simp only [totlen, List.length_cons, Nat.succ_mul]
    omega
theorem szTot_l (l : List (List Int)) (hl : l.length ≤ 1048576) (hr : ∀ r ∈ l, r.length ≤ 9223372036854775807) : ∀ (d i : Nat) (x : Int), i + d = l.length → 0 ≤ x → x ≤ 1048576 →
    ∃ r : Int, Ev (fun k => laws_szIntSS.l0 k l x (i : Int)) r ∧ (r < 0 ∨ (0 ≤ r ∧ r + totlen (l.drop i) ≤ x)) := by
  intro d
  induction d with
  | zero =>
    intro i x hi h0 h1
    refine ⟨x, Ev.step (f := fun _ => some x) (fun k => ?_) (Ev.now _), .inr ⟨h0, ?_⟩⟩
    · simp only [laws_szIntSS.l0]
      rw [if_neg (by omega)]
    · rw [List.drop_of_length_le (by omega)]
      simp [totlen]
  | succ d ih =>
    intro i x hi h0 h1
    have hlt : i < l.length := by omega
    have hrow := hr l[i] (List.getElem_mem hlt)
    by_cases c : x - (l[i].length : Int) < 0
    · refine ⟨-1, Ev.step (f := fun _ => some (-1)) (fun k => ?_) (Ev.now _), .inl (by omega)⟩
      simp only [laws_szIntSS.l0]
      rw [if_pos (by omega), if_pos (by omega), rdL_get hlt]
      unfold laws_szIntS.f
      rw [w64 (by omega) (by omega), if_pos c]
      rfl
    · obtain ⟨r, he, hd⟩ := ih (i + 1) (x - (l[i].length : Int)) (by omega) (by omega) (by omega)
      refine ⟨r, Ev.step (f := fun k => laws_szIntSS.l0 k l (x - (l[i].length : Int)) ((i + 1 : Nat) : Int)) (fun k => ?_) he, ?_⟩
      · simp only [laws_szIntSS.l0]
        rw [if_pos (by omega), if_pos (by omega), rdL_get hlt]
        unfold laws_szIntS.f
        rw [w64 (x := x - (l[i].length : Int)) (by omega) (by omega), if_neg c]
        simp only [Option.bind_some]
        rw [if_neg c, w64 (by omega) (by omega)]
        rfl
      · rcases hd with hd | ⟨hd, h3⟩
        · exact .inl hd
        · refine .inr ⟨hd, ?_⟩
          rw [List.drop_eq_getElem_cons hlt]
          simp only [totlen]
          omega
theorem szTot_ev (l : List (List Int)) (x : Int) (h0 : 0 ≤ x) (h1 : x ≤ 1048576) (hl : l.length ≤ 9223372036854775807) (hr : ∀ r ∈ l, r.length ≤ 9223372036854775807) :
    ∃ r : Int, Ev (fun k => laws_szIntSS.f k l x) r ∧ (r < 0 ∨ (0 ≤ r ∧ r + l.length + totlen l ≤ x)) := by
  by_cases c : x - (l.length : Int) < 0
  · refine ⟨-1, (Ev.now (-1)).congr (fun k => ?_), .inl (by omega)⟩
    unfold laws_szIntSS.f
    rw [w64 (by omega) (by omega), if_pos c]
  · obtain ⟨r, he, hd⟩ := szTot_l l (by omega) hr l.length 0 (x - (l.length : Int)) (by omega) (by omega) (by omega)
    refine ⟨r, he.congr (fun k => ?_), ?_⟩
    · unfold laws_szIntSS.f
      rw [w64 (by omega) (by omega), if_neg c]
      rfl
    · rcases hd with hd | ⟨hd, h3⟩
      · exact .inl hd
      · exact .inr ⟨hd, by rw [List.drop_zero] at h3; omega⟩
end Go.Proofs.Ytebjpafnfmmjeaa.PA
/- one more remnant -/
namespace Go.Proofs.Ytebjpafnfmmjeaa.PA
open Go.RowKit Go.Proofs.YtebjpafnfmmjeaaW.PrintWords Go.Proofs.YtebjpafnfmmjeaaW.PrintLast Go.Proofs.YtebjpafnfmmjeaaW.PrintMore
set_option linter.unusedVariables false
set_option linter.unusedSimpArgs false
theorem copyLists_l (l : List (List Int)) (hl : l.length ≤ 1048576) (hr : ∀ r ∈ l, r.length ≤ 1048576) : ∀ (m i : Nat) (acc : List (List Int)), i + m = l.length → acc = l.take i →
    Ev (fun k => impl_copyLists.l0 k acc l (l.length : Int) (i : Int)) l := by
  intro m
  induction m with
  | zero =>
    intro i acc hi ha
    refine Ev.step (f := fun _ => some l) (fun k => ?_) (Ev.now _)
    simp only [impl_copyLists.l0]
    rw [if_neg (by omega), ha, List.take_of_length_le (by omega)]
  | succ m ih =>
    intro i acc hi ha
    have hlt : i < l.length := by omega
    have hx := hr l[i] (List.getElem_mem hlt)
    have hacc : acc.length ≤ i := by rw [ha, List.length_take]; omega
    refine Ev.step (f := fun k => impl_copyLists.l0 k (acc ++ [l[i]]) l (l.length : Int) ((i + 1 : Nat) : Int)) (fun k => ?_) (ih (i + 1) (acc ++ [l[i]]) (by omega) (by rw [takeL_step hlt, ha]))
    simp only [impl_copyLists.l0, Option.bind_some]
    rw [if_pos (by omega), if_pos (by omega), if_pos (by omega), rdL_get hlt, if_pos (by simp; omega), if_pos (by omega), w64 (by omega) (by omega)]
    simp
theorem copyLists_ev (l : List (List Int)) (hl : l.length ≤ 1048576) (hr : ∀ r ∈ l, r.length ≤ 1048576) : Ev (fun k => impl_copyLists.f k l) l :=
  copyLists_l l hl hr l.length 0 [] (by omega) (by simp)
theorem two_of {r : List Int} (h : r.length = 2) : [rd r 0, rd r 1] = r := by
  match r, h with
  | [x, y], _ => rfl
def skipFrom (a : Int) : Nat → List (List Int) → List (List Int)
  | _, [] => []
  | i, x :: xs => if (i : Int) = a then skipFrom a (i + 1) xs else x :: skipFrom a (i + 1) xs
theorem skip_neg (l : List (List Int)) : ∀ i, skipFrom (-1) i l = l := by
  induction l with
  | nil => intro i; rfl
  | cons x xs ih => intro i; rw [skipFrom, if_neg (by omega), ih]
theorem skip_past (l : List (List Int)) (a : Int) : ∀ (i : Nat), a < i → skipFrom a i l = l := by
  induction l with
  | nil => intro i _; rfl
  | cons x xs ih => intro i h; rw [skipFrom, if_neg (by omega), ih _ (by omega)]
theorem skip_erase (l : List (List Int)) : ∀ (i j : Nat), skipFrom ((i + j : Nat) : Int) i l = l.eraseIdx j := by
  induction l with
  | nil => intro i j; simp [skipFrom]
  | cons x xs ih =>
    intro i j
    cases j with
    | zero => rw [skipFrom, if_pos (by omega), skip_past _ _ _ (by omega)]; rfl
    | succ j => rw [skipFrom, if_neg (by omega), show i + (j + 1) = (i + 1) + j by omega, ih]; rfl
theorem spec_copy_l (a : Int) (l : List (List Int)) (hl : l.length ≤ 20) (hr : ∀ r ∈ l, r.length = 2) : ∀ (m i : Nat) (acc : List (List Int)), i + m = l.length → acc.length ≤ i →
    Ev (fun k => spec_l21Copy.l0 k a acc l (l.length : Int) (i : Int)) (acc ++ skipFrom a i (l.drop i)) := by
  intro m
  induction m with
  | zero =>
    intro i acc hi ha
    refine Ev.step (f := fun _ => some acc) (fun k => ?_) (ev_eq (Ev.now _) (by rw [List.drop_of_length_le (by omega)]; simp [skipFrom]))
    simp only [spec_l21Copy.l0]
    rw [if_neg (by omega)]
  | succ m ih =>
    intro i acc hi ha
    have hlt : i < l.length := by omega
    have hx := hr l[i] (List.getElem_mem hlt)
    rw [List.drop_eq_getElem_cons hlt, skipFrom]
    by_cases c : (i : Int) = a
    · rw [if_pos c]
      refine Ev.step (f := fun k => spec_l21Copy.l0 k a acc l (l.length : Int) ((i + 1 : Nat) : Int)) (fun k => ?_) (ih (i + 1) acc (by omega) (by omega))
      simp only [spec_l21Copy.l0]
      rw [if_pos (by omega), if_pos (by omega), if_pos (by omega), if_pos c, w64 (by omega) (by omega)]
      simp
    · rw [if_neg c]
      refine Ev.step (f := fun k => spec_l21Copy.l0 k a (acc ++ [l[i]]) l (l.length : Int) ((i + 1 : Nat) : Int)) (fun k => ?_) (ev_eq (ih (i + 1) (acc ++ [l[i]]) (by omega) (by simp; omega)) (by simp))
      simp only [spec_l21Copy.l0]
      rw [if_pos (by omega), if_pos (by omega), if_pos (by omega), if_neg c, rdL_get hlt, if_pos (by omega), if_pos (by omega), if_pos (by omega), two_of hx, w64 (by omega) (by omega)]
      simp
theorem spec_copy_ev (a : Int) (l : List (List Int)) (hl : l.length ≤ 20) (hr : ∀ r ∈ l, r.length = 2) : Ev (fun k => spec_l21Copy.f k l a) (skipFrom a 0 l) :=
  ev_eq (spec_copy_l a l hl hr l.length 0 [] (by omega) (by simp)) (by simp)
theorem store_bd {l : List (List Int)} (h : storeOk l = true) : l.length ≤ 20 ∧ (∀ r ∈ l, r.length ≤ 1048576) ∧ totlen l ≤ 40 := by
  obtain ⟨h1, h2⟩ := storeOk_iff.1 h
  have h3 : ∀ r ∈ l, r.length ≤ 2 := fun r hr => by have := (h2 r hr).len; omega
  have h4 := totlen_le 2 _ h3
  exact ⟨h1, fun r hr => by have := h3 r hr; omega, by omega⟩
end Go.Proofs.Ytebjpafnfmmjeaa.PA
/- one piece -/
namespace Go.Proofs.Ytebjpafnfmmjeaa.PA
open Go.RowKit Go.Proofs.YtebjpafnfmmjeaaW.PrintWords Go.Proofs.YtebjpafnfmmjeaaW.PrintLast Go.Proofs.YtebjpafnfmmjeaaW.PrintMore
set_option linter.unusedVariables false
set_option linter.unusedSimpArgs false
structure Fits (l : List (List Int)) (w h i : Int) : Prop where
  lo : 0 ≤ i
  hi : i < (l.length : Int)
  w : w ≤ rd (l.getD i.toNat []) 0
  h : h ≤ rd (l.getD i.toNat []) 1
theorem pick_fits {l : List (List Int)} {w h best : Int} {i : Nat} (hi : i < l.length) (hb : best = -1 ∨ Fits l w h best) : pick l w h best i = -1 ∨ Fits l w h (pick l w h best i) := by
  unfold pick
  split
  · rename_i hc
    exact .inr ⟨by omega, by omega, by rw [Int.toNat_natCast]; exact hc.1, by rw [Int.toNat_natCast]; exact hc.2.1⟩
  · exact hb
theorem smallL_fits (l : List (List Int)) (w h : Int) : ∀ (d i : Nat) (best : Int), i + d = l.length → (best = -1 ∨ Fits l w h best) → smallL l w h d i best = -1 ∨ Fits l w h (smallL l w h d i best) := by
  intro d
  induction d with
  | zero => intro i best _ hb; exact hb
  | succ d ih =>
    intro i best hi hb
    simp only [smallL]
    exact ih (i + 1) _ (by omega) (pick_fits (by omega) hb)
structure Small (l : List (List Int)) (w h i : Int) : Prop where
  ok : storeOk l = true
  w1 : 1 ≤ w
  w2 : w ≤ 100
  h1 : 1 ≤ h
  h2 : h ≤ 100
  fits : Fits l w h i
theorem smallest_small {l : List (List Int)} {w h : Int} (hs : ¬ smallest l w h < 0) : Small l w h (smallest l w h) := by
  unfold smallest at hs ⊢
  by_cases c : storeOk l = true ∧ (1 ≤ w ∧ w ≤ 100 ∧ 1 ≤ h ∧ h ≤ 100)
  · rw [if_pos c] at hs ⊢
    rcases smallL_fits l w h l.length 0 (-1) (by omega) (.inl rfl) with e | e
    · rw [e] at hs; omega
    · exact ⟨c.1, c.2.1, c.2.2.1, c.2.2.2.1, c.2.2.2.2, e⟩
  · rw [if_neg c] at hs
    omega
/-- What is left of the store, with the index and whether there was room. -/
def finPiece (i : Int) (R : List (List Int)) : List (List Int) × Int × Bool := if storeOk R = true then (R, i, true) else ([], -1, false)
def takePiece (l : List (List Int)) (w h : Int) : List (List Int) × Int × Bool :=
  if smallest l w h < 0 then ([], -1, false) else finPiece (smallest l w h) (l.eraseIdx (smallest l w h).toNat ++ (pieces (rd_L1 l (smallest l w h)) w h).filter pieceGood)
structure PieceOk (p : List Int) : Prop where
  len : p.length = 2
  a1 : 0 ≤ rd p 0
  a2 : rd p 0 ≤ 100
  b1 : 0 ≤ rd p 1
  b2 : rd p 1 ≤ 100
theorem pieceArea_eq {p : List Int} (h : PieceOk p) : pieceArea p = rd p 0 * rd p 1 := by
  have p2 : rd p 0 * rd p 1 ≤ 100 * 100 := Int.mul_le_mul h.a2 h.b2 h.b1 (by omega)
  have p1 := Int.mul_nonneg h.a1 h.b1
  unfold pieceArea
  exact w64 (by omega) (by omega)
theorem pieceGood_iff {p : List Int} (h : PieceOk p) : pieceGood p = true ↔ rd p 0 > 0 ∧ rd p 1 > 0 := by
  unfold pieceGood
  rw [decide_eq_true_iff, pieceArea_eq h]
  constructor
  · intro hp
    have h1 := h.a1
    have h2 := h.b1
    refine ⟨?_, ?_⟩
    · rcases Int.lt_or_eq_of_le h1 with c | c
      · exact c
      · rw [← c, Int.zero_mul] at hp; omega
    · rcases Int.lt_or_eq_of_le h2 with c | c
      · exact c
      · rw [← c, Int.mul_zero] at hp; omega
  · rintro ⟨h1, h2⟩
    exact Int.mul_pos h1 h2
theorem small_row {l : List (List Int)} {w h i : Int} (s : Small l w h i) : ∃ n : Nat, i = (n : Int) ∧ n < l.length ∧ l.length ≤ 20 ∧ rd_L1 l i = l.getD n [] ∧ RowOk (rd_L1 l i) ∧ w ≤ rd (rd_L1 l i) 0 ∧ h ≤ rd (rd_L1 l i) 1 := by
  obtain ⟨h1, h2⟩ := storeOk_iff.1 s.ok
  have f := s.fits
  obtain ⟨n, rfl⟩ := Int.eq_ofNat_of_zero_le f.lo
  have hn : n < l.length := by have := f.hi; omega
  have e : rd_L1 l (n : Int) = l[n] := rdL_get hn
  have e2 : l.getD n [] = l[n] := getD_get hn
  have fw := f.w
  have fh := f.h
  rw [Int.toNat_natCast, e2] at fw fh
  exact ⟨n, rfl, hn, h1, by rw [e, e2], by rw [e]; exact h2 _ (List.getElem_mem hn), by rw [e]; exact fw, by rw [e]; exact fh⟩
theorem piecesA_ok {r : List Int} {w h : Int} (hr : RowOk r) (w1 : 1 ≤ w) (w2 : w ≤ rd r 0) (h1 : 1 ≤ h) (h2 : h ≤ rd r 1) : piecesA r w h = [[rd r 0 - w, h], [rd r 0, rd r 1 - h]] := by
  have a := hr.w2
  have b := hr.h2
  unfold piecesA
  rw [w64 (by omega) (by omega), w64 (by omega) (by omega)]
theorem piecesB_ok {r : List Int} {w h : Int} (hr : RowOk r) (w1 : 1 ≤ w) (w2 : w ≤ rd r 0) (h1 : 1 ≤ h) (h2 : h ≤ rd r 1) : piecesB r w h = [[rd r 0 - w, rd r 1], [w, rd r 1 - h]] := by
  have a := hr.w2
  have b := hr.h2
  unfold piecesB
  rw [w64 (by omega) (by omega), w64 (by omega) (by omega)]
theorem pieces_ok {r : List Int} {w h : Int} (hr : RowOk r) (w1 : 1 ≤ w) (w2 : w ≤ rd r 0) (h1 : 1 ≤ h) (h2 : h ≤ rd r 1) : (∀ p ∈ pieces r w h, PieceOk p) ∧ (pieces r w h).length = 2 := by
  have a := hr.w2
  have b := hr.h2
  have two : ∀ x1 y1 x2 y2 : Int, 0 ≤ x1 ∧ x1 ≤ 100 → 0 ≤ y1 ∧ y1 ≤ 100 → 0 ≤ x2 ∧ x2 ≤ 100 → 0 ≤ y2 ∧ y2 ≤ 100 → (∀ p ∈ ([[x1, y1], [x2, y2]] : List (List Int)), PieceOk p) ∧ ([[x1, y1], [x2, y2]] : List (List Int)).length = 2 := by
    intro x1 y1 x2 y2 e1 e2 e3 e4
    refine ⟨fun p hp => ?_, rfl⟩
    rcases List.mem_cons.1 hp with rfl | hp
    · exact ⟨rfl, e1.1, e1.2, e2.1, e2.2⟩
    · rcases List.mem_cons.1 hp with rfl | hp
      · exact ⟨rfl, e3.1, e3.2, e4.1, e4.2⟩
      · cases hp
  unfold pieces
  split
  · rw [piecesB_ok hr w1 w2 h1 h2]
    exact two _ _ _ _ (by omega) (by omega) (by omega) (by omega)
  · rw [piecesA_ok hr w1 w2 h1 h2]
    exact two _ _ _ _ (by omega) (by omega) (by omega) (by omega)
theorem impl_TakePiece_ev (l : List (List Int)) (w h : Int) : Ev (fun k => impl_TakePiece.f k l w h) (takePiece l w h) := by
  unfold impl_TakePiece.f takePiece
  refine Ev.bind (impl_small_ev l w h) ?_
  by_cases c : smallest l w h < 0
  · exact ev_eq (Ev.congr (fun k => if_pos c) (Ev.now _)) (if_pos c).symm
  · rw [if_neg c]
    have s := smallest_small c
    obtain ⟨n, e, hn, h20, er, hrow, _, _⟩ := small_row s
    generalize smallest l w h = i at *
    subst e
    refine Ev.congr (fun k => if_neg c) ?_
    refine Ev.congr (fun k => if_pos ⟨⟨by omega, by omega⟩, by have := hrow.len; omega⟩) ?_
    have h2 := (storeOk_iff.1 s.ok).2
    refine Ev.bind (copyLists_ev l (by omega) (fun r hr => by have := (h2 r hr).len; omega)) ?_
    refine Ev.bind (ev_const (r := l.eraseIdx n) ?_) ?_
    · unfold slices_Delete_int_int.f
      rw [if_pos ⟨by omega, w64 (by omega) (by omega), by omega⟩, Int.toNat_natCast]
    · refine Ev.congr (fun k => if_pos (by have := List.length_eraseIdx_le l n; omega)) ?_
      refine Ev.bind (impl_StoreOk_ev _) ?_
      unfold finPiece
      rw [Int.toNat_natCast]
      by_cases c2 : storeOk (l.eraseIdx n ++ (pieces (rd_L1 l (n : Int)) w h).filter pieceGood) = true
      · exact ev_eq (Ev.congr (fun k => if_pos c2) (Ev.now _)) (if_pos c2).symm
      · exact ev_eq (Ev.congr (fun k => if_neg c2) (Ev.now _)) (if_neg c2).symm
theorem spec_take_l (x9 : Int) (P : List (List Int)) (hP : ∀ p ∈ P, PieceOk p) (hl : P.length = 2) : ∀ (m i : Nat) (acc : List (List Int)), i + m = P.length → acc.length ≤ 20 + i →
    Ev (fun k => spec_TakePiece.l0 k x9 acc P (P.length : Int) (i : Int)) (finPiece x9 (acc ++ (P.drop i).filter pieceGood)) := by
  intro m
  induction m with
  | zero =>
    intro i acc hi ha
    rw [List.drop_of_length_le (by omega), List.filter_nil, List.append_nil]
    refine Ev.step (f := fun k => (spec_StoreOk.f k acc).bind fun t => if t = true then some (acc, x9, true) else some ([], -1, false)) (fun k => ?_) (Ev.bind (spec_StoreOk_ev acc) ?_)
    · simp only [spec_TakePiece.l0]
      rw [if_neg (by omega)]
    · unfold finPiece
      by_cases c2 : storeOk acc = true
      · exact ev_eq (Ev.congr (fun k => if_pos c2) (Ev.now _)) (if_pos c2).symm
      · exact ev_eq (Ev.congr (fun k => if_neg c2) (Ev.now _)) (if_neg c2).symm
  | succ m ih =>
    intro i acc hi ha
    have hlt : i < P.length := by omega
    have hp := hP P[i] (List.getElem_mem hlt)
    have hlen := hp.len
    have hg := pieceGood_iff hp
    rw [List.drop_eq_getElem_cons hlt, List.filter_cons]
    by_cases c : pieceGood P[i] = true
    · rw [if_pos c]
      obtain ⟨c1, c2⟩ := hg.1 c
      refine Ev.step (f := fun k => spec_TakePiece.l0 k x9 (acc ++ [P[i]]) P (P.length : Int) ((i + 1 : Nat) : Int)) (fun k => ?_) (ev_eq (ih (i + 1) (acc ++ [P[i]]) (by omega) (by simp; omega)) (by simp))
      simp only [spec_TakePiece.l0]
      rw [if_pos (by omega), if_pos (by omega), if_pos (by omega), rdL_get hlt, if_pos (by omega), if_pos c1, if_pos (by omega), if_pos c2, if_pos (by omega), w64 (by omega) (by omega)]
      rfl
    · rw [if_neg c]
      refine Ev.step (f := fun k => spec_TakePiece.l0 k x9 acc P (P.length : Int) ((i + 1 : Nat) : Int)) (fun k => ?_) (ih (i + 1) acc (by omega) (by omega))
      simp only [spec_TakePiece.l0]
      rw [if_pos (by omega), if_pos (by omega), if_pos (by omega), rdL_get hlt, if_pos (by omega)]
      by_cases c1 : rd P[i] 0 > 0
      · rw [if_pos c1, if_pos (by omega), if_neg (fun z => c (hg.2 ⟨c1, z⟩)), w64 (by omega) (by omega)]
        rfl
      · rw [if_neg c1, w64 (by omega) (by omega)]
        rfl
theorem spec_TakePiece_ev (l : List (List Int)) (w h : Int) : Ev (fun k => spec_TakePiece.f k l w h) (takePiece l w h) := by
  unfold spec_TakePiece.f takePiece
  refine Ev.bind (spec_small_ev l w h) ?_
  by_cases c : smallest l w h < 0
  · exact ev_eq (Ev.congr (fun k => if_pos c) (Ev.now _)) (if_pos c).symm
  · rw [if_neg c]
    have s := smallest_small c
    obtain ⟨n, e, hn, h20, er, hrow, hw, hh⟩ := small_row s
    generalize smallest l w h = i at *
    subst e
    have h2 := (storeOk_iff.1 s.ok).2
    have hlen := hrow.len
    have hpo := pieces_ok hrow s.w1 hw s.h1 hh
    refine Ev.congr (fun k => if_neg c) ?_
    refine Ev.congr (fun k => if_pos (by omega)) ?_
    refine Ev.congr (fun k => if_pos (by omega)) ?_
    refine Ev.congr (fun k => if_pos (by omega)) ?_
    refine Ev.congr (fun k => if_pos (by omega)) ?_
    refine Ev.bind (spec_copy_ev (n : Int) l h20 (fun r hr => (h2 r hr).len)) ?_
    rw [show ((n : Int)) = ((0 + n : Nat) : Int) by omega, skip_erase, show ((0 + n : Nat) : Int) = (n : Int) by omega, Int.toNat_natCast]
    have hd : (l.eraseIdx n).length ≤ 20 + 0 := by have := List.length_eraseIdx_le l n; omega
    have fin : ∀ P : List (List Int), pieces (rd_L1 l (n : Int)) w h = P → Ev (fun k => spec_TakePiece.j0 k (n : Int) (l.eraseIdx n) P) (finPiece (n : Int) (l.eraseIdx n ++ (pieces (rd_L1 l (n : Int)) w h).filter pieceGood)) := by
      intro P e
      rw [e] at hpo ⊢
      refine Ev.step (f := fun k => spec_TakePiece.l0 k (n : Int) (l.eraseIdx n) P (P.length : Int) ((0 : Nat) : Int)) (fun k => ?_) (ev_eq (spec_take_l (n : Int) P hpo.1 hpo.2 P.length 0 _ (by omega) hd) (by simp))
      simp only [spec_TakePiece.j0]
      rfl
    by_cases c2 : mx (wrap64 (wrap64 (rd (rd_L1 l (n : Int)) 0 - w) * rd (rd_L1 l (n : Int)) 1)) (wrap64 (w * wrap64 (rd (rd_L1 l (n : Int)) 1 - h))) > mx (wrap64 (wrap64 (rd (rd_L1 l (n : Int)) 0 - w) * h)) (wrap64 (rd (rd_L1 l (n : Int)) 0 * wrap64 (rd (rd_L1 l (n : Int)) 1 - h)))
    · refine Ev.congr (fun k => if_pos c2) (fin _ ?_)
      unfold pieces
      rw [if_pos c2]
      rfl
    · refine Ev.congr (fun k => if_neg c2) (fin _ ?_)
      unfold pieces
      rw [if_neg c2]
      rfl
theorem takePiece_ok {l : List (List Int)} {w h : Int} : storeOk (takePiece l w h).1 = true := by
  have e0 : storeOk ([] : List (List Int)) = true := by simp [storeOk]
  unfold takePiece finPiece
  split
  · exact e0
  · split
    · assumption
    · exact e0
end Go.Proofs.Ytebjpafnfmmjeaa.PA
/- many pieces -/
namespace Go.Proofs.Ytebjpafnfmmjeaa.PA
open Go.RowKit Go.Proofs.YtebjpafnfmmjeaaW.PrintWords Go.Proofs.YtebjpafnfmmjeaaW.PrintLast Go.Proofs.YtebjpafnfmmjeaaW.PrintMore
set_option linter.unusedVariables false
set_option linter.unusedSimpArgs false
def takeStep (s : List (List Int) × Int) (p : List Int) : List (List Int) × Int :=
  if (takePiece s.1 (rd p 0) (rd p 1)).2.2 = true then ((takePiece s.1 (rd p 0) (rd p 1)).1, s.2 + 1) else s
def takeAll (l ps : List (List Int)) : List (List Int) × Int := if storeOk l = true ∧ ps.length ≤ 20 ∧ ps.any badLen = false then ps.foldl takeStep (l, 0) else ([], -1)
theorem badLen_false {p : List Int} : badLen p = false ↔ p.length = 2 := by unfold badLen; simp
theorem takeStep_ok {s : List (List Int) × Int} (h : storeOk s.1 = true) (p : List Int) : storeOk (takeStep s p).1 = true := by
  unfold takeStep
  split
  · exact takePiece_ok
  · exact h
theorem foldTake_ok (ps : List (List Int)) : ∀ (s : List (List Int) × Int), storeOk s.1 = true → storeOk (ps.foldl takeStep s).1 = true := by
  induction ps with
  | nil => intro s h; exact h
  | cons p ps ih => intro s h; exact ih _ (takeStep_ok h p)
theorem takeAll_ok (l ps : List (List Int)) : storeOk (takeAll l ps).1 = true := by
  unfold takeAll
  split
  · rename_i h
    exact foldTake_ok ps _ h.1
  · simp [storeOk]
theorem takeAll_bd (l ps : List (List Int)) : (takeAll l ps).1.length ≤ 20 ∧ (∀ r ∈ (takeAll l ps).1, r.length ≤ 1048576) ∧ totlen (takeAll l ps).1 ≤ 40 := store_bd (takeAll_ok l ps)
theorem impl_takeall_l (ps : List (List Int)) (h20 : ps.length ≤ 20) (hb : ∀ p ∈ ps, p.length = 2) : ∀ (m i : Nat) (now : List (List Int)) (n : Int), i + m = ps.length → 0 ≤ n → n ≤ i →
    Ev (fun k => impl_TakeAll.l0 k now n ps (ps.length : Int) (i : Int)) ((ps.drop i).foldl takeStep (now, n)) := by
  intro m
  induction m with
  | zero =>
    intro i now n hi h0 h1
    rw [List.drop_of_length_le (by omega)]
    refine Ev.step (f := fun _ => some (now, n)) (fun k => ?_) (Ev.now _)
    simp only [impl_TakeAll.l0]
    rw [if_neg (by omega)]
  | succ m ih =>
    intro i now n hi h0 h1
    have hlt : i < ps.length := by omega
    have hp := hb ps[i] (List.getElem_mem hlt)
    rw [List.drop_eq_getElem_cons hlt, List.foldl_cons]
    refine Ev.step (f := fun k => (impl_TakePiece.f k now (rd ps[i] 0) (rd ps[i] 1)).bind fun bt => if bt.2.2 = true then impl_TakeAll.l0 k bt.1 (n + 1) ps (ps.length : Int) ((i + 1 : Nat) : Int) else impl_TakeAll.l0 k now n ps (ps.length : Int) ((i + 1 : Nat) : Int)) (fun k => ?_) (Ev.bind (impl_TakePiece_ev now _ _) ?_)
    · simp only [impl_TakeAll.l0]
      rw [if_pos (by omega), if_pos (by omega), if_pos (by omega), rdL_get hlt, if_pos (by omega), if_pos (by omega), w64 (x := n + 1) (by omega) (by omega), w64 (x := (i : Int) + 1) (by omega) (by omega)]
      rfl
    · unfold takeStep
      by_cases c : (takePiece now (rd ps[i] 0) (rd ps[i] 1)).2.2 = true
      · rw [if_pos c]
        exact Ev.congr (fun k => if_pos c) (ih (i + 1) _ (n + 1) (by omega) (by omega) (by omega))
      · rw [if_neg c]
        exact Ev.congr (fun k => if_neg c) (ih (i + 1) now n (by omega) (by omega) (by omega))
theorem impl_TakeAll_ev (l ps : List (List Int)) : Ev (fun k => impl_TakeAll.f k l ps) (takeAll l ps) := by
  unfold impl_TakeAll.f takeAll
  refine Ev.bind (impl_StoreOk_ev l) ?_
  have no : ∀ c : Prop, [Decidable c] → ¬ c → Ev (fun k => impl_TakeAll.j0 k l ps true) (if c then ps.foldl takeStep (l, 0) else ([], -1)) := by
    intro c _ hc
    rw [if_neg hc]
    refine Ev.step (f := fun _ => some ([], -1)) (fun k => ?_) (Ev.now _)
    simp only [impl_TakeAll.j0]
    rw [if_pos trivial]
  by_cases c0 : storeOk l = true
  · refine Ev.congr (fun k => if_pos c0) ?_
    by_cases c1 : (ps.length : Int) > 20
    · exact Ev.congr (fun k => if_pos c1) (no _ (fun z => by omega))
    · refine Ev.congr (fun k => if_neg c1) ?_
      refine Ev.bind (ev_const (r := ps.any badLen) rfl) ?_
      cases c2 : ps.any badLen with
      | true => exact no _ (fun z => by simp at z)
      | false =>
        rw [if_pos ⟨c0, by omega, rfl⟩]
        obtain ⟨h1, h2⟩ := storeOk_iff.1 c0
        refine Ev.step (f := fun k => (impl_copyLists.f k l).bind fun t => impl_TakeAll.l0 k t 0 ps (ps.length : Int) ((0 : Nat) : Int)) (fun k => ?_) (Ev.bind (copyLists_ev l (by omega) (fun r hr => by have := (h2 r hr).len; omega)) ?_)
        · simp only [impl_TakeAll.j0]
          rw [if_neg (by simp)]
          rfl
        · exact ev_eq (impl_takeall_l ps (by omega) (fun p hp => badLen_false.1 (by simpa using List.any_eq_false.1 c2 p hp)) ps.length 0 l 0 (by omega) (by omega) (by omega)) (by simp)
  · exact Ev.congr (fun k => if_neg c0) (no _ (fun z => c0 z.1))
theorem spec_takeall_l1 (ps : List (List Int)) (h20 : ps.length ≤ 20) (hb : ∀ p ∈ ps, p.length = 2) : ∀ (m i : Nat) (now : List (List Int)) (n : Int), i + m = ps.length → 0 ≤ n → n ≤ i →
    Ev (fun k => spec_TakeAll.l1 k now n ps (ps.length : Int) (i : Int)) ((ps.drop i).foldl takeStep (now, n)) := by
  intro m
  induction m with
  | zero =>
    intro i now n hi h0 h1
    rw [List.drop_of_length_le (by omega)]
    refine Ev.step (f := fun _ => some (now, n)) (fun k => ?_) (Ev.now _)
    simp only [spec_TakeAll.l1]
    rw [if_neg (by omega)]
  | succ m ih =>
    intro i now n hi h0 h1
    have hlt : i < ps.length := by omega
    have hp := hb ps[i] (List.getElem_mem hlt)
    rw [List.drop_eq_getElem_cons hlt, List.foldl_cons]
    refine Ev.step (f := fun k => (spec_TakePiece.f k now (rd ps[i] 0) (rd ps[i] 1)).bind fun bt => if bt.2.2 = true then spec_TakeAll.l1 k bt.1 (n + 1) ps (ps.length : Int) ((i + 1 : Nat) : Int) else spec_TakeAll.l1 k now n ps (ps.length : Int) ((i + 1 : Nat) : Int)) (fun k => ?_) (Ev.bind (spec_TakePiece_ev now _ _) ?_)
    · simp only [spec_TakeAll.l1]
      rw [if_pos (by omega), if_pos (by omega), if_pos (by omega), rdL_get hlt, if_pos (by omega), if_pos (by omega), w64 (x := n + 1) (by omega) (by omega), w64 (x := (i : Int) + 1) (by omega) (by omega)]
      rfl
    · unfold takeStep
      by_cases c : (takePiece now (rd ps[i] 0) (rd ps[i] 1)).2.2 = true
      · rw [if_pos c]
        exact Ev.congr (fun k => if_pos c) (ih (i + 1) _ (n + 1) (by omega) (by omega) (by omega))
      · rw [if_neg c]
        exact Ev.congr (fun k => if_neg c) (ih (i + 1) now n (by omega) (by omega) (by omega))
theorem spec_takeall_l0 (l ps : List (List Int)) (hs : storeOk l = true) (h20 : ps.length ≤ 20) : ∀ (m i : Nat), i + m = ps.length → (∀ j, j < i → (ps.getD j []).length = 2) →
    Ev (fun k => spec_TakeAll.l0 k l ps ps (ps.length : Int) (i : Int)) (if ps.any badLen = false then ps.foldl takeStep (l, 0) else ([], -1)) := by
  obtain ⟨h1, h2⟩ := storeOk_iff.1 hs
  intro m
  induction m with
  | zero =>
    intro i hi hb
    have hall : ∀ p ∈ ps, p.length = 2 := fun p hp => by
      obtain ⟨j, hj, rfl⟩ := List.getElem_of_mem hp
      have := hb j (by omega)
      rwa [getD_get hj] at this
    have hany : ps.any badLen = false := by
      rw [List.any_eq_false]
      intro p hp
      simpa using badLen_false.2 (hall p hp)
    rw [if_pos hany]
    refine Ev.step (f := fun k => (spec_l21Copy.f k l (-1)).bind fun t => spec_TakeAll.l1 k t 0 ps (ps.length : Int) ((0 : Nat) : Int)) (fun k => ?_) (Ev.bind (spec_copy_ev (-1) l h1 (fun r hr => (h2 r hr).len)) ?_)
    · simp only [spec_TakeAll.l0]
      rw [if_neg (by omega)]
      rfl
    · rw [skip_neg]
      exact ev_eq (spec_takeall_l1 ps h20 hall ps.length 0 l 0 (by omega) (by omega) (by omega)) (by simp)
  | succ m ih =>
    intro i hi hb
    have hlt : i < ps.length := by omega
    by_cases c : ps[i].length = 2
    · refine Ev.step (f := fun k => spec_TakeAll.l0 k l ps ps (ps.length : Int) ((i + 1 : Nat) : Int)) (fun k => ?_) (ih (i + 1) (by omega) (fun j hj => ?_))
      · simp only [spec_TakeAll.l0]
        rw [if_pos (by omega), if_pos (by omega), if_pos (by omega), rdL_get hlt, if_pos (by omega), w64 (by omega) (by omega)]
        rfl
      · rcases Nat.lt_or_ge j i with e | e
        · exact hb j e
        · obtain rfl : j = i := by omega
          rw [getD_get hlt]; exact c
    · have hany : ¬ ps.any badLen = false := by
        intro z
        exact c (badLen_false.1 (by simpa using List.any_eq_false.1 z ps[i] (List.getElem_mem hlt)))
      rw [if_neg hany]
      refine Ev.step (f := fun _ => some ([], -1)) (fun k => ?_) (Ev.now _)
      simp only [spec_TakeAll.l0]
      rw [if_pos (by omega), if_pos (by omega), if_pos (by omega), rdL_get hlt, if_neg (by omega)]
theorem spec_TakeAll_ev (l ps : List (List Int)) : Ev (fun k => spec_TakeAll.f k l ps) (takeAll l ps) := by
  unfold spec_TakeAll.f takeAll
  refine Ev.bind (spec_StoreOk_ev l) ?_
  have no : ∀ c : Prop, [Decidable c] → ¬ c → Ev (fun k => spec_TakeAll.j0 k l ps true) (if c then ps.foldl takeStep (l, 0) else ([], -1)) := by
    intro c _ hc
    rw [if_neg hc]
    refine Ev.step (f := fun _ => some ([], -1)) (fun k => ?_) (Ev.now _)
    simp only [spec_TakeAll.j0]
    rw [if_pos trivial]
  by_cases c0 : storeOk l = true
  · refine Ev.congr (fun k => if_pos c0) ?_
    by_cases c1 : (ps.length : Int) > 20
    · rw [decide_eq_true c1]
      exact no _ (fun z => by omega)
    · rw [decide_eq_false c1]
      refine ev_eq (Ev.step (f := fun k => spec_TakeAll.l0 k l ps ps (ps.length : Int) ((0 : Nat) : Int)) (fun k => ?_) (spec_takeall_l0 l ps c0 (by omega) ps.length 0 (by omega) (fun j hj => by omega))) ?_
      · simp only [spec_TakeAll.j0]
        rw [if_neg (by simp)]
        rfl
      · by_cases c2 : ps.any badLen = false
        · rw [if_pos c2, if_pos ⟨c0, by omega, c2⟩]
        · rw [if_neg c2, if_neg (fun z => c2 z.2.2)]
  · exact Ev.congr (fun k => if_neg c0) (no _ (fun z => c0 z.1))
end Go.Proofs.Ytebjpafnfmmjeaa.PA
/- marks -/
namespace Go.Proofs.Ytebjpafnfmmjeaa.PA
open Go.RowKit Go.Proofs.YtebjpafnfmmjeaaW.PrintWords Go.Proofs.YtebjpafnfmmjeaaW.PrintLast Go.Proofs.YtebjpafnfmmjeaaW.PrintMore
set_option linter.unusedVariables false
set_option linter.unusedSimpArgs false
def ramp : Int → Nat → List Int
  | _, 0 => []
  | a, n + 1 => a :: ramp (a + 1) n
theorem rd_mid (pre suf : List Int) (x : Int) : rd (pre ++ x :: suf) (pre.length : Int) = x := by
  simp [rd, List.getD_eq_getElem?_getD]
theorem set_mid (pre suf : List Int) (x y : Int) : (pre ++ x :: suf).set pre.length y = (pre ++ [y]) ++ suf := by
  simp [List.set_append]
theorem markIntS_l : ∀ (suf pre : List Int) (a : Int), pre.length + suf.length ≤ 4194304 → 0 ≤ a → a + suf.length ≤ 1099511627776 →
    Ev (fun k => laws_markIntS.l0 k (pre ++ suf) a (pre.length : Int)) (a + suf.length, pre ++ ramp a suf.length) := by
  intro suf
  induction suf with
  | nil =>
    intro pre a hl h0 h1
    refine Ev.step (f := fun _ => some (a, pre)) (fun k => ?_) (ev_eq (Ev.now _) (by simp [ramp]))
    simp only [laws_markIntS.l0]
    rw [if_neg (by simp)]
    simp
  | cons x suf ih =>
    intro pre a hl h0 h1
    simp only [List.length_cons] at hl h1
    have h := ih (pre ++ [a]) (a + 1) (by simp; omega) (by omega) (by omega)
    have e : (a + 1 + (suf.length : Int), pre ++ [a] ++ ramp (a + 1) suf.length) = (a + ((x :: suf).length : Int), pre ++ ramp a (x :: suf).length) := by
      simp only [List.length_cons, ramp, List.append_assoc, List.singleton_append]
      congr 1
      omega
    rw [e] at h
    refine Ev.step (f := fun k => laws_markIntS.l0 k ((pre ++ [a]) ++ suf) (a + 1) ((pre ++ [a]).length : Int)) (fun k => ?_) h
    simp only [laws_markIntS.l0]
    rw [if_pos (by simp; omega), if_pos (by omega), Int.toNat_natCast, set_mid, w64 (x := a + 1) (by omega) (by omega), w64 (by omega) (by omega)]
    simp
theorem markIntS_ev (l : List Int) (a : Int) (hl : l.length ≤ 1048576) (h0 : 0 ≤ a) (h1 : a ≤ 549755813888) : Ev (fun k => laws_markIntS.f k l a) (a + l.length, ramp a l.length) :=
  markIntS_l l [] a (by simp; omega) h0 (by omega)
theorem heldIntS_l : ∀ (n : Nat) (pre : List Int) (a : Int), pre.length + n ≤ 4194304 → 0 ≤ a → a + n ≤ 1099511627776 →
    Ev (fun k => laws_heldIntS.l0 k (pre ++ ramp a n) a (pre.length : Int)) (a + n) := by
  intro n
  induction n with
  | zero =>
    intro pre a hl h0 h1
    rw [show ramp a 0 = [] from rfl]
    refine Ev.step (f := fun _ => some a) (fun k => ?_) (ev_eq (Ev.now _) (by simp))
    simp only [laws_heldIntS.l0]
    rw [if_neg (by simp)]
  | succ n ih =>
    intro pre a hl h0 h1
    rw [show ramp a (n + 1) = a :: ramp (a + 1) n from rfl]
    have h := ih (pre ++ [a]) (a + 1) (by simp; omega) (by omega) (by omega)
    rw [show a + 1 + (n : Int) = a + ((n + 1 : Nat) : Int) by omega] at h
    refine Ev.step (f := fun k => laws_heldIntS.l0 k ((pre ++ [a]) ++ ramp (a + 1) n) (a + 1) ((pre ++ [a]).length : Int)) (fun k => ?_) h
    simp only [laws_heldIntS.l0]
    rw [if_pos (by simp; omega), if_pos (by omega), rd_mid, if_pos rfl, w64 (x := a + 1) (by omega) (by omega), w64 (by omega) (by omega)]
    simp
theorem heldIntS_ev (n : Nat) (a : Int) (hl : n ≤ 1048576) (h0 : 0 ≤ a) (h1 : a ≤ 549755813888) : Ev (fun k => laws_heldIntS.f k (ramp a n) a) (a + n) :=
  heldIntS_l n [] a (by simp; omega) h0 (by omega)
def rampSS : Int → List (List Int) → List (List Int)
  | _, [] => []
  | a, r :: l => ramp a r.length :: rampSS (a + r.length) l
theorem markIntSS_ev : ∀ (l : List (List Int)) (a : Int), (∀ r ∈ l, r.length ≤ 1048576) → 0 ≤ a → a + totlen l ≤ 4194304 → Ev (fun k => laws_markIntSS.f k l a) (a + totlen l, rampSS a l) := by
  intro l
  induction l with
  | nil =>
    intro a _ _ _
    refine ev_eq (Ev.congr (fun k => ?_) (Ev.now (a, []))) (by simp [totlen, rampSS])
    simp only [laws_markIntSS.f]
  | cons r l ih =>
    intro a hr h0 h1
    simp only [totlen] at h1
    have h := ih (a + r.length) (fun x hx => hr x (List.mem_cons_of_mem _ hx)) (by omega) (by omega)
    refine Ev.congr (f := fun k => (laws_markIntS.f k r a).bind fun b => (laws_markIntSS.f k l b.1).bind fun c => some (c.1, b.2 :: c.2)) (fun k => by simp only [laws_markIntSS.f]) ?_
    refine Ev.bind (markIntS_ev r a (hr r List.mem_cons_self) h0 (by omega)) ?_
    refine ev_eq (Ev.bind h (Ev.now _)) ?_
    simp only [totlen, rampSS]
    congr 1
    omega
end Go.Proofs.Ytebjpafnfmmjeaa.PA
/- held -/
namespace Go.Proofs.Ytebjpafnfmmjeaa.PA
open Go.RowKit Go.Proofs.YtebjpafnfmmjeaaW.PrintWords Go.Proofs.YtebjpafnfmmjeaaW.PrintLast Go.Proofs.YtebjpafnfmmjeaaW.PrintMore
set_option linter.unusedVariables false
set_option linter.unusedSimpArgs false
theorem rdL_mid (pre suf : List (List Int)) (x : List Int) : rd_L1 (pre ++ x :: suf) (pre.length : Int) = x := by
  simp [rd_L1, List.getD_eq_getElem?_getD]
theorem heldIntSS_l : ∀ (l pre : List (List Int)) (a : Int), (∀ r ∈ l, r.length ≤ 1048576) → pre.length + l.length ≤ 4194304 → 0 ≤ a → a + totlen l ≤ 4194304 →
    Ev (fun k => laws_heldIntSS.l0 k (pre ++ rampSS a l) a (pre.length : Int)) (a + totlen l) := by
  intro l
  induction l with
  | nil =>
    intro pre a _ hl h0 h1
    rw [show rampSS a [] = [] from rfl]
    refine Ev.step (f := fun _ => some a) (fun k => ?_) (ev_eq (Ev.now _) (by simp [totlen]))
    simp only [laws_heldIntSS.l0]
    rw [if_neg (by simp)]
  | cons r l ih =>
    intro pre a hr hl h0 h1
    simp only [totlen] at h1
    simp only [List.length_cons] at hl
    rw [show rampSS a (r :: l) = ramp a r.length :: rampSS (a + r.length) l from rfl]
    have h := ih (pre ++ [ramp a r.length]) (a + r.length) (fun x hx => hr x (List.mem_cons_of_mem _ hx)) (by simp; omega) (by omega) (by omega)
    rw [show a + (r.length : Int) + (totlen l : Int) = a + (totlen (r :: l) : Int) by simp only [totlen]; omega] at h
    refine Ev.step (fun k => rfl) ?_
    simp only [laws_heldIntSS.l0]
    refine Ev.congr (fun k => (if_pos (by simp; omega)).trans (if_pos (by omega))) ?_
    rw [rdL_mid]
    refine Ev.bind (heldIntS_ev r.length a (hr r List.mem_cons_self) h0 (by omega)) ?_
    refine Ev.congr (fun k => (if_neg (by omega)).trans ?_) h
    rw [w64 (by omega) (by omega)]
    simp
theorem heldIntSS_ev (l : List (List Int)) (a : Int) (hr : ∀ r ∈ l, r.length ≤ 1048576) (hl : l.length ≤ 1048576) (h0 : 0 ≤ a) (h1 : a + totlen l ≤ 4194304) : Ev (fun k => laws_heldIntSS.f k (rampSS a l) a) (a + totlen l) :=
  heldIntSS_l l [] a hr (by simp; omega) h0 h1
end Go.Proofs.Ytebjpafnfmmjeaa.PA
/- The program's TakeAll returns what the reference's returns, for all arguments; no condition. -/
namespace Go.Proofs.Ytebjpafnfmmjeaa.PA
open Go.RowKit Go.Proofs.YtebjpafnfmmjeaaW.PrintWords
def laws_FnExactTakeAll.Pure : Prop := ∀ (l0 : List (List Int)) (l1 : List (List Int)), l0.length ≤ 9223372036854775807 → (∀ r ∈ l0, r.length ≤ 9223372036854775807) → (∀ r ∈ l0, ∀ x ∈ r, (Lit.int .i64 x).wf = true) → l1.length ≤ 9223372036854775807 → (∀ r ∈ l1, r.length ≤ 9223372036854775807) → (∀ r ∈ l1, ∀ x ∈ r, (Lit.int .i64 x).wf = true) → ∃ k, laws_FnExactTakeAll.f k l0 l1 = some true
end Go.Proofs.Ytebjpafnfmmjeaa.PA
namespace Go.Proofs.Ytebjpafnfmmjeaa.Pure
open Go.RowKit Go.Proofs.Ytebjpafnfmmjeaa.PA Go.Proofs.YtebjpafnfmmjeaaW.PrintWords Go.Proofs.YtebjpafnfmmjeaaW.PrintLast Go.Proofs.YtebjpafnfmmjeaaW.PrintMore
set_option linter.unusedVariables false
set_option linter.unusedSimpArgs false
theorem FnExactTakeAll : laws_FnExactTakeAll.Pure := by
  intro l0 l1 hl0 hr0 _ hl1 hr1 _
  refine Ev.rounds (g := fun k => laws_FnExactTakeAll.f k l0 l1) ?_
  unfold laws_FnExactTakeAll.f
  obtain ⟨s0, hs0, hd0⟩ := szTot_ev l0 1048576 (by omega) (by omega) hl0 hr0
  refine Ev.bind hs0 ?_
  by_cases c0 : s0 < 0
  · exact Ev.congr (fun k => if_pos c0) (Ev.now _)
  refine Ev.congr (fun k => if_neg c0) ?_
  obtain ⟨p0, t0⟩ : 0 ≤ s0 ∧ s0 + l0.length + totlen l0 ≤ 1048576 := by
    rcases hd0 with hd | hd
    · exact absurd hd c0
    · exact hd
  have b0 : l0.length ≤ 1048576 := by omega
  have g0 : ∀ x ∈ l0, x.length ≤ 1048576 := fun x hx => by have := mem_totlen hx; omega
  obtain ⟨s1, hs1, hd1⟩ := szTot_ev l1 s0 (by omega) (by omega) hl1 hr1
  refine Ev.bind hs1 ?_
  by_cases c1 : s1 < 0
  · exact Ev.congr (fun k => if_pos c1) (Ev.now _)
  refine Ev.congr (fun k => if_neg c1) ?_
  obtain ⟨p1, t1⟩ : 0 ≤ s1 ∧ s1 + l1.length + totlen l1 ≤ s0 := by
    rcases hd1 with hd | hd
    · exact absurd hd c1
    · exact hd
  have b1 : l1.length ≤ 1048576 := by omega
  have g1 : ∀ x ∈ l1, x.length ≤ 1048576 := fun x hx => by have := mem_totlen hx; omega
  refine Ev.bind (toIntSS_ev l0 b0 g0) ?_
  refine Ev.bind (toIntSS_ev l1 b1 g1) ?_
  refine Ev.bind (spec_TakeAll_ev l0 l1) ?_
  refine Ev.bind (toIntSS_ev l0 b0 g0) ?_
  refine Ev.bind (toIntSS_ev l1 b1 g1) ?_
  refine Ev.bind (impl_TakeAll_ev l0 l1) ?_
  obtain ⟨hw0, hq0, ht0⟩ := takeAll_bd l0 l1
  refine Ev.bind (eqIntSS_ev _ _ (by omega) (fun x hx => by have := hq0 x hx; omega)) ?_
  refine Ev.congr (fun k => if_pos (by simp)) ?_
  refine Ev.congr (fun k => if_pos rfl) ?_
  refine Ev.bind (toIntSS_ev l0 b0 g0) ?_
  refine Ev.bind (eqIntSS_ev l0 l0 (by omega) (fun x hx => by have := g0 x hx; omega)) ?_
  refine Ev.congr (fun k => if_pos (by simp)) ?_
  refine Ev.bind (toIntSS_ev l1 b1 g1) ?_
  refine Ev.bind (eqIntSS_ev l1 l1 (by omega) (fun x hx => by have := g1 x hx; omega)) ?_
  refine Ev.congr (fun k => if_pos (by simp)) ?_
  refine Ev.bind (markIntSS_ev l0 (1) g0 (by omega) (by omega)) ?_
  refine Ev.bind (markIntSS_ev l1 (1 + totlen l0) g1 (by omega) (by omega)) ?_
  refine Ev.congr (fun k => if_pos (by omega)) ?_
  refine Ev.bind (markIntSS_ev _ _ hq0 (by omega) (by omega)) ?_
  refine Ev.bind (heldIntSS_ev _ _ hq0 (by omega) (by omega) (by omega)) ?_
  refine Ev.congr (fun k => if_pos (by omega)) ?_
  refine Ev.congr (fun k => if_pos rfl) ?_
  refine Ev.bind (toIntSS_ev l0 b0 g0) ?_
  refine Ev.bind (toIntSS_ev l1 b1 g1) ?_
  refine Ev.bind (impl_TakeAll_ev l0 l1) ?_
  refine Ev.bind (eqIntSS_ev _ _ (by omega) (fun x hx => by have := hq0 x hx; omega)) ?_
  refine Ev.congr (fun k => if_pos (by simp)) ?_
  refine Ev.congr (fun k => if_pos rfl) ?_
  exact Ev.now _
end Go.Proofs.Ytebjpafnfmmjeaa.Pure
/- What the contracts ask of a slice of slices that comes in. -/
namespace Go.Proofs.Ytebjpafnfmmjeaa.PA
open Go.RowKit Go.Proofs.YtebjpafnfmmjeaaW.PrintWords Go.Proofs.YtebjpafnfmmjeaaW.PrintLast Go.Proofs.YtebjpafnfmmjeaaW.PrintMore
set_option linter.unusedVariables false
set_option linter.unusedSimpArgs false
open Go.ChangeShapes Go.WideShapes Go.Deep in
theorem rows_open {H : Type} {enc : TypeId × Value → H} {P : Program} {w : World} {base : Nat} {held : Bool} {t e q : TypeId} {k : IntKind} {fuel : Nat} {cs : List Value} {x : DataW H × List MemPlace} {a : Option Addr} {len cap : Nat}
    (ht : P.underlying t = some (.slice e)) (he : P.underlying e = some (.slice q)) (hq : P.underlying q = some (.int k))
    (ce : P.cellsOf e = 1) (cq : P.cellsOf q = 1) (h : DataW.trod enc P w base (fun _ => true) held fuel t cs = some x) (hcs : cs = [.slice a len cap]) :
    ∃ l : List (List Int), l.length = len ∧ len ≤ cap ∧ Kd.C (Kd.slice q (Kd.int k)) w a len l ∧ ∀ r ∈ l, ∀ n ∈ r, (Lit.int k n).wf = true := by
  rcases open_int_rows ht he hq ce cq h with ⟨h0, _⟩ | ⟨a', len', cap', A, L, C, Z, h0, _, hl, hm, _, hrows⟩
  · rw [hcs] at h0
    simp at h0
    obtain ⟨rfl, rfl, rfl⟩ := h0
    exact ⟨[], rfl, Nat.le_refl _, ⟨rfl, by omega, fun hh => absurd hh (by omega)⟩, by simp⟩
  · rw [hcs] at h0
    simp at h0
    obtain ⟨rfl, rfl, rfl⟩ := h0
    have hM : maxLen = 9223372036854775807 := rfl
    refine ⟨(List.range len).map fun r => (Z r).take (L r), by simp, hl, ⟨by simp, by omega, fun _ => ⟨a', rfl, fun j p hj => ?_⟩⟩, fun r hr n hn => ?_⟩
    · obtain ⟨hj1, hj2⟩ := List.getElem?_eq_some_iff.1 hj
      have hjl : j < len := by simpa using hj1
      obtain ⟨hc, h1, h2, h3, h4, h5, h6⟩ := hrows j (by omega)
      have hp : p = (Z j).take (L j) := by simpa using hj2.symm
      have hpl : p.length = L j := by rw [hp, List.length_take]; omega
      refine ⟨[.slice (A j) (L j) (C j)], rfl, ⟨A j, C j, by rw [hpl], by omega, ⟨rfl, by omega, fun hp0 => ?_⟩⟩, fun i u hu => ?_⟩
      · cases hA : A j with
        | none => have := h5 hA; omega
        | some b =>
          obtain ⟨_, hcell⟩ := h6 b hA
          refine ⟨b, rfl, fun i y hy => ⟨[.int k y], rfl, rfl, fun i' u hu => ?_⟩⟩
          obtain ⟨hi1, hi2⟩ := List.getElem?_eq_some_iff.1 hy
          cases i' with
          | succ i' => simp at hu
          | zero =>
            simp at hu
            subst hu
            have hz := hcell i (by omega)
            simp only [Kd.int, Kd.scalar, Nat.mul_one, Nat.add_zero]
            rw [hz]
            subst hp
            rw [List.getElem_take] at hi2
            rw [List.getD_eq_getElem?_getD, List.getElem?_eq_getElem (by omega), Option.getD_some, hi2]
      · cases i with
        | succ i => simp at hu
        | zero =>
          simp at hu
          subst hu
          simp only [Kd.slice, Nat.mul_one, Nat.add_zero]
          exact hc
    · obtain ⟨j, hj, rfl⟩ := List.mem_map.1 hr
      obtain ⟨_, _, _, _, h4, _⟩ := hrows j (by have := List.mem_range.1 hj; omega)
      exact h4 n (List.mem_of_mem_take hn)
/-- Each row of what came in has a length that an int holds. -/
theorem rows_len {w : World} {A : Option Addr} {n q : Nat} {k : IntKind} {l : List (List Int)} (h : Kd.C (Kd.slice q (Kd.int k)) w A n l) : l.length ≤ 9223372036854775807 ∧ ∀ r ∈ l, r.length ≤ 9223372036854775807 := by
  obtain ⟨h1, h2, h3⟩ := h
  refine ⟨by omega, fun r hr => ?_⟩
  obtain ⟨j, hj, rfl⟩ := List.getElem_of_mem hr
  obtain ⟨ad, _, hc⟩ := h3 (by omega)
  obtain ⟨c, _, ⟨A', c', _, _, hC⟩, _⟩ := hc j _ (List.getElem?_eq_getElem hj)
  exact hC.2.1
end Go.Proofs.Ytebjpafnfmmjeaa.PA
/- The row of the law FnExactTakeAll: for every input it answers true and its arguments read as before. No condition. Written by a program of this session's (rowgen.py) in the form of the kit's print. -/
namespace Go.Proofs.Ytebjpafnfmmjeaa.fnExactTakeAll
open Go.ChangeShapes Go.WideShapes Go.ChangeAt Go.RowKit Go.Proofs.YtebjpafnfmmjeaaW.PrintWords
open Go.ChangeMaps (open_string shut_string)
set_option linter.unusedVariables false
theorem own : ownKnob Try.prog.godebug = none := by kernel_rfl
theorem laidOut : laidOutB Try.prog = true := by kernel_rfl
def IsRow (k : IntKind) (w : World) (a : Option Addr) (len cap : Nat) (zs : List Int) : Prop :=
  (a = none ∧ len = 0 ∧ cap = 0 ∧ zs = []) ∨
  ∃ x, a = some x ∧ len ≤ cap ∧ cap ≤ maxLen ∧ zs.length = cap ∧ (∀ i, i < zs.length → w.cell? (x.add i) = some (.int k (zs.getD i 0))) ∧ ∀ n ∈ zs, (Lit.int k n).wf = true
set_option maxRecDepth 100000 in
theorem lifted (os : Os) (started : os.Started) (H : Type) (enc : TypeId × Value → H) :
    ReturnsInHanded {} Try.checked os 9 .any (Rows.fnExactTakeAllSpec.pre6 enc Try.prog Try.f9 Rows.fnExactTakeAllRow.domain false) (Rows.fnExactTakeAllSpec.post enc Try.prog Try.f9 false true false false) := by
  refine returnsInHanded_of_change_sized (C := Try.checked) own started (by kernel_rfl) Try.func9
    (ChangeSpec.witness6 (enc := enc) (C := Try.checked) false ⟨#[], #[.slice none 0 0, .slice none 0 0], []⟩ 8 (by kernel_rfl) (by kernel_rfl) (by kernel_rfl) (by kernel_rfl)) ?_
  intro W base args ds gs before hval0 hW hcnd hsz0 _
  have hval : ∀ (j : Nat) t v, Try.f9.params[j]? = some t → args[j]? = some v → Value.okWide Try.prog W .any base t v := hval0
  have hW' := hW
  obtain ⟨p, q, hA0, hV, rfl, hfz, hnd⟩ := hW
  have hA : DataW.TrodAll enc Try.prog W 0 (fun _ => true) true Try.f9.params.toList args.toList ds p := hA0
  rw [Try.params9] at hA hval
  obtain ⟨v0, vs0, d0, ds0, p0, q0, hargs, rfl, rfl, h0, r0⟩ := trodAll_cons hA
  obtain ⟨v1, vs1, d1, ds1, p1, q1, rfl, rfl, rfl, h1, r1⟩ := trodAll_cons r0
  obtain ⟨rfl, rfl, rfl⟩ := trodAll_nil r1
  obtain rfl : args = #[v0, v1] := by cases args; simp_all
  obtain ⟨rfl, rfl⟩ := trodVars_none hV
  obtain ⟨b0, len0, cap0, rfl⟩ := okWide_slice Try.underlying22 (hval 0 22 v0 rfl rfl)
  have k0 := h0
  have lt0 : ∀ x ∈ p0, x.block < W.heap.size := by obtain ⟨m, hm⟩ := k0; exact DataW.trod_lt m _ _ _ hm
  obtain ⟨l0, hl0, hc0, hr0, hw0⟩ : ∃ l : List (List Int), l.length = len0 ∧ len0 ≤ cap0 ∧ Kd.C (Kd.slice 3 (Kd.int .i64)) W b0 len0 l ∧ ∀ r ∈ l, ∀ n ∈ r, (Lit.int .i64 n).wf = true := by
    obtain ⟨fuel, hf⟩ := h0
    exact PA.rows_open Try.underlying22 Try.underlying40 Try.underlying3 (by kernel_rfl) (by kernel_rfl) hf (by simp [Value.cells])
  subst hl0
  obtain ⟨b1, len1, cap1, rfl⟩ := okWide_slice Try.underlying22 (hval 1 22 v1 rfl rfl)
  have k1 := h1
  have lt1 : ∀ x ∈ p1, x.block < W.heap.size := by obtain ⟨m, hm⟩ := k1; exact DataW.trod_lt m _ _ _ hm
  obtain ⟨l1, hl1, hc1, hr1, hw1⟩ : ∃ l : List (List Int), l.length = len1 ∧ len1 ≤ cap1 ∧ Kd.C (Kd.slice 3 (Kd.int .i64)) W b1 len1 l ∧ ∀ r ∈ l, ∀ n ∈ r, (Lit.int .i64 n).wf = true := by
    obtain ⟨fuel, hf⟩ := h1
    exact PA.rows_open Try.underlying22 Try.underlying40 Try.underlying3 (by kernel_rfl) (by kernel_rfl) hf (by simp [Value.cells])
  subst hl1
  clear hA0 hval0 hsz0
  obtain ⟨k, hk⟩ := Pure.FnExactTakeAll l0 l1 (PA.rows_len hr0).1 (PA.rows_len hr0).2 hw0 (PA.rows_len hr1).1 (PA.rows_len hr1).2 hw1
  refine (PA.laws_FnExactTakeAll.calls k _ _ l0 _ _ l1 true W hr0 hc0 hr1 hc1 hk).mono fun e W' ⟨he, bel0⟩ => ?_
  have bel : Below W.heap.size W W' := bel0
  subst he
  exact ⟨_, rfl, _, _, _, [], _, [], hW', trodAll_mk1 (shut_bool Try.underlying4 _), (trodAll_cons_mk (Below.trod laidOut (by kernel_rfl) (of_decide_eq_true (by kernel_rfl)) k0 bel lt0) (trodAll_cons_mk (Below.trod laidOut (by kernel_rfl) (of_decide_eq_true (by kernel_rfl)) k1 bel lt1) trodAll_mk0)), rfl, bel.frame _, fun h => by cases h⟩
theorem over : Rows.fnExactTakeAllRow.holds Try.pinned (OpenSpec.ofChange Rows.fnExactTakeAllSpec) :=
  OpenClaim.holds_of_wide 9 Try.f9 rfl rfl rfl rfl rfl rfl rfl ⟨rfl, rfl, rfl, rfl, rfl⟩ rfl rfl rfl rfl rfl (by kernel_rfl) Try.func9 (by kernel_rfl)
    (of_decide_eq_true (by kernel_rfl)) (by unfold Func.isWrapper; first | (rw [if_pos (by decide +kernel)]; kernel_rfl) | (rw [if_neg (by decide +kernel)]; exact ⟨rfl, rfl⟩))
    (fun os started H enc _ => lifted os started H enc)
theorem proved : Rows.FnExactTakeAllSaid := over
#print axioms proved
end Go.Proofs.Ytebjpafnfmmjeaa.fnExactTakeAll
namespace Go.Proofs.Ytebjpafnfmmjeaa
/-- The row, under a short name, for the claim. -/
theorem fnExactTakeAll_holds : Rows.FnExactTakeAllSaid := fnExactTakeAll.proved
end Go.Proofs.Ytebjpafnfmmjeaa
