/- FnRulers: the law. -/
import Derived.Test.YtjjdahnjindgaaaGreatDoorLibB
import Derived.Test.YtjjdahnjindgaaaGreatDoorPAx10
import Derived.Test.YtjjdahnjindgaaaGreatDoorPAx11
import Derived.Test.YtjjdahnjindgaaaGreatDoorPAx12
import Derived.Test.YtjjdahnjindgaaaGreatDoorPAx13
import Derived.Test.YtjjdahnjindgaaaGreatDoorPAx14
import Derived.Test.YtjjdahnjindgaaaGreatDoorPAx15
import Derived.Test.YtjjdahnjindgaaaGreatDoorPAx16
import Derived.Test.YtjjdahnjindgaaaGreatDoorPAx4
import Derived.Test.YtjjdahnjindgaaaGreatDoorPAx7
namespace Go.Proofs.YtjjdahnjindgaaaGreatDoor.PA
open Go.RowKit Go.Proofs.YtjjdahnjindgaaaGreatDoorW.PrintWords Go.Proofs.YtjjdahnjindgaaaGreatDoorW.PrintLast Go.Proofs.YtjjdahnjindgaaaGreatDoorW.PrintMore
set_option linter.unusedVariables false
set_option linter.unusedSimpArgs false

theorem ssum_l (l : List Int) (hl : l.length ≤ 10) (hb : ∀ x ∈ l, -100000 ≤ x ∧ x ≤ 100000) : ∀ (d i : Nat) (a : Int), i + d = l.length → -100000 * (i : Int) ≤ a → a ≤ 100000 * (i : Int) → Ev (fun k => laws_sum.l0 k a l (l.length : Int) (i : Int)) (a + (l.drop i).sum) := by
  intro d
  induction d with
  | zero =>
    intro i a hi _ _
    rw [List.drop_of_length_le (by omega)]
    refine Ev.step (f := fun _ => some a) (fun k => ?_) (ev_eq (Ev.now _) (by simp))
    simp only [laws_sum.l0]
    rw [if_neg (by omega)]
  | succ d ih =>
    intro i a hi ha hb2
    have hlt : i < l.length := by omega
    have hx := hb l[i] (List.getElem_mem hlt)
    have e := ih (i + 1) (a + l[i]) (by omega) (by omega) (by omega)
    rw [List.drop_eq_getElem_cons hlt, List.sum_cons]
    refine Ev.step (fun k => ?_) (ev_eq e (by omega))
    simp only [laws_sum.l0]
    rw [if_pos (by omega), if_pos (by omega), if_pos (by omega), rd_get hlt, w64 (by omega) (by omega), w64 (by omega) (by omega)]
    rfl
theorem ssum_ev (l : List Int) (hl : l.length ≤ 10) (hb : ∀ x ∈ l, -100000 ≤ x ∧ x ≤ 100000) : Ev (fun k => laws_sum.f k l) l.sum := by
  have e := ssum_l l hl hb l.length 0 0 (by omega) (by omega) (by omega)
  exact ev_eq e (by simp)
theorem has_l (l : List Int) (x : Int) (hl : l.length ≤ 2000) : ∀ (d i : Nat), i + d = l.length → Ev (fun k => laws_has.l0 k x l (l.length : Int) (i : Int)) (decide (x ∈ l.drop i)) := by
  intro d
  induction d with
  | zero =>
    intro i hi
    rw [List.drop_of_length_le (by omega)]
    refine Ev.step (f := fun _ => some false) (fun k => ?_) (ev_eq (Ev.now _) (by simp))
    simp only [laws_has.l0]
    rw [if_neg (by omega)]
  | succ d ih =>
    intro i hi
    have hlt : i < l.length := by omega
    have e := ih (i + 1) (by omega)
    rw [List.drop_eq_getElem_cons hlt]
    by_cases c : l[i] = x
    · refine Ev.step (f := fun _ => some true) (fun k => ?_) (ev_eq (Ev.now _) (by simp [c]))
      simp only [laws_has.l0]
      rw [if_pos (by omega), if_pos (by omega), if_pos (by omega), rd_get hlt, if_pos c]
    · refine Ev.step (fun k => ?_) (ev_eq e (by rw [decide_eq_decide, List.mem_cons]; exact ⟨Or.inr, fun h => h.resolve_left (fun z => c z.symm)⟩))
      simp only [laws_has.l0]
      rw [if_pos (by omega), if_pos (by omega), if_pos (by omega), rd_get hlt, if_neg c, w64 (by omega) (by omega)]
      rfl
theorem has_ev (l : List Int) (x : Int) (hl : l.length ≤ 2000) : Ev (fun k => laws_has.f k l x) (decide (x ∈ l)) := has_l l x hl l.length 0 (by omega)
/-! FnRulers: the law -/
theorem mag_ev {x : Int} (h0 : -100000 ≤ x) (h1 : x ≤ 100000) : laws_mag.f x = some (absI x) := by
  unfold laws_mag.f absI
  by_cases c : x < 0
  · rw [if_pos c, if_pos c, w64 (by omega) (by omega)]
  · rw [if_neg c, if_neg c]
theorem three_ev {h : Int} (h1 : 1 ≤ h) (h2 : h ≤ 50) : Ev (fun k => impl_LeastRoom.f k (([h, h, h] : List Int))) h := by
  refine ev_eq (impl_Least_ev _) ?_
  have c : rulerOk [h, h, h] = true := rulerOk_iff.2 ⟨by simp, by simp, fun x hx => by simp at hx; omega⟩
  unfold best
  rw [if_pos c]
  exact three_best h1 h2
set_option maxHeartbeats 1000000 in
theorem rul_l2 {l r : List Int} {h : Int} (h1 : 1 ≤ h) (h50 : h ≤ 50) (hl10 : l.length ≤ 10) (hb : ∀ x ∈ l, 1 ≤ x ∧ x ≤ 50) (hs : 1 ≤ l.sum ∧ l.sum ≤ 500) (hr : ReachOk l r) : ∀ (d i : Nat), i + d = r.length →
    Ev (fun k => laws_FnRulers.l2 k l h r r (r.length : Int) (i : Int)) true := by
  have hlen := hr.len
  have hsum : Ev (fun k => laws_sum.f k l) l.sum := ssum_ev l hl10 (fun x hx => by have := hb x hx; omega)
  intro d
  induction d with
  | zero =>
    intro i hi
    refine Ev.step (f := fun k => ((impl_LeastRoom.f k (([h, h, h] : List Int))).bind fun t223 => (some (t223 == h)))) (fun k => ?_) (Ev.bind (three_ev h1 h50) (ev_eq (Ev.now _) (by simp)))
    rw [laws_FnRulers.l2, if_neg (by omega)]
  | succ d ih =>
    intro i hi
    have e := ih (i + 1) (by omega)
    have hlt : i < r.length := by omega
    have b := hr.bd _ (List.getElem_mem hlt)
    have p := hr.par _ (List.getElem_mem hlt)
    refine Ev.step (f := fun k => (if 0 ≤ (i : Int) then (if (i : Int) < (r.length : Int) then ((laws_sum.f k l).bind fun t218 => (if (Int.tmod (wrap64 ((rd r (i : Int)) - t218)) 2) = 0 then (if (i : Int) > 0 then (if 0 ≤ (wrap64 ((i : Int) - 1)) then (if (wrap64 ((i : Int) - 1)) < (r.length : Int) then (if (rd r (i : Int)) ≤ (rd r (wrap64 ((i : Int) - 1))) then (none) else (laws_FnRulers.l2 k l h r r (r.length : Int) (wrap64 ((i : Int) + 1)))) else (none)) else (none)) else (laws_FnRulers.l2 k l h r r (r.length : Int) (wrap64 ((i : Int) + 1)))) else (none))) else (none)) else (none))) (fun k => ?_) ?_
    · rw [laws_FnRulers.l2, if_pos (by omega)]
    refine Ev.congr (fun k => if_pos (by omega)) ?_
    refine Ev.congr (fun k => if_pos (by omega)) ?_
    refine Ev.bind hsum ?_
    refine Ev.congr (fun k => if_pos (by rw [rd_get hlt, w64 (by omega) (by omega)]; exact Int.tmod_eq_zero_of_dvd (Int.dvd_of_emod_eq_zero p))) ?_
    have e2 : wrap64 ((i : Int) + 1) = ((i + 1 : Nat) : Int) := by rw [w64 (by omega) (by omega)]; rfl
    rw [e2]
    by_cases c : 0 < i
    · have hlt1 : i - 1 < r.length := by omega
      have ha := List.pairwise_iff_getElem.1 hr.asc (i - 1) i hlt1 hlt (by omega)
      have e1 : wrap64 ((i : Int) - 1) = ((i - 1 : Nat) : Int) := by rw [w64 (by omega) (by omega)]; omega
      rw [e1]
      refine Ev.congr (fun k => if_pos (by omega)) ?_
      refine Ev.congr (fun k => if_pos (by omega)) ?_
      refine Ev.congr (fun k => if_pos (by omega)) ?_
      refine Ev.congr (fun k => if_neg (by rw [rd_get hlt, rd_get hlt1]; omega)) ?_
      exact e
    · exact Ev.congr (fun k => if_neg (by omega)) e

theorem rul_l1s {l : List Int} {n h : Int} {e : List Int} {i : Nat} (hi : i < l.length) (hl : l.length ≤ 10) (hlen : e.length = l.length + 1) (p1 : -500 ≤ rd e (i : Int) ∧ rd e (i : Int) ≤ 500) (p2 : -500 ≤ rd e ((i + 1 : Nat) : Int) ∧ rd e ((i + 1 : Nat) : Int) ≤ 500) (hx : 1 ≤ rd l (i : Int) ∧ rd l (i : Int) ≤ 50)
    (st : rd e ((i + 1 : Nat) : Int) - rd e (i : Int) = rd l (i : Int) ∨ rd e ((i + 1 : Nat) : Int) - rd e (i : Int) = - rd l (i : Int))
    (e' : Ev (fun k => laws_FnRulers.l1 k l n h e l (l.length : Int) ((i + 1 : Nat) : Int)) true) :
    Ev (fun k => laws_FnRulers.l1 k l n h e l (l.length : Int) (i : Int)) true := by
  have c1 : (0 : Int) ≤ (i : Int) := Int.natCast_nonneg i
  have c2 : (i : Int) < (l.length : Int) := Int.ofNat_lt.2 hi
  have c3 : (0 : Int) ≤ ((i + 1 : Nat) : Int) := Int.natCast_nonneg _
  have c4 : ((i + 1 : Nat) : Int) < (e.length : Int) := Int.ofNat_lt.2 (by omega)
  have c5 : (i : Int) < (e.length : Int) := Int.ofNat_lt.2 (by omega)
  have e2 : wrap64 ((i : Int) + 1) = ((i + 1 : Nat) : Int) := by rw [w64 (by omega) (by omega)]; rfl
  have m1 : wrap64 (rd e ((i + 1 : Nat) : Int) - rd e (i : Int)) = rd e ((i + 1 : Nat) : Int) - rd e (i : Int) := by
    generalize rd e ((i + 1 : Nat) : Int) = u at p2 ⊢
    generalize rd e (i : Int) = v at p1 ⊢
    exact w64 (by omega) (by omega)
  have m2 : laws_mag.f (rd e ((i + 1 : Nat) : Int) - rd e (i : Int)) = some (rd l (i : Int)) := by
    generalize rd e ((i + 1 : Nat) : Int) = u at p2 st ⊢
    generalize rd e (i : Int) = v at p1 st ⊢
    generalize rd l (i : Int) = w at hx st ⊢
    rw [mag_ev (by omega) (by omega)]
    unfold absI
    split <;> exact congrArg some (by omega)
  refine Ev.step (f := fun k => (if 0 ≤ (i : Int) then (if (i : Int) < (l.length : Int) then (if 0 ≤ (wrap64 ((i : Int) + 1)) then (if (wrap64 ((i : Int) + 1)) < (e.length : Int) then (if (i : Int) < (e.length : Int) then ((laws_mag.f (wrap64 ((rd e (wrap64 ((i : Int) + 1))) - (rd e (i : Int))))).bind fun t200 => (if t200 = (rd l (i : Int)) then (laws_FnRulers.l1 k l n h e l (l.length : Int) (wrap64 ((i : Int) + 1))) else (none))) else (none)) else (none)) else (none)) else (none)) else (none))) (fun k => ?_) ?_
  · rw [laws_FnRulers.l1, if_pos c2]
  rw [e2, m1]
  refine Ev.congr (fun k => if_pos c1) ?_
  refine Ev.congr (fun k => if_pos c2) ?_
  refine Ev.congr (fun k => if_pos c3) ?_
  refine Ev.congr (fun k => if_pos c4) ?_
  refine Ev.congr (fun k => if_pos c5) ?_
  refine Ev.bind (ev_const m2) ?_
  exact Ev.congr (fun k => if_pos rfl) e'
set_option maxHeartbeats 1000000 in
theorem rul_l1 {l : List Int} {n h : Int} {s g m : ByteArray} {e : List Int} (c : rulerOk l = true) (he : RulOk l n h s g m e) : ∀ (d i : Nat), i + d = l.length →
    Ev (fun k => laws_FnRulers.l1 k l n h e l (l.length : Int) (i : Int)) true := by
  obtain ⟨hl, q0⟩ := parts_of c
  obtain ⟨q1, q2, q3⟩ := rulerOk_iff.1 c
  have hr := reach_ok c
  have hlen := he.len
  have hrl := hr.len
  have hrp := hr.pos
  have hsb := he.sb
  have hh := he.h1
  have hh5 := he.h50
  have hn := he.hn
  have hn2 := he.n2
  have hsum : Ev (fun k => laws_sum.f k l) l.sum := ssum_ev l q2 (fun x hx => by have := q3 x hx; omega)
  have hpw := pow_small q2
  have hsh := shl_one l.length (by omega)
  intro d
  induction d with
  | zero =>
    intro i hi
    refine Ev.step (f := fun k => ((impl_CountLayings.f k l (wrap64 (n - 1))).bind fun t201 => (if t201 = 0 then ((impl_CountLayings.f k l n).bind fun t202 => (if t202 < 2 then (none) else ((impl_CountLayings.f k l n).bind fun t203 => (if (Int.tmod t203 2) = 0 then ((laws_sum.f k l).bind fun t204 => ((impl_CountLayings.f k l t204).bind fun t205 => (if t205 = (shl .i64 1 (l.length : Int)) then ((laws_sum.f k l).bind fun t206 => ((impl_CountLayings.f k l (wrap64 (t206 - 1))).bind fun t207 => (if t207 > (wrap64 ((shl .i64 1 (l.length : Int)) - 2)) then (none) else ((impl_ReachOf.f k l).bind fun t208 => (if (t208.length : Int) = 0 then (none) else (if 0 ≤ (wrap64 ((t208.length : Int) - 1)) then (if (wrap64 ((t208.length : Int) - 1)) < (t208.length : Int) then ((laws_sum.f k l).bind fun t212 => (if (rd t208 (wrap64 ((t208.length : Int) - 1))) = t212 then (if 0 ≤ (l.length : Int) then (if (l.length : Int) < (e.length : Int) then ((laws_mag.f (rd e (l.length : Int))).bind fun t214 => ((laws_has.f k t208 t214).bind fun t215 => (if t215 = true then (if 0 < (t208.length : Int) then (if (rd t208 0) < 0 then (none) else (laws_FnRulers.l2 k l h t208 t208 (t208.length : Int) 0)) else (none)) else (none)))) else (none)) else (none)) else (none))) else (none)) else (none))))))) else (none)))) else (none))))) else (none)))) (fun k => ?_) ?_
    · rw [laws_FnRulers.l1, if_neg (by omega)]
    rw [w64 (x := n - 1) (by omega) (by omega)]
    refine Ev.bind (ev_eq (impl_Count_ev l _) he.c0) ?_
    refine Ev.congr (fun k => if_pos rfl) ?_
    refine Ev.bind (impl_Count_ev l _) ?_
    refine Ev.congr (fun k => if_neg (by have := he.c1; omega)) ?_
    refine Ev.bind (impl_Count_ev l _) ?_
    refine Ev.congr (fun k => if_pos (by have := he.c1; have := he.c2; rw [Int.tmod_eq_emod_of_nonneg (by omega)]; omega)) ?_
    refine Ev.bind hsum ?_
    refine Ev.bind (ev_eq (impl_Count_ev l _) he.c3) ?_
    refine Ev.congr (fun k => if_pos (by rw [hsh])) ?_
    refine Ev.bind hsum ?_
    rw [w64 (x := l.sum - 1) (by omega) (by omega)]
    refine Ev.bind (impl_Count_ev l _) ?_
    refine Ev.congr (fun k => if_neg (by have hc4 := he.c4; rw [hsh]; generalize 2 ^ l.length = N at hc4 hpw ⊢; rw [w64 (by omega) (by omega)]; omega)) ?_
    refine Ev.bind (impl_Reach_ev l) ?_
    refine Ev.congr (fun k => if_neg (by omega)) ?_
    have e1 : wrap64 (((reachP l).length : Int) - 1) = (((reachP l).length - 1 : Nat) : Int) := by rw [w64 (by omega) (by omega)]; omega
    rw [e1]
    have hlt : (reachP l).length - 1 < (reachP l).length := by omega
    refine Ev.congr (fun k => if_pos (by omega)) ?_
    refine Ev.congr (fun k => if_pos (by omega)) ?_
    refine Ev.bind hsum ?_
    refine Ev.congr (fun k => if_pos (by rw [rd_get hlt]; exact hr.top hlt)) ?_
    refine Ev.congr (fun k => if_pos (by omega)) ?_
    refine Ev.congr (fun k => if_pos (by omega)) ?_
    have hb := he.bd l.length (Nat.le_refl _)
    refine Ev.bind (ev_const (mag_ev (by omega) (by omega))) ?_
    have hin : absI (rd e (l.length : Int)) ∈ reachP l := by
      obtain ⟨j, hj, ej⟩ := List.mem_map.1 he.last
      rw [← ej]
      exact hr.has j (List.mem_range.1 hj)
    refine Ev.bind (ev_eq (has_ev _ _ (by omega)) (decide_eq_true hin)) ?_
    refine Ev.congr (fun k => if_pos rfl) ?_
    refine Ev.congr (fun k => if_pos (by omega)) ?_
    have h0 := hr.bd _ (List.getElem_mem hrp)
    have e0 : rd (reachP l) 0 = (reachP l)[0] := rd_get (i := 0) hrp
    refine Ev.congr (fun k => if_neg (by rw [e0]; omega)) ?_
    exact rul_l2 hh hh5 q2 q3 hsb hr (reachP l).length 0 (by omega)
  | succ d ih =>
    intro i hi
    exact rul_l1s (by omega) q2 hlen (he.bd i (by omega)) (he.bd (i + 1) (by omega)) (hl.2 i (by omega)) (he.step i (by omega)) (ih (i + 1) (by omega))

set_option maxHeartbeats 1000000 in
theorem rul_l0 {l : List Int} {n : Int} {s g m : ByteArray} {e : List Int} (c : rulerOk l = true) (he : RulOk l n (l.foldl max 0) s g m e) : ∀ (d i : Nat), i + d = l.length →
    Ev (fun k => laws_FnRulers.l0 k l n s g m ((l.take i).foldl max 0) l (l.length : Int) (i : Int)) true := by
  obtain ⟨q1, q2, q3⟩ := rulerOk_iff.1 c
  intro d
  induction d with
  | zero =>
    intro i hi
    rw [List.take_of_length_le (by omega)]
    generalize l.foldl max 0 = h at *
    have hh := he.h1
    have hh5 := he.h50
    have hlen := he.len
    refine Ev.step (f := fun k => ((impl_EndsOf.f k l s).bind fun t187 => ((impl_RulerOk.f l).bind fun t190 => (if t190 = true then (if n < h then (none) else (if n ≥ (wrap64 (2 * h)) then (none) else ((impl_RoomOf.f k l s).bind fun t191 => (if t191 = n then ((impl_RoomOf.f k l m).bind fun t192 => (if t192 = n then ((impl_RoomOf.f k l g).bind fun t193 => (if t193 < n then (none) else ((impl_RoomOf.f k l g).bind fun t194 => (if t194 ≥ (wrap64 (2 * h)) then (none) else (if (t187.length : Int) = (wrap64 ((l.length : Int) + 1)) then (if 0 < (t187.length : Int) then (if (rd t187 0) = 0 then (if (Op.bytesLess m.toList s.toList) = true then (none) else ((impl_MirrorLaying.f m).bind fun t196 => (if t196.toList = s.toList then (laws_FnRulers.l1 k l n h t187 l (l.length : Int) 0) else (none)))) else (none)) else (none)) else (none)))))) else (none))) else (none))))) else (none))))) (fun k => ?_) ?_
    · rw [laws_FnRulers.l0, if_neg (by omega)]
    refine Ev.bind (ev_eq (impl_EndsOf_ev l s) he.es) ?_
    refine Ev.bind (ev_const (impl_Ruler_eq l)) ?_
    refine Ev.congr (fun k => if_pos c) ?_
    refine Ev.congr (fun k => if_neg (by have := he.hn; omega)) ?_
    refine Ev.congr (fun k => if_neg (by rw [w64 (by omega) (by omega)]; have := he.n2; omega)) ?_
    refine Ev.bind (ev_eq (impl_RoomOf_ev l s) he.r1) ?_
    refine Ev.congr (fun k => if_pos rfl) ?_
    refine Ev.bind (ev_eq (impl_RoomOf_ev l m) he.r2) ?_
    refine Ev.congr (fun k => if_pos rfl) ?_
    refine Ev.bind (impl_RoomOf_ev l g) ?_
    refine Ev.congr (fun k => if_neg (by have := he.r3; omega)) ?_
    refine Ev.bind (impl_RoomOf_ev l g) ?_
    refine Ev.congr (fun k => if_neg (by rw [w64 (by omega) (by omega)]; have := he.r4; omega)) ?_
    refine Ev.congr (fun k => if_pos (by rw [w64 (by omega) (by omega)]; omega)) ?_
    refine Ev.congr (fun k => if_pos (by omega)) ?_
    refine Ev.congr (fun k => if_pos he.e0) ?_
    refine Ev.congr (fun k => if_neg (by rw [he.less]; simp)) ?_
    refine Ev.bind (ev_const (impl_Mirror_eq m)) ?_
    refine Ev.congr (fun k => if_pos (by rw [he.mir])) ?_
    exact rul_l1 c he l.length 0 (by omega)
  | succ d ih =>
    intro i hi
    have e' := ih (i + 1) (by omega)
    have hlt : i < l.length := by omega
    rw [List.take_succ_eq_append_getElem hlt, List.foldl_append] at e'
    refine Ev.step (fun k => ?_) e'
    rw [laws_FnRulers.l0, if_pos (by omega), if_pos (by omega), if_pos (by omega), rd_get hlt, w64 (by omega) (by omega), mx_max]
    rfl
theorem laws_FnRulers_ev (x : List Int) (hx : x.length ≤ 1048576) : Ev (fun k => laws_FnRulers.f k x) true := by
  obtain ⟨l, e0, c⟩ := makeRuler_ev x hx
  obtain ⟨e, he⟩ := rul_ok c
  unfold laws_FnRulers.f
  refine Ev.congr (fun k => if_neg (by omega)) ?_
  refine Ev.bind e0 ?_
  refine Ev.bind (impl_Least_ev l) ?_
  refine Ev.bind (impl_Best_ev l) ?_
  refine Ev.bind (impl_greedy_ev l) ?_
  refine Ev.bind (ev_const (impl_Mirror_eq _)) ?_
  exact rul_l0 c he l.length 0 (by omega)


end Go.Proofs.YtjjdahnjindgaaaGreatDoor.PA
