/- Texts of this claim put together in build order (FnExactFewestLate). -/
import Derived.Test.YtoonamloihbjnaaMFewestLate6
import Derived.Test.YtoonamloihbjnaaMFewestLate0
import Derived.Test.YtoonamloihbjnaaMFewestLate2
import Derived.Test.YtoonamloihbjnaaMFewestLate3
import Derived.Test.YtoonamloihbjnaaMFewestLate4
import Derived.Deep.Matrix
import Derived.Test.YtoonamloihbjnaaRows
import Derived.WalkKit
import Derived.ProofKit
import Derived.OpenShut
import Derived.ShutString
import Derived.ChangeOld
import Derived.Below
import Derived.SizedLaws
/- on-time orders -/
namespace Go.Proofs.Ytoonamloihbjnaa.PA
open Go.RowKit Go.Proofs.YtoonamloihbjnaaW.PrintWords Go.Proofs.YtoonamloihbjnaaW.PrintLast Go.Proofs.YtoonamloihbjnaaW.PrintMore
set_option linter.unusedVariables false
set_option linter.unusedSimpArgs false
def longAt (K : Int → Int) (T : List Int) : Nat → Nat → Nat → Nat
  | 0, _, b => b
  | d + 1, i, b => longAt K T d (i + 1) (if K (rd T (i : Int)) > K (rd T (b : Int)) then i else b)
def onT (K D : Int → Int) : List Int → List Int → List Int → Int → List Int
  | [], T, O, _ => T ++ O
  | i :: S, T, O, h => if h + K i ≤ D i then onT K D S (T ++ [i]) O (h + K i) else
      onT K D S ((T ++ [i]).eraseIdx (longAt K (T ++ [i]) (T ++ [i]).length 0 0)) (O ++ [rd (T ++ [i]) (longAt K (T ++ [i]) (T ++ [i]).length 0 0 : Nat)]) (h + K i - K (rd (T ++ [i]) (longAt K (T ++ [i]) (T ++ [i]).length 0 0 : Nat)))
theorem longAt_lt (K : Int → Int) (T : List Int) : ∀ (d i b : Nat), i + d = T.length → b < T.length → longAt K T d i b < T.length := by
  intro d
  induction d with
  | zero => intro i b _ hb; exact hb
  | succ d ih =>
    intro i b hi hb
    simp only [longAt]
    refine ih (i + 1) _ (by omega) ?_
    split
    · omega
    · exact hb
theorem on_lens (T : List Int) (b : Nat) (h : b < T.length) (hT : T.length ≤ 8) : ([] : List Int).length + (T.take b).length < 17592186044416 ∧ ([] ++ T.take b : List Int).length + (T.drop (b + 1)).length < 17592186044416 := by
  have e1 := List.length_take_le b T
  have e2 : ([] : List Int).length = 0 := rfl
  have e3 : ([] ++ T.take b : List Int).length = (T.take b).length := rfl
  have e4 : (T.drop (b + 1)).length = T.length - (b + 1) := List.length_drop
  omega
theorem rd_range {ws : List (List Int)} {T : List Int} (hb : ∀ y ∈ T, 0 ≤ y ∧ y ≤ (ws.length : Int) - 1) {j : Nat} (h : j < T.length) : 0 ≤ rd T (j : Int) ∧ rd T (j : Int) ≤ (ws.length : Int) - 1 := by
  rw [rd_get h]
  exact hb _ (List.getElem_mem h)
set_option maxHeartbeats 1000000 in
theorem spec_on_1 {ws : List (List Int)} (h : worksOk ws = true) (T O S : List Int) (hh n : Int) (idx : Nat) (R : List Int) (hT : T.length ≤ 8) (hO : O.length ≤ 8) (hidx : idx ≤ 8) (hh1 : -10000 ≤ hh) (hh2 : hh ≤ 10000) (hb : ∀ y ∈ T, 0 ≤ y ∧ y ≤ (ws.length : Int) - 1) : ∀ (d i b : Nat), i + d = T.length → b < T.length →
    Ev (fun k => spec_OnTimeOrder.l0 k ws (T.eraseIdx (longAt (keyBy ws 0) T d i b)) (O ++ [rd T (longAt (keyBy ws 0) T d i b : Nat)]) (hh - keyBy ws 0 (rd T (longAt (keyBy ws 0) T d i b : Nat))) S n ((idx + 1 : Nat) : Int)) R →
    Ev (fun k => spec_OnTimeOrder.l1 k ws T O hh (b : Int) S n (idx : Int) T (T.length : Int) (i : Int)) R := by
  intro d
  induction d with
  | zero =>
    intro i b hi hbl hr
    simp only [longAt] at hr
    have hy := rd_range hb hbl
    have hk := key_bd h (.inl rfl) hy.1 hy.2
    unfold keyBy at hk hr
    refine Ev.step (f := fun k => spec_OnTimeOrder.l0 k ws (T.eraseIdx b) (O ++ [rd T (b : Int)]) (hh - rd (rd_L1 ws (rd T (b : Int))) 0) S n ((idx + 1 : Nat) : Int)) (fun k => ?_) hr
    rw [spec_OnTimeOrder.l1]
    have HW1 : Aside0 (wrap64 ((b : Int) + 1) = ((b + 1 : Nat) : Int)) := ⟨by rw [w64 (by omega) (by omega)]; omega⟩
    rw [if_neg (by omega), if_pos (by omega), if_pos (by omega), if_pos hy.1, if_pos (by omega), if_pos (by omega), if_pos (by omega), Option.bind_some, if_pos (by omega), Int.toNat_natCast, Option.bind_some, if_pos (on_lens T b hbl hT).1, Option.bind_some, HW1.out, if_pos (by omega), if_pos (by omega), Int.toNat_natCast, Option.bind_some, if_pos (on_lens T b hbl hT).2, w64 (x := hh - rd (rd_L1 ws (rd T (b : Int))) 0) (by omega) (by omega), w64 (x := (idx : Int) + 1) (by omega) (by omega), List.nil_append, ← List.eraseIdx_eq_take_drop_succ]
    rfl
  | succ d ih =>
    intro i b hi hbl hr
    simp only [longAt] at hr
    have hlt : i < T.length := by omega
    have hy := rd_range hb hbl
    have hk := key_bd h (.inl rfl) hy.1 hy.2
    have hy2 := rd_range hb hlt
    have hk2 := key_bd h (.inl rfl) hy2.1 hy2.2
    by_cases c : keyBy ws 0 (rd T (i : Int)) > keyBy ws 0 (rd T (b : Int))
    · rw [if_pos c] at hr
      refine Ev.step (f := fun k => spec_OnTimeOrder.l1 k ws T O hh (i : Int) S n (idx : Int) T (T.length : Int) ((i + 1 : Nat) : Int)) (fun k => ?_) (ih (i + 1) i (by omega) hlt hr)
      unfold keyBy at c
      rw [spec_OnTimeOrder.l1]
      rw [if_pos (by omega), if_pos (by omega), if_pos (by omega), if_pos hy2.1, if_pos (by omega), if_pos (by omega), if_pos (by omega), if_pos (by omega), if_pos hy.1, if_pos (by omega), if_pos (by omega), if_pos c, w64 (by omega) (by omega)]
      rfl
    · rw [if_neg c] at hr
      refine Ev.step (f := fun k => spec_OnTimeOrder.l1 k ws T O hh (b : Int) S n (idx : Int) T (T.length : Int) ((i + 1 : Nat) : Int)) (fun k => ?_) (ih (i + 1) b (by omega) hbl hr)
      unfold keyBy at c
      rw [spec_OnTimeOrder.l1]
      rw [if_pos (by omega), if_pos (by omega), if_pos (by omega), if_pos hy2.1, if_pos (by omega), if_pos (by omega), if_pos (by omega), if_pos (by omega), if_pos hy.1, if_pos (by omega), if_pos (by omega), if_neg c, w64 (by omega) (by omega)]
      rfl
set_option maxHeartbeats 1000000 in
theorem spec_on_0 {ws : List (List Int)} (h : worksOk ws = true) (S : List Int) (hS : ∀ y ∈ S, 0 ≤ y ∧ y ≤ (ws.length : Int) - 1) (hl : S.length ≤ 7) : ∀ (d idx : Nat) (T O : List Int) (hh : Int), idx + d = S.length → T.length + O.length = idx → (∀ y ∈ T, 0 ≤ y ∧ y ≤ (ws.length : Int) - 1) → -(1000 * (idx : Int)) ≤ hh → hh ≤ 1000 * (idx : Int) →
    Ev (fun k => spec_OnTimeOrder.l0 k ws T O hh S (S.length : Int) (idx : Int)) (onT (keyBy ws 0) (keyBy ws 1) (S.drop idx) T O hh) := by
  intro d
  induction d with
  | zero =>
    intro idx T O hh hi hTO hb h1 h2
    rw [List.drop_of_length_le (by omega)]
    refine Ev.step (f := fun _ => some (T ++ O)) (fun k => ?_) (Ev.now _)
    rw [spec_OnTimeOrder.l0, if_neg (by omega), if_pos (by omega)]
  | succ d ih =>
    intro idx T O hh hi hTO hb h1 h2
    have hlt : idx < S.length := by omega
    have hx := hS S[idx] (List.getElem_mem hlt)
    have hk := key_bd h (.inl rfl) hx.1 hx.2
    have hk1 := key_bd h (.inr rfl) hx.1 hx.2
    rw [List.drop_eq_getElem_cons hlt]
    simp only [onT]
    have hb' : ∀ y ∈ T ++ [S[idx]], 0 ≤ y ∧ y ≤ (ws.length : Int) - 1 := fun y hy => by
      rcases List.mem_append.1 hy with hy | hy
      · exact hb y hy
      · have : y = S[idx] := by simpa using hy
        rw [this]
        exact hx
    by_cases c : hh + keyBy ws 0 S[idx] ≤ keyBy ws 1 S[idx]
    · rw [if_pos c]
      refine Ev.step (f := fun k => spec_OnTimeOrder.l0 k ws (T ++ [S[idx]]) O (hh + keyBy ws 0 S[idx]) S (S.length : Int) ((idx + 1 : Nat) : Int)) (fun k => ?_) (ih (idx + 1) (T ++ [S[idx]]) O (hh + keyBy ws 0 S[idx]) (by omega) (by simp; omega) hb' (by omega) (by omega))
      unfold keyBy at c hk hk1 ⊢
      rw [spec_OnTimeOrder.l0, if_pos (by omega), if_pos (by omega), if_pos (by omega), if_pos (by omega), Option.bind_some, rd_get hlt, if_pos hx.1, if_pos (by omega), if_pos (by omega), if_pos (by omega), w64 (x := hh + rd (rd_L1 ws S[idx]) 0) (by omega) (by omega), if_pos c, w64 (by omega) (by omega)]
      rfl
    · rw [if_neg c]
      have hln := longAt_lt (keyBy ws 0) (T ++ [S[idx]]) (T ++ [S[idx]]).length 0 0 (by omega) (by simp)
      have hz := rd_range hb' hln
      have hkz := key_bd h (.inl rfl) hz.1 hz.2
      have hlen : (T ++ [S[idx]]).length = T.length + 1 := by simp
      have hn := ih (idx + 1) ((T ++ [S[idx]]).eraseIdx (longAt (keyBy ws 0) (T ++ [S[idx]]) (T ++ [S[idx]]).length 0 0)) (O ++ [rd (T ++ [S[idx]]) (longAt (keyBy ws 0) (T ++ [S[idx]]) (T ++ [S[idx]]).length 0 0 : Nat)]) (hh + keyBy ws 0 S[idx] - keyBy ws 0 (rd (T ++ [S[idx]]) (longAt (keyBy ws 0) (T ++ [S[idx]]) (T ++ [S[idx]]).length 0 0 : Nat))) (by omega) (by
        rw [List.length_eraseIdx_of_lt hln]
        simp
        omega) (fun y hy => hb' y (List.mem_of_mem_eraseIdx hy)) (by omega) (by omega)
      have hs := spec_on_1 h (T ++ [S[idx]]) O S (hh + keyBy ws 0 S[idx]) (S.length : Int) idx _ (by omega) (by omega) (by omega) (by omega) (by omega) hb' (T ++ [S[idx]]).length 0 0 (by omega) (by omega) hn
      refine Ev.step (f := fun k => spec_OnTimeOrder.l1 k ws (T ++ [S[idx]]) O (hh + keyBy ws 0 S[idx]) 0 S (S.length : Int) (idx : Int) (T ++ [S[idx]]) ((T ++ [S[idx]]).length : Int) 0) (fun k => ?_) hs
      unfold keyBy at c hk hk1 ⊢
      rw [spec_OnTimeOrder.l0, if_pos (by omega), if_pos (by omega), if_pos (by omega), if_pos (by omega), Option.bind_some, rd_get hlt, if_pos hx.1, if_pos (by omega), if_pos (by omega), if_pos (by omega), w64 (x := hh + rd (rd_L1 ws S[idx]) 0) (by omega) (by omega), if_neg c]
set_option maxHeartbeats 1000000 in
theorem impl_on_1 {ws : List (List Int)} (h : worksOk ws = true) (T O S : List Int) (hh n : Int) (idx : Nat) (R : List Int) (hT : T.length ≤ 8) (hO : O.length ≤ 8) (hidx : idx ≤ 8) (hh1 : -10000 ≤ hh) (hh2 : hh ≤ 10000) (hb : ∀ y ∈ T, 0 ≤ y ∧ y ≤ (ws.length : Int) - 1) : ∀ (d i b : Nat), i + d = T.length → b < T.length →
    Ev (fun k => impl_OnTimeOrder.l0 k ws (T.eraseIdx (longAt (keyBy ws 0) T d i b)) (O ++ [rd T (longAt (keyBy ws 0) T d i b : Nat)]) (hh - keyBy ws 0 (rd T (longAt (keyBy ws 0) T d i b : Nat))) S n ((idx + 1 : Nat) : Int)) R →
    Ev (fun k => impl_OnTimeOrder.l1 k ws T O hh (b : Int) S n (idx : Int) T (T.length : Int) (i : Int)) R := by
  intro d
  induction d with
  | zero =>
    intro i b hi hbl hr
    simp only [longAt] at hr
    have hy := rd_range hb hbl
    have hk := key_bd h (.inl rfl) hy.1 hy.2
    unfold keyBy at hk hr
    refine Ev.step (f := fun k => impl_OnTimeOrder.l0 k ws (T.eraseIdx b) (O ++ [rd T (b : Int)]) (hh - rd (rd_L1 ws (rd T (b : Int))) 0) S n ((idx + 1 : Nat) : Int)) (fun k => ?_) hr
    rw [impl_OnTimeOrder.l1]
    have HW1 : Aside0 (wrap64 ((b : Int) + 1) = ((b + 1 : Nat) : Int)) := ⟨by rw [w64 (by omega) (by omega)]; omega⟩
    rw [if_neg (by omega), if_pos (by omega), if_pos (by omega), if_pos hy.1, if_pos (by omega), if_pos (by omega), if_pos (by omega), HW1.out, show slices_Delete_int_int.f T (b : Int) ((b + 1 : Nat) : Int) = some (T.take ((b : Int)).toNat ++ T.drop (((b + 1 : Nat) : Int)).toNat) from if_pos (by omega), Option.bind_some, Int.toNat_natCast, Int.toNat_natCast, w64 (x := hh - rd (rd_L1 ws (rd T (b : Int))) 0) (by omega) (by omega), w64 (x := (idx : Int) + 1) (by omega) (by omega), ← List.eraseIdx_eq_take_drop_succ]
    rfl
  | succ d ih =>
    intro i b hi hbl hr
    simp only [longAt] at hr
    have hlt : i < T.length := by omega
    have hy := rd_range hb hbl
    have hk := key_bd h (.inl rfl) hy.1 hy.2
    have hy2 := rd_range hb hlt
    have hk2 := key_bd h (.inl rfl) hy2.1 hy2.2
    by_cases c : keyBy ws 0 (rd T (i : Int)) > keyBy ws 0 (rd T (b : Int))
    · rw [if_pos c] at hr
      refine Ev.step (f := fun k => impl_OnTimeOrder.l1 k ws T O hh (i : Int) S n (idx : Int) T (T.length : Int) ((i + 1 : Nat) : Int)) (fun k => ?_) (ih (i + 1) i (by omega) hlt hr)
      unfold keyBy at c
      rw [impl_OnTimeOrder.l1]
      rw [if_pos (by omega), if_pos (by omega), if_pos (by omega), if_pos hy2.1, if_pos (by omega), if_pos (by omega), if_pos (by omega), if_pos (by omega), if_pos hy.1, if_pos (by omega), if_pos (by omega), if_pos c, w64 (by omega) (by omega)]
      rfl
    · rw [if_neg c] at hr
      refine Ev.step (f := fun k => impl_OnTimeOrder.l1 k ws T O hh (b : Int) S n (idx : Int) T (T.length : Int) ((i + 1 : Nat) : Int)) (fun k => ?_) (ih (i + 1) b (by omega) hbl hr)
      unfold keyBy at c
      rw [impl_OnTimeOrder.l1]
      rw [if_pos (by omega), if_pos (by omega), if_pos (by omega), if_pos hy2.1, if_pos (by omega), if_pos (by omega), if_pos (by omega), if_pos (by omega), if_pos hy.1, if_pos (by omega), if_pos (by omega), if_neg c, w64 (by omega) (by omega)]
      rfl
set_option maxHeartbeats 1000000 in
theorem impl_on_0 {ws : List (List Int)} (h : worksOk ws = true) (S : List Int) (hS : ∀ y ∈ S, 0 ≤ y ∧ y ≤ (ws.length : Int) - 1) (hl : S.length ≤ 7) : ∀ (d idx : Nat) (T O : List Int) (hh : Int), idx + d = S.length → T.length + O.length = idx → (∀ y ∈ T, 0 ≤ y ∧ y ≤ (ws.length : Int) - 1) → -(1000 * (idx : Int)) ≤ hh → hh ≤ 1000 * (idx : Int) →
    Ev (fun k => impl_OnTimeOrder.l0 k ws T O hh S (S.length : Int) (idx : Int)) (onT (keyBy ws 0) (keyBy ws 1) (S.drop idx) T O hh) := by
  intro d
  induction d with
  | zero =>
    intro idx T O hh hi hTO hb h1 h2
    rw [List.drop_of_length_le (by omega)]
    refine Ev.step (f := fun _ => some (T ++ O)) (fun k => ?_) (Ev.now _)
    rw [impl_OnTimeOrder.l0, if_neg (by omega), if_pos (by omega)]
  | succ d ih =>
    intro idx T O hh hi hTO hb h1 h2
    have hlt : idx < S.length := by omega
    have hx := hS S[idx] (List.getElem_mem hlt)
    have hk := key_bd h (.inl rfl) hx.1 hx.2
    have hk1 := key_bd h (.inr rfl) hx.1 hx.2
    rw [List.drop_eq_getElem_cons hlt]
    simp only [onT]
    have hb' : ∀ y ∈ T ++ [S[idx]], 0 ≤ y ∧ y ≤ (ws.length : Int) - 1 := fun y hy => by
      rcases List.mem_append.1 hy with hy | hy
      · exact hb y hy
      · have : y = S[idx] := by simpa using hy
        rw [this]
        exact hx
    by_cases c : hh + keyBy ws 0 S[idx] ≤ keyBy ws 1 S[idx]
    · rw [if_pos c]
      refine Ev.step (f := fun k => impl_OnTimeOrder.l0 k ws (T ++ [S[idx]]) O (hh + keyBy ws 0 S[idx]) S (S.length : Int) ((idx + 1 : Nat) : Int)) (fun k => ?_) (ih (idx + 1) (T ++ [S[idx]]) O (hh + keyBy ws 0 S[idx]) (by omega) (by simp; omega) hb' (by omega) (by omega))
      unfold keyBy at c hk hk1 ⊢
      rw [impl_OnTimeOrder.l0, if_pos (by omega), if_pos (by omega), if_pos (by omega), if_pos (by omega), Option.bind_some, rd_get hlt, if_pos hx.1, if_pos (by omega), if_pos (by omega), if_pos (by omega), w64 (x := hh + rd (rd_L1 ws S[idx]) 0) (by omega) (by omega), if_pos c, w64 (by omega) (by omega)]
      rfl
    · rw [if_neg c]
      have hln := longAt_lt (keyBy ws 0) (T ++ [S[idx]]) (T ++ [S[idx]]).length 0 0 (by omega) (by simp)
      have hz := rd_range hb' hln
      have hkz := key_bd h (.inl rfl) hz.1 hz.2
      have hlen : (T ++ [S[idx]]).length = T.length + 1 := by simp
      have hn := ih (idx + 1) ((T ++ [S[idx]]).eraseIdx (longAt (keyBy ws 0) (T ++ [S[idx]]) (T ++ [S[idx]]).length 0 0)) (O ++ [rd (T ++ [S[idx]]) (longAt (keyBy ws 0) (T ++ [S[idx]]) (T ++ [S[idx]]).length 0 0 : Nat)]) (hh + keyBy ws 0 S[idx] - keyBy ws 0 (rd (T ++ [S[idx]]) (longAt (keyBy ws 0) (T ++ [S[idx]]) (T ++ [S[idx]]).length 0 0 : Nat))) (by omega) (by
        rw [List.length_eraseIdx_of_lt hln]
        simp
        omega) (fun y hy => hb' y (List.mem_of_mem_eraseIdx hy)) (by omega) (by omega)
      have hs := impl_on_1 h (T ++ [S[idx]]) O S (hh + keyBy ws 0 S[idx]) (S.length : Int) idx _ (by omega) (by omega) (by omega) (by omega) (by omega) hb' (T ++ [S[idx]]).length 0 0 (by omega) (by omega) hn
      refine Ev.step (f := fun k => impl_OnTimeOrder.l1 k ws (T ++ [S[idx]]) O (hh + keyBy ws 0 S[idx]) 0 S (S.length : Int) (idx : Int) (T ++ [S[idx]]) ((T ++ [S[idx]]).length : Int) 0) (fun k => ?_) hs
      unfold keyBy at c hk hk1 ⊢
      rw [impl_OnTimeOrder.l0, if_pos (by omega), if_pos (by omega), if_pos (by omega), if_pos (by omega), Option.bind_some, rd_get hlt, if_pos hx.1, if_pos (by omega), if_pos (by omega), if_pos (by omega), w64 (x := hh + rd (rd_L1 ws S[idx]) 0) (by omega) (by omega), if_neg c]
theorem mem_sortL (K : Int → Int) : ∀ (S P : List Int) (y : Int), y ∈ sortL K P S → y ∈ P ∨ y ∈ S := by
  intro S
  induction S with
  | nil => intro P y h; exact .inl h
  | cons x S ih =>
    intro P y h
    simp only [sortL] at h
    rcases ih _ y h with h | h
    · rcases insAt_mem h with h | rfl
      · exact .inl h
      · exact .inr List.mem_cons_self
    · exact .inr (List.mem_cons_of_mem _ h)
theorem orderBy_mem {ws : List (List Int)} {c y : Int} (h : y ∈ orderBy ws c) : 0 ≤ y ∧ y ≤ (ws.length : Int) - 1 := by
  unfold orderBy at h
  rcases mem_sortL _ _ _ _ h with h | h
  · simp at h
  · exact mem_upto.1 h
theorem orderBy_len (ws : List (List Int)) (c : Int) : (orderBy ws c).length = ws.length := by
  unfold orderBy
  rw [sortL_len, upto_len]
  simp
def onTime (ws : List (List Int)) : List Int := if worksOk ws = true then onT (keyBy ws 0) (keyBy ws 1) (orderBy ws 1) [] [] 0 else []
theorem onT_len (K D : Int → Int) : ∀ (S T O : List Int) (h : Int), (onT K D S T O h).length = S.length + T.length + O.length := by
  intro S
  induction S with
  | nil => intro T O h; simp [onT]
  | cons x S ih =>
    intro T O h
    simp only [onT]
    split
    · rw [ih]
      simp
      omega
    · rw [ih, List.length_eraseIdx_of_lt (longAt_lt K (T ++ [x]) _ 0 0 (by omega) (by simp))]
      simp
      omega
theorem onTime_bd (ws : List (List Int)) : (onTime ws).length ≤ 7 := by
  unfold onTime
  split
  · rename_i h
    rw [onT_len, orderBy_len]
    have := (worksOk_iff.1 h).1
    simpa using this
  · simp
theorem spec_OnTime_ev (ws : List (List Int)) : Ev (fun k => spec_OnTimeOrder.f k ws) (onTime ws) := by
  unfold spec_OnTimeOrder.f onTime
  refine Ev.bind (spec_WorksOk_ev ws) ?_
  by_cases c : worksOk ws = true
  · have hs := (worksOk_iff.1 c).1
    have hl := orderBy_len ws 1
    refine ev_eq (Ev.congr (fun k => if_pos c) (Ev.bind (spec_by_ev c (.inr rfl)) ?_)) (if_pos c).symm
    exact spec_on_0 c (orderBy ws 1) (fun y hy => orderBy_mem hy) (by omega) (orderBy ws 1).length 0 [] [] 0 (by omega) rfl (by simp) (by omega) (by omega)
  · exact ev_eq (Ev.congr (fun k => if_neg c) (Ev.now _)) (if_neg c).symm
theorem spec_Fewest_ev (ws : List (List Int)) : Ev (fun k => spec_FewestLate.f k ws) (if worksOk ws = true then countLate ws (onTime ws) else -1) := by
  unfold spec_FewestLate.f
  refine Ev.bind (spec_WorksOk_ev ws) ?_
  by_cases c : worksOk ws = true
  · have hb := onTime_bd ws
    refine ev_eq (Ev.congr (fun k => if_pos c) (Ev.bind (spec_OnTime_ev ws) (Ev.bind (spec_Count_ev ws (onTime ws) (by omega)) (Ev.now _)))) (if_pos c).symm
  · exact ev_eq (Ev.congr (fun k => if_neg c) (Ev.now _)) (if_neg c).symm
theorem impl_OnTime_ev (ws : List (List Int)) : Ev (fun k => impl_OnTimeOrder.f k ws) (onTime ws) := by
  unfold impl_OnTimeOrder.f onTime
  refine Ev.bind (impl_WorksOk_ev ws) ?_
  by_cases c : worksOk ws = true
  · have hs := (worksOk_iff.1 c).1
    have hl := orderBy_len ws 1
    refine ev_eq (Ev.congr (fun k => if_pos c) (Ev.bind (impl_by_ev c (.inr rfl)) ?_)) (if_pos c).symm
    exact impl_on_0 c (orderBy ws 1) (fun y hy => orderBy_mem hy) (by omega) (orderBy ws 1).length 0 [] [] 0 (by omega) rfl (by simp) (by omega) (by omega)
  · exact ev_eq (Ev.congr (fun k => if_neg c) (Ev.now _)) (if_neg c).symm
theorem impl_Fewest_ev (ws : List (List Int)) : Ev (fun k => impl_FewestLate.f k ws) (if worksOk ws = true then countLate ws (onTime ws) else -1) := by
  unfold impl_FewestLate.f
  refine Ev.bind (impl_WorksOk_ev ws) ?_
  by_cases c : worksOk ws = true
  · have hb := onTime_bd ws
    refine ev_eq (Ev.congr (fun k => if_pos c) (Ev.bind (impl_OnTime_ev ws) (Ev.bind (impl_Count_ev ws (onTime ws) (by omega)) (Ev.now _)))) (if_pos c).symm
  · exact ev_eq (Ev.congr (fun k => if_neg c) (Ev.now _)) (if_neg c).symm
end Go.Proofs.Ytoonamloihbjnaa.PA
/- The program's FewestLate returns what the reference's returns, for all arguments; no condition. -/
namespace Go.Proofs.Ytoonamloihbjnaa.PA
open Go.RowKit Go.Proofs.YtoonamloihbjnaaW.PrintWords
def laws_FnExactFewestLate.Pure : Prop := ∀ (l0 : List (List Int)), l0.length ≤ 9223372036854775807 → (∀ r ∈ l0, r.length ≤ 9223372036854775807) → (∀ r ∈ l0, ∀ x ∈ r, (Lit.int .i64 x).wf = true) → ∃ k, laws_FnExactFewestLate.f k l0 = some true
end Go.Proofs.Ytoonamloihbjnaa.PA
namespace Go.Proofs.Ytoonamloihbjnaa.Pure
open Go.RowKit Go.Proofs.Ytoonamloihbjnaa.PA Go.Proofs.YtoonamloihbjnaaW.PrintWords Go.Proofs.YtoonamloihbjnaaW.PrintLast Go.Proofs.YtoonamloihbjnaaW.PrintMore
set_option linter.unusedVariables false
set_option linter.unusedSimpArgs false
theorem FnExactFewestLate : laws_FnExactFewestLate.Pure := by
  intro l0 hl0 hr0 _
  refine Ev.rounds (g := fun k => laws_FnExactFewestLate.f k l0) ?_
  unfold laws_FnExactFewestLate.f
  obtain ⟨s, hs, hd⟩ := szIntSS_ev l0 hl0 hr0
  refine Ev.bind hs ?_
  by_cases c : s < 0
  · exact Ev.congr (fun k => if_pos c) (Ev.now _)
  refine Ev.congr (fun k => if_neg c) ?_
  obtain ⟨h1, h2⟩ : l0.length ≤ 1048576 ∧ ∀ x ∈ l0, x.length ≤ 1048576 := by
    rcases hd with hd | hd
    · exact absurd hd c
    · exact hd
  refine Ev.bind (toIntSS_ev l0 h1 h2) ?_
  refine Ev.bind (spec_Fewest_ev l0) ?_
  refine Ev.bind (toIntSS_ev l0 h1 h2) ?_
  refine Ev.bind (impl_Fewest_ev l0) ?_
  refine Ev.congr (fun k => if_pos rfl) ?_
  refine Ev.bind (toIntSS_ev l0 h1 h2) ?_
  refine Ev.bind (eqIntSS_ev l0 l0 (by omega) (fun x hx => by have := h2 x hx; omega)) ?_
  exact ev_const (if_pos (by simp))
end Go.Proofs.Ytoonamloihbjnaa.Pure
/- What the contracts ask of a slice of slices that comes in. -/
namespace Go.Proofs.Ytoonamloihbjnaa.PA
open Go.RowKit Go.Proofs.YtoonamloihbjnaaW.PrintWords Go.Proofs.YtoonamloihbjnaaW.PrintLast Go.Proofs.YtoonamloihbjnaaW.PrintMore
set_option linter.unusedVariables false
set_option linter.unusedSimpArgs false
open Go.ChangeShapes Go.WideShapes Go.Deep in
theorem rows_open {H : Type} {enc : TypeId × Value → H} {P : Program} {w : World} {base : Nat} {held : Bool} {t e q : TypeId} {k : IntKind} {fuel : Nat} {cs : List Value} {x : DataW H × List MemPlace} {a : Option Addr} {len cap : Nat}
    (ht : P.underlying t = some (.slice e)) (he : P.underlying e = some (.slice q)) (hq : P.underlying q = some (.int k))
    (ce : P.cellsOf e = 1) (cq : P.cellsOf q = 1) (h : DataW.trod enc P w base (fun _ => true) held fuel t cs = some x) (hcs : cs = [.slice a len cap]) :
    ∃ l : List (List Int), l.length = len ∧ len ≤ cap ∧ Kd.C (Kd.slice q (Kd.int k)) w a len l ∧ ∀ r ∈ l, ∀ n ∈ r, (Lit.int k n).wf = true := by
  rcases open_int_rows ht he hq ce cq h with ⟨h0, _⟩ | ⟨a', len', cap', A, L, C, Z, h0, _, hl, hm, _, hrows⟩
  · rw [hcs] at h0
    simp at h0
    obtain ⟨rfl, rfl, rfl⟩ := h0
    exact ⟨[], rfl, Nat.le_refl _, ⟨rfl, by omega, fun hh => absurd hh (by omega)⟩, by simp⟩
  · rw [hcs] at h0
    simp at h0
    obtain ⟨rfl, rfl, rfl⟩ := h0
    have hM : maxLen = 9223372036854775807 := rfl
    refine ⟨(List.range len).map fun r => (Z r).take (L r), by simp, hl, ⟨by simp, by omega, fun _ => ⟨a', rfl, fun j p hj => ?_⟩⟩, fun r hr n hn => ?_⟩
    · obtain ⟨hj1, hj2⟩ := List.getElem?_eq_some_iff.1 hj
      have hjl : j < len := by simpa using hj1
      obtain ⟨hc, h1, h2, h3, h4, h5, h6⟩ := hrows j (by omega)
      have hp : p = (Z j).take (L j) := by simpa using hj2.symm
      have hpl : p.length = L j := by rw [hp, List.length_take]; omega
      refine ⟨[.slice (A j) (L j) (C j)], rfl, ⟨A j, C j, by rw [hpl], by omega, ⟨rfl, by omega, fun hp0 => ?_⟩⟩, fun i u hu => ?_⟩
      · cases hA : A j with
        | none => have := h5 hA; omega
        | some b =>
          obtain ⟨_, hcell⟩ := h6 b hA
          refine ⟨b, rfl, fun i y hy => ⟨[.int k y], rfl, rfl, fun i' u hu => ?_⟩⟩
          obtain ⟨hi1, hi2⟩ := List.getElem?_eq_some_iff.1 hy
          cases i' with
          | succ i' => simp at hu
          | zero =>
            simp at hu
            subst hu
            have hz := hcell i (by omega)
            simp only [Kd.int, Kd.scalar, Nat.mul_one, Nat.add_zero]
            rw [hz]
            subst hp
            rw [List.getElem_take] at hi2
            rw [List.getD_eq_getElem?_getD, List.getElem?_eq_getElem (by omega), Option.getD_some, hi2]
      · cases i with
        | succ i => simp at hu
        | zero =>
          simp at hu
          subst hu
          simp only [Kd.slice, Nat.mul_one, Nat.add_zero]
          exact hc
    · obtain ⟨j, hj, rfl⟩ := List.mem_map.1 hr
      obtain ⟨_, _, _, _, h4, _⟩ := hrows j (by have := List.mem_range.1 hj; omega)
      exact h4 n (List.mem_of_mem_take hn)
/-- Each row of what came in has a length that an int holds. -/
theorem rows_len {w : World} {A : Option Addr} {n q : Nat} {k : IntKind} {l : List (List Int)} (h : Kd.C (Kd.slice q (Kd.int k)) w A n l) : l.length ≤ 9223372036854775807 ∧ ∀ r ∈ l, r.length ≤ 9223372036854775807 := by
  obtain ⟨h1, h2, h3⟩ := h
  refine ⟨by omega, fun r hr => ?_⟩
  obtain ⟨j, hj, rfl⟩ := List.getElem_of_mem hr
  obtain ⟨ad, _, hc⟩ := h3 (by omega)
  obtain ⟨c, _, ⟨A', c', _, _, hC⟩, _⟩ := hc j _ (List.getElem?_eq_getElem hj)
  exact hC.2.1
end Go.Proofs.Ytoonamloihbjnaa.PA
/- The row of the law FnExactFewestLate: for every input it answers true and its arguments read as before. No condition. Written by a program of this session's (rowgen.py) in the form of the kit's print. -/
namespace Go.Proofs.Ytoonamloihbjnaa.fnExactFewestLate
open Go.ChangeShapes Go.WideShapes Go.ChangeAt Go.RowKit Go.Proofs.YtoonamloihbjnaaW.PrintWords
open Go.ChangeMaps (open_string shut_string)
set_option linter.unusedVariables false
theorem own : ownKnob Try.prog.godebug = none := by kernel_rfl
theorem laidOut : laidOutB Try.prog = true := by kernel_rfl
def IsRow (k : IntKind) (w : World) (a : Option Addr) (len cap : Nat) (zs : List Int) : Prop :=
  (a = none ∧ len = 0 ∧ cap = 0 ∧ zs = []) ∨
  ∃ x, a = some x ∧ len ≤ cap ∧ cap ≤ maxLen ∧ zs.length = cap ∧ (∀ i, i < zs.length → w.cell? (x.add i) = some (.int k (zs.getD i 0))) ∧ ∀ n ∈ zs, (Lit.int k n).wf = true
set_option maxRecDepth 100000 in
theorem lifted (os : Os) (started : os.Started) (H : Type) (enc : TypeId × Value → H) :
    ReturnsInHanded {} Try.checked os 12 .any (Rows.fnExactFewestLateSpec.pre6 enc Try.prog Try.f12 Rows.fnExactFewestLateRow.domain false) (Rows.fnExactFewestLateSpec.post enc Try.prog Try.f12 false true false false) := by
  refine returnsInHanded_of_change_sized (C := Try.checked) own started (by kernel_rfl) Try.func12
    (ChangeSpec.witness6 (enc := enc) (C := Try.checked) false ⟨#[], #[.slice none 0 0], []⟩ 8 (by kernel_rfl) (by kernel_rfl) (by kernel_rfl) (by kernel_rfl)) ?_
  intro W base args ds gs before hval0 hW hcnd hsz0 _
  have hval : ∀ (j : Nat) t v, Try.f12.params[j]? = some t → args[j]? = some v → Value.okWide Try.prog W .any base t v := hval0
  have hW' := hW
  obtain ⟨p, q, hA0, hV, rfl, hfz, hnd⟩ := hW
  have hA : DataW.TrodAll enc Try.prog W 0 (fun _ => true) true Try.f12.params.toList args.toList ds p := hA0
  rw [Try.params12] at hA hval
  obtain ⟨v0, vs0, d0, ds0, p0, q0, hargs, rfl, rfl, h0, r0⟩ := trodAll_cons hA
  obtain ⟨rfl, rfl, rfl⟩ := trodAll_nil r0
  obtain rfl : args = #[v0] := by cases args; simp_all
  obtain ⟨rfl, rfl⟩ := trodVars_none hV
  obtain ⟨b0, len0, cap0, rfl⟩ := okWide_slice Try.underlying22 (hval 0 22 v0 rfl rfl)
  have k0 := h0
  have lt0 : ∀ x ∈ p0, x.block < W.heap.size := by obtain ⟨m, hm⟩ := k0; exact DataW.trod_lt m _ _ _ hm
  obtain ⟨l0, hl0, hc0, hr0, hw0⟩ : ∃ l : List (List Int), l.length = len0 ∧ len0 ≤ cap0 ∧ Kd.C (Kd.slice 3 (Kd.int .i64)) W b0 len0 l ∧ ∀ r ∈ l, ∀ n ∈ r, (Lit.int .i64 n).wf = true := by
    obtain ⟨fuel, hf⟩ := h0
    exact PA.rows_open Try.underlying22 Try.underlying27 Try.underlying3 (by kernel_rfl) (by kernel_rfl) hf (by simp [Value.cells])
  subst hl0
  clear hA0 hval0 hsz0
  obtain ⟨k, hk⟩ := Pure.FnExactFewestLate l0 (PA.rows_len hr0).1 (PA.rows_len hr0).2 hw0
  refine (PA.laws_FnExactFewestLate.calls k _ _ l0 true W hr0 hc0 hk).mono fun e W' ⟨he, bel0⟩ => ?_
  have bel : Below W.heap.size W W' := bel0
  subst he
  exact ⟨_, rfl, _, _, _, [], _, [], hW', trodAll_mk1 (shut_bool Try.underlying4 _), (trodAll_cons_mk (Below.trod laidOut (by kernel_rfl) (of_decide_eq_true (by kernel_rfl)) k0 bel lt0) trodAll_mk0), rfl, bel.frame _, fun h => by cases h⟩
theorem over : Rows.fnExactFewestLateRow.holds Try.pinned (OpenSpec.ofChange Rows.fnExactFewestLateSpec) :=
  OpenClaim.holds_of_wide 12 Try.f12 rfl rfl rfl rfl rfl rfl rfl ⟨rfl, rfl, rfl, rfl, rfl⟩ rfl rfl rfl rfl rfl (by kernel_rfl) Try.func12 (by kernel_rfl)
    (of_decide_eq_true (by kernel_rfl)) (by unfold Func.isWrapper; first | (rw [if_pos (by decide +kernel)]; kernel_rfl) | (rw [if_neg (by decide +kernel)]; exact ⟨rfl, rfl⟩))
    (fun os started H enc _ => lifted os started H enc)
theorem proved : Rows.FnExactFewestLateSaid := over
#print axioms proved
end Go.Proofs.Ytoonamloihbjnaa.fnExactFewestLate
namespace Go.Proofs.Ytoonamloihbjnaa
/-- The row, under a short name, for the claim. -/
theorem fnExactFewestLate_holds : Rows.FnExactFewestLateSaid := fnExactFewestLate.proved
end Go.Proofs.Ytoonamloihbjnaa
