/- Texts of this claim put together in build order (FnRemnants). -/
import Derived.Test.YtebjpafnfmmjeaaMFnRemnants0
import Derived.Test.YtebjpafnfmmjeaaMFnRemnants1
import Derived.Test.YtebjpafnfmmjeaaMFnRemnants2
import Derived.Test.YtebjpafnfmmjeaaMFnRemnants3
import Derived.Test.YtebjpafnfmmjeaaRows
import Derived.WalkKit
import Derived.ProofKit
import Derived.OpenShut
import Derived.ShutString
import Derived.ChangeOld
import Derived.Below
import Derived.SizedLaws
import Derived.Test.YtebjpafnfmmjeaaWSized
/- ints -/
namespace Go.Proofs.Ytebjpafnfmmjeaa.PA
open Go.RowKit Go.Proofs.YtebjpafnfmmjeaaW.PrintWords Go.Proofs.YtebjpafnfmmjeaaW.PrintLast Go.Proofs.YtebjpafnfmmjeaaW.PrintMore
set_option linter.unusedVariables false
set_option linter.unusedSimpArgs false
theorem w64 {x : Int} (h0 : -9223372036854775808 ≤ x) (h1 : x < 9223372036854775808) : wrap64 x = x := by
  unfold wrap64
  omega
theorem ev_eq {α : Type} {g : Nat → Option α} {r r' : α} (h : Ev g r) (e : r = r') : Ev g r' := e ▸ h
theorem ev_const {α : Type} {a : Option α} {r : α} (h : a = some r) : Ev (fun _ => a) r := ⟨0, fun _ _ => h⟩
theorem rdL_get {l : List (List Int)} {i : Nat} (h : i < l.length) : rd_L1 l (i : Int) = l[i] := by simp [rd_L1, List.getD_eq_getElem?_getD, h]
theorem takeL_step {l : List (List Int)} {i : Nat} (h : i < l.length) : l.take (i + 1) = l.take i ++ [l[i]] := by
  rw [List.take_succ_eq_append_getElem h]
theorem l01In_eq (a b c : Int) : spec_l01In.f a b c = some (decide (b ≤ a ∧ a ≤ c)) := by
  unfold spec_l01In.f
  by_cases h : a ≥ b
  · rw [if_pos h]; simp [h]
  · rw [if_neg h]; simp [h]
theorem within_eq (a b c : Int) : impl_within.f a b c = some (decide (b ≤ a ∧ a ≤ c)) := l01In_eq a b c
end Go.Proofs.Ytebjpafnfmmjeaa.PA
/- stores -/
namespace Go.Proofs.Ytebjpafnfmmjeaa.PA
open Go.RowKit Go.Proofs.YtebjpafnfmmjeaaW.PrintWords Go.Proofs.YtebjpafnfmmjeaaW.PrintLast Go.Proofs.YtebjpafnfmmjeaaW.PrintMore
set_option linter.unusedVariables false
set_option linter.unusedSimpArgs false
theorem isRemnant_eq (a b : Int) : impl_isRemnant.f a b = some (decide (1 ≤ a ∧ a ≤ 100 ∧ 1 ≤ b ∧ b ≤ 100)) := by
  unfold impl_isRemnant.f
  rw [within_eq]
  simp only [Option.bind_some]
  by_cases c : 1 ≤ a ∧ a ≤ 100
  · rw [if_pos (by simpa using c), within_eq]
    simp only [Option.bind_some]
    congr 1
    rw [decide_eq_decide]
    omega
  · rw [if_neg (by simpa using c)]
    congr 1
    exact (decide_eq_false (fun z => c ⟨z.1, z.2.1⟩)).symm
structure RowOk (r : List Int) : Prop where
  len : r.length = 2
  w1 : 1 ≤ rd r 0
  w2 : rd r 0 ≤ 100
  h1 : 1 ≤ rd r 1
  h2 : rd r 1 ≤ 100
theorem badRow_false {r : List Int} : badRow r = false ↔ RowOk r := by
  unfold badRow
  rw [Bool.not_eq_false', decide_eq_true_iff]
  exact ⟨fun ⟨a, b, c, d, e⟩ => ⟨a, b, c, d, e⟩, fun ⟨a, b, c, d, e⟩ => ⟨a, b, c, d, e⟩⟩
theorem storeOk_iff {l : List (List Int)} : storeOk l = true ↔ l.length ≤ 20 ∧ ∀ r ∈ l, RowOk r := by
  unfold storeOk
  rw [Bool.and_eq_true, decide_eq_true_iff, Bool.not_eq_true', List.any_eq_false]
  constructor
  · rintro ⟨a, b⟩
    exact ⟨a, fun r hr => badRow_false.1 (by simpa using b r hr)⟩
  · rintro ⟨a, b⟩
    exact ⟨a, fun r hr => by simpa using badRow_false.2 (b r hr)⟩
theorem impl_StoreOk_ev (l : List (List Int)) : Ev (fun _ => impl_StoreOk.f l) (storeOk l) := ev_const rfl
def rowArea (r : List Int) : Int := rd r 0 * rd r 1
theorem rowArea_bd {r : List Int} (h : RowOk r) : 1 ≤ rowArea r ∧ rowArea r ≤ 10000 := by
  obtain ⟨_, a, b, c, d⟩ := h
  have p1 : 1 * 1 ≤ rd r 0 * rd r 1 := Int.mul_le_mul a c (by omega) (by omega)
  have p2 : rd r 0 * rd r 1 ≤ 100 * 100 := Int.mul_le_mul b d (by omega) (by omega)
  unfold rowArea
  omega
def pick (l : List (List Int)) (w h best : Int) (i : Nat) : Int :=
  if rd (l.getD i []) 0 ≥ w ∧ rd (l.getD i []) 1 ≥ h ∧ (best < 0 ∨ rowArea (l.getD i []) < rowArea (l.getD best.toNat [])) then (i : Int) else best
def smallL (l : List (List Int)) (w h : Int) : Nat → Nat → Int → Int
  | 0, _, best => best
  | d + 1, i, best => smallL l w h d (i + 1) (pick l w h best i)
def smallest (l : List (List Int)) (w h : Int) : Int :=
  if storeOk l = true ∧ (1 ≤ w ∧ w ≤ 100 ∧ 1 ≤ h ∧ h ≤ 100) then smallL l w h l.length 0 (-1) else -1
theorem getD_get {l : List (List Int)} {i : Nat} (h : i < l.length) : l.getD i [] = l[i] := by simp [List.getD_eq_getElem?_getD, h]
theorem impl_small_l (l : List (List Int)) (w h : Int) (hl : l.length ≤ 20) (hr : ∀ r ∈ l, RowOk r) : ∀ (d i : Nat) (best : Int), i + d = l.length → -1 ≤ best → best < i →
    Ev (fun k => impl_SmallestFor.l0 k l w h best l (l.length : Int) (i : Int)) (smallL l w h d i best) := by
  intro d
  induction d with
  | zero =>
    intro i best hi h0 h1
    refine Ev.step (f := fun _ => some best) (fun k => ?_) (Ev.now _)
    simp only [impl_SmallestFor.l0]
    rw [if_neg (by omega)]
  | succ d ih =>
    intro i best hi h0 h1
    have hlt : i < l.length := by omega
    have hrow := hr l[i] (List.getElem_mem hlt)
    have ha := rowArea_bd hrow
    unfold rowArea at ha
    simp only [smallL]
    have hp : -1 ≤ pick l w h best i ∧ pick l w h best i < ((i + 1 : Nat) : Int) := by unfold pick; split <;> omega
    refine Ev.step (f := fun k => impl_SmallestFor.l0 k l w h (pick l w h best i) l (l.length : Int) ((i + 1 : Nat) : Int)) (fun k => ?_) (ih (i + 1) (pick l w h best i) (by omega) hp.1 hp.2)
    simp only [impl_SmallestFor.l0]
    unfold pick
    rw [getD_get hlt, if_pos (by omega), if_pos (by omega), if_pos (by omega), rdL_get hlt, w64 (x := (i : Int) + 1) (by omega) (by omega), show ((i : Int) + 1) = ((i + 1 : Nat) : Int) by omega]
    rw [if_pos (by have := hrow.len; omega)]
    by_cases c1 : rd l[i] 0 ≥ w
    · rw [if_pos c1, if_pos (by have := hrow.len; omega)]
      by_cases c2 : rd l[i] 1 ≥ h
      · rw [if_pos c2]
        by_cases c3 : best < 0
        · rw [if_pos c3, if_pos ⟨c1, c2, .inl c3⟩]
        · obtain ⟨b, rfl⟩ := Int.eq_ofNat_of_zero_le (a := best) (by omega)
          have hb : b < l.length := by omega
          have hrow2 := hr l[b] (List.getElem_mem hb)
          have ha2 := rowArea_bd hrow2
          unfold rowArea at ha2
          rw [if_neg c3, if_pos (by omega), if_pos (by omega), rdL_get hb, if_pos (by have := hrow2.len; omega), if_pos (by have := hrow2.len; omega), w64 (x := rd l[i] 0 * rd l[i] 1) (by omega) (by omega), w64 (x := rd l[b] 0 * rd l[b] 1) (by omega) (by omega)]
          rw [Int.toNat_natCast, getD_get hb]
          by_cases c4 : rd l[i] 0 * rd l[i] 1 < rd l[b] 0 * rd l[b] 1
          · rw [if_pos c4, if_pos ⟨c1, c2, .inr c4⟩]
          · rw [if_neg c4, if_neg (fun z => z.2.2.elim c3 c4)]
      · rw [if_neg c2, if_neg (fun z => c2 z.2.1)]
    · rw [if_neg c1, if_neg (fun z => c1 z.1)]
theorem impl_small_ev (l : List (List Int)) (w h : Int) : Ev (fun k => impl_SmallestFor.f k l w h) (smallest l w h) := by
  unfold impl_SmallestFor.f smallest
  refine Ev.bind (impl_StoreOk_ev l) ?_
  have no : ∀ c : Prop, [Decidable c] → ¬ c → Ev (fun k => impl_SmallestFor.j0 k l w h true) (if c then smallL l w h l.length 0 (-1) else -1) := by
    intro c _ hc
    rw [if_neg hc]
    refine Ev.step (f := fun _ => some (-1)) (fun k => ?_) (Ev.now _)
    simp only [impl_SmallestFor.j0]
    rw [if_pos trivial]
  by_cases c0 : storeOk l = true
  · refine Ev.congr (fun k => if_pos c0) ?_
    refine Ev.bind (ev_const (isRemnant_eq w h)) ?_
    by_cases c1 : 1 ≤ w ∧ w ≤ 100 ∧ 1 ≤ h ∧ h ≤ 100
    · rw [if_pos ⟨c0, c1⟩, decide_eq_true c1]
      obtain ⟨h1, h2⟩ := storeOk_iff.1 c0
      refine Ev.step (f := fun k => impl_SmallestFor.l0 k l w h (-1) l (l.length : Int) ((0 : Nat) : Int)) (fun k => ?_) (impl_small_l l w h h1 h2 l.length 0 (-1) (by omega) (by omega) (by omega))
      simp only [impl_SmallestFor.j0]
      rw [if_neg (by simp)]
      rfl
    · rw [decide_eq_false c1]
      exact no _ (fun z => c1 z.2)
  · exact Ev.congr (fun k => if_neg c0) (no _ (fun z => c0 z.1))
/-- The sum of areas. -/
def areaSum : List (List Int) → Int
  | [] => 0
  | r :: l => rowArea r + areaSum l
theorem areaSum_bd : ∀ (l : List (List Int)), (∀ r ∈ l, RowOk r) → 0 ≤ areaSum l ∧ areaSum l ≤ 10000 * (l.length : Int) := by
  intro l
  induction l with
  | nil => intro _; simp [areaSum]
  | cons r l ih =>
    intro h
    have h1 := ih (fun x hx => h x (List.mem_cons_of_mem _ hx))
    have h2 := rowArea_bd (h r List.mem_cons_self)
    simp only [areaSum, List.length_cons]
    omega
theorem impl_area_l (l : List (List Int)) (hl : l.length ≤ 20) (hr : ∀ r ∈ l, RowOk r) : ∀ (d i : Nat) (a : Int), i + d = l.length → 0 ≤ a → a ≤ 10000 * (i : Int) →
    Ev (fun k => impl_areaOf.l0 k a l (l.length : Int) (i : Int)) (a + areaSum (l.drop i)) := by
  intro d
  induction d with
  | zero =>
    intro i a hi h0 h1
    refine Ev.step (f := fun _ => some (a + areaSum (l.drop i))) (fun k => ?_) (Ev.now _)
    simp only [impl_areaOf.l0]
    rw [if_neg (by omega), List.drop_of_length_le (by omega)]
    simp [areaSum]
  | succ d ih =>
    intro i a hi h0 h1
    have hlt : i < l.length := by omega
    have hrow := hr l[i] (List.getElem_mem hlt)
    have ha := rowArea_bd hrow
    rw [List.drop_eq_getElem_cons hlt]
    simp only [areaSum]
    rw [← Int.add_assoc]
    refine Ev.step (f := fun k => impl_areaOf.l0 k (a + rowArea l[i]) l (l.length : Int) ((i + 1 : Nat) : Int)) (fun k => ?_) (ih (i + 1) (a + rowArea l[i]) (by omega) (by omega) (by omega))
    simp only [impl_areaOf.l0]
    unfold rowArea at ha ⊢
    rw [if_pos (by omega), if_pos (by omega), if_pos (by omega), rdL_get hlt, if_pos (by have := hrow.len; omega), if_pos (by have := hrow.len; omega), w64 (x := rd l[i] 0 * rd l[i] 1) (by omega) (by omega), w64 (x := a + _) (by omega) (by omega), w64 (by omega) (by omega)]
    rfl
theorem impl_area_ev (l : List (List Int)) (hl : l.length ≤ 20) (hr : ∀ r ∈ l, RowOk r) : Ev (fun k => impl_areaOf.f k l) (areaSum l) := by
  have := impl_area_l l hl hr l.length 0 0 (by omega) (by omega) (by omega)
  exact ev_eq this (by simp)
theorem impl_StoreArea_ev (l : List (List Int)) : Ev (fun k => impl_StoreArea.f k l) (if storeOk l then areaSum l else -1) := by
  unfold impl_StoreArea.f
  refine Ev.bind (impl_StoreOk_ev l) ?_
  by_cases c : storeOk l = true
  · rw [if_pos c]
    obtain ⟨h1, h2⟩ := storeOk_iff.1 c
    exact Ev.congr (fun k => if_pos c) (Ev.bind (impl_area_ev l h1 h2) (Ev.now _))
  · rw [if_neg c]
    exact Ev.congr (fun k => if_neg c) (Ev.now _)
end Go.Proofs.Ytebjpafnfmmjeaa.PA
/- one more remnant -/
namespace Go.Proofs.Ytebjpafnfmmjeaa.PA
open Go.RowKit Go.Proofs.YtebjpafnfmmjeaaW.PrintWords Go.Proofs.YtebjpafnfmmjeaaW.PrintLast Go.Proofs.YtebjpafnfmmjeaaW.PrintMore
set_option linter.unusedVariables false
set_option linter.unusedSimpArgs false
theorem copyLists_l (l : List (List Int)) (hl : l.length ≤ 1048576) (hr : ∀ r ∈ l, r.length ≤ 1048576) : ∀ (m i : Nat) (acc : List (List Int)), i + m = l.length → acc = l.take i →
    Ev (fun k => impl_copyLists.l0 k acc l (l.length : Int) (i : Int)) l := by
  intro m
  induction m with
  | zero =>
    intro i acc hi ha
    refine Ev.step (f := fun _ => some l) (fun k => ?_) (Ev.now _)
    simp only [impl_copyLists.l0]
    rw [if_neg (by omega), ha, List.take_of_length_le (by omega)]
  | succ m ih =>
    intro i acc hi ha
    have hlt : i < l.length := by omega
    have hx := hr l[i] (List.getElem_mem hlt)
    have hacc : acc.length ≤ i := by rw [ha, List.length_take]; omega
    refine Ev.step (f := fun k => impl_copyLists.l0 k (acc ++ [l[i]]) l (l.length : Int) ((i + 1 : Nat) : Int)) (fun k => ?_) (ih (i + 1) (acc ++ [l[i]]) (by omega) (by rw [takeL_step hlt, ha]))
    simp only [impl_copyLists.l0, Option.bind_some]
    rw [if_pos (by omega), if_pos (by omega), if_pos (by omega), rdL_get hlt, if_pos (by simp; omega), if_pos (by omega), w64 (by omega) (by omega)]
    simp
theorem copyLists_ev (l : List (List Int)) (hl : l.length ≤ 1048576) (hr : ∀ r ∈ l, r.length ≤ 1048576) : Ev (fun k => impl_copyLists.f k l) l :=
  copyLists_l l hl hr l.length 0 [] (by omega) (by simp)
def addRemnant (l : List (List Int)) (a b : Int) : List (List Int) × Bool := if storeOk l = true ∧ storeOk (l ++ [[a, b]]) = true then (l ++ [[a, b]], true) else ([], false)
theorem impl_AddRemnant_ev (l : List (List Int)) (a b : Int) (hl : l.length ≤ 1048576) : Ev (fun k => impl_AddRemnant.f k l a b) (addRemnant l a b) := by
  unfold impl_AddRemnant.f addRemnant
  refine Ev.bind (impl_StoreOk_ev l) ?_
  by_cases c : storeOk l = true
  · refine Ev.congr (fun k => if_pos c) ?_
    have h2 := (storeOk_iff.1 c).2
    refine Ev.bind (copyLists_ev l hl (fun r hr => by have := (h2 r hr).len; omega)) ?_
    refine Ev.congr (f := fun k => (impl_StoreOk.f (l ++ [[a, b]])).bind fun t => if t = true then some (l ++ [[a, b]], true) else some ([], false)) (fun k => if_pos (by omega)) ?_
    refine Ev.bind (impl_StoreOk_ev (l ++ [[a, b]])) ?_
    by_cases c2 : storeOk (l ++ [[a, b]]) = true
    · exact ev_eq (Ev.congr (fun k => if_pos c2) (Ev.now _)) (if_pos ⟨c, c2⟩).symm
    · exact ev_eq (Ev.congr (fun k => if_neg c2) (Ev.now _)) (if_neg (fun z => c2 z.2)).symm
  · exact ev_eq (Ev.congr (fun k => if_neg c) (Ev.now _)) (if_neg (fun z => c z.1)).symm
end Go.Proofs.Ytebjpafnfmmjeaa.PA
/- one piece -/
namespace Go.Proofs.Ytebjpafnfmmjeaa.PA
open Go.RowKit Go.Proofs.YtebjpafnfmmjeaaW.PrintWords Go.Proofs.YtebjpafnfmmjeaaW.PrintLast Go.Proofs.YtebjpafnfmmjeaaW.PrintMore
set_option linter.unusedVariables false
set_option linter.unusedSimpArgs false
structure Fits (l : List (List Int)) (w h i : Int) : Prop where
  lo : 0 ≤ i
  hi : i < (l.length : Int)
  w : w ≤ rd (l.getD i.toNat []) 0
  h : h ≤ rd (l.getD i.toNat []) 1
theorem pick_fits {l : List (List Int)} {w h best : Int} {i : Nat} (hi : i < l.length) (hb : best = -1 ∨ Fits l w h best) : pick l w h best i = -1 ∨ Fits l w h (pick l w h best i) := by
  unfold pick
  split
  · rename_i hc
    exact .inr ⟨by omega, by omega, by rw [Int.toNat_natCast]; exact hc.1, by rw [Int.toNat_natCast]; exact hc.2.1⟩
  · exact hb
theorem smallL_fits (l : List (List Int)) (w h : Int) : ∀ (d i : Nat) (best : Int), i + d = l.length → (best = -1 ∨ Fits l w h best) → smallL l w h d i best = -1 ∨ Fits l w h (smallL l w h d i best) := by
  intro d
  induction d with
  | zero => intro i best _ hb; exact hb
  | succ d ih =>
    intro i best hi hb
    simp only [smallL]
    exact ih (i + 1) _ (by omega) (pick_fits (by omega) hb)
structure Small (l : List (List Int)) (w h i : Int) : Prop where
  ok : storeOk l = true
  w1 : 1 ≤ w
  w2 : w ≤ 100
  h1 : 1 ≤ h
  h2 : h ≤ 100
  fits : Fits l w h i
theorem smallest_small {l : List (List Int)} {w h : Int} (hs : ¬ smallest l w h < 0) : Small l w h (smallest l w h) := by
  unfold smallest at hs ⊢
  by_cases c : storeOk l = true ∧ (1 ≤ w ∧ w ≤ 100 ∧ 1 ≤ h ∧ h ≤ 100)
  · rw [if_pos c] at hs ⊢
    rcases smallL_fits l w h l.length 0 (-1) (by omega) (.inl rfl) with e | e
    · rw [e] at hs; omega
    · exact ⟨c.1, c.2.1, c.2.2.1, c.2.2.2.1, c.2.2.2.2, e⟩
  · rw [if_neg c] at hs
    omega
theorem smallest_none {l : List (List Int)} {w h : Int} (hs : smallest l w h < 0) : smallest l w h = -1 := by
  unfold smallest at hs ⊢
  by_cases c : storeOk l = true ∧ (1 ≤ w ∧ w ≤ 100 ∧ 1 ≤ h ∧ h ≤ 100)
  · rw [if_pos c] at hs ⊢
    rcases smallL_fits l w h l.length 0 (-1) (by omega) (.inl rfl) with e | e
    · exact e
    · have := e.lo; omega
  · rw [if_neg c]
/-- What is left of the store, with the index and whether there was room. -/
def finPiece (i : Int) (R : List (List Int)) : List (List Int) × Int × Bool := if storeOk R = true then (R, i, true) else ([], -1, false)
def takePiece (l : List (List Int)) (w h : Int) : List (List Int) × Int × Bool :=
  if smallest l w h < 0 then ([], -1, false) else finPiece (smallest l w h) (l.eraseIdx (smallest l w h).toNat ++ (pieces (rd_L1 l (smallest l w h)) w h).filter pieceGood)
structure PieceOk (p : List Int) : Prop where
  len : p.length = 2
  a1 : 0 ≤ rd p 0
  a2 : rd p 0 ≤ 100
  b1 : 0 ≤ rd p 1
  b2 : rd p 1 ≤ 100
theorem pieceArea_eq {p : List Int} (h : PieceOk p) : pieceArea p = rd p 0 * rd p 1 := by
  have p2 : rd p 0 * rd p 1 ≤ 100 * 100 := Int.mul_le_mul h.a2 h.b2 h.b1 (by omega)
  have p1 := Int.mul_nonneg h.a1 h.b1
  unfold pieceArea
  exact w64 (by omega) (by omega)
theorem pieceGood_iff {p : List Int} (h : PieceOk p) : pieceGood p = true ↔ rd p 0 > 0 ∧ rd p 1 > 0 := by
  unfold pieceGood
  rw [decide_eq_true_iff, pieceArea_eq h]
  constructor
  · intro hp
    have h1 := h.a1
    have h2 := h.b1
    refine ⟨?_, ?_⟩
    · rcases Int.lt_or_eq_of_le h1 with c | c
      · exact c
      · rw [← c, Int.zero_mul] at hp; omega
    · rcases Int.lt_or_eq_of_le h2 with c | c
      · exact c
      · rw [← c, Int.mul_zero] at hp; omega
  · rintro ⟨h1, h2⟩
    exact Int.mul_pos h1 h2
theorem small_row {l : List (List Int)} {w h i : Int} (s : Small l w h i) : ∃ n : Nat, i = (n : Int) ∧ n < l.length ∧ l.length ≤ 20 ∧ rd_L1 l i = l.getD n [] ∧ RowOk (rd_L1 l i) ∧ w ≤ rd (rd_L1 l i) 0 ∧ h ≤ rd (rd_L1 l i) 1 := by
  obtain ⟨h1, h2⟩ := storeOk_iff.1 s.ok
  have f := s.fits
  obtain ⟨n, rfl⟩ := Int.eq_ofNat_of_zero_le f.lo
  have hn : n < l.length := by have := f.hi; omega
  have e : rd_L1 l (n : Int) = l[n] := rdL_get hn
  have e2 : l.getD n [] = l[n] := getD_get hn
  have fw := f.w
  have fh := f.h
  rw [Int.toNat_natCast, e2] at fw fh
  exact ⟨n, rfl, hn, h1, by rw [e, e2], by rw [e]; exact h2 _ (List.getElem_mem hn), by rw [e]; exact fw, by rw [e]; exact fh⟩
theorem piecesA_ok {r : List Int} {w h : Int} (hr : RowOk r) (w1 : 1 ≤ w) (w2 : w ≤ rd r 0) (h1 : 1 ≤ h) (h2 : h ≤ rd r 1) : piecesA r w h = [[rd r 0 - w, h], [rd r 0, rd r 1 - h]] := by
  have a := hr.w2
  have b := hr.h2
  unfold piecesA
  rw [w64 (by omega) (by omega), w64 (by omega) (by omega)]
theorem piecesB_ok {r : List Int} {w h : Int} (hr : RowOk r) (w1 : 1 ≤ w) (w2 : w ≤ rd r 0) (h1 : 1 ≤ h) (h2 : h ≤ rd r 1) : piecesB r w h = [[rd r 0 - w, rd r 1], [w, rd r 1 - h]] := by
  have a := hr.w2
  have b := hr.h2
  unfold piecesB
  rw [w64 (by omega) (by omega), w64 (by omega) (by omega)]
theorem pieces_ok {r : List Int} {w h : Int} (hr : RowOk r) (w1 : 1 ≤ w) (w2 : w ≤ rd r 0) (h1 : 1 ≤ h) (h2 : h ≤ rd r 1) : (∀ p ∈ pieces r w h, PieceOk p) ∧ (pieces r w h).length = 2 := by
  have a := hr.w2
  have b := hr.h2
  have two : ∀ x1 y1 x2 y2 : Int, 0 ≤ x1 ∧ x1 ≤ 100 → 0 ≤ y1 ∧ y1 ≤ 100 → 0 ≤ x2 ∧ x2 ≤ 100 → 0 ≤ y2 ∧ y2 ≤ 100 → (∀ p ∈ ([[x1, y1], [x2, y2]] : List (List Int)), PieceOk p) ∧ ([[x1, y1], [x2, y2]] : List (List Int)).length = 2 := by
    intro x1 y1 x2 y2 e1 e2 e3 e4
    refine ⟨fun p hp => ?_, rfl⟩
    rcases List.mem_cons.1 hp with rfl | hp
    · exact ⟨rfl, e1.1, e1.2, e2.1, e2.2⟩
    · rcases List.mem_cons.1 hp with rfl | hp
      · exact ⟨rfl, e3.1, e3.2, e4.1, e4.2⟩
      · cases hp
  unfold pieces
  split
  · rw [piecesB_ok hr w1 w2 h1 h2]
    exact two _ _ _ _ (by omega) (by omega) (by omega) (by omega)
  · rw [piecesA_ok hr w1 w2 h1 h2]
    exact two _ _ _ _ (by omega) (by omega) (by omega) (by omega)
theorem impl_TakePiece_ev (l : List (List Int)) (w h : Int) : Ev (fun k => impl_TakePiece.f k l w h) (takePiece l w h) := by
  unfold impl_TakePiece.f takePiece
  refine Ev.bind (impl_small_ev l w h) ?_
  by_cases c : smallest l w h < 0
  · exact ev_eq (Ev.congr (fun k => if_pos c) (Ev.now _)) (if_pos c).symm
  · rw [if_neg c]
    have s := smallest_small c
    obtain ⟨n, e, hn, h20, er, hrow, _, _⟩ := small_row s
    generalize smallest l w h = i at *
    subst e
    refine Ev.congr (fun k => if_neg c) ?_
    refine Ev.congr (fun k => if_pos ⟨⟨by omega, by omega⟩, by have := hrow.len; omega⟩) ?_
    have h2 := (storeOk_iff.1 s.ok).2
    refine Ev.bind (copyLists_ev l (by omega) (fun r hr => by have := (h2 r hr).len; omega)) ?_
    refine Ev.bind (ev_const (r := l.eraseIdx n) ?_) ?_
    · unfold slices_Delete_int_int.f
      rw [if_pos ⟨by omega, w64 (by omega) (by omega), by omega⟩, Int.toNat_natCast]
    · refine Ev.congr (fun k => if_pos (by have := List.length_eraseIdx_le l n; omega)) ?_
      refine Ev.bind (impl_StoreOk_ev _) ?_
      unfold finPiece
      rw [Int.toNat_natCast]
      by_cases c2 : storeOk (l.eraseIdx n ++ (pieces (rd_L1 l (n : Int)) w h).filter pieceGood) = true
      · exact ev_eq (Ev.congr (fun k => if_pos c2) (Ev.now _)) (if_pos c2).symm
      · exact ev_eq (Ev.congr (fun k => if_neg c2) (Ev.now _)) (if_neg c2).symm
theorem takePiece_ok {l : List (List Int)} {w h : Int} : storeOk (takePiece l w h).1 = true := by
  have e0 : storeOk ([] : List (List Int)) = true := by simp [storeOk]
  unfold takePiece finPiece
  split
  · exact e0
  · split
    · assumption
    · exact e0
end Go.Proofs.Ytebjpafnfmmjeaa.PA
/- many pieces -/
namespace Go.Proofs.Ytebjpafnfmmjeaa.PA
open Go.RowKit Go.Proofs.YtebjpafnfmmjeaaW.PrintWords Go.Proofs.YtebjpafnfmmjeaaW.PrintLast Go.Proofs.YtebjpafnfmmjeaaW.PrintMore
set_option linter.unusedVariables false
set_option linter.unusedSimpArgs false
def takeStep (s : List (List Int) × Int) (p : List Int) : List (List Int) × Int :=
  if (takePiece s.1 (rd p 0) (rd p 1)).2.2 = true then ((takePiece s.1 (rd p 0) (rd p 1)).1, s.2 + 1) else s
def takeAll (l ps : List (List Int)) : List (List Int) × Int := if storeOk l = true ∧ ps.length ≤ 20 ∧ ps.any badLen = false then ps.foldl takeStep (l, 0) else ([], -1)
theorem badLen_false {p : List Int} : badLen p = false ↔ p.length = 2 := by unfold badLen; simp
theorem takeStep_ok {s : List (List Int) × Int} (h : storeOk s.1 = true) (p : List Int) : storeOk (takeStep s p).1 = true := by
  unfold takeStep
  split
  · exact takePiece_ok
  · exact h
theorem foldTake_ok (ps : List (List Int)) : ∀ (s : List (List Int) × Int), storeOk s.1 = true → storeOk (ps.foldl takeStep s).1 = true := by
  induction ps with
  | nil => intro s h; exact h
  | cons p ps ih => intro s h; exact ih _ (takeStep_ok h p)
theorem takeAll_ok (l ps : List (List Int)) : storeOk (takeAll l ps).1 = true := by
  unfold takeAll
  split
  · rename_i h
    exact foldTake_ok ps _ h.1
  · simp [storeOk]
theorem impl_takeall_l (ps : List (List Int)) (h20 : ps.length ≤ 20) (hb : ∀ p ∈ ps, p.length = 2) : ∀ (m i : Nat) (now : List (List Int)) (n : Int), i + m = ps.length → 0 ≤ n → n ≤ i →
    Ev (fun k => impl_TakeAll.l0 k now n ps (ps.length : Int) (i : Int)) ((ps.drop i).foldl takeStep (now, n)) := by
  intro m
  induction m with
  | zero =>
    intro i now n hi h0 h1
    rw [List.drop_of_length_le (by omega)]
    refine Ev.step (f := fun _ => some (now, n)) (fun k => ?_) (Ev.now _)
    simp only [impl_TakeAll.l0]
    rw [if_neg (by omega)]
  | succ m ih =>
    intro i now n hi h0 h1
    have hlt : i < ps.length := by omega
    have hp := hb ps[i] (List.getElem_mem hlt)
    rw [List.drop_eq_getElem_cons hlt, List.foldl_cons]
    refine Ev.step (f := fun k => (impl_TakePiece.f k now (rd ps[i] 0) (rd ps[i] 1)).bind fun bt => if bt.2.2 = true then impl_TakeAll.l0 k bt.1 (n + 1) ps (ps.length : Int) ((i + 1 : Nat) : Int) else impl_TakeAll.l0 k now n ps (ps.length : Int) ((i + 1 : Nat) : Int)) (fun k => ?_) (Ev.bind (impl_TakePiece_ev now _ _) ?_)
    · simp only [impl_TakeAll.l0]
      rw [if_pos (by omega), if_pos (by omega), if_pos (by omega), rdL_get hlt, if_pos (by omega), if_pos (by omega), w64 (x := n + 1) (by omega) (by omega), w64 (x := (i : Int) + 1) (by omega) (by omega)]
      rfl
    · unfold takeStep
      by_cases c : (takePiece now (rd ps[i] 0) (rd ps[i] 1)).2.2 = true
      · rw [if_pos c]
        exact Ev.congr (fun k => if_pos c) (ih (i + 1) _ (n + 1) (by omega) (by omega) (by omega))
      · rw [if_neg c]
        exact Ev.congr (fun k => if_neg c) (ih (i + 1) now n (by omega) (by omega) (by omega))
theorem impl_TakeAll_ev (l ps : List (List Int)) : Ev (fun k => impl_TakeAll.f k l ps) (takeAll l ps) := by
  unfold impl_TakeAll.f takeAll
  refine Ev.bind (impl_StoreOk_ev l) ?_
  have no : ∀ c : Prop, [Decidable c] → ¬ c → Ev (fun k => impl_TakeAll.j0 k l ps true) (if c then ps.foldl takeStep (l, 0) else ([], -1)) := by
    intro c _ hc
    rw [if_neg hc]
    refine Ev.step (f := fun _ => some ([], -1)) (fun k => ?_) (Ev.now _)
    simp only [impl_TakeAll.j0]
    rw [if_pos trivial]
  by_cases c0 : storeOk l = true
  · refine Ev.congr (fun k => if_pos c0) ?_
    by_cases c1 : (ps.length : Int) > 20
    · exact Ev.congr (fun k => if_pos c1) (no _ (fun z => by omega))
    · refine Ev.congr (fun k => if_neg c1) ?_
      refine Ev.bind (ev_const (r := ps.any badLen) rfl) ?_
      cases c2 : ps.any badLen with
      | true => exact no _ (fun z => by simp at z)
      | false =>
        rw [if_pos ⟨c0, by omega, rfl⟩]
        obtain ⟨h1, h2⟩ := storeOk_iff.1 c0
        refine Ev.step (f := fun k => (impl_copyLists.f k l).bind fun t => impl_TakeAll.l0 k t 0 ps (ps.length : Int) ((0 : Nat) : Int)) (fun k => ?_) (Ev.bind (copyLists_ev l (by omega) (fun r hr => by have := (h2 r hr).len; omega)) ?_)
        · simp only [impl_TakeAll.j0]
          rw [if_neg (by simp)]
          rfl
        · exact ev_eq (impl_takeall_l ps (by omega) (fun p hp => badLen_false.1 (by simpa using List.any_eq_false.1 c2 p hp)) ps.length 0 l 0 (by omega) (by omega) (by omega)) (by simp)
  · exact Ev.congr (fun k => if_neg c0) (no _ (fun z => c0 z.1))
end Go.Proofs.Ytebjpafnfmmjeaa.PA
/- sorted stores -/
namespace Go.Proofs.Ytebjpafnfmmjeaa.PA
open Go.RowKit Go.Proofs.YtebjpafnfmmjeaaW.PrintWords Go.Proofs.YtebjpafnfmmjeaaW.PrintLast Go.Proofs.YtebjpafnfmmjeaaW.PrintMore
set_option linter.unusedVariables false
set_option linter.unusedSimpArgs false
theorem leRow_trans {a b c : List Int} (h1 : leRow a b = true) (h2 : leRow b c = true) : leRow a c = true := by
  unfold leRow at *
  rw [decide_eq_true_iff] at *
  omega
theorem leRow_total {a b : List Int} (h : ¬ leRow a b = true) : leRow b a = true := by
  unfold leRow at *
  rw [decide_eq_true_iff] at *
  omega
def sortStore (l : List (List Int)) : List (List Int) := if storeOk l = true then sortRows l else []
theorem impl_SortStore_ev (l : List (List Int)) : Ev (fun k => impl_SortStore.f k l) (sortStore l) := by
  unfold impl_SortStore.f sortStore
  refine Ev.bind (impl_StoreOk_ev l) ?_
  by_cases c : storeOk l = true
  · rw [if_pos c]
    obtain ⟨h1, h2⟩ := storeOk_iff.1 c
    refine Ev.congr (fun k => if_pos c) (Ev.bind (copyLists_ev l (by omega) (fun r hr => by have := (h2 r hr).len; omega)) ?_)
    exact Ev.congr (fun k => if_pos c) (Ev.now _)
  · rw [if_neg c]
    exact Ev.congr (fun k => if_neg c) (Ev.now _)
theorem sortStore_perm {l : List (List Int)} (h : storeOk l = true) : (sortStore l).Perm l := by
  unfold sortStore
  rw [if_pos h]
  exact List.mergeSort_perm l leRow
theorem sortStore_ok (l : List (List Int)) : storeOk (sortStore l) = true := by
  by_cases h : storeOk l = true
  · have hp := sortStore_perm h
    obtain ⟨h1, h2⟩ := storeOk_iff.1 h
    exact storeOk_iff.2 ⟨by rw [hp.length_eq]; exact h1, fun r hr => h2 r (hp.mem_iff.1 hr)⟩
  · unfold sortStore
    rw [if_neg h]
    simp [storeOk]
end Go.Proofs.Ytebjpafnfmmjeaa.PA
/- the reader of draws -/
namespace Go.Proofs.Ytebjpafnfmmjeaa.PA
open Go.RowKit Go.Proofs.YtebjpafnfmmjeaaW.PrintWords Go.Proofs.YtebjpafnfmmjeaaW.PrintLast Go.Proofs.YtebjpafnfmmjeaaW.PrintMore
set_option linter.unusedVariables false
set_option linter.unusedSimpArgs false
theorem and255 (x : Int) : 0 ≤ Go.bits .and .i64 x 255 ∧ Go.bits .and .i64 x 255 ≤ 255 := by
  unfold Go.bits
  have h : (BitVec.ofInt IntKind.i64.bits x &&& BitVec.ofInt IntKind.i64.bits 255).toNat ≤ 255 := by
    rw [BitVec.toNat_and]
    exact Nat.le_trans Nat.and_le_right (by decide)
  show 0 ≤ IntKind.i64.wrap ((BitVec.ofInt IntKind.i64.bits x &&& BitVec.ofInt IntKind.i64.bits 255).toNat : Int) ∧ IntKind.i64.wrap ((BitVec.ofInt IntKind.i64.bits x &&& BitVec.ofInt IntKind.i64.bits 255).toNat : Int) ≤ 255
  generalize (BitVec.ofInt IntKind.i64.bits x &&& BitVec.ofInt IntKind.i64.bits 255).toNat = n at *
  rw [IntKind.wrap_i64]
  omega
theorem byte_some (x : List Int) (i h : Int) (hx : x.length ≤ 1048576) (h0 : 0 ≤ i) (h1 : i ≤ (x.length : Int)) : ∃ b i' h', spec_l01Byte.f x i h = some (b, i', h') ∧ (0 ≤ b ∧ b ≤ 255) ∧ (0 ≤ i' ∧ i' ≤ (x.length : Int)) := by
  unfold spec_l01Byte.f
  by_cases c : i < (x.length : Int)
  · rw [if_pos c, if_pos h0]
    exact ⟨_, _, _, rfl, and255 _, by rw [w64 (by omega) (by omega)]; omega⟩
  · rw [if_neg c]
    exact ⟨_, _, _, rfl, and255 _, h0, h1⟩
theorem below_some (x : List Int) (i h n : Int) (hx : x.length ≤ 1048576) (h0 : 0 ≤ i) (h1 : i ≤ (x.length : Int)) (n0 : 1 ≤ n) (n1 : n ≤ 256) : ∃ v i' h', spec_l01Below.f x i h n = some (v, i', h') ∧ (0 ≤ v ∧ v < n) ∧ (0 ≤ i' ∧ i' ≤ (x.length : Int)) := by
  obtain ⟨b, i', h', e, hb, hi⟩ := byte_some x i h hx h0 h1
  refine ⟨Int.tmod b n, i', h', ?_, ?_, hi⟩
  · unfold spec_l01Below.f
    rw [if_neg (by omega), if_pos n1, e]
    simp only [Option.bind_some]
    rw [if_neg (by omega)]
  · rw [Int.tmod_eq_emod_of_nonneg hb.1]
    exact ⟨Int.emod_nonneg _ (by omega), Int.emod_lt_of_pos _ (by omega)⟩
theorem new_ev (x : List Int) (hx : x.length ≤ 1048576) : ∃ h, Ev (fun k => spec_l01New.f k x) (x, 0, h) := by
  have go : ∀ (m i : Nat) (a : Int), i + m = 4000 → ∃ h, Ev (fun k => spec_l01New.l0 k x a (i : Int)) (x, 0, h) := by
    intro m
    induction m with
    | zero =>
      intro i a hi
      refine ⟨a, Ev.step (f := fun _ => some (x, 0, a)) (fun k => ?_) (Ev.now _)⟩
      simp only [spec_l01New.l0]
      by_cases c : (i : Int) < (x.length : Int)
      · rw [if_pos c, if_neg (by omega)]
      · rw [if_neg c]
    | succ m ih =>
      intro i a hi
      by_cases c : (i : Int) < (x.length : Int)
      · obtain ⟨h, hh⟩ := ih (i + 1) (Go.bits .and .i64 (wrap64 ((wrap64 ((wrap64 (a * 179)) + (wrap64 (rd x (i : Int))))) + 7)) 1073741823) (by omega)
        refine ⟨h, Ev.step (f := fun k => spec_l01New.l0 k x (Go.bits .and .i64 (wrap64 ((wrap64 ((wrap64 (a * 179)) + (wrap64 (rd x (i : Int))))) + 7)) 1073741823) ((i + 1 : Nat) : Int)) (fun k => ?_) hh⟩
        simp only [spec_l01New.l0]
        rw [if_pos c, if_pos (by omega), if_pos (by omega), w64 (x := (i : Int) + 1) (by omega) (by omega)]
        rfl
      · refine ⟨a, Ev.step (f := fun _ => some (x, 0, a)) (fun k => ?_) (Ev.now _)⟩
        simp only [spec_l01New.l0]
        rw [if_neg c]
  obtain ⟨h, hh⟩ := go 4000 0 (wrap64 (2173 + (x.length : Int))) (by omega)
  exact ⟨h, hh⟩
theorem l31_ev (x : List Int) (hx : x.length ≤ 1048576) (n : Nat) (hn : n ≤ 1000) : ∃ i h, Ev (fun k => spec_l31New.f k x (n : Int)) (x, i, h) ∧ 0 ≤ i ∧ i ≤ (x.length : Int) := by
  obtain ⟨h0, e0⟩ := new_ev x hx
  have go : ∀ (m j : Nat) (i h : Int), j + m = n → 0 ≤ i → i ≤ (x.length : Int) → ∃ i' h', Ev (fun k => spec_l31New.l0 k x i h (n : Int) (j : Int)) (x, i', h') ∧ 0 ≤ i' ∧ i' ≤ (x.length : Int) := by
    intro m
    induction m with
    | zero =>
      intro j i h hj a b
      refine ⟨i, h, Ev.step (f := fun _ => some (x, i, h)) (fun k => ?_) (Ev.now _), a, b⟩
      simp only [spec_l31New.l0]
      rw [if_neg (by omega)]
    | succ m ih =>
      intro j i h hj a b
      obtain ⟨bb, i', h', e, _, hi⟩ := byte_some x i h hx a b
      obtain ⟨i2, h2, e2, g2⟩ := ih (j + 1) i' h' (by omega) hi.1 hi.2
      refine ⟨i2, h2, Ev.step (f := fun k => spec_l31New.l0 k x i' h' (n : Int) ((j + 1 : Nat) : Int)) (fun k => ?_) e2, g2⟩
      simp only [spec_l31New.l0]
      rw [if_pos (by omega), e]
      simp only [Option.bind_some]
      rw [w64 (by omega) (by omega)]
      rfl
  obtain ⟨i, h, e, g⟩ := go n 0 0 h0 (by omega) (by omega) (by omega)
  refine ⟨i, h, ?_, g⟩
  unfold spec_l31New.f
  exact Ev.bind e0 e
theorem size_ev (x : List Int) (hx : x.length ≤ 1048576) (n low high : Nat) (hn : n ≤ 1000) (h1 : low ≤ high) (h2 : high ≤ low + 98) (h3 : high ≤ 1000000) : ∃ v, Ev (fun k => spec_MakeSize.f k x (n : Int) (low : Int) (high : Int)) v ∧ (low : Int) ≤ v ∧ v ≤ (high : Int) := by
  obtain ⟨i, h, e, a, b⟩ := l31_ev x hx n hn
  obtain ⟨v, i', h', e2, hv, _⟩ := below_some x i h ((high : Int) - low + 1) hx a b (by omega) (by omega)
  have last : ∀ (m : Nat) (c : Int) (d : Nat), c = (low : Int) + d → d + m = v.toNat → Ev (fun k => spec_MakeSize.l1 k c (m : Int)) ((low : Int) + v) := by
    intro m
    induction m with
    | zero =>
      intro c d hc hd
      refine Ev.step (f := fun _ => some c) (fun k => ?_) (ev_eq (Ev.now _) (by omega))
      simp only [spec_MakeSize.l1]
      rw [if_neg (by omega)]
    | succ m ih =>
      intro c d hc hd
      refine Ev.step (f := fun k => spec_MakeSize.l1 k (c + 1) (m : Int)) (fun k => ?_) (ih (c + 1) (d + 1) (by omega) (by omega))
      simp only [spec_MakeSize.l1]
      rw [if_pos (by omega), w64 (x := c + 1) (by omega) (by omega), w64 (by omega) (by omega)]
      congr 1
      omega
  have mid : Ev (fun k => spec_MakeSize.j1 k x (n : Int) (low : Int) ((high : Int) - low + 1)) ((low : Int) + v) := by
    refine Ev.step (f := fun k => (spec_l31New.f k x (n : Int)).bind fun bt => (spec_l01Below.f bt.1 bt.2.1 bt.2.2 ((high : Int) - low + 1)).bind fun bt2 => spec_MakeSize.l1 k (low : Int) bt2.1) (fun k => ?_) (Ev.bind e (Ev.bind (ev_const e2) ?_))
    · simp only [spec_MakeSize.j1]
    · have := last v.toNat (low : Int) 0 (by omega) (by omega)
      rwa [show ((v.toNat : Nat) : Int) = v by omega] at this
  have go : ∀ (m s : Nat), s + m = high - low → Ev (fun k => spec_MakeSize.l0 k x (n : Int) (low : Int) (high : Int) ((s : Int) + 1) ((low : Int) + s)) ((low : Int) + v) := by
    intro m
    induction m with
    | zero =>
      intro s hs
      refine Ev.step (f := fun k => spec_MakeSize.j1 k x (n : Int) (low : Int) ((high : Int) - low + 1)) (fun k => ?_) mid
      simp only [spec_MakeSize.l0]
      rw [if_neg (by omega), show ((s : Int) + 1) = (high : Int) - low + 1 by omega]
    | succ m ih =>
      intro s hs
      refine Ev.step (f := fun k => spec_MakeSize.l0 k x (n : Int) (low : Int) (high : Int) (((s + 1 : Nat) : Int) + 1) ((low : Int) + ((s + 1 : Nat) : Int))) (fun k => ?_) (ih (s + 1) (by omega))
      simp only [spec_MakeSize.l0]
      rw [if_pos (by omega), if_pos (by omega), w64 (x := (s : Int) + 1 + 1) (by omega) (by omega), w64 (by omega) (by omega)]
      congr 1
  refine ⟨(low : Int) + v, ?_, by omega, by omega⟩
  have := go (high - low) 0 (by omega)
  unfold spec_MakeSize.f
  simpa using this
end Go.Proofs.Ytebjpafnfmmjeaa.PA
/- the drawn store -/
namespace Go.Proofs.Ytebjpafnfmmjeaa.PA
open Go.RowKit Go.Proofs.YtebjpafnfmmjeaaW.PrintWords Go.Proofs.YtebjpafnfmmjeaaW.PrintLast Go.Proofs.YtebjpafnfmmjeaaW.PrintMore
set_option linter.unusedVariables false
set_option linter.unusedSimpArgs false
theorem drawStore_ev (x : List Int) (hx : x.length ≤ 1048576) : ∀ (m : Nat) (acc : List (List Int)) (i h : Int), acc.length + m ≤ 5 → (∀ r ∈ acc, RowOk r ∧ rd r 0 ≤ 20 ∧ rd r 1 ≤ 20) → 0 ≤ i → i ≤ (x.length : Int) →
    ∃ l i' h', Ev (fun k => spec_l21Draw.l0 k acc (m : Int) x i h) (l, i', h') ∧ l.length ≤ 5 ∧ (∀ r ∈ l, RowOk r ∧ rd r 0 ≤ 20 ∧ rd r 1 ≤ 20) := by
  intro m
  induction m with
  | zero =>
    intro acc i h ha hr a b
    refine ⟨acc, i, h, Ev.step (f := fun _ => some (acc, i, h)) (fun k => ?_) (Ev.now _), by omega, hr⟩
    simp only [spec_l21Draw.l0]
    rw [if_neg (by omega)]
  | succ m ih =>
    intro acc i h ha hr a b
    obtain ⟨v1, i1, h1, e1, g1, a1, b1⟩ := below_some x i h 20 hx a b (by omega) (by omega)
    obtain ⟨v2, i2, h2, e2, g2, a2, b2⟩ := below_some x i1 h1 20 hx a1 b1 (by omega) (by omega)
    obtain ⟨l, i', h', e, hl, hrr⟩ := ih (acc ++ [[1 + v1, 1 + v2]]) i2 h2 (by simp; omega) (fun r hr2 => by
      rcases List.mem_append.1 hr2 with hr2 | hr2
      · exact hr r hr2
      · rw [List.mem_singleton.1 hr2]
        have r0 : rd [1 + v1, 1 + v2] 0 = 1 + v1 := rfl
        have r1 : rd [1 + v1, 1 + v2] 1 = 1 + v2 := rfl
        rw [r0, r1]
        exact ⟨⟨rfl, by rw [r0]; omega, by rw [r0]; omega, by rw [r1]; omega, by rw [r1]; omega⟩, by omega, by omega⟩) a2 b2
    refine ⟨l, i', h', Ev.step (f := fun k => spec_l21Draw.l0 k (acc ++ [[1 + v1, 1 + v2]]) (m : Int) x i2 h2) (fun k => ?_) e, hl, hrr⟩
    simp only [spec_l21Draw.l0]
    rw [if_pos (by omega), e1]
    simp only [Option.bind_some]
    rw [e2]
    simp only [Option.bind_some]
    rw [if_pos (by omega), w64 (x := 1 + v1) (by omega) (by omega), w64 (x := 1 + v2) (by omega) (by omega), w64 (by omega) (by omega)]
    congr 1
    omega
theorem makeStore_ev (x : List Int) (hx : x.length ≤ 1048576) : ∃ l, Ev (fun k => spec_MakeStore.f k x 0) l ∧ l.length ≤ 5 ∧ (∀ r ∈ l, RowOk r ∧ rd r 0 ≤ 20 ∧ rd r 1 ≤ 20) := by
  obtain ⟨i, h, e, a, b⟩ := l31_ev x hx 0 (by omega)
  obtain ⟨v, i1, h1, e1, g, a1, b1⟩ := below_some x i h 6 hx a b (by omega) (by omega)
  obtain ⟨l, i', h', e2, hl, hr⟩ := drawStore_ev x hx v.toNat [] i1 h1 (by simp; omega) (by simp) a1 b1
  rw [show ((v.toNat : Nat) : Int) = v by omega] at e2
  refine ⟨l, ?_, hl, hr⟩
  unfold spec_MakeStore.f
  have e3 : Ev (fun k => spec_l21Draw.f k x i h) (l, i', h') := by
    unfold spec_l21Draw.f
    exact Ev.bind (ev_const e1) e2
  exact Ev.bind e (Ev.bind e3 (Ev.now l))
end Go.Proofs.Ytebjpafnfmmjeaa.PA
/- FnRemnants: the plain half. -/
namespace Go.Proofs.Ytebjpafnfmmjeaa.PA
open Go.RowKit Go.Proofs.YtebjpafnfmmjeaaW.PrintWords Go.Proofs.YtebjpafnfmmjeaaW.PrintLast Go.Proofs.YtebjpafnfmmjeaaW.PrintMore
set_option linter.unusedVariables false
set_option linter.unusedSimpArgs false
theorem areaSum_append : ∀ (a b : List (List Int)), areaSum (a ++ b) = areaSum a + areaSum b := by
  intro a b
  induction a with
  | nil => simp [areaSum]
  | cons r a ih => simp only [List.cons_append, areaSum]; omega
theorem areaSum_perm {a b : List (List Int)} (h : a.Perm b) : areaSum a = areaSum b := by
  induction h with
  | nil => rfl
  | cons x _ ih => simp only [areaSum]; omega
  | swap x y l => simp only [areaSum]; omega
  | trans _ _ ih1 ih2 => omega
theorem areaSum_erase : ∀ (l : List (List Int)) (n : Nat) (h : n < l.length), areaSum (l.eraseIdx n) = areaSum l - rowArea l[n] := by
  intro l
  induction l with
  | nil => intro n h; simp at h
  | cons r l ih =>
    intro n h
    cases n with
    | zero => simp only [List.eraseIdx_cons_zero, areaSum, List.getElem_cons_zero]; omega
    | succ n =>
      simp only [List.length_cons] at h
      simp only [List.eraseIdx_cons_succ, areaSum, List.getElem_cons_succ]
      rw [ih n (by omega)]
      omega
/-- The pieces' areas. -/
theorem pieces_area {r : List Int} {w h : Int} (hr : RowOk r) (w1 : 1 ≤ w) (w2 : w ≤ rd r 0) (h1 : 1 ≤ h) (h2 : h ≤ rd r 1) : areaSum ((pieces r w h).filter pieceGood) = rowArea r - w * h ∧ (∀ p ∈ (pieces r w h).filter pieceGood, RowOk p) := by
  obtain ⟨hok, _⟩ := pieces_ok hr w1 w2 h1 h2
  have hgood : ∀ p ∈ (pieces r w h).filter pieceGood, RowOk p := fun p hp => by
    obtain ⟨hp1, hp2⟩ := List.mem_filter.1 hp
    have k := hok p hp1
    obtain ⟨g1, g2⟩ := (pieceGood_iff k).1 hp2
    exact ⟨k.len, by omega, k.a2, by omega, k.b2⟩
  refine ⟨?_, hgood⟩
  have skip : ∀ (P : List (List Int)), (∀ p ∈ P, PieceOk p) → areaSum (P.filter pieceGood) = areaSum P := by
    intro P
    induction P with
    | nil => intro _; rfl
    | cons p P ih =>
      intro hP
      have hp := hP p List.mem_cons_self
      have ih2 := ih (fun q hq => hP q (List.mem_cons_of_mem _ hq))
      rw [List.filter_cons]
      by_cases c : pieceGood p = true
      · rw [if_pos c]; simp only [areaSum]; omega
      · rw [if_neg c]
        simp only [areaSum]
        have hz : rowArea p = 0 := by
          unfold rowArea
          have h3 : ¬ (rd p 0 > 0 ∧ rd p 1 > 0) := fun z => c ((pieceGood_iff hp).2 z)
          have a1 := hp.a1
          have b1 := hp.b1
          by_cases z : rd p 0 = 0
          · rw [z, Int.zero_mul]
          · have : rd p 1 = 0 := by omega
            rw [this, Int.mul_zero]
        omega
  rw [skip _ hok]
  have two : ∀ x1 y1 x2 y2 : Int, areaSum [[x1, y1], [x2, y2]] = x1 * y1 + x2 * y2 := fun x1 y1 x2 y2 => by
    simp only [areaSum, rowArea]
    show x1 * y1 + (x2 * y2 + 0) = _
    omega
  unfold rowArea
  generalize ha : rd r 0 = a at *
  generalize hb : rd r 1 = b at *
  unfold pieces
  split
  · rw [piecesB_ok hr w1 (by omega) h1 (by omega), two, ha, hb, Int.sub_mul, Int.mul_sub]
    omega
  · rw [piecesA_ok hr w1 (by omega) h1 (by omega), two, ha, hb, Int.sub_mul, Int.mul_sub]
    omega
/-- What TakePiece leaves where it takes one. -/
theorem takePiece_area {l : List (List Int)} {w h : Int} (ht : (takePiece l w h).2.2 = true) : areaSum (takePiece l w h).1 = areaSum l - w * h ∧ (takePiece l w h).1.length ≤ l.length + 1 := by
  unfold takePiece at *
  by_cases c : smallest l w h < 0
  · rw [if_pos c] at ht; simp at ht
  · rw [if_neg c] at ht ⊢
    have s := smallest_small c
    obtain ⟨n, e, hn, h20, er, hrow, hw, hh⟩ := small_row s
    rw [e] at ht ⊢
    rw [e] at hrow hw hh er
    unfold finPiece at *
    by_cases c2 : storeOk (l.eraseIdx (n : Int).toNat ++ (pieces (rd_L1 l (n : Int)) w h).filter pieceGood) = true
    · rw [if_pos c2]
      obtain ⟨pa, _⟩ := pieces_area hrow s.w1 hw s.h1 hh
      have p2 := (pieces_ok hrow s.w1 hw s.h1 hh).2
      rw [Int.toNat_natCast, areaSum_append, areaSum_erase l n hn, pa]
      have e3 : rd_L1 l (n : Int) = l[n] := rdL_get hn
      refine ⟨by rw [e3]; omega, ?_⟩
      have h9 := List.length_filter_le pieceGood (pieces (rd_L1 l (n : Int)) w h)
      simp only [List.length_append, List.length_eraseIdx_of_lt hn]
      omega
    · rw [if_neg c2] at ht; simp at ht
/-- It takes one where there is room in the store. -/
theorem takePiece_takes {l : List (List Int)} {w h : Int} (hl : l.length ≤ 19) (c : ¬ smallest l w h < 0) : (takePiece l w h).2.2 = true ∧ (takePiece l w h).2.1 = smallest l w h := by
  have s := smallest_small c
  obtain ⟨n, e, hn, h20, er, hrow, hw, hh⟩ := small_row s
  have hok : storeOk (l.eraseIdx (smallest l w h).toNat ++ (pieces (rd_L1 l (smallest l w h)) w h).filter pieceGood) = true := by
    rw [e] at hrow hw hh ⊢
    rw [storeOk_iff]
    obtain ⟨_, pg⟩ := pieces_area hrow s.w1 hw s.h1 hh
    have p2 := (pieces_ok hrow s.w1 hw s.h1 hh).2
    have h9 := List.length_filter_le pieceGood (pieces (rd_L1 l (n : Int)) w h)
    refine ⟨by simp only [List.length_append, Int.toNat_natCast, List.length_eraseIdx_of_lt hn]; omega, fun r hr => ?_⟩
    rcases List.mem_append.1 hr with hr | hr
    · exact (storeOk_iff.1 s.ok).2 r (List.mem_of_mem_eraseIdx hr)
    · exact pg r hr
  unfold takePiece finPiece
  rw [if_neg c, if_pos hok]
  exact ⟨rfl, rfl⟩
/-- SmallestFor's answer is the least of those with room, and the first of such. -/
def Least (l : List (List Int)) (w h : Int) (i : Nat) (best : Int) : Prop :=
  ∀ j, j < i → rd (l.getD j []) 0 ≥ w → rd (l.getD j []) 1 ≥ h → 0 ≤ best ∧ best < (i : Int) ∧ (rowArea (l.getD best.toNat []) < rowArea (l.getD j []) ∨ (rowArea (l.getD best.toNat []) = rowArea (l.getD j []) ∧ best ≤ (j : Int)))
theorem pick_least {l : List (List Int)} {w h best : Int} {i : Nat} (hb : best < (i : Int)) (hl : Least l w h i best) : Least l w h (i + 1) (pick l w h best i) := by
  intro j hj h1 h2
  unfold pick
  by_cases c : rd (l.getD i []) 0 ≥ w ∧ rd (l.getD i []) 1 ≥ h ∧ (best < 0 ∨ rowArea (l.getD i []) < rowArea (l.getD best.toNat []))
  · rw [if_pos c, Int.toNat_natCast]
    refine ⟨by omega, by omega, ?_⟩
    by_cases e : j = i
    · subst e; exact .inr ⟨rfl, by omega⟩
    · obtain ⟨g1, g2, g3⟩ := hl j (by omega) h1 h2
      rcases c.2.2 with c3 | c3
      · omega
      · rcases g3 with g3 | g3
        · exact .inl (by omega)
        · exact .inl (by omega)
  · rw [if_neg c]
    by_cases e : j = i
    · subst e
      have c2 : ¬ (best < 0 ∨ rowArea (l.getD j []) < rowArea (l.getD best.toNat [])) := fun z => c ⟨h1, h2, z⟩
      refine ⟨by omega, by omega, by omega⟩
    · obtain ⟨g1, g2, g3⟩ := hl j (by omega) h1 h2
      exact ⟨g1, by omega, g3⟩
theorem smallL_least (l : List (List Int)) (w h : Int) : ∀ (d i : Nat) (best : Int), i + d = l.length → best < (i : Int) → Least l w h i best → Least l w h l.length (smallL l w h d i best) := by
  intro d
  induction d with
  | zero =>
    intro i best hi hb hl
    have : i = l.length := by omega
    subst this
    exact hl
  | succ d ih =>
    intro i best hi hb hl
    simp only [smallL]
    refine ih (i + 1) _ (by omega) ?_ (pick_least hb hl)
    unfold pick
    split <;> omega
theorem smallest_least {l : List (List Int)} {w h : Int} (hs : storeOk l = true) (hw : 1 ≤ w ∧ w ≤ 100) (hh : 1 ≤ h ∧ h ≤ 100) : Least l w h l.length (smallest l w h) := by
  unfold smallest
  rw [if_pos ⟨hs, hw.1, hw.2, hh.1, hh.2⟩]
  exact smallL_least l w h l.length 0 (-1) (by omega) (by omega) (fun j hj => by omega)
theorem canMake_ev (l : List (List Int)) (w h : Int) (t : Bool) : Ev (fun k => impl_CanMake.f k l w h t) (decide (0 ≤ smallest l w h) || (t && decide (0 ≤ smallest l h w))) := by
  unfold impl_CanMake.f
  refine Ev.bind (impl_small_ev l w h) ?_
  by_cases c : smallest l w h ≥ 0
  · rw [decide_eq_true (show 0 ≤ smallest l w h from c), Bool.true_or]
    exact Ev.congr (fun k => if_pos c) (Ev.now _)
  · rw [decide_eq_false (show ¬ 0 ≤ smallest l w h from c), Bool.false_or]
    refine Ev.congr (fun k => if_neg c) ?_
    cases t with
    | true => exact Ev.congr (fun k => if_pos rfl) (Ev.bind (impl_small_ev l h w) (Ev.now _))
    | false => exact Ev.congr (fun k => if_neg (by simp)) (Ev.now _)
theorem laws_area_l (l : List (List Int)) (hl : l.length ≤ 20) (hr : ∀ r ∈ l, RowOk r) : ∀ (d i : Nat) (a : Int), i + d = l.length → 0 ≤ a → a ≤ 10000 * (i : Int) →
    Ev (fun k => laws_area.l0 k a l (l.length : Int) (i : Int)) (a + areaSum (l.drop i)) := by
  intro d
  induction d with
  | zero =>
    intro i a hi h0 h1
    refine Ev.step (f := fun _ => some (a + areaSum (l.drop i))) (fun k => ?_) (Ev.now _)
    simp only [laws_area.l0]
    rw [if_neg (by omega), List.drop_of_length_le (by omega)]
    simp [areaSum]
  | succ d ih =>
    intro i a hi h0 h1
    have hlt : i < l.length := by omega
    have hrow := hr l[i] (List.getElem_mem hlt)
    have ha := rowArea_bd hrow
    rw [List.drop_eq_getElem_cons hlt]
    simp only [areaSum]
    rw [← Int.add_assoc]
    refine Ev.step (f := fun k => laws_area.l0 k (a + rowArea l[i]) l (l.length : Int) ((i + 1 : Nat) : Int)) (fun k => ?_) (ih (i + 1) (a + rowArea l[i]) (by omega) (by omega) (by omega))
    simp only [laws_area.l0]
    unfold rowArea at ha ⊢
    rw [if_pos (by omega), if_pos (by omega), if_pos (by omega), rdL_get hlt, if_pos (by have := hrow.len; omega), if_pos (by have := hrow.len; omega), w64 (x := rd l[i] 0 * rd l[i] 1) (by omega) (by omega), w64 (x := a + _) (by omega) (by omega), w64 (by omega) (by omega)]
    rfl
theorem laws_area_ev {l : List (List Int)} (h : storeOk l = true) : Ev (fun k => laws_area.f k l) (areaSum l) := by
  obtain ⟨h1, h2⟩ := storeOk_iff.1 h
  have := laws_area_l l h1 h2 l.length 0 0 (by omega) (by omega) (by omega)
  exact ev_eq this (by simp)
theorem storeArea_ev {l : List (List Int)} (h : storeOk l = true) : Ev (fun k => impl_StoreArea.f k l) (areaSum l) := ev_eq (impl_StoreArea_ev l) (if_pos h)
theorem takeStep_inv {s : List (List Int) × Int} {p : List Int} {c A : Int} (hc : rd p 0 * rd p 1 = c) (hi : areaSum s.1 + s.2 * c = A) : areaSum (takeStep s p).1 + (takeStep s p).2 * c = A ∧ s.2 ≤ (takeStep s p).2 ∧ (takeStep s p).2 ≤ s.2 + 1 := by
  unfold takeStep
  by_cases ct : (takePiece s.1 (rd p 0) (rd p 1)).2.2 = true
  · rw [if_pos ct]
    obtain ⟨ha, _⟩ := takePiece_area ct
    refine ⟨?_, by simp only; omega, by simp only; omega⟩
    simp only
    rw [ha, hc, Int.add_mul, Int.one_mul]
    omega
  · rw [if_neg ct]
    exact ⟨hi, by omega, by omega⟩
/-- What the last lines of the law ask. -/
theorem rem_last {m : List (List Int)} {w h a : Int} (hm : storeOk m = true) (hl : m.length ≤ 6) (hw : 1 ≤ w ∧ w ≤ 12) (hh : 1 ≤ h ∧ h ≤ 12) (ha : areaSum m = a + w * h) (hc : 0 ≤ smallest m w h) (a0 : 0 ≤ a ∧ a ≤ 100000) :
    Ev (fun k => (impl_TakeAll.f k m [[w, h], [h, w], [w, h]]).bind fun bt => (if bt.2 ≥ 1 then (if bt.2 ≤ 3 then ((impl_StoreArea.f k bt.1).bind fun t => (some (t == (wrap64 ((wrap64 (a + (wrap64 (w * h)))) - (wrap64 ((wrap64 (bt.2 * w)) * h))))))) else none) else none)) true := by
  refine Ev.bind (impl_TakeAll_ev m [[w, h], [h, w], [w, h]]) ?_
  have e : takeAll m [[w, h], [h, w], [w, h]] = takeStep (takeStep (takeStep (m, 0) [w, h]) [h, w]) [w, h] := by
    unfold takeAll
    rw [if_pos ⟨hm, by simp, by simp [badLen]⟩]
    rfl
  have hok := takeAll_ok m [[w, h], [h, w], [w, h]]
  rw [e] at hok ⊢
  have p1 : 1 * 1 ≤ w * h := Int.mul_le_mul hw.1 hh.1 (by omega) (by omega)
  have p2 : w * h ≤ 12 * 12 := Int.mul_le_mul hw.2 hh.2 (by omega) (by omega)
  obtain ⟨i1, l1, u1⟩ := takeStep_inv (s := (m, 0)) (p := [w, h]) (c := w * h) (A := a + w * h) rfl (by simp only; rw [ha]; omega)
  have t1 := takePiece_takes (l := m) (w := w) (h := h) (by omega) (by omega)
  have f1 : (takeStep (m, 0) [w, h]).2 = 1 := by
    unfold takeStep
    rw [if_pos (show (takePiece m (rd [w, h] 0) (rd [w, h] 1)).2.2 = true from t1.1)]
    rfl
  generalize takeStep (m, 0) [w, h] = s1 at *
  obtain ⟨i2, l2, u2⟩ := takeStep_inv (s := s1) (p := [h, w]) (c := w * h) (A := a + w * h) (by show h * w = w * h; rw [Int.mul_comm]) i1
  generalize takeStep s1 [h, w] = s2 at *
  obtain ⟨i3, l3, u3⟩ := takeStep_inv (s := s2) (p := [w, h]) (c := w * h) (A := a + w * h) rfl i2
  generalize takeStep s2 [w, h] = s3 at *
  refine Ev.congr (fun k => if_pos (by omega)) (Ev.congr (fun k => if_pos (by omega)) (Ev.bind (storeArea_ev hok) ?_))
  have e3 : s3.2 * w * h = s3.2 * (w * h) := Int.mul_assoc _ _ _
  have q : ∀ n : Int, 1 ≤ n → n ≤ 3 → 0 ≤ n * w ∧ n * w ≤ 36 := fun n n1 n2 => by
    have q1 : 1 * 1 ≤ n * w := Int.mul_le_mul n1 hw.1 (by omega) (by omega)
    have q2 : n * w ≤ 3 * 12 := Int.mul_le_mul n2 hw.2 (by omega) (by omega)
    omega
  have q3 := q s3.2 (by omega) (by omega)
  have q4 : 0 ≤ s3.2 * (w * h) ∧ s3.2 * (w * h) ≤ 3 * 144 := by
    have q1 : 1 * 1 ≤ s3.2 * (w * h) := Int.mul_le_mul (by omega) (by omega) (by omega) (by omega)
    have q2 : s3.2 * (w * h) ≤ 3 * 144 := Int.mul_le_mul (by omega) (by omega) (by omega) (by omega)
    omega
  rw [w64 (x := s3.2 * w) (by omega) (by omega), e3, w64 (x := w * h) (by omega) (by omega), w64 (x := s3.2 * (w * h)) (by omega) (by omega), w64 (x := a + w * h) (by omega) (by omega), w64 (by omega) (by omega)]
  refine ev_eq (Ev.now _) ?_
  rw [beq_iff_eq]
  omega
theorem rem_l1 {m o : List (List Int)} {w h a : Int} (hol : o.length ≤ 20) (ho : ∀ r ∈ o, RowOk r) (hs : o.Pairwise fun x y => leRow x y = true)
    (hlast : Ev (fun k => (impl_TakeAll.f k m [[w, h], [h, w], [w, h]]).bind fun bt => (if bt.2 ≥ 1 then (if bt.2 ≤ 3 then ((impl_StoreArea.f k bt.1).bind fun t => (some (t == (wrap64 ((wrap64 (a + (wrap64 (w * h)))) - (wrap64 ((wrap64 (bt.2 * w)) * h))))))) else none) else none)) true) : ∀ (d i : Nat), i + d = o.length → 1 ≤ i →
    Ev (fun k => laws_FnRemnants.l1 k w h a m o (i : Int)) true := by
  intro d
  induction d with
  | zero =>
    intro i hi h1
    refine Ev.step (fun k => ?_) hlast
    simp only [laws_FnRemnants.l1]
    rw [if_neg (by omega)]
  | succ d ih =>
    intro i hi h1
    have hlt : i < o.length := by omega
    have hlt0 : i - 1 < o.length := by omega
    have r0 := ho o[i - 1] (List.getElem_mem hlt0)
    have r1 := ho o[i] (List.getElem_mem hlt)
    have hle := List.pairwise_iff_getElem.1 hs (i - 1) i hlt0 hlt (by omega)
    have b0 := rowArea_bd r0
    have b1 := rowArea_bd r1
    have n0 := r0.len
    have n1 := r1.len
    unfold rowArea at b0 b1
    unfold leRow at hle
    rw [decide_eq_true_iff] at hle
    have em : wrap64 ((i : Int) - 1) = ((i - 1 : Nat) : Int) := by rw [w64 (by omega) (by omega)]; omega
    refine Ev.step (f := fun k => laws_FnRemnants.l1 k w h a m o ((i + 1 : Nat) : Int)) (fun k => ?_) (ih (i + 1) (by omega) (by omega))
    simp only [laws_FnRemnants.l1]
    rw [if_pos (by omega), em, if_pos (by omega), if_pos (by omega), rdL_get hlt0, rdL_get hlt, if_pos (by omega), if_pos (by omega), if_pos (by omega), if_pos (by omega), if_pos (by omega),
      w64 (x := rd o[i - 1] 0 * rd o[i - 1] 1) (by omega) (by omega), w64 (x := rd o[i] 0 * rd o[i] 1) (by omega) (by omega), w64 (x := (i : Int) + 1) (by omega) (by omega)]
    generalize rd o[i - 1] 0 * rd o[i - 1] 1 = p at *
    generalize rd o[i] 0 * rd o[i] 1 = q at *
    rw [if_neg (by omega)]
    by_cases e : p = q
    · rw [if_pos e, if_neg (by omega)]
      rfl
    · rw [if_neg e]
      rfl
theorem rem_j1 {l : List (List Int)} {w h : Int} (hl : l.length ≤ 5) (hr : ∀ r ∈ l, RowOk r) (hw : 1 ≤ w ∧ w ≤ 12) (hh : 1 ≤ h ∧ h ≤ 12) : Ev (fun k => laws_FnRemnants.j1 k l w h (areaSum l) false) true := by
  have hs : storeOk l = true := storeOk_iff.2 ⟨by omega, hr⟩
  have hrow : RowOk [w, h] := ⟨rfl, hw.1, by show w ≤ 100; omega, hh.1, by show h ≤ 100; omega⟩
  have hm : storeOk (l ++ [[w, h]]) = true := storeOk_iff.2 ⟨by simp; omega, fun r h9 => by
    rcases List.mem_append.1 h9 with h9 | h9
    · exact hr r h9
    · rw [List.mem_singleton.1 h9]; exact hrow⟩
  have eadd : addRemnant l w h = (l ++ [[w, h]], true) := by unfold addRemnant; rw [if_pos ⟨hs, hm⟩]
  have ham : areaSum (l ++ [[w, h]]) = areaSum l + w * h := by
    rw [areaSum_append]
    simp only [areaSum, rowArea]
    show areaSum l + (w * h + 0) = _
    omega
  have hab := areaSum_bd l hr
  have hsp := sortStore_perm hm
  have hso := sortStore_ok (l ++ [[w, h]])
  have hsl := hsp.length_eq
  have hml : (l ++ [[w, h]]).length = l.length + 1 := by simp
  have hsort : (sortStore (l ++ [[w, h]])).Pairwise fun x y => leRow x y = true := by
    unfold sortStore
    rw [if_pos hm]
    exact List.pairwise_mergeSort (le := leRow) (fun a b c h1 h2 => leRow_trans h1 h2) (fun a b => by
      rw [Bool.or_eq_true]
      by_cases c : leRow a b = true
      · exact .inl c
      · exact .inr (leRow_total c)) _
  have hfit : 0 ≤ smallest (l ++ [[w, h]]) w h := by
    have h9 := smallest_least hm (w := w) (h := h) (by omega) (by omega) l.length (by omega) (by simp [rd]) (by simp [rd])
    exact h9.1
  have p1 : 1 * 1 ≤ w * h := Int.mul_le_mul hw.1 hh.1 (by omega) (by omega)
  have p2 : w * h ≤ 12 * 12 := Int.mul_le_mul hw.2 hh.2 (by omega) (by omega)
  have hlast := rem_last (m := l ++ [[w, h]]) (w := w) (h := h) (a := areaSum l) hm (by omega) hw hh ham hfit (by omega)
  have h1 := rem_l1 (m := l ++ [[w, h]]) (o := sortStore (l ++ [[w, h]])) (by omega) (storeOk_iff.1 hso).2 hsort hlast (l.length) 1 (by omega) (by omega)
  refine Ev.step (f := fun k => (impl_AddRemnant.f k l w h).bind fun bt => ((impl_SortStore.f k bt.1).bind fun t1 => (if bt.2 = true then (if (bt.1.length : Int) = (wrap64 ((l.length : Int) + 1)) then ((impl_StoreArea.f k bt.1).bind fun t2 => (if t2 = (wrap64 (areaSum l + (wrap64 (w * h)))) then ((impl_CanMake.f k bt.1 w h false).bind fun t3 => (if t3 = true then (if (t1.length : Int) = (bt.1.length : Int) then ((impl_StoreArea.f k t1).bind fun t4 => (if t4 = (wrap64 (areaSum l + (wrap64 (w * h)))) then ((impl_StoreOk.f t1).bind fun t5 => (if t5 = true then (laws_FnRemnants.l1 k w h (areaSum l) bt.1 t1 1) else none)) else none)) else none) else none)) else none)) else none) else none))) (fun k => ?_) ?_
  · simp only [laws_FnRemnants.j1]
    rw [if_neg (by simp)]
  · have ea := impl_AddRemnant_ev l w h (by omega)
    rw [eadd] at ea
    refine Ev.bind ea (Ev.bind (impl_SortStore_ev (l ++ [[w, h]])) ?_)
    refine Ev.congr (fun k => if_pos rfl) (Ev.congr (fun k => if_pos ?_) ?_)
    · show ((l ++ [[w, h]]).length : Int) = wrap64 ((l.length : Int) + 1)
      rw [w64 (by omega) (by omega)]; omega
    · have ew : wrap64 (areaSum l + wrap64 (w * h)) = areaSum l + w * h := by rw [w64 (x := w * h) (by omega) (by omega), w64 (by omega) (by omega)]
      rw [ew]
      refine Ev.bind (storeArea_ev hm) (Ev.congr (fun k => if_pos ham) (Ev.bind (canMake_ev _ w h false) ?_))
      refine Ev.congr (fun k => if_pos (by simp [hfit])) (Ev.congr (fun k => if_pos (by show ((sortStore (l ++ [[w, h]])).length : Int) = ((l ++ [[w, h]]).length : Int); omega)) (Ev.bind (storeArea_ev hso) ?_))
      refine Ev.congr (fun k => if_pos (by rw [areaSum_perm hsp, ham])) (Ev.bind (impl_StoreOk_ev _) (Ev.congr (fun k => if_pos hso) ?_))
      exact h1
theorem rem_l0 {l : List (List Int)} {w h : Int} (hl : l.length ≤ 5) (hr : ∀ r ∈ l, RowOk r) (hw : 1 ≤ w ∧ w ≤ 12) (hh : 1 ≤ h ∧ h ≤ 12) : ∀ (d i : Nat), i + d = l.length →
    Ev (fun k => laws_FnRemnants.l0 k l w h (areaSum l) (smallest l w h) (takePiece l w h).1 (takePiece l w h).2.2 l (l.length : Int) (i : Int)) true := by
  have hs : storeOk l = true := storeOk_iff.2 ⟨by omega, hr⟩
  have hleast := smallest_least hs (w := w) (h := h) (by omega) (by omega)
  have hj := rem_j1 hl hr hw hh
  have hab := areaSum_bd l hr
  have p1 : 1 * 1 ≤ w * h := Int.mul_le_mul hw.1 hh.1 (by omega) (by omega)
  have p2 : w * h ≤ 12 * 12 := Int.mul_le_mul hw.2 hh.2 (by omega) (by omega)
  intro d
  induction d with
  | zero =>
    intro i hi
    by_cases c : smallest l w h < 0
    · have e : (takePiece l w h).2.2 = false := by unfold takePiece; rw [if_pos c]
      refine Ev.step (f := fun k => laws_FnRemnants.j1 k l w h (areaSum l) false) (fun k => ?_) hj
      simp only [laws_FnRemnants.l0]
      rw [if_neg (by omega), e, if_neg (by simp)]
    · obtain ⟨tk, _⟩ := takePiece_takes (l := l) (w := w) (h := h) (by omega) c
      obtain ⟨ta, tl⟩ := takePiece_area tk
      have tok := takePiece_ok (l := l) (w := w) (h := h)
      obtain ⟨n, en, hn, h20, er, hrow, hfw, hfh⟩ := small_row (smallest_small c)
      have hlen := hrow.len
      refine Ev.step (f := fun k => (impl_StoreOk.f (takePiece l w h).1).bind fun t1 => (if t1 = true then ((impl_StoreArea.f k (takePiece l w h).1).bind fun t2 => (if t2 = areaSum l - w * h then laws_FnRemnants.j1 k l w h (areaSum l) false else none)) else none)) (fun k => ?_) (Ev.bind (impl_StoreOk_ev _) (Ev.congr (fun k => if_pos tok) (Ev.bind (storeArea_ev tok) (Ev.congr (fun k => if_pos ta) hj))))
      simp only [laws_FnRemnants.l0]
      rw [if_neg (by omega), tk, if_pos rfl, w64 (x := w * h) (by omega) (by omega), w64 (x := areaSum l - w * h) (by omega) (by omega), w64 (x := (l.length : Int) + 1) (by omega) (by omega)]
      rw [if_neg (show ¬ ((takePiece l w h).1.length : Int) > (l.length : Int) + 1 by omega), if_neg c, if_neg (show ¬ smallest l w h ≥ (l.length : Int) by omega), if_pos (show 0 ≤ smallest l w h by omega), if_pos (show smallest l w h < (l.length : Int) by omega), if_pos (by omega), if_neg (by omega), if_pos (by omega), decide_eq_false (by omega)]
  | succ d ih =>
    intro i hi
    have hlt : i < l.length := by omega
    have ri := hr l[i] (List.getElem_mem hlt)
    have ni := ri.len
    have bi := rowArea_bd ri
    unfold rowArea at bi
    have nxt := ih (i + 1) (by omega)
    refine Ev.step (f := fun k => laws_FnRemnants.l0 k l w h (areaSum l) (smallest l w h) (takePiece l w h).1 (takePiece l w h).2.2 l (l.length : Int) ((i + 1 : Nat) : Int)) (fun k => ?_) nxt
    have em : wrap64 ((i : Int) + 1) = ((i + 1 : Nat) : Int) := by rw [w64 (by omega) (by omega)]; rfl
    simp only [laws_FnRemnants.l0]
    rw [if_pos (show (i : Int) < (l.length : Int) by omega), if_pos (show 0 ≤ (i : Int) by omega), if_pos (show (i : Int) < (l.length : Int) by omega), rdL_get hlt, if_pos (show 0 < (l[i].length : Int) by omega), em]
    by_cases c1 : rd l[i] 0 ≥ w
    · rw [if_pos c1, if_pos (show 1 < (l[i].length : Int) by omega)]
      by_cases c2 : rd l[i] 1 ≥ h
      · have hg : l.getD i [] = l[i] := getD_get hlt
        obtain ⟨g1, g2, g3⟩ := hleast i hlt (by rw [hg]; exact c1) (by rw [hg]; exact c2)
        obtain ⟨n, hn⟩ := Int.eq_ofNat_of_zero_le g1
        rw [hn] at g2 g3 ⊢
        have hnl : n < l.length := by omega
        rw [Int.toNat_natCast, getD_get hnl, hg] at g3
        have rn := hr l[n] (List.getElem_mem hnl)
        have nn := rn.len
        have bn := rowArea_bd rn
        unfold rowArea at bn g3
        rw [if_pos c2, if_neg (by omega), if_neg (by omega), if_pos (by omega), if_pos (by omega), rdL_get hnl, if_pos (by omega), if_pos (by omega), w64 (x := rd l[i] 0 * rd l[i] 1) (by omega) (by omega), w64 (x := rd l[n] 0 * rd l[n] 1) (by omega) (by omega)]
        generalize rd l[i] 0 * rd l[i] 1 = p at *
        generalize rd l[n] 0 * rd l[n] 1 = q at *
        rw [if_neg (by omega)]
        by_cases e : p = q
        · rw [if_pos e, if_neg (by omega)]
        · rw [if_neg e]
      · rw [if_neg c2]
    · rw [if_neg c1]
theorem laws_FnRemnants_ev (x : List Int) (hx : x.length ≤ 1048576) : Ev (fun k => laws_FnRemnants.f k x) true := by
  unfold laws_FnRemnants.f
  refine Ev.congr (fun k => if_neg (by omega)) ?_
  obtain ⟨l, e1, hl, hrr⟩ := makeStore_ev x hx
  have hr : ∀ r ∈ l, RowOk r := fun r h9 => (hrr r h9).1
  have hs : storeOk l = true := storeOk_iff.2 ⟨by omega, hr⟩
  obtain ⟨w, ew, hw⟩ := size_ev x hx 30 1 12 (by omega) (by omega) (by omega) (by omega)
  obtain ⟨h, eh, hh⟩ := size_ev x hx 31 1 12 (by omega) (by omega) (by omega) (by omega)
  have hw' : 1 ≤ w ∧ w ≤ 12 := by omega
  have hh' : 1 ≤ h ∧ h ≤ 12 := by omega
  refine Ev.bind e1 (Ev.bind ew (Ev.bind eh (Ev.bind (storeArea_ev hs) (Ev.bind (impl_small_ev l w h) (Ev.bind (impl_TakePiece_ev l w h) (Ev.bind (impl_StoreOk_ev l) ?_))))))
  refine Ev.congr (fun k => if_pos hs) (Ev.bind (laws_area_ev hs) (Ev.congr (fun k => if_pos rfl) ?_))
  have hok : (takePiece l w h).2.2 = decide (smallest l w h ≥ 0) ∧ (takePiece l w h).2.1 = smallest l w h := by
    by_cases c : smallest l w h < 0
    · have e9 := smallest_none c
      unfold takePiece
      rw [if_pos c, decide_eq_false (by omega)]
      exact ⟨rfl, e9.symm⟩
    · obtain ⟨t1, t2⟩ := takePiece_takes (l := l) (w := w) (h := h) (by omega) c
      rw [decide_eq_true (by omega)]
      exact ⟨t1, t2⟩
  refine Ev.congr (fun k => if_neg (by rw [hok.1]; simp)) (Ev.congr (fun k => if_pos hok.2) ?_)
  refine Ev.bind (canMake_ev l w h false) (Ev.congr (fun k => if_neg (by rw [hok.1]; simp)) ?_)
  refine Ev.bind (canMake_ev l h w true) (Ev.bind (canMake_ev l w h true) (Ev.congr (fun k => if_neg (by
    rw [Bool.true_and, Bool.true_and, Bool.or_comm]; simp)) ?_))
  exact rem_l0 hl hr hw' hh' l.length 0 (by omega)
end Go.Proofs.Ytebjpafnfmmjeaa.PA
/- The law FnRemnants holds of the program, for every input; no condition. -/
namespace Go.Proofs.Ytebjpafnfmmjeaa.Pure
open Go.RowKit Go.Proofs.Ytebjpafnfmmjeaa.PA Go.Proofs.YtebjpafnfmmjeaaW.PrintWords Go.Proofs.YtebjpafnfmmjeaaW.PrintLast Go.Proofs.YtebjpafnfmmjeaaW.PrintMore
set_option linter.unusedVariables false
set_option linter.unusedSimpArgs false
theorem FnRemnants : laws_FnRemnants.Pure := by
  intro l0 _ _ _
  by_cases c : (l0.length : Int) > 1048576
  · exact ⟨0, by unfold laws_FnRemnants.f; rw [if_pos c]⟩
  · exact Ev.rounds (g := fun k => laws_FnRemnants.f k l0) (laws_FnRemnants_ev l0 (by omega))
end Go.Proofs.Ytebjpafnfmmjeaa.Pure
-- Written for this claim by a program of this session's (ownprint.py), by way of the kit's print and hand-proved texts. Lean checks it.
namespace Go.Proofs.Ytebjpafnfmmjeaa.fnRemnants
open Go.ChangeShapes Go.WideShapes Go.ChangeAt Go.RowKit
open Go.ChangeMaps (open_string shut_string)
set_option linter.unusedVariables false
theorem own : ownKnob Try.prog.godebug = none := by kernel_rfl
theorem laidOut : laidOutB Try.prog = true := by kernel_rfl
def IsRow (k : IntKind) (w : World) (a : Option Addr) (len cap : Nat) (zs : List Int) : Prop :=
  (a = none ∧ len = 0 ∧ cap = 0 ∧ zs = []) ∨
  ∃ x, a = some x ∧ len ≤ cap ∧ cap ≤ maxLen ∧ zs.length = cap ∧ (∀ i, i < zs.length → w.cell? (x.add i) = some (.int k (zs.getD i 0))) ∧ ∀ n ∈ zs, (Lit.int k n).wf = true
set_option maxRecDepth 100000 in
theorem lifted (os : Os) (started : os.Started) (H : Type) (enc : TypeId × Value → H) :
    ReturnsInHanded {} Try.checked os 11 .any (Rows.fnRemnantsSpec.pre6 enc Try.prog Try.f11 Rows.fnRemnantsRow.domain false) (Rows.fnRemnantsSpec.post enc Try.prog Try.f11 false true false false) := by
  refine returnsInHanded_of_change_sized (C := Try.checked) own started (by kernel_rfl) Try.func11
    (ChangeSpec.witness6 (enc := enc) (C := Try.checked) false ⟨#[], #[.slice none 0 0], []⟩ 8 (by kernel_rfl) (by kernel_rfl) (by kernel_rfl) (by kernel_rfl)) ?_
  intro W base args ds gs before hval0 hW hcnd hsz0 _
  have hsz : (DataW.weightsEach Try.prog (Try.f11.params.toList ++ Rows.fnRemnantsSpec.plain.varTypes Try.prog) (ds ++ gs)).all (· ≤ reachBytes) = true := hsz0
  have hval : ∀ (j : Nat) t v, Try.f11.params[j]? = some t → args[j]? = some v → Value.okWide Try.prog W .any base t v := hval0
  have hW' := hW
  obtain ⟨p, q, hA0, hV, rfl, hfz, hnd⟩ := hW
  have hA : DataW.TrodAll enc Try.prog W 0 (fun _ => true) true Try.f11.params.toList args.toList ds p := hA0
  rw [Try.params11] at hA hval hsz
  obtain ⟨v0, vs0, d0, ds0, p0, q0, hargs, rfl, rfl, h0, r0⟩ := trodAll_cons hA
  obtain ⟨rfl, rfl, rfl⟩ := trodAll_nil r0
  obtain rfl : args = #[v0] := by cases args; simp_all
  obtain ⟨rfl, rfl⟩ := trodVars_none hV
  obtain ⟨a0, len0, cap0, rfl⟩ := okWide_slice Try.underlying37 (hval 0 37 v0 rfl rfl)
  have k0 := h0
  have lt0 : ∀ x ∈ p0, x.block < W.heap.size := by obtain ⟨m, hm⟩ := k0; exact DataW.trod_lt m _ _ _ hm
  obtain ⟨z0, w0⟩ : ∃ zs, IsRow .u8 W a0 len0 cap0 zs := by
    obtain ⟨fuel, hf⟩ := h0
    rcases open_ints Try.underlying37 Try.underlying5 (by kernel_rfl) hf with ⟨hcs, _⟩ | ⟨x, l, c, zs, hcs, _, hl, hm, hz, _, hcell, hwz⟩
    · simp [Value.cells] at hcs
      obtain ⟨rfl, rfl, rfl⟩ := hcs
      exact ⟨[], .inl ⟨rfl, rfl, rfl, rfl⟩⟩
    · simp [Value.cells] at hcs
      obtain ⟨rfl, rfl, rfl⟩ := hcs
      exact ⟨zs, .inr ⟨_, rfl, hl, hm, by simpa using hz, hcell, hwz⟩⟩
  have y0 : len0 * 1 ≤ 140737488351232 := Go.Proofs.YtebjpafnfmmjeaaW.PrintWords.sized_ints hsz (j := 0) (t := 37) rfl rfl Try.underlying37 Try.underlying5 (by kernel_rfl) (by kernel_rfl) h0
  clear hA0 hval0 hsz0 hsz
  refine (PA.laws_FnRemnants.walk Pure.FnRemnants a0 len0 cap0 z0 W w0 y0).mono fun e W' ⟨he, bel⟩ => ?_
  subst he
  exact ⟨_, rfl, _, _, _, [], _, [], hW', trodAll_mk1 (shut_bool Try.underlying4 _), (trodAll_cons_mk (Below.trod laidOut (by kernel_rfl) (of_decide_eq_true (by kernel_rfl)) k0 bel lt0) trodAll_mk0), rfl, bel.frame _, fun h => by cases h⟩
theorem over : Rows.fnRemnantsRow.holds Try.pinned (OpenSpec.ofChange Rows.fnRemnantsSpec) :=
  OpenClaim.holds_of_wide 11 Try.f11 rfl rfl rfl rfl rfl rfl rfl ⟨rfl, rfl, rfl, rfl, rfl⟩ rfl rfl rfl rfl rfl (by kernel_rfl) Try.func11 (by kernel_rfl)
    (of_decide_eq_true (by kernel_rfl)) (by unfold Func.isWrapper; first | (rw [if_pos (by decide +kernel)]; kernel_rfl) | (rw [if_neg (by decide +kernel)]; exact ⟨rfl, rfl⟩))
    (fun os started H enc _ => lifted os started H enc)
theorem proved : Rows.FnRemnantsSaid := over
#print axioms proved
end Go.Proofs.Ytebjpafnfmmjeaa.fnRemnants
namespace Go.Proofs.Ytebjpafnfmmjeaa
/-- The row, under a short name, for the claim. -/
theorem fnRemnants_holds : Rows.FnRemnantsSaid := fnRemnants.proved
end Go.Proofs.Ytebjpafnfmmjeaa
