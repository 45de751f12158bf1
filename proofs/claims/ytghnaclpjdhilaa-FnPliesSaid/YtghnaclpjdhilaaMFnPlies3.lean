/- Texts of this claim put together in build order (FnPlies). -/
import Derived.Test.YtghnaclpjdhilaaMFnPlies0
import Derived.Test.YtghnaclpjdhilaaMFnPlies1
import Derived.Test.YtghnaclpjdhilaaMFnPlies2
import Derived.Test.YtghnaclpjdhilaaRows
import Derived.WalkKit
import Derived.ProofKit
import Derived.OpenShut
import Derived.ShutString
import Derived.ChangeOld
import Derived.Below
import Derived.SizedLaws
import Derived.Test.YtghnaclpjdhilaaWSized
-- Written for this claim by a program of this session's (ownprint.py), by way of the kit's print and hand-proved texts. Lean checks it.
namespace Go.Proofs.Ytghnaclpjdhilaa.PA
open Go.RowKit Go.Proofs.YtghnaclpjdhilaaW.PrintWords Go.Proofs.YtghnaclpjdhilaaW.PrintLast Go.Proofs.YtghnaclpjdhilaaW.PrintMore
attribute [local go_sem] max2_int min2_int max_two min_two max_three min_three max_four min_four   -- for this text's walks alone
set_option linter.unusedVariables false
set_option linter.unusedSimpArgs false
def spec_l01In.f (a0 : Int) (a1 : Int) (a2 : Int) : Option (Bool) := if a0 ≥ a1 then (some (decide (a0 ≤ a2))) else (some false)
end Go.Proofs.Ytghnaclpjdhilaa.PA
/- ints -/
namespace Go.Proofs.Ytghnaclpjdhilaa.PA
open Go.RowKit Go.Proofs.YtghnaclpjdhilaaW.PrintWords Go.Proofs.YtghnaclpjdhilaaW.PrintLast Go.Proofs.YtghnaclpjdhilaaW.PrintMore
set_option linter.unusedVariables false
set_option linter.unusedSimpArgs false
theorem w64 {x : Int} (h0 : -9223372036854775808 ≤ x) (h1 : x < 9223372036854775808) : wrap64 x = x := by
  unfold wrap64
  omega
theorem rd_nat (l : List Int) (i : Nat) : rd l (i : Int) = l.getD i 0 := by simp [rd]
theorem rd_get {l : List Int} {i : Nat} (h : i < l.length) : rd l (i : Int) = l[i] := by simp [rd, List.getD_eq_getElem?_getD, h]
theorem ev_eq {α : Type} {g : Nat → Option α} {r r' : α} (h : Ev g r) (e : r = r') : Ev g r' := e ▸ h
theorem ev_const {α : Type} {a : Option α} {r : α} (h : a = some r) : Ev (fun _ => a) r := ⟨0, fun _ _ => h⟩
theorem l01In_eq (a b c : Int) : spec_l01In.f a b c = some (decide (b ≤ a ∧ a ≤ c)) := by
  unfold spec_l01In.f
  by_cases h : a ≥ b
  · rw [if_pos h]; simp [h]
  · rw [if_neg h]; simp [h]
theorem within_eq (a b c : Int) : impl_within.f a b c = some (decide (b ≤ a ∧ a ≤ c)) := l01In_eq a b c
def allIn (l : List Int) (a b : Int) : Bool := l.all fun n => decide (a ≤ n) && decide (n ≤ b)
theorem allIn_iff {l : List Int} {a b : Int} : allIn l a b = true ↔ ∀ x ∈ l, a ≤ x ∧ x ≤ b := by
  unfold allIn
  rw [List.all_eq_true]
  simp
theorem areWithin_eq (l : List Int) (a b : Int) : impl_areWithin.f l a b = some (allIn l a b) := rfl
end Go.Proofs.Ytghnaclpjdhilaa.PA
/- plies -/
namespace Go.Proofs.Ytghnaclpjdhilaa.PA
open Go.RowKit Go.Proofs.YtghnaclpjdhilaaW.PrintWords Go.Proofs.YtghnaclpjdhilaaW.PrintLast Go.Proofs.YtghnaclpjdhilaaW.PrintMore
set_option linter.unusedVariables false
set_option linter.unusedSimpArgs false
def wantedOk (l : List Int) : Bool := decide (1 ≤ l.length ∧ l.length ≤ 5) && allIn l 0 100
theorem impl_Wanted_eq (l : List Int) : impl_WantedOk.f l = some (wantedOk l) := by
  unfold impl_WantedOk.f wantedOk
  rw [areWithin_eq]
  by_cases c1 : 1 ≤ l.length
  · rw [if_pos (by omega)]
    by_cases c2 : l.length ≤ 5
    · rw [if_pos (by omega)]
      simp [c1, c2]
    · rw [if_neg (by omega)]
      simp [c2]
  · rw [if_neg (by omega)]
    simp [c1]
theorem wantedOk_iff {l : List Int} : wantedOk l = true ↔ 1 ≤ l.length ∧ l.length ≤ 5 ∧ ∀ x ∈ l, 0 ≤ x ∧ x ≤ 100 := by
  unfold wantedOk
  rw [Bool.and_eq_true, decide_eq_true_iff, allIn_iff, and_assoc]
theorem lsum_bd {B : Int} (hB : 0 ≤ B) : ∀ (l : List Int), (∀ x ∈ l, 0 ≤ x ∧ x ≤ B) → 0 ≤ l.sum ∧ l.sum ≤ (l.length : Int) * B := by
  intro l
  induction l with
  | nil => intro _; simp
  | cons x l ih =>
    intro h
    have h1 := ih (fun y hy => h y (List.mem_cons_of_mem _ hy))
    have h2 := h x List.mem_cons_self
    simp only [List.sum_cons, List.length_cons]
    have e : (((l.length + 1 : Nat) : Int)) * B = (l.length : Int) * B + B := by
      rw [show (((l.length + 1 : Nat) : Int)) = (l.length : Int) + 1 by omega, Int.add_mul, Int.one_mul]
    omega
theorem impl_sumOf_l (l : List Int) (hl : l.length ≤ 5) (hb : ∀ x ∈ l, 0 ≤ x ∧ x ≤ 100) : ∀ (d i : Nat) (a : Int), i + d = l.length → 0 ≤ a → a ≤ 100 * (i : Int) → Ev (fun k => impl_sumOf.l0 k a l (l.length : Int) (i : Int)) (a + (l.drop i).sum) := by
  intro d
  induction d with
  | zero =>
    intro i a hi h0 h1
    refine Ev.step (f := fun _ => some (a + (l.drop i).sum)) (fun k => ?_) (Ev.now _)
    simp only [impl_sumOf.l0]
    rw [if_neg (by omega), List.drop_of_length_le (by omega)]
    simp
  | succ d ih =>
    intro i a hi h0 h1
    have hlt : i < l.length := by omega
    have hx := hb l[i] (List.getElem_mem hlt)
    rw [List.drop_eq_getElem_cons hlt, List.sum_cons, ← Int.add_assoc]
    refine Ev.step (f := fun k => impl_sumOf.l0 k (a + l[i]) l (l.length : Int) ((i + 1 : Nat) : Int)) (fun k => ?_) (ih (i + 1) (a + l[i]) (by omega) (by omega) (by omega))
    simp only [impl_sumOf.l0]
    rw [if_pos (by omega), if_pos (by omega), if_pos (by omega), rd_get hlt, w64 (x := a + l[i]) (by omega) (by omega), w64 (by omega) (by omega)]
    rfl
theorem impl_sumOf_ev (l : List Int) (hl : l.length ≤ 5) (hb : ∀ x ∈ l, 0 ≤ x ∧ x ≤ 100) : Ev (fun k => impl_sumOf.f k l) l.sum := by
  have := impl_sumOf_l l hl hb l.length 0 0 (by omega) (by omega) (by omega)
  exact ev_eq this (by simp)
def markerOk (l m : List Int) : Bool := wantedOk l && decide (m.length = l.length) && allIn m 0 8 && decide (1 ≤ m.sum ∧ m.sum ≤ 8)
theorem markerOk_iff {l m : List Int} : markerOk l m = true ↔ wantedOk l = true ∧ m.length = l.length ∧ (∀ x ∈ m, 0 ≤ x ∧ x ≤ 8) ∧ 1 ≤ m.sum ∧ m.sum ≤ 8 := by
  unfold markerOk
  rw [Bool.and_eq_true, Bool.and_eq_true, Bool.and_eq_true, decide_eq_true_iff, allIn_iff, decide_eq_true_iff, and_assoc, and_assoc]
theorem impl_Marker_ev (l m : List Int) : Ev (fun k => impl_MarkerOk.f k l m) (markerOk l m) := by
  unfold impl_MarkerOk.f markerOk
  refine Ev.bind (ev_const (impl_Wanted_eq l)) ?_
  by_cases c0 : wantedOk l = true
  · refine Ev.congr (fun k => if_pos c0) ?_
    rw [c0, Bool.true_and]
    by_cases c1 : m.length = l.length
    · have h5 := (wantedOk_iff.1 c0).2.1
      refine Ev.congr (fun k => if_pos (by omega)) ?_
      rw [decide_eq_true c1, Bool.true_and]
      refine Ev.bind (ev_const (areWithin_eq m 0 8)) ?_
      by_cases c2 : allIn m 0 8 = true
      · refine Ev.congr (fun k => if_pos c2) ?_
        rw [c2, Bool.true_and]
        have hb := allIn_iff.1 c2
        refine Ev.bind (impl_sumOf_ev m (by omega) (fun x hx => by have := hb x hx; omega)) ?_
        exact Ev.bind (ev_const (within_eq _ _ _)) (Ev.now _)
      · rw [show allIn m 0 8 = false by simpa using c2, Bool.false_and]
        exact Ev.congr (fun k => if_neg (by simp)) (Ev.now _)
    · rw [decide_eq_false c1, Bool.false_and, Bool.false_and]
      exact Ev.congr (fun k => if_neg (by omega)) (Ev.now _)
  · rw [show wantedOk l = false by simpa using c0, Bool.false_and, Bool.false_and, Bool.false_and]
    exact Ev.congr (fun k => if_neg (by simp)) (Ev.now _)
/-- The least number of layers; -1 where something wanted isn't given. -/
def layersL : List Int → List Int → Int → Int
  | n :: l, q :: m, a => if n = 0 then layersL l m a else if q = 0 then -1 else layersL l m (mx a ((n + q - 1) / q))
  | _, _, a => a
theorem impl_LayersFor_lay (l m : List Int) (hl : l.length ≤ 5) (hm : m.length = l.length) (hb : ∀ x ∈ l, 0 ≤ x ∧ x ≤ 100) (hc : ∀ x ∈ m, 0 ≤ x ∧ x ≤ 8) : ∀ (d i : Nat) (a : Int), i + d = l.length →
    Ev (fun k => impl_LayersFor.l0 k m a l (l.length : Int) (i : Int)) (layersL (l.drop i) (m.drop i) a) := by
  intro d
  induction d with
  | zero =>
    intro i a hi
    refine Ev.step (f := fun _ => some (layersL (l.drop i) (m.drop i) a)) (fun k => ?_) (Ev.now _)
    simp only [impl_LayersFor.l0]
    rw [if_neg (by omega), List.drop_of_length_le (by omega)]
    simp [layersL]
  | succ d ih =>
    intro i a hi
    have hlt : i < l.length := by omega
    have hlt2 : i < m.length := by omega
    have hx := hb l[i] (List.getElem_mem hlt)
    have hy := hc m[i] (List.getElem_mem hlt2)
    rw [List.drop_eq_getElem_cons hlt, List.drop_eq_getElem_cons hlt2]
    simp only [layersL]
    by_cases c1 : l[i] = 0
    · rw [if_pos c1]
      refine Ev.step (f := fun k => impl_LayersFor.l0 k m a l (l.length : Int) ((i + 1 : Nat) : Int)) (fun k => ?_) (ih (i + 1) a (by omega))
      simp only [impl_LayersFor.l0]
      rw [if_pos (by omega), if_pos (by omega), if_pos (by omega), rd_get hlt, if_pos c1, w64 (by omega) (by omega)]
      rfl
    · rw [if_neg c1]
      by_cases c2 : m[i] = 0
      · rw [if_pos c2]
        refine Ev.step (f := fun k => some (-1)) (fun k => ?_) (Ev.now _)
        simp only [impl_LayersFor.l0]
        rw [if_pos (by omega), if_pos (by omega), if_pos (by omega), rd_get hlt, if_neg c1, if_pos (by omega), rd_get hlt2, if_pos c2]
      · rw [if_neg c2]
        have hd : 0 ≤ (l[i] + m[i] - 1) / m[i] ∧ (l[i] + m[i] - 1) / m[i] ≤ l[i] + m[i] - 1 := ⟨Int.ediv_nonneg (by omega) (by omega), Int.ediv_le_self _ (by omega)⟩
        refine Ev.step (f := fun k => impl_LayersFor.l0 k m (mx a ((l[i] + m[i] - 1) / m[i])) l (l.length : Int) ((i + 1 : Nat) : Int)) (fun k => ?_) (ih (i + 1) (mx a ((l[i] + m[i] - 1) / m[i])) (by omega))
        simp only [impl_LayersFor.l0]
        rw [if_pos (by omega), if_pos (by omega), if_pos (by omega), rd_get hlt, if_neg c1, if_pos (by omega), rd_get hlt2, if_neg c2, w64 (x := l[i] + m[i]) (by omega) (by omega), w64 (x := l[i] + m[i] - 1) (by omega) (by omega),
          Int.tdiv_eq_ediv_of_nonneg (by omega), w64 (x := (l[i] + m[i] - 1) / m[i]) (by omega) (by omega), w64 (by omega) (by omega)]
        rfl
def layersFor (l m : List Int) : Int := if markerOk l m then layersL l m 0 else -1
theorem impl_LayersFor_ev (l m : List Int) : Ev (fun k => impl_LayersFor.f k l m) (layersFor l m) := by
  unfold impl_LayersFor.f layersFor
  refine Ev.bind (impl_Marker_ev l m) ?_
  by_cases c : markerOk l m = true
  · rw [if_pos c]
    obtain ⟨h1, h2, h3, _⟩ := markerOk_iff.1 c
    obtain ⟨_, h5, h6⟩ := wantedOk_iff.1 h1
    exact Ev.congr (fun k => if_pos c) (impl_LayersFor_lay l m h5 h2 h6 h3 l.length 0 0 (by omega))
  · rw [if_neg c]
    exact Ev.congr (fun k => if_neg c) (Ev.now _)
def extraL : List Int → List Int → Int → List Int
  | n :: l, q :: m, a => (q * a - n) :: extraL l m a
  | _, _, _ => []
def extraOf (l m : List Int) (a : Int) : List Int := if markerOk l m = true ∧ (0 ≤ a ∧ a ≤ 1000) then extraL l m a else []
theorem impl_Extra_l (l m : List Int) (a : Int) (ha : 0 ≤ a ∧ a ≤ 1000) (hl : l.length ≤ 5) (hm : m.length = l.length) (hb : ∀ x ∈ l, 0 ≤ x ∧ x ≤ 100) (hc : ∀ x ∈ m, 0 ≤ x ∧ x ≤ 8) : ∀ (d i : Nat) (acc : List Int), i + d = l.length → acc.length = i →
    Ev (fun k => impl_ExtraOf.l0 k m a acc l (l.length : Int) (i : Int)) (acc ++ extraL (l.drop i) (m.drop i) a) := by
  intro d
  induction d with
  | zero =>
    intro i acc hi h0
    refine Ev.step (f := fun _ => some (acc ++ extraL (l.drop i) (m.drop i) a)) (fun k => ?_) (Ev.now _)
    simp only [impl_ExtraOf.l0]
    rw [if_neg (by omega), List.drop_of_length_le (by omega)]
    simp [extraL]
  | succ d ih =>
    intro i acc hi h0
    have hlt : i < l.length := by omega
    have hlt2 : i < m.length := by omega
    have hx := hb l[i] (List.getElem_mem hlt)
    have hy := hc m[i] (List.getElem_mem hlt2)
    have p1 : 0 ≤ m[i] * a := Int.mul_nonneg hy.1 ha.1
    have p2 : m[i] * a ≤ 8 * 1000 := Int.mul_le_mul hy.2 ha.2 ha.1 (by omega)
    rw [List.drop_eq_getElem_cons hlt, List.drop_eq_getElem_cons hlt2]
    simp only [extraL]
    have hn := ih (i + 1) (acc ++ [m[i] * a - l[i]]) (by omega) (by simp; omega)
    rw [List.append_assoc, List.singleton_append] at hn
    refine Ev.step (f := fun k => impl_ExtraOf.l0 k m a (acc ++ [m[i] * a - l[i]]) l (l.length : Int) ((i + 1 : Nat) : Int)) (fun k => ?_) hn
    simp only [impl_ExtraOf.l0]
    rw [if_pos (by omega), if_pos (by omega), if_pos (by omega), if_pos (by omega), if_pos (by omega), rd_get hlt, rd_get hlt2, Int.mul_comm a m[i], w64 (x := m[i] * a) (by omega) (by omega), w64 (x := m[i] * a - l[i]) (by omega) (by omega), w64 (by omega) (by omega)]
    rfl
theorem impl_Extra_ev (l m : List Int) (a : Int) : Ev (fun k => impl_ExtraOf.f k l m a) (extraOf l m a) := by
  unfold impl_ExtraOf.f extraOf
  refine Ev.bind (impl_Marker_ev l m) ?_
  have no : Ev (fun k => impl_ExtraOf.j0 k l m a true) [] := by
    refine Ev.step (f := fun _ => some []) (fun k => ?_) (Ev.now _)
    simp only [impl_ExtraOf.j0]
    rw [if_pos trivial]
  by_cases c : markerOk l m = true
  · refine Ev.congr (fun k => if_pos c) ?_
    refine Ev.bind (ev_const (within_eq a 0 1000)) ?_
    by_cases c1 : 0 ≤ a ∧ a ≤ 1000
    · rw [if_pos ⟨c, c1⟩, decide_eq_true c1]
      obtain ⟨h1, h2, h3, _⟩ := markerOk_iff.1 c
      obtain ⟨_, h5, h6⟩ := wantedOk_iff.1 h1
      refine Ev.step (f := fun k => impl_ExtraOf.l0 k m a [] l (l.length : Int) ((0 : Nat) : Int)) (fun k => ?_) (impl_Extra_l l m a c1 h5 h2 h6 h3 l.length 0 [] (by omega) rfl)
      simp only [impl_ExtraOf.j0]
      rw [if_neg (by simp)]
      rfl
    · rw [if_neg (fun z => c1 z.2), decide_eq_false c1]
      exact no
  · rw [if_neg (fun z => c z.1)]
    exact Ev.congr (fun k => if_neg c) no
end Go.Proofs.Ytghnaclpjdhilaa.PA
/- BestMarker: the markers in order. -/
namespace Go.Proofs.Ytghnaclpjdhilaa.PA
open Go.RowKit Go.Proofs.YtghnaclpjdhilaaW.PrintWords Go.Proofs.YtghnaclpjdhilaaW.PrintLast Go.Proofs.YtghnaclpjdhilaaW.PrintMore
set_option linter.unusedVariables false
set_option linter.unusedSimpArgs false
/-- All markers of d sizes with at most r pieces, in the order of the text. -/
def mks : Nat → Nat → List (List Int)
  | 0, _ => [[]]
  | d + 1, r => (List.range (r + 1)).flatMap fun j => (mks d (r - j)).map fun t => (j : Int) :: t
theorem mks_row : ∀ (d r : Nat) (t : List Int), t ∈ mks d r → t.length = d ∧ (∀ x ∈ t, 0 ≤ x ∧ x ≤ (r : Int)) ∧ 0 ≤ t.sum ∧ t.sum ≤ (r : Int) := by
  intro d
  induction d with
  | zero => intro r t h; simp [mks] at h; subst h; simp
  | succ d ih =>
    intro r t h
    simp only [mks] at h
    obtain ⟨j, hj, h⟩ := List.mem_flatMap.1 h
    obtain ⟨u, hu, rfl⟩ := List.mem_map.1 h
    have hj' := List.mem_range.1 hj
    obtain ⟨h1, h2, h3, h4⟩ := ih (r - j) u hu
    refine ⟨by simp [h1], fun x hx => ?_, ?_, ?_⟩
    · rcases List.mem_cons.1 hx with rfl | hx
      · omega
      · have := h2 x hx; omega
    · rw [List.sum_cons]; omega
    · rw [List.sum_cons]; omega
end Go.Proofs.Ytghnaclpjdhilaa.PA
/- BestMarker: both take the first marker with the fewest layers. -/
namespace Go.Proofs.Ytghnaclpjdhilaa.PA
open Go.RowKit Go.Proofs.YtghnaclpjdhilaaW.PrintWords Go.Proofs.YtghnaclpjdhilaaW.PrintLast Go.Proofs.YtghnaclpjdhilaaW.PrintMore
set_option linter.unusedVariables false
set_option linter.unusedSimpArgs false
def bmUpd (w : List Int) (s : List Int × Int) (m : List Int) : List Int × Int := if 0 < layersL w m 0 ∧ (s.2 < 0 ∨ layersL w m 0 < s.2) then (m, layersL w m 0) else s
theorem bmUpd_ok (w : List Int) (s : List Int × Int) (m : List Int) (h : s.2 = -1 ∨ 0 < s.2) : (bmUpd w s m).2 = -1 ∨ 0 < (bmUpd w s m).2 := by
  unfold bmUpd
  split
  · rename_i c; exact .inr c.1
  · exact h
theorem bmFold_ok (w : List Int) : ∀ (ms : List (List Int)) (s : List Int × Int), (s.2 = -1 ∨ 0 < s.2) → ((ms.foldl (bmUpd w) s).2 = -1 ∨ 0 < (ms.foldl (bmUpd w) s).2) := by
  intro ms
  induction ms with
  | nil => intro s h; exact h
  | cons m ms ih => intro s h; rw [List.foldl_cons]; exact ih _ (bmUpd_ok w s m h)
theorem layersL_ge : ∀ (l m : List Int) (a : Int), layersL l m a = -1 ∨ a ≤ layersL l m a := by
  intro l
  induction l with
  | nil => intro m a; right; simp [layersL]
  | cons n l ih =>
    intro m a
    cases m with
    | nil => right; simp [layersL]
    | cons q m =>
      simp only [layersL]
      split
      · exact ih m a
      · split
        · exact .inl rfl
        · rcases ih m (mx a ((n + q - 1) / q)) with h | h
          · exact .inl h
          · right
            have : a ≤ mx a ((n + q - 1) / q) := by unfold mx; split <;> omega
            omega
theorem layersL_pos : ∀ (l m : List Int) (a : Int), m.length = l.length → (∀ x ∈ l, 0 ≤ x) → (∀ x ∈ m, 0 ≤ x) → 0 < l.sum → layersL l m a = -1 ∨ 1 ≤ layersL l m a := by
  intro l
  induction l with
  | nil => intro m a _ _ _ h; simp at h
  | cons n l ih =>
    intro m a hm hl hq hs
    cases m with
    | nil => simp at hm
    | cons q m =>
      have hn := hl n List.mem_cons_self
      have hqq := hq q List.mem_cons_self
      rw [List.sum_cons] at hs
      simp only [layersL]
      by_cases c : n = 0
      · rw [if_pos c]
        exact ih m a (by simpa using hm) (fun x hx => hl x (List.mem_cons_of_mem _ hx)) (fun x hx => hq x (List.mem_cons_of_mem _ hx)) (by omega)
      · rw [if_neg c]
        by_cases c2 : q = 0
        · rw [if_pos c2]; exact .inl rfl
        · rw [if_neg c2]
          have hd : 1 ≤ (n + q - 1) / q := by
            rw [Int.le_ediv_iff_mul_le (by omega)]
            omega
          rcases layersL_ge l m (mx a ((n + q - 1) / q)) with h | h
          · exact .inl h
          · right
            have : (n + q - 1) / q ≤ mx a ((n + q - 1) / q) := by unfold mx; split <;> omega
            omega
theorem layersL_none : ∀ (l m : List Int) (a : Int), m.length = l.length → (∀ x ∈ l, 0 ≤ x) → (∀ x ∈ m, x = 0) → 0 < l.sum → layersL l m a = -1 := by
  intro l
  induction l with
  | nil => intro m a _ _ _ h; simp at h
  | cons n l ih =>
    intro m a hm hl hq hs
    cases m with
    | nil => simp at hm
    | cons q m =>
      have hqq := hq q List.mem_cons_self
      have hn := hl n List.mem_cons_self
      rw [List.sum_cons] at hs
      simp only [layersL]
      by_cases c : n = 0
      · rw [if_pos c]
        exact ih m a (by simpa using hm) (fun x hx => hl x (List.mem_cons_of_mem _ hx)) (fun x hx => hq x (List.mem_cons_of_mem _ hx)) (by omega)
      · rw [if_neg c, if_pos hqq]
/-- The state of the closure, told by the reference's. -/
def bmI (s : List Int × Int) : List Int × Bool × Int := if s.2 < 0 then ([], true, 0) else (s.1, false, s.2)
theorem sum_zero_all : ∀ m : List Int, (∀ x ∈ m, 0 ≤ x) → m.sum = 0 → ∀ x ∈ m, x = 0 := by
  intro m
  induction m with
  | nil => intro _ _ x hx; simp at hx
  | cons y m ih =>
    intro h hs x hx
    have hy := h y List.mem_cons_self
    have hm : 0 ≤ m.sum := by
      have : ∀ l : List Int, (∀ x ∈ l, 0 ≤ x) → 0 ≤ l.sum := by
        intro l
        induction l with
        | nil => simp
        | cons z l ihl => intro hz; rw [List.sum_cons]; have := hz z List.mem_cons_self; have := ihl (fun x hx => hz x (List.mem_cons_of_mem _ hx)); omega
      exact this m (fun x hx => h x (List.mem_cons_of_mem _ hx))
    rw [List.sum_cons] at hs
    rcases List.mem_cons.1 hx with rfl | hx
    · omega
    · exact ih (fun x hx => h x (List.mem_cons_of_mem _ hx)) (by omega) x hx
theorem leaf_ev {w : List Int} (hw : wantedOk w = true) (hs : 0 < w.sum) (m : List Int) (hm : m.length = w.length) (hx : ∀ x ∈ m, 0 ≤ x ∧ x ≤ 8) (h8 : 0 ≤ m.sum ∧ m.sum ≤ 8) (left : Int) (s : List Int × Int) (hok : s.2 = -1 ∨ 0 < s.2) :
    Ev (fun k => impl_BestMarker.g k w m left (bmI s).1 (bmI s).2.1 (bmI s).2.2) (bmI (bmUpd w s m)) := by
  obtain ⟨h1, h5, hb⟩ := wantedOk_iff.1 hw
  have hL : ∃ n, layersFor w m = n ∧ ((0 ≤ n ∧ n = layersL w m 0 ∧ 0 < n) ∨ (n < 0 ∧ layersL w m 0 ≤ 0)) := by
    refine ⟨_, rfl, ?_⟩
    unfold layersFor
    by_cases c : markerOk w m = true
    · rw [if_pos c]
      rcases layersL_pos w m 0 hm (fun x hx => (hb x hx).1) (fun x h => (hx x h).1) hs with h | h
      · right; omega
      · left; omega
    · rw [if_neg c]
      right
      have hz : m.sum = 0 := by
        by_cases z : m.sum = 0
        · exact z
        · exact absurd (markerOk_iff.2 ⟨hw, hm, hx, by omega, h8.2⟩) c
      have := layersL_none w m 0 hm (fun x hx => (hb x hx).1) (sum_zero_all m (fun x h => (hx x h).1) hz) hs
      omega
  obtain ⟨n, en, hn⟩ := hL
  have e1 := impl_LayersFor_ev w m
  rw [en] at e1
  refine Ev.step (f := fun k => (impl_LayersFor.f k w m).bind fun n => if 0 ≤ n ∧ ((bmI s).2.1 = true ∨ n < (bmI s).2.2) then (if 0 < m.length ∧ m.length < 17592186044416 then some (m, false, n) else none) else some ((bmI s).1, (bmI s).2.1, (bmI s).2.2)) (fun k => ?_) (Ev.bind e1 ?_)
  · rw [impl_BestMarker.g, if_pos hm]
  · have hl : 0 < m.length ∧ m.length < 17592186044416 := by omega
    have key : (0 ≤ n ∧ ((bmI s).2.1 = true ∨ n < (bmI s).2.2)) ↔ (0 < layersL w m 0 ∧ (s.2 < 0 ∨ layersL w m 0 < s.2)) := by
      unfold bmI
      by_cases z : s.2 < 0
      · rw [if_pos z]
        simp only [true_or, and_true]
        omega
      · rw [if_neg z]
        simp only [Bool.false_eq_true, false_or]
        omega
    by_cases c : 0 < layersL w m 0 ∧ (s.2 < 0 ∨ layersL w m 0 < s.2)
    · refine Ev.congr (fun k => (if_pos (key.2 c)).trans (if_pos hl)) ?_
      refine ev_eq (Ev.now _) ?_
      unfold bmUpd
      rw [if_pos c]
      unfold bmI
      have : n = layersL w m 0 := by omega
      rw [if_neg (by simp only; omega), this]
    · refine Ev.congr (fun k => if_neg (fun z => c (key.1 z))) ?_
      refine ev_eq (Ev.now _) ?_
      unfold bmUpd
      rw [if_neg c]
end Go.Proofs.Ytghnaclpjdhilaa.PA
/- BestMarker: the loops. -/
namespace Go.Proofs.Ytghnaclpjdhilaa.PA
open Go.RowKit Go.Proofs.YtghnaclpjdhilaaW.PrintWords Go.Proofs.YtghnaclpjdhilaaW.PrintLast Go.Proofs.YtghnaclpjdhilaaW.PrintMore
set_option linter.unusedVariables false
set_option linter.unusedSimpArgs false
theorem grow_ev {w : List Int} (hw : wantedOk w = true) (hs : 0 < w.sum) : ∀ (d : Nat) (m : List Int) (left : Nat) (s : List Int × Int), m.length + d = w.length → (∀ x ∈ m, 0 ≤ x ∧ x ≤ 8) → 0 ≤ m.sum → m.sum + left ≤ 8 → (s.2 = -1 ∨ 0 < s.2) →
    Ev (fun k => impl_BestMarker.g k w m (left : Int) (bmI s).1 (bmI s).2.1 (bmI s).2.2) (bmI (((mks d left).map fun t => m ++ t).foldl (bmUpd w) s)) := by
  obtain ⟨h1, h5, hb⟩ := wantedOk_iff.1 hw
  intro d
  induction d with
  | zero =>
    intro m left s hm hx h0 h8 hok
    have e := leaf_ev hw hs m (by omega) hx ⟨h0, by omega⟩ (left : Int) s hok
    simpa [mks] using e
  | succ d ih =>
    intro m left s hm hx h0 h8 hok
    have go : ∀ (c j : Nat) (s : List Int × Int), j + c = left + 1 → (s.2 = -1 ∨ 0 < s.2) → Ev (fun k => impl_BestMarker.l k w m (left : Int) (bmI s).1 (bmI s).2.1 (bmI s).2.2 (j : Int)) (bmI ((((List.range' j c).flatMap fun j => (mks d (left - j)).map fun t => (j : Int) :: t).map fun t => m ++ t).foldl (bmUpd w) s)) := by
      intro c
      induction c with
      | zero =>
        intro j s hj _
        refine Ev.step (f := fun _ => some ((bmI s).1, (bmI s).2.1, (bmI s).2.2)) (fun k => ?_) (ev_eq (Ev.now _) (by simp))
        rw [impl_BestMarker.l, if_neg (by omega)]
      | succ c ihc =>
        intro j s hj hok
        have e := ih (m ++ [(j : Int)]) (left - j) s (by simp; omega) (fun x hx2 => by
          rcases List.mem_append.1 hx2 with hx2 | hx2
          · exact hx x hx2
          · rw [List.mem_singleton.1 hx2]; omega) (by simp; omega) (by simp; omega) hok
        have hok2 := bmFold_ok w ((mks d (left - j)).map fun t => m ++ [(j : Int)] ++ t) s hok
        have e2 := ihc (j + 1) _ (by omega) hok2
        rw [List.range'_succ, List.flatMap_cons, List.map_append, List.foldl_append]
        have em : (((mks d (left - j)).map fun t => (j : Int) :: t).map fun t => m ++ t) = (mks d (left - j)).map fun t => m ++ [(j : Int)] ++ t := by
          rw [List.map_map]
          apply List.map_congr_left
          intro t _
          simp
        rw [em]
        refine Ev.step (f := fun k => (impl_BestMarker.g k w (m ++ [(j : Int)]) ((left - j : Nat) : Int) (bmI s).1 (bmI s).2.1 (bmI s).2.2).bind fun t => impl_BestMarker.l k w m (left : Int) t.1 t.2.1 t.2.2 ((j + 1 : Nat) : Int)) (fun k => ?_) (Ev.bind e e2)
        rw [impl_BestMarker.l, if_pos (by omega), w64 (x := (left : Int) - j) (by omega) (by omega), w64 (x := (j : Int) + 1) (by omega) (by omega), show (left : Int) - (j : Int) = ((left - j : Nat) : Int) by omega]
        rfl
    have e := go (left + 1) 0 s (by omega) hok
    simp only [mks]
    rw [List.range_eq_range']
    refine Ev.step (f := fun k => impl_BestMarker.l k w m (left : Int) (bmI s).1 (bmI s).2.1 (bmI s).2.2 0) (fun k => ?_) e
    rw [impl_BestMarker.g, if_neg (by omega), if_pos (by omega)]
/-- What both texts give. -/
def bestMk (w : List Int) (r : Int) : List Int × Bool := if wantedOk w = true ∧ w.sum ≠ 0 ∧ 1 ≤ r ∧ r ≤ 8 then (if ((mks w.length r.toNat).foldl (bmUpd w) ([], -1)).2 < 0 then ([], false) else (((mks w.length r.toNat).foldl (bmUpd w) ([], -1)).1, true)) else ([], false)
theorem impl_best_ev (w : List Int) (r : Int) : Ev (fun k => impl_BestMarker.f k w r) (bestMk w r) := by
  unfold impl_BestMarker.f bestMk
  refine Ev.bind (ev_const (impl_Wanted_eq w)) ?_
  by_cases c : wantedOk w = true
  · obtain ⟨h1, h5, hb⟩ := wantedOk_iff.1 c
    refine Ev.congr (fun k => if_pos c) ?_
    refine Ev.bind (impl_sumOf_ev w h5 hb) ?_
    by_cases c2 : w.sum = 0
    · exact ev_eq (Ev.congr (fun k => if_pos c2) (Ev.now _)) (if_neg (fun z => z.2.1 c2)).symm
    · refine Ev.congr (fun k => if_neg c2) ?_
      refine Ev.bind (ev_const (within_eq r 1 8)) ?_
      by_cases c3 : 1 ≤ r ∧ r ≤ 8
      · obtain ⟨R, rfl⟩ := Int.eq_ofNat_of_zero_le (show (0 : Int) ≤ r by omega)
        rw [if_pos ⟨c, c2, c3.1, c3.2⟩, Int.toNat_natCast]
        refine Ev.congr (fun k => if_pos (decide_eq_true c3)) ?_
        have hs := (lsum_bd (by omega : (0 : Int) ≤ 100) w hb).1
        have e := grow_ev c (by omega) w.length [] R ([], -1) (by simp) (by simp) (by simp) (by simp; omega) (.inl rfl)
        simp only [List.nil_append, List.map_id'] at e
        have hfin := bmFold_ok w (mks w.length R) ([], -1) (.inl rfl)
        generalize (mks w.length R).foldl (bmUpd w) ([], -1) = S at *
        refine Ev.bind e (ev_eq (Ev.now _) ?_)
        unfold bmI
        by_cases z : S.2 < 0
        · rw [if_pos z, if_pos z]; rfl
        · rw [if_neg z, if_neg z]; rfl
      · rw [if_neg (fun z => c3 ⟨z.2.2.1, z.2.2.2⟩)]
        exact Ev.congr (fun k => if_neg (by simpa using c3)) (Ev.now _)
  · rw [if_neg (fun z => c z.1)]
    exact Ev.congr (fun k => if_neg c) (Ev.now _)
end Go.Proofs.Ytghnaclpjdhilaa.PA
/- after layers -/
namespace Go.Proofs.Ytghnaclpjdhilaa.PA
open Go.RowKit Go.Proofs.YtghnaclpjdhilaaW.PrintWords Go.Proofs.YtghnaclpjdhilaaW.PrintLast Go.Proofs.YtghnaclpjdhilaaW.PrintMore
set_option linter.unusedVariables false
set_option linter.unusedSimpArgs false
def afterL (t : List Int) : List Int := t.map fun x => mx 0 (wrap64 (-x))
def afterOf (l m : List Int) (a : Int) : List Int × Bool := if markerOk l m = true ∧ (0 ≤ a ∧ a ≤ 1000) then (afterL (extraL l m a), true) else ([], false)
theorem extraL_len2 : ∀ (l m : List Int) (a : Int), m.length = l.length → (extraL l m a).length = l.length := by
  intro l
  induction l with
  | nil => intro m a _; simp [extraL]
  | cons n l ih =>
    intro m a h
    cases m with
    | nil => simp at h
    | cons q m => simp [extraL]; exact ih m a (by simpa using h)
theorem extra_pos {l m : List Int} {a : Int} (h : markerOk l m = true ∧ (0 ≤ a ∧ a ≤ 1000)) : 0 < (extraL l m a).length ∧ (extraL l m a).length ≤ 5 := by
  obtain ⟨h1, h2, _⟩ := markerOk_iff.1 h.1
  rw [extraL_len2 l m a h2]
  have := wantedOk_iff.1 h1
  exact ⟨this.1, this.2.1⟩
theorem impl_after_l : ∀ (suf pre : List Int), pre.length + suf.length ≤ 5 →
    Ev (fun k => impl_AfterLayers.l0 k (pre ++ suf) ((pre.length + suf.length : Nat) : Int) (pre.length : Int)) (pre ++ afterL suf) := by
  intro suf
  induction suf with
  | nil =>
    intro pre hp
    refine Ev.step (f := fun _ => some (pre ++ [])) (fun k => ?_) (Ev.now _)
    simp only [impl_AfterLayers.l0]
    rw [if_neg (by simp)]
  | cons x suf ih =>
    intro pre hp
    simp only [List.length_cons] at hp
    have hn := ih (pre ++ [mx 0 (wrap64 (-x))]) (by simp; omega)
    have hg : rd (pre ++ x :: suf) (pre.length : Int) = x := by rw [rd_nat]; simp [List.getD_eq_getElem?_getD]
    have hs : (pre ++ x :: suf).set pre.length (mx 0 (wrap64 (-x))) = pre ++ [mx 0 (wrap64 (-x))] ++ suf := by simp
    have e1 : (pre ++ [mx 0 (wrap64 (-x))]).length = pre.length + 1 := by simp
    rw [e1] at hn
    refine Ev.step (f := fun k => impl_AfterLayers.l0 k (pre ++ [mx 0 (wrap64 (-x))] ++ suf) ((pre.length + 1 + suf.length : Nat) : Int) ((pre.length + 1 : Nat) : Int)) (fun k => ?_) (ev_eq hn (by simp [afterL]))
    simp only [impl_AfterLayers.l0, List.length_cons]
    rw [if_pos (by omega), if_pos (by omega), if_pos (by simp; omega), hg, Int.toNat_natCast, hs, w64 (x := (pre.length : Int) + 1) (by omega) (by omega), show pre.length + (suf.length + 1) = pre.length + 1 + suf.length by omega]
    rfl
theorem impl_After_ev (l m : List Int) (a : Int) : Ev (fun k => impl_AfterLayers.f k l m a) (afterOf l m a) := by
  unfold impl_AfterLayers.f
  refine Ev.bind (impl_Marker_ev l m) ?_
  unfold afterOf
  by_cases c : markerOk l m = true
  · refine Ev.congr (fun k => if_pos c) ?_
    refine Ev.bind (ev_const (within_eq a 0 1000)) ?_
    by_cases c1 : 0 ≤ a ∧ a ≤ 1000
    · obtain ⟨h1, h2⟩ := extra_pos ⟨c, c1⟩
      refine ev_eq ?_ (if_pos (⟨c, c1⟩ : markerOk l m = true ∧ (0 ≤ a ∧ a ≤ 1000))).symm
      refine Ev.congr (fun k => if_pos (decide_eq_true c1)) ?_
      refine Ev.bind (impl_Extra_ev l m a) ?_
      unfold extraOf
      rw [if_pos ⟨c, c1⟩]
      refine Ev.congr (fun k => if_pos h1) ?_
      have h := impl_after_l (extraL l m a) [] (by simpa using h2)
      have h' : Ev (fun k => impl_AfterLayers.l0 k (extraL l m a) ((extraL l m a).length : Int) 0) (afterL (extraL l m a)) := by simpa using h
      exact Ev.bind h' (Ev.now (afterL (extraL l m a), true))
    · exact ev_eq (Ev.congr (fun k => if_neg (by simpa using c1)) (Ev.now _)) (if_neg (fun z => c1 z.2)).symm
  · exact ev_eq (Ev.congr (fun k => if_neg c) (Ev.now _)) (if_neg (fun z => c z.1)).symm
end Go.Proofs.Ytghnaclpjdhilaa.PA
/- FnPlies: the plain law. -/
namespace Go.Proofs.Ytghnaclpjdhilaa.PA
open Go.RowKit Go.Proofs.YtghnaclpjdhilaaW.PrintWords Go.Proofs.YtghnaclpjdhilaaW.PrintLast Go.Proofs.YtghnaclpjdhilaaW.PrintMore
set_option linter.unusedVariables false
set_option linter.unusedSimpArgs false
theorem mem_mks : ∀ (d : Nat) (r : Nat) (t : List Int), t.length = d → (∀ x ∈ t, 0 ≤ x) → t.sum ≤ (r : Int) → t ∈ mks d r := by
  intro d
  induction d with
  | zero => intro r t h _ _; have : t = [] := List.eq_nil_of_length_eq_zero h; subst this; simp [mks]
  | succ d ih =>
    intro r t h hx hs
    cases t with
    | nil => simp at h
    | cons x t =>
      have h0 := hx x List.mem_cons_self
      have ht : ∀ y ∈ t, 0 ≤ y := fun y hy => hx y (List.mem_cons_of_mem _ hy)
      have hs0 : 0 ≤ t.sum := by
        have : ∀ l : List Int, (∀ x ∈ l, 0 ≤ x) → 0 ≤ l.sum := by
          intro l
          induction l with
          | nil => simp
          | cons z l ihl => intro hz; rw [List.sum_cons]; have := hz z List.mem_cons_self; have := ihl (fun x hx => hz x (List.mem_cons_of_mem _ hx)); omega
        exact this t ht
      rw [List.sum_cons] at hs
      obtain ⟨j, rfl⟩ := Int.eq_ofNat_of_zero_le h0
      simp only [mks]
      refine List.mem_flatMap.2 ⟨j, List.mem_range.2 (by omega), List.mem_map.2 ⟨t, ih (r - j) t (by simpa using h) ht (by omega), rfl⟩⟩
theorem bmFold_best (w : List Int) : ∀ (ms : List (List Int)) (s : List Int × Int), (s.2 = -1 ∨ 0 < s.2) →
    ((ms.foldl (bmUpd w) s).2 = -1 → s.2 = -1 ∧ ∀ t ∈ ms, layersL w t 0 ≤ 0) ∧
    (0 < (ms.foldl (bmUpd w) s).2 → ((ms.foldl (bmUpd w) s) = s ∨ ((ms.foldl (bmUpd w) s).1 ∈ ms ∧ (ms.foldl (bmUpd w) s).2 = layersL w (ms.foldl (bmUpd w) s).1 0)) ∧ (0 < s.2 → (ms.foldl (bmUpd w) s).2 ≤ s.2) ∧ ∀ t ∈ ms, 0 < layersL w t 0 → (ms.foldl (bmUpd w) s).2 ≤ layersL w t 0) := by
  intro ms
  induction ms with
  | nil => intro s _; exact ⟨fun h => ⟨h, by simp⟩, fun _ => ⟨.inl rfl, fun _ => Int.le_refl _, by simp⟩⟩
  | cons m ms ih =>
    intro s hs
    rw [List.foldl_cons]
    obtain ⟨h1, h2⟩ := ih (bmUpd w s m) (bmUpd_ok w s m hs)
    have hok := bmFold_ok w ms _ (bmUpd_ok w s m hs)
    generalize ms.foldl (bmUpd w) (bmUpd w s m) = F at *
    by_cases c : 0 < layersL w m 0 ∧ (s.2 < 0 ∨ layersL w m 0 < s.2)
    · have u : bmUpd w s m = (m, layersL w m 0) := by unfold bmUpd; exact if_pos c
      rw [u] at h1 h2
      refine ⟨fun h => by have := (h1 h).1; simp only at this; omega, fun h => ?_⟩
      obtain ⟨a, b, d⟩ := h2 h
      simp only at b
      refine ⟨.inr ?_, fun h0 => by have := b c.1; omega, fun t ht h0 => ?_⟩
      · rcases a with e | ⟨e1, e2⟩
        · rw [e]; exact ⟨List.mem_cons_self, rfl⟩
        · exact ⟨List.mem_cons_of_mem _ e1, e2⟩
      · rcases List.mem_cons.1 ht with rfl | ht
        · exact b c.1
        · exact d t ht h0
    · have u : bmUpd w s m = s := by unfold bmUpd; exact if_neg c
      rw [u] at h1 h2
      refine ⟨fun h => ?_, fun h => ?_⟩
      · obtain ⟨a, b⟩ := h1 h
        refine ⟨a, fun t ht => ?_⟩
        rcases List.mem_cons.1 ht with rfl | ht
        · omega
        · exact b t ht
      · obtain ⟨a, b, d⟩ := h2 h
        refine ⟨a.imp id (fun e => ⟨List.mem_cons_of_mem _ e.1, e.2⟩), b, fun t ht h0 => ?_⟩
        rcases List.mem_cons.1 ht with rfl | ht
        · have h3 : 0 < s.2 := by omega
          have := b h3
          omega
        · exact d t ht h0
theorem ceil_facts {n q : Int} (hn : 0 < n) (hq : 0 < q) : n ≤ ((n + q - 1) / q) * q ∧ (((n + q - 1) / q) - 1) * q < n := by
  have h1 := Int.mul_ediv_add_emod (n + q - 1) q
  have h2 := Int.emod_nonneg (n + q - 1) (by omega : q ≠ 0)
  have h3 := Int.emod_lt_of_pos (n + q - 1) hq
  have h4 : ((n + q - 1) / q) * q = q * ((n + q - 1) / q) := Int.mul_comm _ _
  rw [Int.sub_mul, Int.one_mul, h4]
  omega
theorem layers_facts : ∀ (l m : List Int) (a : Int), m.length = l.length → (∀ x ∈ l, 0 ≤ x) → (∀ x ∈ m, 0 ≤ x) → 0 ≤ a → layersL l m a ≠ -1 →
    a ≤ layersL l m a ∧ (∀ p ∈ l.zip m, p.1 ≤ layersL l m a * p.2 ∧ (0 < p.1 → 1 ≤ p.2)) ∧ (layersL l m a = a ∨ ∃ p ∈ l.zip m, (layersL l m a - 1) * p.2 < p.1) := by
  intro l
  induction l with
  | nil => intro m a _ _ _ _ _; exact ⟨by simp [layersL], by simp, .inl (by simp [layersL])⟩
  | cons n l ih =>
    intro m a hm hl hq ha hne
    cases m with
    | nil => simp at hm
    | cons q m =>
      have hn := hl n List.mem_cons_self
      have hqq := hq q List.mem_cons_self
      have hl' : ∀ x ∈ l, 0 ≤ x := fun x hx => hl x (List.mem_cons_of_mem _ hx)
      have hm' : ∀ x ∈ m, 0 ≤ x := fun x hx => hq x (List.mem_cons_of_mem _ hx)
      have hlen : m.length = l.length := by simpa using hm
      simp only [layersL] at hne ⊢
      by_cases c : n = 0
      · rw [if_pos c] at hne ⊢
        obtain ⟨h1, h2, h3⟩ := ih m a hlen hl' hm' ha hne
        refine ⟨h1, fun p hp => ?_, h3.imp id (fun ⟨p, hp, e⟩ => ⟨p, by rw [List.zip_cons_cons]; exact List.mem_cons_of_mem _ hp, e⟩)⟩
        rw [List.zip_cons_cons] at hp
        rcases List.mem_cons.1 hp with rfl | hp
        · subst c
          exact ⟨Int.mul_nonneg (by omega) hqq, fun z => by simp at z⟩
        · exact h2 p hp
      · rw [if_neg c] at hne ⊢
        by_cases c2 : q = 0
        · rw [if_pos c2] at hne; exact absurd rfl hne
        · rw [if_neg c2] at hne ⊢
          obtain ⟨g1, g2⟩ := ceil_facts (n := n) (q := q) (by omega) (by omega)
          generalize (n + q - 1) / q = k at *
          have hk : a ≤ mx a k ∧ k ≤ mx a k ∧ (mx a k = a ∨ mx a k = k) := by unfold mx; split <;> omega
          obtain ⟨h1, h2, h3⟩ := ih m (mx a k) hlen hl' hm' (by omega) hne
          generalize layersL l m (mx a k) = N at *
          refine ⟨by omega, fun p hp => ?_, ?_⟩
          · rw [List.zip_cons_cons] at hp
            rcases List.mem_cons.1 hp with rfl | hp
            · have : k * q ≤ N * q := Int.mul_le_mul_of_nonneg_right (by omega) hqq
              exact ⟨by simp only; omega, fun _ => by simp only; omega⟩
            · exact h2 p hp
          · rcases h3 with e | ⟨p, hp, e⟩
            · rcases hk.2.2 with e2 | e2
              · left; omega
              · right
                refine ⟨(n, q), by rw [List.zip_cons_cons]; exact List.mem_cons_self, ?_⟩
                simp only
                rw [e, e2]
                exact g2
            · right
              exact ⟨p, by rw [List.zip_cons_cons]; exact List.mem_cons_of_mem _ hp, e⟩
theorem extra_mem : ∀ (l m : List Int) (a x : Int), x ∈ extraL l m a ↔ ∃ p ∈ l.zip m, x = p.2 * a - p.1 := by
  intro l
  induction l with
  | nil => intro m a x; simp [extraL]
  | cons n l ih =>
    intro m a x
    cases m with
    | nil => simp [extraL]
    | cons q m =>
      simp only [extraL, List.zip_cons_cons, List.mem_cons, ih]
      constructor
      · rintro (rfl | ⟨p, hp, rfl⟩)
        · exact ⟨(n, q), .inl rfl, rfl⟩
        · exact ⟨p, .inr hp, rfl⟩
      · rintro ⟨p, rfl | hp, rfl⟩
        · exact .inl rfl
        · exact .inr ⟨p, hp, rfl⟩
theorem after_zero : ∀ t : List Int, (∀ x ∈ t, 0 ≤ x ∧ x ≤ 100000) → (afterL t).sum = 0 := by
  intro t
  induction t with
  | nil => intro _; rfl
  | cons x t ih =>
    intro h
    have hx := h x List.mem_cons_self
    have e : mx 0 (wrap64 (-x)) = 0 := by rw [w64 (by omega) (by omega)]; unfold mx; split <;> omega
    have := ih (fun y hy => h y (List.mem_cons_of_mem _ hy))
    unfold afterL at this ⊢
    rw [List.map_cons, List.sum_cons, e, this]
    rfl
theorem after_pos : ∀ t : List Int, (∀ x ∈ t, -100000 ≤ x ∧ x ≤ 100000) → 0 ≤ (afterL t).sum ∧ ((∃ x ∈ t, x < 0) → 0 < (afterL t).sum) := by
  intro t
  induction t with
  | nil => intro _; exact ⟨Int.le_refl _, fun ⟨x, hx, _⟩ => by simp at hx⟩
  | cons x t ih =>
    intro h
    have hx := h x List.mem_cons_self
    have e : mx 0 (wrap64 (-x)) = if x < 0 then -x else 0 := by rw [w64 (by omega) (by omega)]; unfold mx; split <;> split <;> omega
    obtain ⟨h1, h2⟩ := ih (fun y hy => h y (List.mem_cons_of_mem _ hy))
    unfold afterL at h1 h2 ⊢
    rw [List.map_cons, List.sum_cons, e]
    refine ⟨by split <;> omega, ?_⟩
    rintro ⟨y, hy, hlt⟩
    rcases List.mem_cons.1 hy with rfl | hy
    · rw [if_pos hlt]; omega
    · have := h2 ⟨y, hy, hlt⟩
      split <;> omega
theorem psum_l (l : List Int) (hl : l.length ≤ 10) (hb : ∀ x ∈ l, -100000 ≤ x ∧ x ≤ 100000) : ∀ (d i : Nat) (a : Int), i + d = l.length → -100000 * (i : Int) ≤ a → a ≤ 100000 * (i : Int) → Ev (fun k => laws_sum.l0 k a l (l.length : Int) (i : Int)) (a + (l.drop i).sum) := by
  intro d
  induction d with
  | zero =>
    intro i a hi _ _
    rw [List.drop_of_length_le (by omega)]
    refine Ev.step (f := fun _ => some a) (fun k => ?_) (ev_eq (Ev.now _) (by simp))
    simp only [laws_sum.l0]
    rw [if_neg (by omega)]
  | succ d ih =>
    intro i a hi ha hb2
    have hlt : i < l.length := by omega
    have hx := hb l[i] (List.getElem_mem hlt)
    have e := ih (i + 1) (a + l[i]) (by omega) (by omega) (by omega)
    rw [List.drop_eq_getElem_cons hlt, List.sum_cons]
    refine Ev.step (f := fun k => laws_sum.l0 k (a + l[i]) l (l.length : Int) ((i + 1 : Nat) : Int)) (fun k => ?_) (ev_eq e (by omega))
    simp only [laws_sum.l0]
    rw [if_pos (by omega), if_pos (by omega), if_pos (by omega), rd_get hlt, w64 (by omega) (by omega), w64 (by omega) (by omega)]
    rfl
theorem psum_ev (l : List Int) (hl : l.length ≤ 10) (hb : ∀ x ∈ l, -100000 ≤ x ∧ x ≤ 100000) : Ev (fun k => laws_sum.f k l) l.sum := by
  have e := psum_l l hl hb l.length 0 0 (by omega) (by omega) (by omega)
  exact ev_eq e (by simp)
end Go.Proofs.Ytghnaclpjdhilaa.PA
/- FnPlies: the best marker. -/
namespace Go.Proofs.Ytghnaclpjdhilaa.PA
open Go.RowKit Go.Proofs.YtghnaclpjdhilaaW.PrintWords Go.Proofs.YtghnaclpjdhilaaW.PrintLast Go.Proofs.YtghnaclpjdhilaaW.PrintMore
set_option linter.unusedVariables false
set_option linter.unusedSimpArgs false
theorem best_facts {l : List Int} (hw : wantedOk l = true) (R : Nat) (h1 : 1 ≤ R) (h8 : R ≤ 8) :
    ((bestMk l (R : Int)).2 = true → (bestMk l (R : Int)).1 ∈ mks l.length R ∧ 0 < layersL l (bestMk l (R : Int)).1 0 ∧ ∀ t ∈ mks l.length R, 0 < layersL l t 0 → layersL l (bestMk l (R : Int)).1 0 ≤ layersL l t 0) ∧
    ((bestMk l (R : Int)).2 = false → l.sum = 0 ∨ ∀ t ∈ mks l.length R, layersL l t 0 ≤ 0) := by
  unfold bestMk
  by_cases hs : l.sum = 0
  · rw [if_neg (fun z => z.2.1 hs)]
    exact ⟨fun h => by simp at h, fun _ => .inl hs⟩
  · rw [if_pos ⟨hw, hs, by omega, by omega⟩, Int.toNat_natCast]
    obtain ⟨b1, b2⟩ := bmFold_best l (mks l.length R) ([], -1) (.inl rfl)
    have hok := bmFold_ok l (mks l.length R) ([], -1) (.inl rfl)
    generalize (mks l.length R).foldl (bmUpd l) ([], -1) = F at *
    by_cases z : F.2 < 0
    · rw [if_pos z]
      exact ⟨fun h => by simp at h, fun _ => .inr (b1 (by omega)).2⟩
    · rw [if_neg z]
      refine ⟨fun _ => ?_, fun h => by simp at h⟩
      obtain ⟨a, _, d⟩ := b2 (by omega)
      rcases a with e | ⟨e1, e2⟩
      · rw [e] at z; simp at z
      · simp only
        rw [← e2]
        exact ⟨e1, by omega, d⟩
def posN (l : List Int) : Nat := l.countP (fun x => decide (0 < x))
theorem posN_le : ∀ (l m : List Int), m.length = l.length → (∀ x ∈ m, 0 ≤ x) → (∀ p ∈ l.zip m, 0 < p.1 → 1 ≤ p.2) → (posN l : Int) ≤ m.sum := by
  intro l
  induction l with
  | nil => intro m hm _ _; have : m = [] := List.eq_nil_of_length_eq_zero (by simpa using hm); subst this; simp [posN]
  | cons n l ih =>
    intro m hm hx hp
    cases m with
    | nil => simp at hm
    | cons q m =>
      have hq := hx q List.mem_cons_self
      have h1 := ih m (by simpa using hm) (fun x h => hx x (List.mem_cons_of_mem _ h)) (fun p h => hp p (by rw [List.zip_cons_cons]; exact List.mem_cons_of_mem _ h))
      have h2 := hp (n, q) (by rw [List.zip_cons_cons]; exact List.mem_cons_self)
      simp only at h2
      unfold posN at h1 ⊢
      rw [List.countP_cons, List.sum_cons]
      by_cases c : 0 < n
      · rw [if_pos (decide_eq_true c)]
        have := h2 c
        omega
      · rw [if_neg (by simpa using c)]
        omega
def ind (l : List Int) : List Int := l.map fun x => if 0 < x then 1 else 0
theorem ind_facts : ∀ l : List Int, (∀ x ∈ l, 0 ≤ x) → (ind l).length = l.length ∧ (ind l).sum = (posN l : Int) ∧ (∀ x ∈ ind l, 0 ≤ x) ∧ ∀ a, 0 ≤ a → layersL l (ind l) a ≠ -1 := by
  intro l
  induction l with
  | nil => intro _; exact ⟨rfl, rfl, by simp [ind], fun a ha => by simp [ind, layersL]; omega⟩
  | cons n l ih =>
    intro h
    have hn := h n List.mem_cons_self
    obtain ⟨h1, h2, h3, h4⟩ := ih (fun x hx => h x (List.mem_cons_of_mem _ hx))
    unfold ind at h1 h2 h3 h4 ⊢
    unfold posN at h2 ⊢
    rw [List.map_cons, List.countP_cons]
    by_cases c : 0 < n
    · rw [if_pos c, if_pos (decide_eq_true c)]
      refine ⟨by simp, by rw [List.sum_cons, h2]; omega, fun x hx => ?_, fun a ha => ?_⟩
      · rcases List.mem_cons.1 hx with rfl | hx
        · omega
        · exact h3 x hx
      · simp only [layersL]
        rw [if_neg (by omega), if_neg (by omega)]
        exact h4 _ (by unfold mx; split <;> omega)
    · rw [if_neg c, if_neg (by simpa using c)]
      refine ⟨by simp, by rw [List.sum_cons, h2]; omega, fun x hx => ?_, fun a ha => ?_⟩
      · rcases List.mem_cons.1 hx with rfl | hx
        · omega
        · exact h3 x hx
      · simp only [layersL]
        rw [if_pos (by omega)]
        exact h4 a ha
theorem posN_pos {l : List Int} (h : ∀ x ∈ l, 0 ≤ x) : l.sum = 0 ↔ posN l = 0 := by
  constructor
  · intro hs
    unfold posN
    rw [List.countP_eq_zero]
    intro x hx
    have := sum_zero_all l h hs x hx
    simp [this]
  · intro hp
    unfold posN at hp
    rw [List.countP_eq_zero] at hp
    have : ∀ l : List Int, (∀ x ∈ l, x = 0) → l.sum = 0 := by
      intro l
      induction l with
      | nil => intro _; rfl
      | cons x l ih => intro hz; rw [List.sum_cons, hz x List.mem_cons_self, ih (fun y hy => hz y (List.mem_cons_of_mem _ hy))]; rfl
    refine this l (fun x hx => ?_)
    have h1 := h x hx
    have h2 := hp x hx
    simp only [decide_eq_true_iff] at h2
    omega
theorem ok_iff {l : List Int} (hw : wantedOk l = true) (R : Nat) (h1 : 1 ≤ R) (h8 : R ≤ 8) : (bestMk l (R : Int)).2 = true ↔ 0 < posN l ∧ posN l ≤ R := by
  obtain ⟨w1, w5, hb⟩ := wantedOk_iff.1 hw
  have h0 : ∀ x ∈ l, 0 ≤ x := fun x hx => (hb x hx).1
  obtain ⟨b1, b2⟩ := best_facts hw R h1 h8
  have hp := posN_pos h0
  constructor
  · intro h
    obtain ⟨a1, a2, _⟩ := b1 h
    obtain ⟨r1, r2, r3, r4⟩ := mks_row _ _ _ a1
    obtain ⟨_, f2, _⟩ := layers_facts l _ 0 r1 h0 (fun x hx => (r2 x hx).1) (Int.le_refl _) (by omega)
    have := posN_le l _ r1 (fun x hx => (r2 x hx).1) (fun p hp => (f2 p hp).2)
    refine ⟨?_, by omega⟩
    by_cases z : posN l = 0
    · exfalso
      have hs := hp.2 z
      unfold bestMk at h
      rw [if_neg (fun q => q.2.1 hs)] at h
      simp at h
    · omega
  · rintro ⟨g1, g2⟩
    cases hv : (bestMk l (R : Int)).2 with
    | true => rfl
    | false =>
      exfalso
      rcases b2 hv with hs | hall
      · have := hp.1 hs; omega
      · obtain ⟨i1, i2, i3, i4⟩ := ind_facts l h0
        have hm := mem_mks l.length R (ind l) i1 i3 (by omega)
        have h5 := hall _ hm
        have hs : 0 < l.sum := by
          have := (lsum_bd (by omega : (0 : Int) ≤ 100) l hb).1
          by_cases z : l.sum = 0
          · have := hp.1 z; omega
          · omega
        rcases layersL_pos l (ind l) 0 i1 h0 i3 hs with e | e
        · exact i4 0 (Int.le_refl _) e
        · omega
end Go.Proofs.Ytghnaclpjdhilaa.PA
/- the reader of draws -/
namespace Go.Proofs.Ytghnaclpjdhilaa.PA
open Go.RowKit Go.Proofs.YtghnaclpjdhilaaW.PrintWords Go.Proofs.YtghnaclpjdhilaaW.PrintLast Go.Proofs.YtghnaclpjdhilaaW.PrintMore
set_option linter.unusedVariables false
set_option linter.unusedSimpArgs false
theorem and255 (x : Int) : 0 ≤ Go.bits .and .i64 x 255 ∧ Go.bits .and .i64 x 255 ≤ 255 := by
  unfold Go.bits
  have h : (BitVec.ofInt IntKind.i64.bits x &&& BitVec.ofInt IntKind.i64.bits 255).toNat ≤ 255 := by
    rw [BitVec.toNat_and]
    exact Nat.le_trans Nat.and_le_right (by decide)
  show 0 ≤ IntKind.i64.wrap ((BitVec.ofInt IntKind.i64.bits x &&& BitVec.ofInt IntKind.i64.bits 255).toNat : Int) ∧ IntKind.i64.wrap ((BitVec.ofInt IntKind.i64.bits x &&& BitVec.ofInt IntKind.i64.bits 255).toNat : Int) ≤ 255
  generalize (BitVec.ofInt IntKind.i64.bits x &&& BitVec.ofInt IntKind.i64.bits 255).toNat = n at *
  rw [IntKind.wrap_i64]
  omega
theorem byte_some (x : List Int) (i h : Int) (hx : x.length ≤ 1048576) (h0 : 0 ≤ i) (h1 : i ≤ (x.length : Int)) : ∃ b i' h', spec_l01Byte.f x i h = some (b, i', h') ∧ (0 ≤ b ∧ b ≤ 255) ∧ (0 ≤ i' ∧ i' ≤ (x.length : Int)) := by
  unfold spec_l01Byte.f
  by_cases c : i < (x.length : Int)
  · rw [if_pos c, if_pos h0]
    exact ⟨_, _, _, rfl, and255 _, by rw [w64 (by omega) (by omega)]; omega⟩
  · rw [if_neg c]
    exact ⟨_, _, _, rfl, and255 _, h0, h1⟩
theorem below_some (x : List Int) (i h n : Int) (hx : x.length ≤ 1048576) (h0 : 0 ≤ i) (h1 : i ≤ (x.length : Int)) (n0 : 1 ≤ n) (n1 : n ≤ 256) : ∃ v i' h', spec_l01Below.f x i h n = some (v, i', h') ∧ (0 ≤ v ∧ v < n) ∧ (0 ≤ i' ∧ i' ≤ (x.length : Int)) := by
  obtain ⟨b, i', h', e, hb, hi⟩ := byte_some x i h hx h0 h1
  refine ⟨Int.tmod b n, i', h', ?_, ?_, hi⟩
  · unfold spec_l01Below.f
    rw [if_neg (by omega), if_pos n1, e]
    simp only [Option.bind_some]
    rw [if_neg (by omega)]
  · rw [Int.tmod_eq_emod_of_nonneg hb.1]
    exact ⟨Int.emod_nonneg _ (by omega), Int.emod_lt_of_pos _ (by omega)⟩
theorem new_ev (x : List Int) (hx : x.length ≤ 1048576) : ∃ h, Ev (fun k => spec_l01New.f k x) (x, 0, h) := by
  have go : ∀ (m i : Nat) (a : Int), i + m = 4000 → ∃ h, Ev (fun k => spec_l01New.l0 k x a (i : Int)) (x, 0, h) := by
    intro m
    induction m with
    | zero =>
      intro i a hi
      refine ⟨a, Ev.step (f := fun _ => some (x, 0, a)) (fun k => ?_) (Ev.now _)⟩
      simp only [spec_l01New.l0]
      by_cases c : (i : Int) < (x.length : Int)
      · rw [if_pos c, if_neg (by omega)]
      · rw [if_neg c]
    | succ m ih =>
      intro i a hi
      by_cases c : (i : Int) < (x.length : Int)
      · obtain ⟨h, hh⟩ := ih (i + 1) (Go.bits .and .i64 (wrap64 ((wrap64 ((wrap64 (a * 179)) + (wrap64 (rd x (i : Int))))) + 7)) 1073741823) (by omega)
        refine ⟨h, Ev.step (f := fun k => spec_l01New.l0 k x (Go.bits .and .i64 (wrap64 ((wrap64 ((wrap64 (a * 179)) + (wrap64 (rd x (i : Int))))) + 7)) 1073741823) ((i + 1 : Nat) : Int)) (fun k => ?_) hh⟩
        simp only [spec_l01New.l0]
        rw [if_pos c, if_pos (by omega), if_pos (by omega), w64 (x := (i : Int) + 1) (by omega) (by omega)]
        rfl
      · refine ⟨a, Ev.step (f := fun _ => some (x, 0, a)) (fun k => ?_) (Ev.now _)⟩
        simp only [spec_l01New.l0]
        rw [if_neg c]
  obtain ⟨h, hh⟩ := go 4000 0 (wrap64 (2173 + (x.length : Int))) (by omega)
  exact ⟨h, hh⟩
theorem l31_ev (x : List Int) (hx : x.length ≤ 1048576) (n : Nat) (hn : n ≤ 1000) : ∃ i h, Ev (fun k => spec_l31New.f k x (n : Int)) (x, i, h) ∧ 0 ≤ i ∧ i ≤ (x.length : Int) := by
  obtain ⟨h0, e0⟩ := new_ev x hx
  have go : ∀ (m j : Nat) (i h : Int), j + m = n → 0 ≤ i → i ≤ (x.length : Int) → ∃ i' h', Ev (fun k => spec_l31New.l0 k x i h (n : Int) (j : Int)) (x, i', h') ∧ 0 ≤ i' ∧ i' ≤ (x.length : Int) := by
    intro m
    induction m with
    | zero =>
      intro j i h hj a b
      refine ⟨i, h, Ev.step (f := fun _ => some (x, i, h)) (fun k => ?_) (Ev.now _), a, b⟩
      simp only [spec_l31New.l0]
      rw [if_neg (by omega)]
    | succ m ih =>
      intro j i h hj a b
      obtain ⟨bb, i', h', e, _, hi⟩ := byte_some x i h hx a b
      obtain ⟨i2, h2, e2, g2⟩ := ih (j + 1) i' h' (by omega) hi.1 hi.2
      refine ⟨i2, h2, Ev.step (f := fun k => spec_l31New.l0 k x i' h' (n : Int) ((j + 1 : Nat) : Int)) (fun k => ?_) e2, g2⟩
      simp only [spec_l31New.l0]
      rw [if_pos (by omega), e]
      simp only [Option.bind_some]
      rw [w64 (by omega) (by omega)]
      rfl
  obtain ⟨i, h, e, g⟩ := go n 0 0 h0 (by omega) (by omega) (by omega)
  refine ⟨i, h, ?_, g⟩
  unfold spec_l31New.f
  exact Ev.bind e0 e
theorem size_ev (x : List Int) (hx : x.length ≤ 1048576) (n low high : Nat) (hn : n ≤ 1000) (h1 : low ≤ high) (h2 : high ≤ low + 98) (h3 : high ≤ 1000000) : ∃ v, Ev (fun k => spec_MakeSize.f k x (n : Int) (low : Int) (high : Int)) v ∧ (low : Int) ≤ v ∧ v ≤ (high : Int) := by
  obtain ⟨i, h, e, a, b⟩ := l31_ev x hx n hn
  obtain ⟨v, i', h', e2, hv, _⟩ := below_some x i h ((high : Int) - low + 1) hx a b (by omega) (by omega)
  have last : ∀ (m : Nat) (c : Int) (d : Nat), c = (low : Int) + d → d + m = v.toNat → Ev (fun k => spec_MakeSize.l1 k c (m : Int)) ((low : Int) + v) := by
    intro m
    induction m with
    | zero =>
      intro c d hc hd
      refine Ev.step (f := fun _ => some c) (fun k => ?_) (ev_eq (Ev.now _) (by omega))
      simp only [spec_MakeSize.l1]
      rw [if_neg (by omega)]
    | succ m ih =>
      intro c d hc hd
      refine Ev.step (f := fun k => spec_MakeSize.l1 k (c + 1) (m : Int)) (fun k => ?_) (ih (c + 1) (d + 1) (by omega) (by omega))
      simp only [spec_MakeSize.l1]
      rw [if_pos (by omega), w64 (x := c + 1) (by omega) (by omega), w64 (by omega) (by omega)]
      congr 1
      omega
  have mid : Ev (fun k => spec_MakeSize.j1 k x (n : Int) (low : Int) ((high : Int) - low + 1)) ((low : Int) + v) := by
    refine Ev.step (f := fun k => (spec_l31New.f k x (n : Int)).bind fun bt => (spec_l01Below.f bt.1 bt.2.1 bt.2.2 ((high : Int) - low + 1)).bind fun bt2 => spec_MakeSize.l1 k (low : Int) bt2.1) (fun k => ?_) (Ev.bind e (Ev.bind (ev_const e2) ?_))
    · simp only [spec_MakeSize.j1]
    · have := last v.toNat (low : Int) 0 (by omega) (by omega)
      rwa [show ((v.toNat : Nat) : Int) = v by omega] at this
  have go : ∀ (m s : Nat), s + m = high - low → Ev (fun k => spec_MakeSize.l0 k x (n : Int) (low : Int) (high : Int) ((s : Int) + 1) ((low : Int) + s)) ((low : Int) + v) := by
    intro m
    induction m with
    | zero =>
      intro s hs
      refine Ev.step (f := fun k => spec_MakeSize.j1 k x (n : Int) (low : Int) ((high : Int) - low + 1)) (fun k => ?_) mid
      simp only [spec_MakeSize.l0]
      rw [if_neg (by omega), show ((s : Int) + 1) = (high : Int) - low + 1 by omega]
    | succ m ih =>
      intro s hs
      refine Ev.step (f := fun k => spec_MakeSize.l0 k x (n : Int) (low : Int) (high : Int) (((s + 1 : Nat) : Int) + 1) ((low : Int) + ((s + 1 : Nat) : Int))) (fun k => ?_) (ih (s + 1) (by omega))
      simp only [spec_MakeSize.l0]
      rw [if_pos (by omega), if_pos (by omega), w64 (x := (s : Int) + 1 + 1) (by omega) (by omega), w64 (by omega) (by omega)]
      congr 1
  refine ⟨(low : Int) + v, ?_, by omega, by omega⟩
  have := go (high - low) 0 (by omega)
  unfold spec_MakeSize.f
  simpa using this
end Go.Proofs.Ytghnaclpjdhilaa.PA
/- FnPlies: what is drawn. -/
namespace Go.Proofs.Ytghnaclpjdhilaa.PA
open Go.RowKit Go.Proofs.YtghnaclpjdhilaaW.PrintWords Go.Proofs.YtghnaclpjdhilaaW.PrintLast Go.Proofs.YtghnaclpjdhilaaW.PrintMore
set_option linter.unusedVariables false
set_option linter.unusedSimpArgs false
theorem wdraw_l (x : List Int) (hx : x.length ≤ 1048576) : ∀ (m : Nat) (L : List Int) (i h : Int), (∀ r ∈ L, 0 ≤ r ∧ r ≤ 29) → L.length + m ≤ 100 → 0 ≤ i → i ≤ (x.length : Int) →
    ∃ L' i' h', Ev (fun k => spec_l19Draw.l0 k L (m : Int) x i h) (L', i', h') ∧ (∀ r ∈ L', 0 ≤ r ∧ r ≤ 29) ∧ L'.length = L.length + m := by
  intro m
  induction m with
  | zero =>
    intro L i h hL _ _ _
    refine ⟨L, i, h, Ev.step (f := fun _ => some (L, i, h)) (fun k => ?_) (Ev.now _), hL, rfl⟩
    simp only [spec_l19Draw.l0]
    rw [if_neg (by omega)]
  | succ m ih =>
    intro L i h hL hl a b
    obtain ⟨v1, i1, h1, e1, hv1, a1, b1⟩ := below_some x i h 30 hx a b (by omega) (by omega)
    obtain ⟨L', i', h', e, hL', hn⟩ := ih (L ++ [v1]) i1 h1 (fun r hr => by
      rcases List.mem_append.1 hr with hr | hr
      · exact hL r hr
      · rw [List.mem_singleton.1 hr]; omega) (by simp; omega) a1 b1
    refine ⟨L', i', h', Ev.step (f := fun k => spec_l19Draw.l0 k (L ++ [v1]) (m : Int) x i1 h1) (fun k => ?_) e, hL', by rw [hn]; simp; omega⟩
    simp only [spec_l19Draw.l0]
    rw [if_pos (by omega), e1]
    simp only [Option.bind_some]
    rw [if_pos (by omega), w64 (by omega) (by omega)]
    congr 1
    omega
theorem makeWanted_ev (x : List Int) (hx : x.length ≤ 1048576) : ∃ l, Ev (fun k => spec_MakeWanted.f k x 0) l ∧ wantedOk l = true ∧ l.length ≤ 4 ∧ ∀ r ∈ l, 0 ≤ r ∧ r ≤ 29 := by
  obtain ⟨i0, h0, e0, a0, b0⟩ := l31_ev x hx 0 (by omega)
  obtain ⟨v1, i1, h1, e1, hv1, a1, b1⟩ := below_some x i0 h0 4 hx a0 b0 (by omega) (by omega)
  obtain ⟨n, rfl⟩ := Int.eq_ofNat_of_zero_le hv1.1
  obtain ⟨L, i2, h2, e2, hL, hn⟩ := wdraw_l x hx (n + 1) [] i1 h1 (by simp) (by simp; omega) a1 b1
  have hlen : L.length = n + 1 := by rw [hn]; simp
  refine ⟨L, ?_, wantedOk_iff.2 ⟨by omega, by omega, fun r hr => by have := hL r hr; omega⟩, by omega, hL⟩
  unfold spec_MakeWanted.f
  refine Ev.bind e0 ?_
  have e3 : Ev (fun k => spec_l19Draw.f k x i0 h0) (L, i2, h2) := by
    unfold spec_l19Draw.f
    refine Ev.bind (ev_const e1) ?_
    have ew : wrap64 (1 + (n : Int)) = ((n + 1 : Nat) : Int) := by rw [w64 (by omega) (by omega)]; omega
    simp only [ew]
    exact e2
  exact Ev.bind e3 (Ev.now _)
end Go.Proofs.Ytghnaclpjdhilaa.PA
/- FnPlies: the loops. -/
namespace Go.Proofs.Ytghnaclpjdhilaa.PA
open Go.RowKit Go.Proofs.YtghnaclpjdhilaaW.PrintWords Go.Proofs.YtghnaclpjdhilaaW.PrintLast Go.Proofs.YtghnaclpjdhilaaW.PrintMore
set_option linter.unusedVariables false
set_option linter.unusedSimpArgs false
theorem extra_at : ∀ (l m : List Int) (a : Int) (i : Nat) (h : i < (extraL l m a).length) (hl : i < l.length) (hm : i < m.length), (extraL l m a)[i] = m[i] * a - l[i] := by
  intro l
  induction l with
  | nil => intro m a i h hl hm; simp at hl
  | cons n l ih =>
    intro m a i h hl hm
    cases m with
    | nil => simp at hm
    | cons q m =>
      cases i with
      | zero => simp [extraL]
      | succ i =>
        simp only [extraL, List.getElem_cons_succ]
        exact ih m a i (by simpa [extraL] using h) (by simpa using hl) (by simpa using hm)
theorem ones_facts {l : List Int} (hw : wantedOk l = true) (hs : 0 < l.sum) (R : Nat) (hR : l.length ≤ R) (h8 : R ≤ 8) : List.replicate l.length (1 : Int) ∈ mks l.length R ∧ 0 < layersL l (List.replicate l.length 1) 0 ∧ layersFor l (List.replicate l.length 1) = layersL l (List.replicate l.length 1) 0 := by
  obtain ⟨w1, w5, hb⟩ := wantedOk_iff.1 hw
  have hsum : ∀ n : Nat, (List.replicate n (1 : Int)).sum = (n : Int) := by
    intro n
    induction n with
    | zero => rfl
    | succ n ih => rw [List.replicate_succ, List.sum_cons, ih]; omega
  have hmem : ∀ x ∈ List.replicate l.length (1 : Int), x = 1 := fun x hx => List.eq_of_mem_replicate hx
  have hne : ∀ (l : List Int) (a : Int), 0 ≤ a → layersL l (List.replicate l.length 1) a ≠ -1 := by
    intro l
    induction l with
    | nil => intro a ha; simp [layersL]; omega
    | cons n l ih =>
      intro a ha
      rw [List.length_cons, List.replicate_succ]
      simp only [layersL]
      split
      · exact ih a ha
      · rw [if_neg (by omega)]
        exact ih _ (by unfold mx; split <;> omega)
  have hlen : (List.replicate l.length (1 : Int)).length = l.length := List.length_replicate
  refine ⟨mem_mks _ _ _ hlen (fun x hx => by rw [hmem x hx]; omega) (by rw [hsum]; omega), ?_, ?_⟩
  · rcases layersL_pos l (List.replicate l.length 1) 0 hlen (fun x hx => (hb x hx).1) (fun x hx => by rw [hmem x hx]; omega) hs with e | e
    · exact absurd e (hne l 0 (Int.le_refl _))
    · omega
  · unfold layersFor
    rw [if_pos (markerOk_iff.2 ⟨hw, hlen, fun x hx => by rw [hmem x hx]; omega, by rw [hsum]; omega, by rw [hsum]; omega⟩)]
theorem even_l {l : List Int} (hw : wantedOk l = true) (R : Nat) (N : Int) (hN : l.length ≤ R → N ≤ layersFor l (List.replicate l.length 1)) : ∀ (d i : Nat), i + d = l.length →
    Ev (fun k => laws_FnPlies.l2 k l (R : Int) N (List.replicate i 1) (l.length : Int) (i : Int)) true := by
  obtain ⟨w1, w5, hb⟩ := wantedOk_iff.1 hw
  intro d
  induction d with
  | zero =>
    intro i hi
    obtain rfl : i = l.length := by omega
    by_cases c : (l.length : Int) > (R : Int)
    · refine Ev.step (f := fun _ => some true) (fun k => ?_) (Ev.now _)
      simp only [laws_FnPlies.l2]
      rw [if_neg (by omega), if_pos c]
    · refine Ev.step (f := fun k => (impl_LayersFor.f k l (List.replicate l.length 1)).bind fun t => some (decide (t ≥ N))) (fun k => ?_) (Ev.bind (impl_LayersFor_ev _ _) (ev_eq (Ev.now _) (decide_eq_true (hN (by omega)))))
      simp only [laws_FnPlies.l2]
      rw [if_neg (by omega), if_neg c]
  | succ d ih =>
    intro i hi
    have e := ih (i + 1) (by omega)
    rw [List.replicate_succ'] at e
    have hl : (List.replicate i (1 : Int)).length < 17592186044416 := by rw [List.length_replicate]; omega
    refine Ev.step (fun k => ?_) e
    simp only [laws_FnPlies.l2]
    rw [if_pos (by omega), if_pos hl, w64 (by omega) (by omega)]
    rfl
end Go.Proofs.Ytghnaclpjdhilaa.PA
/- FnPlies: the law. -/
namespace Go.Proofs.Ytghnaclpjdhilaa.PA
open Go.RowKit Go.Proofs.YtghnaclpjdhilaaW.PrintWords Go.Proofs.YtghnaclpjdhilaaW.PrintLast Go.Proofs.YtghnaclpjdhilaaW.PrintMore
set_option linter.unusedVariables false
set_option linter.unusedSimpArgs false
theorem posN_take {l : List Int} {i : Nat} (h : i < l.length) : posN (l.take (i + 1)) = posN (l.take i) + (if 0 < l[i] then 1 else 0) := by
  unfold posN
  rw [List.take_succ_eq_append_getElem h, List.countP_append, List.countP_singleton]
  by_cases c : 0 < l[i]
  · rw [if_pos (decide_eq_true c), if_pos c]
  · rw [if_neg (by simpa using c), if_neg c]
theorem sizes_l {l : List Int} (hw : wantedOk l = true) (R : Nat) (m : List Int) (ok : Bool) (hok : ok = true ↔ 0 < posN l ∧ posN l ≤ R) (hj : Ev (fun k => laws_FnPlies.j1 k l (R : Int) m ok false) true) : ∀ (d i : Nat), i + d = l.length →
    Ev (fun k => laws_FnPlies.l0 k l (R : Int) m ok ((posN (l.take i) : Nat) : Int) l (l.length : Int) (i : Int)) true := by
  obtain ⟨w1, w5, hb⟩ := wantedOk_iff.1 hw
  intro d
  induction d with
  | zero =>
    intro i hi
    obtain rfl : i = l.length := by omega
    rw [List.take_length]
    by_cases c : 0 < posN l
    · have e : (ok != decide (((posN l : Nat) : Int) ≤ (R : Int))) = false := by
        rw [bne_eq_false_iff_eq, Bool.eq_iff_iff, hok, decide_eq_true_iff]
        omega
      refine Ev.step (f := fun k => laws_FnPlies.j1 k l (R : Int) m ok false) (fun k => ?_) hj
      simp only [laws_FnPlies.l0]
      rw [if_neg (by omega), impl_Wanted_eq, Option.bind_some, if_pos hw, if_pos (by omega), e]
    · have e : (ok != false) = false := by
        cases ok with
        | false => rfl
        | true => exact absurd (hok.1 rfl).1 c
      refine Ev.step (f := fun k => laws_FnPlies.j1 k l (R : Int) m ok false) (fun k => ?_) hj
      simp only [laws_FnPlies.l0]
      rw [if_neg (by omega), impl_Wanted_eq, Option.bind_some, if_pos hw, if_neg (by omega), e]
  | succ d ih =>
    intro i hi
    have hlt : i < l.length := by omega
    have e := ih (i + 1) (by omega)
    rw [posN_take hlt] at e
    have hp : posN (l.take i) ≤ 5 := by
      unfold posN
      have := List.countP_le_length (p := fun x => decide (0 < x)) (l := l.take i)
      rw [List.length_take] at this
      omega
    by_cases c : 0 < l[i]
    · rw [if_pos c] at e
      refine Ev.step (fun k => ?_) e
      simp only [laws_FnPlies.l0]
      rw [if_pos (by omega), if_pos (by omega), if_pos (by omega), rd_get hlt, if_pos c, w64 (by omega) (by omega), w64 (by omega) (by omega)]
      rfl
    · rw [if_neg c] at e
      refine Ev.step (fun k => ?_) e
      simp only [laws_FnPlies.l0]
      rw [if_pos (by omega), if_pos (by omega), if_pos (by omega), rd_get hlt, if_neg c, w64 (by omega) (by omega)]
      rfl
theorem share_ev {l : List Int} (hw : wantedOk l = true) (R : Nat) (h1 : 1 ≤ R) (h8 : R ≤ 8) : Ev (fun k => impl_ShareLayers.f k l (R : Int)) ((l.sum + (R : Int) - 1) / (R : Int)) := by
  obtain ⟨w1, w5, hb⟩ := wantedOk_iff.1 hw
  have hs := lsum_bd (by omega : (0 : Int) ≤ 100) l hb
  unfold impl_ShareLayers.f
  refine Ev.bind (ev_const (impl_Wanted_eq l)) ?_
  refine Ev.congr (fun k => if_pos hw) ?_
  refine Ev.bind (ev_const (within_eq _ _ _)) ?_
  refine Ev.congr (fun k => if_pos (by simp; omega)) ?_
  refine Ev.bind (impl_sumOf_ev l w5 (fun x hx => by have := hb x hx; omega)) ?_
  refine Ev.congr (fun k => if_neg (by omega)) ?_
  refine ev_eq (Ev.now _) ?_
  have hd : 0 ≤ (l.sum + (R : Int) - 1) / (R : Int) ∧ (l.sum + (R : Int) - 1) / (R : Int) ≤ l.sum + (R : Int) - 1 := ⟨Int.ediv_nonneg (by omega) (by omega), Int.ediv_le_self _ (by omega)⟩
  rw [w64 (x := l.sum + (R : Int)) (by omega) (by omega), w64 (x := l.sum + (R : Int) - 1) (by omega) (by omega), Int.tdiv_eq_ediv_of_nonneg (by omega), w64 (by omega) (by omega)]
theorem zip_le {N : Int} : ∀ (l m : List Int), m.length = l.length → (∀ p ∈ l.zip m, p.1 ≤ N * p.2) → l.sum ≤ N * m.sum := by
  intro l
  induction l with
  | nil => intro m hm _; have : m = [] := List.eq_nil_of_length_eq_zero (by simpa using hm); subst this; simp
  | cons n l ih =>
    intro m hm h
    cases m with
    | nil => simp at hm
    | cons q m =>
      have h1 := ih m (by simpa using hm) (fun p hp => h p (by rw [List.zip_cons_cons]; exact List.mem_cons_of_mem _ hp))
      have h2 := h (n, q) (by rw [List.zip_cons_cons]; exact List.mem_cons_self)
      simp only at h2
      rw [List.sum_cons, List.sum_cons, Int.mul_add]
      omega
/-- What the law asks of the best marker. -/
structure BestOk (l m : List Int) (R : Nat) (N : Int) : Prop where
  mok : markerOk l m = true
  len : m.length = l.length
  bd : ∀ x ∈ m, 0 ≤ x ∧ x ≤ 8
  sum : m.sum ≤ (R : Int)
  lay : layersFor l m = N
  n1 : 1 ≤ N
  n2 : N ≤ 100
  low : l.sum ≤ N * (R : Int)
  ext : ∀ x ∈ extraL l m N, 0 ≤ x ∧ x ≤ 800
  ext1 : ∀ x ∈ extraL l m (N - 1), -100 ≤ x ∧ x ≤ 800
  neg : ∃ x ∈ extraL l m (N - 1), x < 0
  even : l.length ≤ R → N ≤ layersFor l (List.replicate l.length 1)
theorem best_ok {l : List Int} (hw : wantedOk l = true) (R : Nat) (h1 : 1 ≤ R) (h8 : R ≤ 8) (hv : (bestMk l (R : Int)).2 = true) : ∃ N, BestOk l (bestMk l (R : Int)).1 R N := by
  obtain ⟨w1, w5, hb⟩ := wantedOk_iff.1 hw
  have h0 : ∀ x ∈ l, 0 ≤ x := fun x hx => (hb x hx).1
  obtain ⟨b1, _⟩ := best_facts hw R h1 h8
  obtain ⟨a1, a2, a3⟩ := b1 hv
  obtain ⟨p0, pR⟩ := (ok_iff hw R h1 h8).1 hv
  have hs0 : 0 < l.sum := by
    have := (lsum_bd (by omega : (0 : Int) ≤ 100) l hb).1
    by_cases z : l.sum = 0
    · have := (posN_pos h0).1 z; omega
    · omega
  generalize (bestMk l (R : Int)).1 = m at *
  obtain ⟨r1, r2, r3, r4⟩ := mks_row _ _ _ a1
  have m0 : ∀ x ∈ m, 0 ≤ x := fun x hx => (r2 x hx).1
  have m8 : ∀ x ∈ m, 0 ≤ x ∧ x ≤ 8 := fun x hx => by have := r2 x hx; omega
  obtain ⟨_, f2, f3⟩ := layers_facts l m 0 r1 h0 m0 (Int.le_refl _) (by omega)
  have hps := posN_le l m r1 m0 (fun p hp => (f2 p hp).2)
  have hmk : markerOk l m = true := markerOk_iff.2 ⟨hw, r1, m8, by omega, by omega⟩
  have hlay : layersFor l m = layersL l m 0 := by unfold layersFor; rw [if_pos hmk]
  generalize hN : layersL l m 0 = N at *
  have hzip : ∀ p ∈ l.zip m, (0 ≤ p.1 ∧ p.1 ≤ 100) ∧ (0 ≤ p.2 ∧ p.2 ≤ 8) := fun p hp => ⟨hb _ (List.of_mem_zip hp).1, m8 _ (List.of_mem_zip hp).2⟩
  obtain ⟨q, hq, hlt⟩ : ∃ p ∈ l.zip m, (N - 1) * p.2 < p.1 := by
    rcases f3 with e | e
    · omega
    · exact e
  have hq1 := hzip q hq
  have hn2 : N ≤ 100 := by
    have hnn : 0 ≤ (N - 1) * q.2 := Int.mul_nonneg (by omega) hq1.2.1
    have hq2 := (f2 q hq).2 (by omega)
    have : (N - 1) * 1 ≤ (N - 1) * q.2 := Int.mul_le_mul_of_nonneg_left (by omega) (by omega)
    omega
  refine ⟨N, hmk, r1, m8, r4, hlay, by omega, hn2, ?_, fun x hx => ?_, fun x hx => ?_, ?_, fun hR => ?_⟩
  · have z1 := zip_le (N := N) l m r1 (fun p hp => (f2 p hp).1)
    have z2 : N * m.sum ≤ N * (R : Int) := Int.mul_le_mul_of_nonneg_left r4 (by omega)
    omega
  · obtain ⟨p, hp, rfl⟩ := (extra_mem l m N x).1 hx
    have g1 := (f2 p hp).1
    have g2 := hzip p hp
    rw [Int.mul_comm] at g1
    have g3 : p.2 * N ≤ 8 * N := Int.mul_le_mul_of_nonneg_right g2.2.2 (by omega)
    omega
  · obtain ⟨p, hp, rfl⟩ := (extra_mem l m (N - 1) x).1 hx
    have g2 := hzip p hp
    have g3 : p.2 * (N - 1) ≤ 8 * (N - 1) := Int.mul_le_mul_of_nonneg_right g2.2.2 (by omega)
    have g4 : 0 ≤ p.2 * (N - 1) := Int.mul_nonneg g2.2.1 (by omega)
    omega
  · refine ⟨q.2 * (N - 1) - q.1, (extra_mem l m (N - 1) _).2 ⟨q, hq, rfl⟩, ?_⟩
    rw [Int.mul_comm] at hlt
    omega
  · obtain ⟨o1, o2, o3⟩ := ones_facts hw hs0 R hR h8
    rw [o3]
    exact a3 _ o1 o2
theorem extras_l {l m : List Int} {R : Nat} {N : Int} (hw : wantedOk l = true) (h : BestOk l m R N) : ∀ (d i : Nat), i + d = (extraL l m N).length →
    Ev (fun k => laws_FnPlies.l1 k l (R : Int) m N (extraL l m N) ((extraL l m N).length : Int) (i : Int)) true := by
  obtain ⟨w1, w5, hb⟩ := wantedOk_iff.1 hw
  have hlen := extraL_len2 l m N h.len
  intro d
  induction d with
  | zero =>
    intro i hi
    refine Ev.step (f := fun k => laws_FnPlies.l2 k l (R : Int) N (List.replicate 0 1) (l.length : Int) ((0 : Nat) : Int)) (fun k => ?_) (even_l hw R N h.even l.length 0 (by omega))
    simp only [laws_FnPlies.l1]
    rw [if_neg (by omega)]
    rfl
  | succ d ih =>
    intro i hi
    have hlt : i < (extraL l m N).length := by omega
    have hl : i < l.length := by omega
    have hm : i < m.length := by rw [h.len]; exact hl
    have e := ih (i + 1) (by omega)
    have hx := h.ext _ (List.getElem_mem hlt)
    have hat := extra_at l m N i hlt hl hm
    have hq := h.bd _ (List.getElem_mem hm)
    have hn := hb _ (List.getElem_mem hl)
    have n1 := h.n1
    have n2 := h.n2
    have p1 : 0 ≤ m[i] * N := Int.mul_nonneg hq.1 (by omega)
    have p2 : m[i] * N ≤ 8 * N := Int.mul_le_mul_of_nonneg_right hq.2 (by omega)
    refine Ev.step (fun k => ?_) e
    simp only [laws_FnPlies.l1]
    rw [if_pos (by omega), if_pos (by omega), if_pos (by omega), rd_get hlt, if_neg (by omega), if_pos (by omega), if_pos (by omega), rd_get hm, rd_get hl, w64 (x := m[i] * N) (by omega) (by omega), w64 (x := m[i] * N - l[i]) (by omega) (by omega), if_pos hat, w64 (by omega) (by omega)]
    rfl
theorem afterL_bd (t : List Int) (h : ∀ x ∈ t, -100 ≤ x ∧ x ≤ 800) : ∀ x ∈ afterL t, -100000 ≤ x ∧ x ≤ 100000 := by
  intro x hx
  unfold afterL at hx
  obtain ⟨y, hy, rfl⟩ := List.mem_map.1 hx
  have := h y hy
  rw [w64 (by omega) (by omega)]
  unfold mx
  split <;> omega
theorem plies_ok_ev {l m : List Int} {R : Nat} {N low : Int} (hw : wantedOk l = true) (h8 : R ≤ 8) (h : BestOk l m R N) (hlow : low ≤ N) : Ev (fun k => laws_FnPlies.j2 k l (R : Int) m true low false) true := by
  obtain ⟨w1, w5, hb⟩ := wantedOk_iff.1 hw
  have n1 := h.n1
  have n2 := h.n2
  have hlen := extraL_len2 l m N h.len
  have hlen1 := extraL_len2 l m (N - 1) h.len
  have eN := impl_LayersFor_ev l m
  rw [h.lay] at eN
  have eX := impl_Extra_ev l m N
  rw [show extraOf l m N = extraL l m N by unfold extraOf; exact if_pos ⟨h.mok, by omega, by omega⟩] at eX
  have eA := impl_After_ev l m N
  rw [show afterOf l m N = (afterL (extraL l m N), true) by unfold afterOf; exact if_pos ⟨h.mok, by omega, by omega⟩] at eA
  have eB := impl_After_ev l m (N - 1)
  rw [show afterOf l m (N - 1) = (afterL (extraL l m (N - 1)), true) by unfold afterOf; exact if_pos ⟨h.mok, by omega, by omega⟩] at eB
  have eM := impl_Marker_ev l m
  rw [h.mok] at eM
  have s1 := after_zero (extraL l m N) (fun x hx => by have := h.ext x hx; omega)
  have s2 := (after_pos (extraL l m (N - 1)) (fun x hx => by have := h.ext1 x hx; omega)).2 h.neg
  have z1 : (afterL (extraL l m N)).length ≤ 10 := by unfold afterL; rw [List.length_map]; omega
  have z2 : (afterL (extraL l m (N - 1))).length ≤ 10 := by unfold afterL; rw [List.length_map]; omega
  have hsum := h.sum
  have tail : Ev (fun k => (laws_sum.f k (afterL (extraL l m N))).bind fun t425 => (if t425 = 0 then ((laws_sum.f k (afterL (extraL l m (N - 1)))).bind fun t426 => (if t426 = 0 then (none) else (laws_FnPlies.l1 k l (R : Int) m N (extraL l m N) ((extraL l m N).length : Int) 0))) else (none))) true := by
    refine Ev.bind (psum_ev _ z1 (afterL_bd _ (fun x hx => by have := h.ext x hx; omega))) ?_
    refine Ev.congr (fun k => if_pos s1) ?_
    refine Ev.bind (psum_ev _ z2 (afterL_bd _ h.ext1)) ?_
    refine Ev.congr (fun k => if_neg (by omega)) ?_
    exact extras_l hw h (extraL l m N).length 0 (by omega)
  refine Ev.step (f := fun k => (impl_LayersFor.f k l m).bind fun t411 => ((impl_ExtraOf.f k l m t411).bind fun t412 => ((impl_AfterLayers.f k l m t411).bind fun bt415 => ((impl_AfterLayers.f k l m (wrap64 (t411 - 1))).bind fun bt419 => ((impl_MarkerOk.f k l m).bind fun t423 => (if t423 = true then ((laws_sum.f k m).bind fun t424 => (if t424 > (R : Int) then (none) else (if t411 < low then (none) else (if bt415.2 = true then (if bt419.2 = true then (if (t412.length : Int) = (l.length : Int) then ((laws_sum.f k bt415.1).bind fun t425 => (if t425 = 0 then ((laws_sum.f k bt419.1).bind fun t426 => (if t426 = 0 then (none) else (laws_FnPlies.l1 k l (R : Int) m t411 t412 (t412.length : Int) 0))) else (none))) else (none)) else (none)) else (none))))) else (none))))))) (fun k => ?_) ?_
  · simp only [laws_FnPlies.j2]
    rw [if_neg (by simp), if_pos trivial]
  · refine Ev.bind eN ?_
    refine Ev.bind eX ?_
    refine Ev.bind eA ?_
    rw [w64 (by omega) (by omega)]
    refine Ev.bind eB ?_
    refine Ev.bind eM ?_
    refine Ev.congr (fun k => if_pos rfl) ?_
    refine Ev.bind (psum_ev m (by rw [h.len]; omega) (fun x hx => by have := h.bd x hx; omega)) ?_
    refine Ev.congr (fun k => if_neg (by omega)) ?_
    refine Ev.congr (fun k => if_neg (by omega)) ?_
    refine Ev.congr (fun k => if_pos rfl) ?_
    refine Ev.congr (fun k => if_pos rfl) ?_
    refine Ev.congr (fun k => if_pos (by omega)) ?_
    exact tail
theorem laws_FnPlies_ev (code : List Int) (hc : code.length ≤ 1048576) : Ev (fun k => laws_FnPlies.f k code) true := by
  obtain ⟨l, el, hw, h4, h29⟩ := makeWanted_ev code hc
  obtain ⟨v, ev, hv1, hv8⟩ := size_ev code hc 20 1 8 (by omega) (by omega) (by omega) (by omega)
  obtain ⟨R, rfl⟩ := Int.eq_ofNat_of_zero_le (show 0 ≤ v by omega)
  obtain ⟨w1, w5, hb⟩ := wantedOk_iff.1 hw
  have hs := lsum_bd (by omega : (0 : Int) ≤ 100) l hb
  have hR1 : 1 ≤ R := by omega
  have hR8 : R ≤ 8 := by omega
  unfold laws_FnPlies.f
  refine Ev.congr (fun k => if_neg (by omega)) ?_
  refine Ev.bind el ?_
  refine Ev.bind ev ?_
  refine Ev.bind (impl_best_ev l (R : Int)) ?_
  refine sizes_l hw R _ _ (ok_iff hw R hR1 hR8) ?_ l.length 0 (by omega)
  -- the share
  obtain ⟨low, hlow⟩ : ∃ x, x = (l.sum + (R : Int) - 1) / (R : Int) := ⟨_, rfl⟩
  have esh := share_ev hw R hR1 hR8
  rw [← hlow] at esh
  have hd : 0 ≤ low ∧ low ≤ l.sum + (R : Int) - 1 := by rw [hlow]; exact ⟨Int.ediv_nonneg (by omega) (by omega), Int.ediv_le_self _ (by omega)⟩
  have e1 := Int.mul_ediv_add_emod (l.sum + (R : Int) - 1) (R : Int)
  have e2 := Int.emod_nonneg (l.sum + (R : Int) - 1) (by omega : (R : Int) ≠ 0)
  have e3 := Int.emod_lt_of_pos (l.sum + (R : Int) - 1) (by omega : (0 : Int) < (R : Int))
  rw [← hlow, Int.mul_comm] at e1
  have g1 : l.sum ≤ low * (R : Int) := by omega
  have g2 : low * (R : Int) ≤ l.sum + (R : Int) - 1 := by omega
  have g3 : (low - 1) * (R : Int) = low * (R : Int) - (R : Int) := by rw [Int.sub_mul, Int.one_mul]
  have g0 : 0 ≤ low * (R : Int) := Int.mul_nonneg hd.1 (by omega)
  have esum := psum_ev l (by omega) (fun x hx => by have := hb x hx; omega)
  have hfin : Ev (fun k => laws_FnPlies.j2 k l (R : Int) (bestMk l (R : Int)).1 (bestMk l (R : Int)).2 low false) true := by
    cases hv : (bestMk l (R : Int)).2 with
    | false =>
      refine Ev.step (f := fun _ => some true) (fun k => ?_) (Ev.now _)
      simp only [laws_FnPlies.j2]
      rw [if_neg (by simp), if_neg (by simp)]
    | true =>
      obtain ⟨N, hN⟩ := best_ok hw R hR1 hR8 hv
      refine plies_ok_ev hw hR8 hN ?_
      have hl := hN.low
      by_cases c : low ≤ N
      · exact c
      · exfalso
        have : N * (R : Int) ≤ (low - 1) * (R : Int) := Int.mul_le_mul_of_nonneg_right (by omega) (by omega)
        omega
  refine Ev.step (f := fun k => (impl_ShareLayers.f k l (R : Int)).bind fun t408 => (if t408 < 0 then (none) else ((laws_sum.f k l).bind fun t409 => (if (wrap64 (t408 * (R : Int))) < t409 then (none) else ((laws_sum.f k l).bind fun t410 => (if (wrap64 ((wrap64 (t408 - 1)) * (R : Int))) ≥ t410 then (laws_FnPlies.j2 k l (R : Int) (bestMk l (R : Int)).1 (bestMk l (R : Int)).2 t408 (decide (t408 > 0))) else (laws_FnPlies.j2 k l (R : Int) (bestMk l (R : Int)).1 (bestMk l (R : Int)).2 t408 false))))))) (fun k => ?_) ?_
  · simp only [laws_FnPlies.j1]
    rw [if_neg (by simp)]
  · refine Ev.bind esh ?_
    refine Ev.congr (fun k => if_neg (by omega)) ?_
    refine Ev.bind esum ?_
    rw [w64 (x := low * (R : Int)) (by omega) (by omega), w64 (x := low - 1) (by omega) (by omega), g3, w64 (x := low * (R : Int) - (R : Int)) (by omega) (by omega)]
    refine Ev.congr (fun k => if_neg (by omega)) ?_
    refine Ev.bind esum ?_
    by_cases c : low * (R : Int) - (R : Int) ≥ l.sum
    · omega
    · refine Ev.congr (fun k => if_neg c) ?_
      exact hfin
end Go.Proofs.Ytghnaclpjdhilaa.PA
/- The law FnPlies holds of the program, for every input; no condition. -/
namespace Go.Proofs.Ytghnaclpjdhilaa.Pure
open Go.RowKit Go.Proofs.Ytghnaclpjdhilaa.PA Go.Proofs.YtghnaclpjdhilaaW.PrintWords Go.Proofs.YtghnaclpjdhilaaW.PrintLast Go.Proofs.YtghnaclpjdhilaaW.PrintMore
set_option linter.unusedVariables false
set_option linter.unusedSimpArgs false
theorem FnPlies : laws_FnPlies.Pure := by
  intro l0 _ _ _
  by_cases c : (l0.length : Int) > 1048576
  · exact ⟨0, by unfold laws_FnPlies.f; rw [if_pos c]⟩
  · exact Ev.rounds (g := fun k => laws_FnPlies.f k l0) (laws_FnPlies_ev l0 (by omega))
end Go.Proofs.Ytghnaclpjdhilaa.Pure
-- Written for this claim by a program of this session's (ownprint.py), by way of the kit's print and hand-proved texts. Lean checks it.
namespace Go.Proofs.Ytghnaclpjdhilaa.fnPlies
open Go.ChangeShapes Go.WideShapes Go.ChangeAt Go.RowKit
open Go.ChangeMaps (open_string shut_string)
set_option linter.unusedVariables false
theorem own : ownKnob Try.prog.godebug = none := by kernel_rfl
theorem laidOut : laidOutB Try.prog = true := by kernel_rfl
def IsRow (k : IntKind) (w : World) (a : Option Addr) (len cap : Nat) (zs : List Int) : Prop :=
  (a = none ∧ len = 0 ∧ cap = 0 ∧ zs = []) ∨
  ∃ x, a = some x ∧ len ≤ cap ∧ cap ≤ maxLen ∧ zs.length = cap ∧ (∀ i, i < zs.length → w.cell? (x.add i) = some (.int k (zs.getD i 0))) ∧ ∀ n ∈ zs, (Lit.int k n).wf = true
set_option maxRecDepth 100000 in
theorem lifted (os : Os) (started : os.Started) (H : Type) (enc : TypeId × Value → H) :
    ReturnsInHanded {} Try.checked os 7 .any (Rows.fnPliesSpec.pre6 enc Try.prog Try.f7 Rows.fnPliesRow.domain false) (Rows.fnPliesSpec.post enc Try.prog Try.f7 false true false false) := by
  refine returnsInHanded_of_change_sized (C := Try.checked) own started (by kernel_rfl) Try.func7
    (ChangeSpec.witness6 (enc := enc) (C := Try.checked) false ⟨#[], #[.slice none 0 0], []⟩ 8 (by kernel_rfl) (by kernel_rfl) (by kernel_rfl) (by kernel_rfl)) ?_
  intro W base args ds gs before hval0 hW hcnd hsz0 _
  have hsz : (DataW.weightsEach Try.prog (Try.f7.params.toList ++ Rows.fnPliesSpec.plain.varTypes Try.prog) (ds ++ gs)).all (· ≤ reachBytes) = true := hsz0
  have hval : ∀ (j : Nat) t v, Try.f7.params[j]? = some t → args[j]? = some v → Value.okWide Try.prog W .any base t v := hval0
  have hW' := hW
  obtain ⟨p, q, hA0, hV, rfl, hfz, hnd⟩ := hW
  have hA : DataW.TrodAll enc Try.prog W 0 (fun _ => true) true Try.f7.params.toList args.toList ds p := hA0
  rw [Try.params7] at hA hval hsz
  obtain ⟨v0, vs0, d0, ds0, p0, q0, hargs, rfl, rfl, h0, r0⟩ := trodAll_cons hA
  obtain ⟨rfl, rfl, rfl⟩ := trodAll_nil r0
  obtain rfl : args = #[v0] := by cases args; simp_all
  obtain ⟨rfl, rfl⟩ := trodVars_none hV
  obtain ⟨a0, len0, cap0, rfl⟩ := okWide_slice Try.underlying33 (hval 0 33 v0 rfl rfl)
  have k0 := h0
  have lt0 : ∀ x ∈ p0, x.block < W.heap.size := by obtain ⟨m, hm⟩ := k0; exact DataW.trod_lt m _ _ _ hm
  obtain ⟨z0, w0⟩ : ∃ zs, IsRow .u8 W a0 len0 cap0 zs := by
    obtain ⟨fuel, hf⟩ := h0
    rcases open_ints Try.underlying33 Try.underlying5 (by kernel_rfl) hf with ⟨hcs, _⟩ | ⟨x, l, c, zs, hcs, _, hl, hm, hz, _, hcell, hwz⟩
    · simp [Value.cells] at hcs
      obtain ⟨rfl, rfl, rfl⟩ := hcs
      exact ⟨[], .inl ⟨rfl, rfl, rfl, rfl⟩⟩
    · simp [Value.cells] at hcs
      obtain ⟨rfl, rfl, rfl⟩ := hcs
      exact ⟨zs, .inr ⟨_, rfl, hl, hm, by simpa using hz, hcell, hwz⟩⟩
  have y0 : len0 * 1 ≤ 140737488351232 := Go.Proofs.YtghnaclpjdhilaaW.PrintWords.sized_ints hsz (j := 0) (t := 33) rfl rfl Try.underlying33 Try.underlying5 (by kernel_rfl) (by kernel_rfl) h0
  clear hA0 hval0 hsz0 hsz
  refine (PA.laws_FnPlies.walk Pure.FnPlies a0 len0 cap0 z0 W w0 y0).mono fun e W' ⟨he, bel⟩ => ?_
  subst he
  exact ⟨_, rfl, _, _, _, [], _, [], hW', trodAll_mk1 (shut_bool Try.underlying4 _), (trodAll_cons_mk (Below.trod laidOut (by kernel_rfl) (of_decide_eq_true (by kernel_rfl)) k0 bel lt0) trodAll_mk0), rfl, bel.frame _, fun h => by cases h⟩
theorem over : Rows.fnPliesRow.holds Try.pinned (OpenSpec.ofChange Rows.fnPliesSpec) :=
  OpenClaim.holds_of_wide 7 Try.f7 rfl rfl rfl rfl rfl rfl rfl ⟨rfl, rfl, rfl, rfl, rfl⟩ rfl rfl rfl rfl rfl (by kernel_rfl) Try.func7 (by kernel_rfl)
    (of_decide_eq_true (by kernel_rfl)) (by unfold Func.isWrapper; first | (rw [if_pos (by decide +kernel)]; kernel_rfl) | (rw [if_neg (by decide +kernel)]; exact ⟨rfl, rfl⟩))
    (fun os started H enc _ => lifted os started H enc)
theorem proved : Rows.FnPliesSaid := over
#print axioms proved
end Go.Proofs.Ytghnaclpjdhilaa.fnPlies
namespace Go.Proofs.Ytghnaclpjdhilaa
/-- The row, under a short name, for the claim. -/
theorem fnPlies_holds : Rows.FnPliesSaid := fnPlies.proved
end Go.Proofs.Ytghnaclpjdhilaa
