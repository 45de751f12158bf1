/- plies -/
import Derived.Test.YtghnaclpjdhilaaLibI
import Derived.Test.YtghnaclpjdhilaaPAx1
import Derived.Test.YtghnaclpjdhilaaPAx11
import Derived.Test.YtghnaclpjdhilaaPAx12
import Derived.Test.YtghnaclpjdhilaaPAx2
import Derived.Test.YtghnaclpjdhilaaPAx3
import Derived.Test.YtghnaclpjdhilaaPAx4
import Derived.Test.YtghnaclpjdhilaaPAx6
import Derived.Test.YtghnaclpjdhilaaPAx7
import Derived.Test.YtghnaclpjdhilaaPAx8
namespace Go.Proofs.Ytghnaclpjdhilaa.PA
open Go.RowKit Go.Proofs.YtghnaclpjdhilaaW.PrintWords Go.Proofs.YtghnaclpjdhilaaW.PrintLast Go.Proofs.YtghnaclpjdhilaaW.PrintMore
set_option linter.unusedVariables false
set_option linter.unusedSimpArgs false

/-! WantedOk, MarkerOk, LayersFor, ExtraOf -/
def wantedOk (l : List Int) : Bool := decide (1 ≤ l.length ∧ l.length ≤ 5) && allIn l 0 100
theorem spec_Wanted_l (l : List Int) (hl : l.length ≤ 5) : ∀ (d i : Nat), i + d = l.length → Ev (fun k => spec_WantedOk.l0 k l (l.length : Int) (i : Int)) (allIn (l.drop i) 0 100) := by
  intro d
  induction d with
  | zero =>
    intro i hi
    refine Ev.step (f := fun _ => some (allIn (l.drop i) 0 100)) (fun k => ?_) (Ev.now _)
    simp only [spec_WantedOk.l0]
    rw [if_neg (by omega), List.drop_of_length_le (by omega)]
    rfl
  | succ d ih =>
    intro i hi
    have hlt : i < l.length := by omega
    rw [allIn_drop hlt]
    by_cases c : 0 ≤ l[i] ∧ l[i] ≤ 100
    · rw [decide_eq_true c.1, decide_eq_true c.2, Bool.true_and, Bool.true_and]
      refine Ev.step (f := fun k => spec_WantedOk.l0 k l (l.length : Int) ((i + 1 : Nat) : Int)) (fun k => ?_) (ih (i + 1) (by omega))
      simp only [spec_WantedOk.l0, l01In_eq, Option.bind_some]
      rw [if_pos (by omega), if_pos (by omega), if_pos (by omega), rd_get hlt, if_pos (by simpa using c), w64 (by omega) (by omega)]
      rfl
    · have c' : (decide (0 ≤ l[i]) && decide (l[i] ≤ 100)) = false := by simpa using c
      rw [c', Bool.false_and]
      refine Ev.step (f := fun k => some false) (fun k => ?_) (Ev.now _)
      simp only [spec_WantedOk.l0, l01In_eq, Option.bind_some]
      rw [if_pos (by omega), if_pos (by omega), if_pos (by omega), rd_get hlt, if_neg (by simpa using c)]
theorem spec_Wanted_ev (l : List Int) : Ev (fun k => spec_WantedOk.f k l) (wantedOk l) := by
  unfold spec_WantedOk.f wantedOk
  refine Ev.bind (ev_const (l01In_eq _ _ _)) ?_
  by_cases c : 1 ≤ l.length ∧ l.length ≤ 5
  · rw [decide_eq_true c, Bool.true_and]
    exact Ev.congr (fun k => if_pos (by simp; omega)) (spec_Wanted_l l c.2 l.length 0 (by omega))
  · rw [decide_eq_false c, Bool.false_and]
    exact Ev.congr (fun k => if_neg (by simp; omega)) (Ev.now _)
theorem impl_Wanted_eq (l : List Int) : impl_WantedOk.f l = some (wantedOk l) := by
  unfold impl_WantedOk.f wantedOk
  rw [areWithin_eq]
  by_cases c1 : 1 ≤ l.length
  · rw [if_pos (by omega)]
    by_cases c2 : l.length ≤ 5
    · rw [if_pos (by omega)]
      simp [c1, c2]
    · rw [if_neg (by omega)]
      simp [c2]
  · rw [if_neg (by omega)]
    simp [c1]
theorem wantedOk_iff {l : List Int} : wantedOk l = true ↔ 1 ≤ l.length ∧ l.length ≤ 5 ∧ ∀ x ∈ l, 0 ≤ x ∧ x ≤ 100 := by
  unfold wantedOk
  rw [Bool.and_eq_true, decide_eq_true_iff, allIn_iff, and_assoc]
theorem lsum_bd {B : Int} (hB : 0 ≤ B) : ∀ (l : List Int), (∀ x ∈ l, 0 ≤ x ∧ x ≤ B) → 0 ≤ l.sum ∧ l.sum ≤ (l.length : Int) * B := by
  intro l
  induction l with
  | nil => intro _; simp
  | cons x l ih =>
    intro h
    have h1 := ih (fun y hy => h y (List.mem_cons_of_mem _ hy))
    have h2 := h x List.mem_cons_self
    simp only [List.sum_cons, List.length_cons]
    have e : (((l.length + 1 : Nat) : Int)) * B = (l.length : Int) * B + B := by
      rw [show (((l.length + 1 : Nat) : Int)) = (l.length : Int) + 1 by omega, Int.add_mul, Int.one_mul]
    omega


theorem spec_l19Sum_l (l : List Int) (hl : l.length ≤ 5) (hb : ∀ x ∈ l, 0 ≤ x ∧ x ≤ 100) : ∀ (d i : Nat) (a : Int), i + d = l.length → 0 ≤ a → a ≤ 100 * (i : Int) → Ev (fun k => spec_l19Sum.l0 k a l (l.length : Int) (i : Int)) (a + (l.drop i).sum) := by
  intro d
  induction d with
  | zero =>
    intro i a hi h0 h1
    refine Ev.step (f := fun _ => some (a + (l.drop i).sum)) (fun k => ?_) (Ev.now _)
    simp only [spec_l19Sum.l0]
    rw [if_neg (by omega), List.drop_of_length_le (by omega)]
    simp
  | succ d ih =>
    intro i a hi h0 h1
    have hlt : i < l.length := by omega
    have hx := hb l[i] (List.getElem_mem hlt)
    rw [List.drop_eq_getElem_cons hlt, List.sum_cons, ← Int.add_assoc]
    refine Ev.step (f := fun k => spec_l19Sum.l0 k (a + l[i]) l (l.length : Int) ((i + 1 : Nat) : Int)) (fun k => ?_) (ih (i + 1) (a + l[i]) (by omega) (by omega) (by omega))
    simp only [spec_l19Sum.l0]
    rw [if_pos (by omega), if_pos (by omega), if_pos (by omega), rd_get hlt, w64 (x := a + l[i]) (by omega) (by omega), w64 (by omega) (by omega)]
    rfl
theorem spec_l19Sum_ev (l : List Int) (hl : l.length ≤ 5) (hb : ∀ x ∈ l, 0 ≤ x ∧ x ≤ 100) : Ev (fun k => spec_l19Sum.f k l) l.sum := by
  have := spec_l19Sum_l l hl hb l.length 0 0 (by omega) (by omega) (by omega)
  exact ev_eq this (by simp)


theorem impl_sumOf_l (l : List Int) (hl : l.length ≤ 5) (hb : ∀ x ∈ l, 0 ≤ x ∧ x ≤ 100) : ∀ (d i : Nat) (a : Int), i + d = l.length → 0 ≤ a → a ≤ 100 * (i : Int) → Ev (fun k => impl_sumOf.l0 k a l (l.length : Int) (i : Int)) (a + (l.drop i).sum) := by
  intro d
  induction d with
  | zero =>
    intro i a hi h0 h1
    refine Ev.step (f := fun _ => some (a + (l.drop i).sum)) (fun k => ?_) (Ev.now _)
    simp only [impl_sumOf.l0]
    rw [if_neg (by omega), List.drop_of_length_le (by omega)]
    simp
  | succ d ih =>
    intro i a hi h0 h1
    have hlt : i < l.length := by omega
    have hx := hb l[i] (List.getElem_mem hlt)
    rw [List.drop_eq_getElem_cons hlt, List.sum_cons, ← Int.add_assoc]
    refine Ev.step (f := fun k => impl_sumOf.l0 k (a + l[i]) l (l.length : Int) ((i + 1 : Nat) : Int)) (fun k => ?_) (ih (i + 1) (a + l[i]) (by omega) (by omega) (by omega))
    simp only [impl_sumOf.l0]
    rw [if_pos (by omega), if_pos (by omega), if_pos (by omega), rd_get hlt, w64 (x := a + l[i]) (by omega) (by omega), w64 (by omega) (by omega)]
    rfl
theorem impl_sumOf_ev (l : List Int) (hl : l.length ≤ 5) (hb : ∀ x ∈ l, 0 ≤ x ∧ x ≤ 100) : Ev (fun k => impl_sumOf.f k l) l.sum := by
  have := impl_sumOf_l l hl hb l.length 0 0 (by omega) (by omega) (by omega)
  exact ev_eq this (by simp)


def markerOk (l m : List Int) : Bool := wantedOk l && decide (m.length = l.length) && allIn m 0 8 && decide (1 ≤ m.sum ∧ m.sum ≤ 8)
theorem markerOk_iff {l m : List Int} : markerOk l m = true ↔ wantedOk l = true ∧ m.length = l.length ∧ (∀ x ∈ m, 0 ≤ x ∧ x ≤ 8) ∧ 1 ≤ m.sum ∧ m.sum ≤ 8 := by
  unfold markerOk
  rw [Bool.and_eq_true, Bool.and_eq_true, Bool.and_eq_true, decide_eq_true_iff, allIn_iff, decide_eq_true_iff, and_assoc, and_assoc]
theorem spec_Marker_l (m : List Int) (hl : m.length ≤ 5) : ∀ (d i : Nat), i + d = m.length → (∀ j, j < i → ∀ h : j < m.length, 0 ≤ m[j] ∧ m[j] ≤ 8) →
    Ev (fun k => spec_MarkerOk.l0 k m m (m.length : Int) (i : Int)) (allIn (m.drop i) 0 8 && decide (1 ≤ m.sum ∧ m.sum ≤ 8)) := by
  intro d
  induction d with
  | zero =>
    intro i hi hp
    have hb : ∀ x ∈ m, 0 ≤ x ∧ x ≤ 100 := by
      intro x hx
      obtain ⟨j, hj, rfl⟩ := List.getElem_of_mem hx
      have := hp j (by omega) hj
      omega
    refine Ev.step (f := fun k => (spec_l19Sum.f k m).bind fun t => (spec_l01In.f t 1 8).bind fun z => some z) (fun k => ?_) ?_
    · simp only [spec_MarkerOk.l0]
      rw [if_neg (by omega)]
    · refine Ev.bind (spec_l19Sum_ev m hl hb) ?_
      refine ev_eq (Ev.bind (ev_const (l01In_eq _ _ _)) (Ev.now _)) ?_
      rw [List.drop_of_length_le (by omega)]
      simp [allIn]
  | succ d ih =>
    intro i hi hp
    have hlt : i < m.length := by omega
    rw [allIn_drop hlt]
    by_cases c : 0 ≤ m[i] ∧ m[i] ≤ 8
    · rw [decide_eq_true c.1, decide_eq_true c.2, Bool.true_and, Bool.true_and]
      refine Ev.step (f := fun k => spec_MarkerOk.l0 k m m (m.length : Int) ((i + 1 : Nat) : Int)) (fun k => ?_) (ih (i + 1) (by omega) (fun j hj h => ?_))
      · simp only [spec_MarkerOk.l0, l01In_eq, Option.bind_some]
        rw [if_pos (by omega), if_pos (by omega), if_pos (by omega), rd_get hlt, if_pos (by simpa using c), w64 (by omega) (by omega)]
        rfl
      · by_cases e : j = i
        · subst e; exact c
        · exact hp j (by omega) h
    · have c' : (decide (0 ≤ m[i]) && decide (m[i] ≤ 8)) = false := by simpa using c
      rw [c', Bool.false_and, Bool.false_and]
      refine Ev.step (f := fun k => some false) (fun k => ?_) (Ev.now _)
      simp only [spec_MarkerOk.l0, l01In_eq, Option.bind_some]
      rw [if_pos (by omega), if_pos (by omega), if_pos (by omega), rd_get hlt, if_neg (by simpa using c)]
theorem spec_Marker_ev (l m : List Int) : Ev (fun k => spec_MarkerOk.f k l m) (markerOk l m) := by
  unfold spec_MarkerOk.f markerOk
  refine Ev.bind (spec_Wanted_ev l) ?_
  have no : Ev (fun k => spec_MarkerOk.j0 k m true) false := by
    refine Ev.step (f := fun _ => some false) (fun k => ?_) (Ev.now _)
    simp only [spec_MarkerOk.j0]
    rw [if_pos trivial]
  by_cases c0 : wantedOk l = true
  · refine Ev.congr (fun k => if_pos c0) ?_
    rw [c0, Bool.true_and]
    by_cases c1 : m.length = l.length
    · have h5 := (wantedOk_iff.1 c0).2.1
      rw [decide_eq_true c1, Bool.true_and, show ((m.length : Int) != (l.length : Int)) = false by simp [c1]]
      refine Ev.step (f := fun k => spec_MarkerOk.l0 k m m (m.length : Int) ((0 : Nat) : Int)) (fun k => ?_) (spec_Marker_l m (by omega) m.length 0 (by omega) (fun j hj => by omega))
      simp only [spec_MarkerOk.j0]
      rw [if_neg (by simp)]
      rfl
    · rw [decide_eq_false c1, Bool.false_and, Bool.false_and, show ((m.length : Int) != (l.length : Int)) = true by simp; omega]
      exact no
  · refine Ev.congr (fun k => if_neg c0) ?_
    rw [show wantedOk l = false by simpa using c0, Bool.false_and, Bool.false_and, Bool.false_and]
    exact no
theorem impl_Marker_ev (l m : List Int) : Ev (fun k => impl_MarkerOk.f k l m) (markerOk l m) := by
  unfold impl_MarkerOk.f markerOk
  refine Ev.bind (ev_const (impl_Wanted_eq l)) ?_
  by_cases c0 : wantedOk l = true
  · refine Ev.congr (fun k => if_pos c0) ?_
    rw [c0, Bool.true_and]
    by_cases c1 : m.length = l.length
    · have h5 := (wantedOk_iff.1 c0).2.1
      refine Ev.congr (fun k => if_pos (by omega)) ?_
      rw [decide_eq_true c1, Bool.true_and]
      refine Ev.bind (ev_const (areWithin_eq m 0 8)) ?_
      by_cases c2 : allIn m 0 8 = true
      · refine Ev.congr (fun k => if_pos c2) ?_
        rw [c2, Bool.true_and]
        have hb := allIn_iff.1 c2
        refine Ev.bind (impl_sumOf_ev m (by omega) (fun x hx => by have := hb x hx; omega)) ?_
        exact Ev.bind (ev_const (within_eq _ _ _)) (Ev.now _)
      · rw [show allIn m 0 8 = false by simpa using c2, Bool.false_and]
        exact Ev.congr (fun k => if_neg (by simp)) (Ev.now _)
    · rw [decide_eq_false c1, Bool.false_and, Bool.false_and]
      exact Ev.congr (fun k => if_neg (by omega)) (Ev.now _)
  · rw [show wantedOk l = false by simpa using c0, Bool.false_and, Bool.false_and, Bool.false_and]
    exact Ev.congr (fun k => if_neg (by simp)) (Ev.now _)
/-- The least number of layers; -1 where something wanted isn't given. -/
def layersL : List Int → List Int → Int → Int
  | n :: l, q :: m, a => if n = 0 then layersL l m a else if q = 0 then -1 else layersL l m (mx a ((n + q - 1) / q))
  | _, _, a => a


theorem spec_l19Layers_lay (l m : List Int) (hl : l.length ≤ 5) (hm : m.length = l.length) (hb : ∀ x ∈ l, 0 ≤ x ∧ x ≤ 100) (hc : ∀ x ∈ m, 0 ≤ x ∧ x ≤ 8) : ∀ (d i : Nat) (a : Int), i + d = l.length →
    Ev (fun k => spec_l19Layers.l0 k m a l (l.length : Int) (i : Int)) (layersL (l.drop i) (m.drop i) a) := by
  intro d
  induction d with
  | zero =>
    intro i a hi
    refine Ev.step (f := fun _ => some (layersL (l.drop i) (m.drop i) a)) (fun k => ?_) (Ev.now _)
    simp only [spec_l19Layers.l0]
    rw [if_neg (by omega), List.drop_of_length_le (by omega)]
    simp [layersL]
  | succ d ih =>
    intro i a hi
    have hlt : i < l.length := by omega
    have hlt2 : i < m.length := by omega
    have hx := hb l[i] (List.getElem_mem hlt)
    have hy := hc m[i] (List.getElem_mem hlt2)
    rw [List.drop_eq_getElem_cons hlt, List.drop_eq_getElem_cons hlt2]
    simp only [layersL]
    by_cases c1 : l[i] = 0
    · rw [if_pos c1]
      refine Ev.step (f := fun k => spec_l19Layers.l0 k m a l (l.length : Int) ((i + 1 : Nat) : Int)) (fun k => ?_) (ih (i + 1) a (by omega))
      simp only [spec_l19Layers.l0]
      rw [if_pos (by omega), if_pos (by omega), if_pos (by omega), rd_get hlt, if_pos c1, w64 (by omega) (by omega)]
      rfl
    · rw [if_neg c1]
      by_cases c2 : m[i] = 0
      · rw [if_pos c2]
        refine Ev.step (f := fun k => some (-1)) (fun k => ?_) (Ev.now _)
        simp only [spec_l19Layers.l0]
        rw [if_pos (by omega), if_pos (by omega), if_pos (by omega), rd_get hlt, if_neg c1, if_pos (by omega), rd_get hlt2, if_pos c2]
      · rw [if_neg c2]
        have hd : 0 ≤ (l[i] + m[i] - 1) / m[i] ∧ (l[i] + m[i] - 1) / m[i] ≤ l[i] + m[i] - 1 := ⟨Int.ediv_nonneg (by omega) (by omega), Int.ediv_le_self _ (by omega)⟩
        refine Ev.step (f := fun k => spec_l19Layers.l0 k m (mx a ((l[i] + m[i] - 1) / m[i])) l (l.length : Int) ((i + 1 : Nat) : Int)) (fun k => ?_) (ih (i + 1) (mx a ((l[i] + m[i] - 1) / m[i])) (by omega))
        simp only [spec_l19Layers.l0]
        rw [if_pos (by omega), if_pos (by omega), if_pos (by omega), rd_get hlt, if_neg c1, if_pos (by omega), rd_get hlt2, if_neg c2, w64 (x := l[i] + m[i]) (by omega) (by omega), w64 (x := l[i] + m[i] - 1) (by omega) (by omega),
          Int.tdiv_eq_ediv_of_nonneg (by omega), w64 (x := (l[i] + m[i] - 1) / m[i]) (by omega) (by omega), w64 (by omega) (by omega)]
        rfl


theorem impl_LayersFor_lay (l m : List Int) (hl : l.length ≤ 5) (hm : m.length = l.length) (hb : ∀ x ∈ l, 0 ≤ x ∧ x ≤ 100) (hc : ∀ x ∈ m, 0 ≤ x ∧ x ≤ 8) : ∀ (d i : Nat) (a : Int), i + d = l.length →
    Ev (fun k => impl_LayersFor.l0 k m a l (l.length : Int) (i : Int)) (layersL (l.drop i) (m.drop i) a) := by
  intro d
  induction d with
  | zero =>
    intro i a hi
    refine Ev.step (f := fun _ => some (layersL (l.drop i) (m.drop i) a)) (fun k => ?_) (Ev.now _)
    simp only [impl_LayersFor.l0]
    rw [if_neg (by omega), List.drop_of_length_le (by omega)]
    simp [layersL]
  | succ d ih =>
    intro i a hi
    have hlt : i < l.length := by omega
    have hlt2 : i < m.length := by omega
    have hx := hb l[i] (List.getElem_mem hlt)
    have hy := hc m[i] (List.getElem_mem hlt2)
    rw [List.drop_eq_getElem_cons hlt, List.drop_eq_getElem_cons hlt2]
    simp only [layersL]
    by_cases c1 : l[i] = 0
    · rw [if_pos c1]
      refine Ev.step (f := fun k => impl_LayersFor.l0 k m a l (l.length : Int) ((i + 1 : Nat) : Int)) (fun k => ?_) (ih (i + 1) a (by omega))
      simp only [impl_LayersFor.l0]
      rw [if_pos (by omega), if_pos (by omega), if_pos (by omega), rd_get hlt, if_pos c1, w64 (by omega) (by omega)]
      rfl
    · rw [if_neg c1]
      by_cases c2 : m[i] = 0
      · rw [if_pos c2]
        refine Ev.step (f := fun k => some (-1)) (fun k => ?_) (Ev.now _)
        simp only [impl_LayersFor.l0]
        rw [if_pos (by omega), if_pos (by omega), if_pos (by omega), rd_get hlt, if_neg c1, if_pos (by omega), rd_get hlt2, if_pos c2]
      · rw [if_neg c2]
        have hd : 0 ≤ (l[i] + m[i] - 1) / m[i] ∧ (l[i] + m[i] - 1) / m[i] ≤ l[i] + m[i] - 1 := ⟨Int.ediv_nonneg (by omega) (by omega), Int.ediv_le_self _ (by omega)⟩
        refine Ev.step (f := fun k => impl_LayersFor.l0 k m (mx a ((l[i] + m[i] - 1) / m[i])) l (l.length : Int) ((i + 1 : Nat) : Int)) (fun k => ?_) (ih (i + 1) (mx a ((l[i] + m[i] - 1) / m[i])) (by omega))
        simp only [impl_LayersFor.l0]
        rw [if_pos (by omega), if_pos (by omega), if_pos (by omega), rd_get hlt, if_neg c1, if_pos (by omega), rd_get hlt2, if_neg c2, w64 (x := l[i] + m[i]) (by omega) (by omega), w64 (x := l[i] + m[i] - 1) (by omega) (by omega),
          Int.tdiv_eq_ediv_of_nonneg (by omega), w64 (x := (l[i] + m[i] - 1) / m[i]) (by omega) (by omega), w64 (by omega) (by omega)]
        rfl


theorem spec_l19Layers_ev (l m : List Int) (hl : l.length ≤ 5) (hm : m.length = l.length) (hb : ∀ x ∈ l, 0 ≤ x ∧ x ≤ 100) (hc : ∀ x ∈ m, 0 ≤ x ∧ x ≤ 8) : Ev (fun k => spec_l19Layers.f k l m) (layersL l m 0) :=
  spec_l19Layers_lay l m hl hm hb hc l.length 0 0 (by omega)
def layersFor (l m : List Int) : Int := if markerOk l m then layersL l m 0 else -1
theorem spec_LayersFor_ev (l m : List Int) : Ev (fun k => spec_LayersFor.f k l m) (layersFor l m) := by
  unfold spec_LayersFor.f layersFor
  refine Ev.bind (spec_Marker_ev l m) ?_
  by_cases c : markerOk l m = true
  · rw [if_pos c]
    obtain ⟨h1, h2, h3, _⟩ := markerOk_iff.1 c
    obtain ⟨_, h5, h6⟩ := wantedOk_iff.1 h1
    exact Ev.congr (fun k => if_pos c) (Ev.bind (spec_l19Layers_ev l m h5 h2 h6 h3) (Ev.now _))
  · rw [if_neg c]
    exact Ev.congr (fun k => if_neg c) (Ev.now _)
theorem impl_LayersFor_ev (l m : List Int) : Ev (fun k => impl_LayersFor.f k l m) (layersFor l m) := by
  unfold impl_LayersFor.f layersFor
  refine Ev.bind (impl_Marker_ev l m) ?_
  by_cases c : markerOk l m = true
  · rw [if_pos c]
    obtain ⟨h1, h2, h3, _⟩ := markerOk_iff.1 c
    obtain ⟨_, h5, h6⟩ := wantedOk_iff.1 h1
    exact Ev.congr (fun k => if_pos c) (impl_LayersFor_lay l m h5 h2 h6 h3 l.length 0 0 (by omega))
  · rw [if_neg c]
    exact Ev.congr (fun k => if_neg c) (Ev.now _)

/-! ExtraOf -/
def extraL : List Int → List Int → Int → List Int
  | n :: l, q :: m, a => (q * a - n) :: extraL l m a
  | _, _, _ => []
def extraOf (l m : List Int) (a : Int) : List Int := if markerOk l m = true ∧ (0 ≤ a ∧ a ≤ 1000) then extraL l m a else []
theorem extraL_len : ∀ (l m : List Int) (a : Int), (extraL l m a).length ≤ l.length := by
  intro l
  induction l with
  | nil => intro m a; simp [extraL]
  | cons n l ih =>
    intro m a
    cases m with
    | nil => simp [extraL]
    | cons q m => simp [extraL]; exact ih m a
theorem extraOf_len (l m : List Int) (a : Int) : (extraOf l m a).length ≤ 5 := by
  unfold extraOf
  split
  · rename_i h
    exact Nat.le_trans (extraL_len l m a) (wantedOk_iff.1 (markerOk_iff.1 h.1).1).2.1
  · simp

theorem spec_Extra_l (l m : List Int) (a : Int) (ha : 0 ≤ a ∧ a ≤ 1000) (hl : l.length ≤ 5) (hm : m.length = l.length) (hb : ∀ x ∈ l, 0 ≤ x ∧ x ≤ 100) (hc : ∀ x ∈ m, 0 ≤ x ∧ x ≤ 8) : ∀ (d i : Nat) (acc : List Int), i + d = l.length → acc.length = i →
    Ev (fun k => spec_ExtraOf.l0 k m a acc l (l.length : Int) (i : Int)) (acc ++ extraL (l.drop i) (m.drop i) a) := by
  intro d
  induction d with
  | zero =>
    intro i acc hi h0
    refine Ev.step (f := fun _ => some (acc ++ extraL (l.drop i) (m.drop i) a)) (fun k => ?_) (Ev.now _)
    simp only [spec_ExtraOf.l0]
    rw [if_neg (by omega), List.drop_of_length_le (by omega)]
    simp [extraL]
  | succ d ih =>
    intro i acc hi h0
    have hlt : i < l.length := by omega
    have hlt2 : i < m.length := by omega
    have hx := hb l[i] (List.getElem_mem hlt)
    have hy := hc m[i] (List.getElem_mem hlt2)
    have p1 : 0 ≤ m[i] * a := Int.mul_nonneg hy.1 ha.1
    have p2 : m[i] * a ≤ 8 * 1000 := Int.mul_le_mul hy.2 ha.2 ha.1 (by omega)
    rw [List.drop_eq_getElem_cons hlt, List.drop_eq_getElem_cons hlt2]
    simp only [extraL]
    have hn := ih (i + 1) (acc ++ [m[i] * a - l[i]]) (by omega) (by simp; omega)
    rw [List.append_assoc, List.singleton_append] at hn
    refine Ev.step (f := fun k => spec_ExtraOf.l0 k m a (acc ++ [m[i] * a - l[i]]) l (l.length : Int) ((i + 1 : Nat) : Int)) (fun k => ?_) hn
    simp only [spec_ExtraOf.l0]
    rw [if_pos (by omega), if_pos (by omega), if_pos (by omega), if_pos (by omega), if_pos (by omega), rd_get hlt, rd_get hlt2, w64 (x := m[i] * a) (by omega) (by omega), w64 (x := m[i] * a - l[i]) (by omega) (by omega), w64 (by omega) (by omega)]
    rfl
theorem spec_Extra_ev (l m : List Int) (a : Int) : Ev (fun k => spec_ExtraOf.f k l m a) (extraOf l m a) := by
  unfold spec_ExtraOf.f extraOf
  refine Ev.bind (spec_Marker_ev l m) ?_
  have no : Ev (fun k => spec_ExtraOf.j0 k l m a true) [] := by
    refine Ev.step (f := fun _ => some []) (fun k => ?_) (Ev.now _)
    simp only [spec_ExtraOf.j0]
    rw [if_pos trivial]
  by_cases c : markerOk l m = true
  · refine Ev.congr (fun k => if_pos c) ?_
    refine Ev.bind (ev_const (l01In_eq a 0 1000)) ?_
    by_cases c1 : 0 ≤ a ∧ a ≤ 1000
    · rw [if_pos ⟨c, c1⟩, decide_eq_true c1]
      obtain ⟨h1, h2, h3, _⟩ := markerOk_iff.1 c
      obtain ⟨_, h5, h6⟩ := wantedOk_iff.1 h1
      refine Ev.step (f := fun k => spec_ExtraOf.l0 k m a [] l (l.length : Int) ((0 : Nat) : Int)) (fun k => ?_) (spec_Extra_l l m a c1 h5 h2 h6 h3 l.length 0 [] (by omega) rfl)
      simp only [spec_ExtraOf.j0]
      rw [if_neg (by simp)]
      rfl
    · rw [if_neg (fun z => c1 z.2), decide_eq_false c1]
      exact no
  · rw [if_neg (fun z => c z.1)]
    exact Ev.congr (fun k => if_neg c) no


theorem impl_Extra_l (l m : List Int) (a : Int) (ha : 0 ≤ a ∧ a ≤ 1000) (hl : l.length ≤ 5) (hm : m.length = l.length) (hb : ∀ x ∈ l, 0 ≤ x ∧ x ≤ 100) (hc : ∀ x ∈ m, 0 ≤ x ∧ x ≤ 8) : ∀ (d i : Nat) (acc : List Int), i + d = l.length → acc.length = i →
    Ev (fun k => impl_ExtraOf.l0 k m a acc l (l.length : Int) (i : Int)) (acc ++ extraL (l.drop i) (m.drop i) a) := by
  intro d
  induction d with
  | zero =>
    intro i acc hi h0
    refine Ev.step (f := fun _ => some (acc ++ extraL (l.drop i) (m.drop i) a)) (fun k => ?_) (Ev.now _)
    simp only [impl_ExtraOf.l0]
    rw [if_neg (by omega), List.drop_of_length_le (by omega)]
    simp [extraL]
  | succ d ih =>
    intro i acc hi h0
    have hlt : i < l.length := by omega
    have hlt2 : i < m.length := by omega
    have hx := hb l[i] (List.getElem_mem hlt)
    have hy := hc m[i] (List.getElem_mem hlt2)
    have p1 : 0 ≤ m[i] * a := Int.mul_nonneg hy.1 ha.1
    have p2 : m[i] * a ≤ 8 * 1000 := Int.mul_le_mul hy.2 ha.2 ha.1 (by omega)
    rw [List.drop_eq_getElem_cons hlt, List.drop_eq_getElem_cons hlt2]
    simp only [extraL]
    have hn := ih (i + 1) (acc ++ [m[i] * a - l[i]]) (by omega) (by simp; omega)
    rw [List.append_assoc, List.singleton_append] at hn
    refine Ev.step (f := fun k => impl_ExtraOf.l0 k m a (acc ++ [m[i] * a - l[i]]) l (l.length : Int) ((i + 1 : Nat) : Int)) (fun k => ?_) hn
    simp only [impl_ExtraOf.l0]
    rw [if_pos (by omega), if_pos (by omega), if_pos (by omega), if_pos (by omega), if_pos (by omega), rd_get hlt, rd_get hlt2, Int.mul_comm a m[i], w64 (x := m[i] * a) (by omega) (by omega), w64 (x := m[i] * a - l[i]) (by omega) (by omega), w64 (by omega) (by omega)]
    rfl
theorem impl_Extra_ev (l m : List Int) (a : Int) : Ev (fun k => impl_ExtraOf.f k l m a) (extraOf l m a) := by
  unfold impl_ExtraOf.f extraOf
  refine Ev.bind (impl_Marker_ev l m) ?_
  have no : Ev (fun k => impl_ExtraOf.j0 k l m a true) [] := by
    refine Ev.step (f := fun _ => some []) (fun k => ?_) (Ev.now _)
    simp only [impl_ExtraOf.j0]
    rw [if_pos trivial]
  by_cases c : markerOk l m = true
  · refine Ev.congr (fun k => if_pos c) ?_
    refine Ev.bind (ev_const (within_eq a 0 1000)) ?_
    by_cases c1 : 0 ≤ a ∧ a ≤ 1000
    · rw [if_pos ⟨c, c1⟩, decide_eq_true c1]
      obtain ⟨h1, h2, h3, _⟩ := markerOk_iff.1 c
      obtain ⟨_, h5, h6⟩ := wantedOk_iff.1 h1
      refine Ev.step (f := fun k => impl_ExtraOf.l0 k m a [] l (l.length : Int) ((0 : Nat) : Int)) (fun k => ?_) (impl_Extra_l l m a c1 h5 h2 h6 h3 l.length 0 [] (by omega) rfl)
      simp only [impl_ExtraOf.j0]
      rw [if_neg (by simp)]
      rfl
    · rw [if_neg (fun z => c1 z.2), decide_eq_false c1]
      exact no
  · rw [if_neg (fun z => c z.1)]
    exact Ev.congr (fun k => if_neg c) no

end Go.Proofs.Ytghnaclpjdhilaa.PA
