/- BestMarker: both take the first marker with the fewest layers. -/
import Derived.Test.YtghnaclpjdhilaaLibBM
import Derived.Test.YtghnaclpjdhilaaPAx21
import Derived.Test.YtghnaclpjdhilaaPAx8
namespace Go.Proofs.Ytghnaclpjdhilaa.PA
open Go.RowKit Go.Proofs.YtghnaclpjdhilaaW.PrintWords Go.Proofs.YtghnaclpjdhilaaW.PrintLast Go.Proofs.YtghnaclpjdhilaaW.PrintMore
set_option linter.unusedVariables false
set_option linter.unusedSimpArgs false

/-! BestMarker: both texts take the first marker with the fewest layers -/
def bmUpd (w : List Int) (s : List Int × Int) (m : List Int) : List Int × Int := if 0 < layersL w m 0 ∧ (s.2 < 0 ∨ layersL w m 0 < s.2) then (m, layersL w m 0) else s
theorem bmUpd_ok (w : List Int) (s : List Int × Int) (m : List Int) (h : s.2 = -1 ∨ 0 < s.2) : (bmUpd w s m).2 = -1 ∨ 0 < (bmUpd w s m).2 := by
  unfold bmUpd
  split
  · rename_i c; exact .inr c.1
  · exact h
theorem bmFold_ok (w : List Int) : ∀ (ms : List (List Int)) (s : List Int × Int), (s.2 = -1 ∨ 0 < s.2) → ((ms.foldl (bmUpd w) s).2 = -1 ∨ 0 < (ms.foldl (bmUpd w) s).2) := by
  intro ms
  induction ms with
  | nil => intro s h; exact h
  | cons m ms ih => intro s h; rw [List.foldl_cons]; exact ih _ (bmUpd_ok w s m h)
theorem layersL_ge : ∀ (l m : List Int) (a : Int), layersL l m a = -1 ∨ a ≤ layersL l m a := by
  intro l
  induction l with
  | nil => intro m a; right; simp [layersL]
  | cons n l ih =>
    intro m a
    cases m with
    | nil => right; simp [layersL]
    | cons q m =>
      simp only [layersL]
      split
      · exact ih m a
      · split
        · exact .inl rfl
        · rcases ih m (mx a ((n + q - 1) / q)) with h | h
          · exact .inl h
          · right
            have : a ≤ mx a ((n + q - 1) / q) := by unfold mx; split <;> omega
            omega
theorem layersL_pos : ∀ (l m : List Int) (a : Int), m.length = l.length → (∀ x ∈ l, 0 ≤ x) → (∀ x ∈ m, 0 ≤ x) → 0 < l.sum → layersL l m a = -1 ∨ 1 ≤ layersL l m a := by
  intro l
  induction l with
  | nil => intro m a _ _ _ h; simp at h
  | cons n l ih =>
    intro m a hm hl hq hs
    cases m with
    | nil => simp at hm
    | cons q m =>
      have hn := hl n List.mem_cons_self
      have hqq := hq q List.mem_cons_self
      rw [List.sum_cons] at hs
      simp only [layersL]
      by_cases c : n = 0
      · rw [if_pos c]
        exact ih m a (by simpa using hm) (fun x hx => hl x (List.mem_cons_of_mem _ hx)) (fun x hx => hq x (List.mem_cons_of_mem _ hx)) (by omega)
      · rw [if_neg c]
        by_cases c2 : q = 0
        · rw [if_pos c2]; exact .inl rfl
        · rw [if_neg c2]
          have hd : 1 ≤ (n + q - 1) / q := by
            rw [Int.le_ediv_iff_mul_le (by omega)]
            omega
          rcases layersL_ge l m (mx a ((n + q - 1) / q)) with h | h
          · exact .inl h
          · right
            have : (n + q - 1) / q ≤ mx a ((n + q - 1) / q) := by unfold mx; split <;> omega
            omega
theorem layersL_none : ∀ (l m : List Int) (a : Int), m.length = l.length → (∀ x ∈ l, 0 ≤ x) → (∀ x ∈ m, x = 0) → 0 < l.sum → layersL l m a = -1 := by
  intro l
  induction l with
  | nil => intro m a _ _ _ h; simp at h
  | cons n l ih =>
    intro m a hm hl hq hs
    cases m with
    | nil => simp at hm
    | cons q m =>
      have hqq := hq q List.mem_cons_self
      have hn := hl n List.mem_cons_self
      rw [List.sum_cons] at hs
      simp only [layersL]
      by_cases c : n = 0
      · rw [if_pos c]
        exact ih m a (by simpa using hm) (fun x hx => hl x (List.mem_cons_of_mem _ hx)) (fun x hx => hq x (List.mem_cons_of_mem _ hx)) (by omega)
      · rw [if_neg c, if_pos hqq]
/-- The state of the closure, told by the reference's. -/
def bmI (s : List Int × Int) : List Int × Bool × Int := if s.2 < 0 then ([], true, 0) else (s.1, false, s.2)
theorem sum_zero_all : ∀ m : List Int, (∀ x ∈ m, 0 ≤ x) → m.sum = 0 → ∀ x ∈ m, x = 0 := by
  intro m
  induction m with
  | nil => intro _ _ x hx; simp at hx
  | cons y m ih =>
    intro h hs x hx
    have hy := h y List.mem_cons_self
    have hm : 0 ≤ m.sum := by
      have : ∀ l : List Int, (∀ x ∈ l, 0 ≤ x) → 0 ≤ l.sum := by
        intro l
        induction l with
        | nil => simp
        | cons z l ihl => intro hz; rw [List.sum_cons]; have := hz z List.mem_cons_self; have := ihl (fun x hx => hz x (List.mem_cons_of_mem _ hx)); omega
      exact this m (fun x hx => h x (List.mem_cons_of_mem _ hx))
    rw [List.sum_cons] at hs
    rcases List.mem_cons.1 hx with rfl | hx
    · omega
    · exact ih (fun x hx => h x (List.mem_cons_of_mem _ hx)) (by omega) x hx
theorem leaf_ev {w : List Int} (hw : wantedOk w = true) (hs : 0 < w.sum) (m : List Int) (hm : m.length = w.length) (hx : ∀ x ∈ m, 0 ≤ x ∧ x ≤ 8) (h8 : 0 ≤ m.sum ∧ m.sum ≤ 8) (left : Int) (s : List Int × Int) (hok : s.2 = -1 ∨ 0 < s.2) :
    Ev (fun k => impl_BestMarker.g k w m left (bmI s).1 (bmI s).2.1 (bmI s).2.2) (bmI (bmUpd w s m)) := by
  obtain ⟨h1, h5, hb⟩ := wantedOk_iff.1 hw
  have hL : ∃ n, layersFor w m = n ∧ ((0 ≤ n ∧ n = layersL w m 0 ∧ 0 < n) ∨ (n < 0 ∧ layersL w m 0 ≤ 0)) := by
    refine ⟨_, rfl, ?_⟩
    unfold layersFor
    by_cases c : markerOk w m = true
    · rw [if_pos c]
      rcases layersL_pos w m 0 hm (fun x hx => (hb x hx).1) (fun x h => (hx x h).1) hs with h | h
      · right; omega
      · left; omega
    · rw [if_neg c]
      right
      have hz : m.sum = 0 := by
        by_cases z : m.sum = 0
        · exact z
        · exact absurd (markerOk_iff.2 ⟨hw, hm, hx, by omega, h8.2⟩) c
      have := layersL_none w m 0 hm (fun x hx => (hb x hx).1) (sum_zero_all m (fun x h => (hx x h).1) hz) hs
      omega
  obtain ⟨n, en, hn⟩ := hL
  have e1 := impl_LayersFor_ev w m
  rw [en] at e1
  refine Ev.step (f := fun k => (impl_LayersFor.f k w m).bind fun n => if 0 ≤ n ∧ ((bmI s).2.1 = true ∨ n < (bmI s).2.2) then (if 0 < m.length ∧ m.length < 17592186044416 then some (m, false, n) else none) else some ((bmI s).1, (bmI s).2.1, (bmI s).2.2)) (fun k => ?_) (Ev.bind e1 ?_)
  · rw [impl_BestMarker.g, if_pos hm]
  · have hl : 0 < m.length ∧ m.length < 17592186044416 := by omega
    have key : (0 ≤ n ∧ ((bmI s).2.1 = true ∨ n < (bmI s).2.2)) ↔ (0 < layersL w m 0 ∧ (s.2 < 0 ∨ layersL w m 0 < s.2)) := by
      unfold bmI
      by_cases z : s.2 < 0
      · rw [if_pos z]
        simp only [true_or, and_true]
        omega
      · rw [if_neg z]
        simp only [Bool.false_eq_true, false_or]
        omega
    by_cases c : 0 < layersL w m 0 ∧ (s.2 < 0 ∨ layersL w m 0 < s.2)
    · refine Ev.congr (fun k => (if_pos (key.2 c)).trans (if_pos hl)) ?_
      refine ev_eq (Ev.now _) ?_
      unfold bmUpd
      rw [if_pos c]
      unfold bmI
      have : n = layersL w m 0 := by omega
      rw [if_neg (by simp only; omega), this]
    · refine Ev.congr (fun k => if_neg (fun z => c (key.1 z))) ?_
      refine ev_eq (Ev.now _) ?_
      unfold bmUpd
      rw [if_neg c]

end Go.Proofs.Ytghnaclpjdhilaa.PA
