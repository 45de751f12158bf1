/- CutCloth: both texts. -/
import Derived.Test.YtoildabjnioafaaLibAw
import Derived.Test.YtoildabjnioafaaLibT
import Derived.Test.YtoildabjnioafaaPAx20
import Derived.Test.YtoildabjnioafaaPAx21
namespace Go.Proofs.Ytoildabjnioafaa.PA
open Go.RowKit Go.Proofs.YtoildabjnioafaaW.PrintWords Go.Proofs.YtoildabjnioafaaW.PrintLast Go.Proofs.YtoildabjnioafaaW.PrintMore
set_option linter.unusedVariables false
set_option linter.unusedSimpArgs false

/-! CutCloth -/
def cutOf (w h : Int) (l : List Int) : List (List Int) := if winOk w h l = true then (cutRows w h l).filter cutGood else []
theorem cutRows_len (w h : Int) (l : List Int) : (cutRows w h l).length = 4 ∧ ∀ r ∈ cutRows w h l, r.length = 4 := by
  refine ⟨rfl, fun r hr => ?_⟩
  unfold cutRows at hr
  simp only [List.mem_cons, List.not_mem_nil, or_false] at hr
  rcases hr with rfl | rfl | rfl | rfl <;> rfl
theorem cut_bd (w h : Int) (l : List Int) : (cutOf w h l).length ≤ 4 ∧ (∀ r ∈ cutOf w h l, r.length ≤ 1048576) ∧ totlen (cutOf w h l) ≤ 16 := by
  have h4 := cutRows_len w h l
  unfold cutOf
  split
  · have h1 := List.length_filter_le cutGood (cutRows w h l)
    have h2 : ∀ r ∈ (cutRows w h l).filter cutGood, r.length ≤ 4 := fun r hr => by rw [h4.2 r (List.mem_filter.1 hr).1]; omega
    have h3 := totlen_le 4 _ h2
    exact ⟨by omega, fun r hr => Nat.le_trans (h2 r hr) (by decide), by omega⟩
  · simp [totlen]
theorem win_len {w h : Int} {l : List Int} (c : winOk w h l = true) : l.length = 4 := by
  unfold winOk at c
  simp only [decide_eq_true_eq] at c
  omega
theorem impl_Cut_ev (w h : Int) (l : List Int) : Ev (fun _ => impl_CutCloth.f w h l) (cutOf w h l) := by
  refine ev_const ?_
  unfold impl_CutCloth.f cutOf
  rw [impl_WindowOk_eq, Option.bind_some]
  by_cases c : winOk w h l = true
  · rw [if_pos c, if_pos (by have := win_len c; omega), if_pos c]
  · rw [if_neg c, if_neg c]
theorem cutGood_iff (r : List Int) : cutGood r = true ↔ rd r 2 > 0 ∧ rd r 3 > 0 := by
  unfold cutGood
  rw [Bool.and_eq_true, decide_eq_true_iff, decide_eq_true_iff]
theorem spec_cut_l (R : List (List Int)) (hR : R.length ≤ 4) (h4 : ∀ r ∈ R, r.length = 4) : ∀ (d i : Nat) (out : List (List Int)), i + d = R.length → out.length ≤ i → Ev (fun k => spec_CutCloth.l0 k out R (R.length : Int) (i : Int)) (out ++ (R.drop i).filter cutGood) := by
  intro d
  induction d with
  | zero =>
    intro i out hi ho
    rw [List.drop_of_length_le (by omega), List.filter_nil, List.append_nil]
    refine Ev.step (f := fun _ => some out) (fun k => ?_) (Ev.now _)
    rw [spec_CutCloth.l0, if_neg (by omega)]
  | succ d ih =>
    intro i out hi ho
    have hlt : i < R.length := by omega
    have hl := h4 R[i] (List.getElem_mem hlt)
    rw [List.drop_eq_getElem_cons hlt, List.filter_cons]
    by_cases c : cutGood R[i] = true
    · have hc := (cutGood_iff _).1 c
      rw [if_pos c]
      have hn := ih (i + 1) (out ++ [R[i]]) (by omega) (by simp; omega)
      rw [List.append_assoc, List.singleton_append] at hn
      refine Ev.step (f := fun k => spec_CutCloth.l0 k (out ++ [R[i]]) R (R.length : Int) ((i + 1 : Nat) : Int)) (fun k => ?_) hn
      rw [spec_CutCloth.l0, if_pos (by omega), if_pos (by omega), if_pos (by omega), rdL_get hlt, if_pos (by omega), if_pos hc.1, if_pos (by omega), if_pos hc.2, if_pos (by omega), w64 (by omega) (by omega)]
      rfl
    · rw [if_neg c]
      have hc : ¬ (rd R[i] 2 > 0 ∧ rd R[i] 3 > 0) := fun z => c ((cutGood_iff _).2 z)
      refine Ev.step (f := fun k => spec_CutCloth.l0 k out R (R.length : Int) ((i + 1 : Nat) : Int)) (fun k => ?_) (ih (i + 1) out (by omega) (by omega))
      rw [spec_CutCloth.l0, if_pos (by omega), if_pos (by omega), if_pos (by omega), rdL_get hlt, if_pos (by omega)]
      by_cases c1 : rd R[i] 2 > 0
      · rw [if_pos c1, if_pos (by omega), if_neg (fun z => hc ⟨c1, z⟩), w64 (by omega) (by omega)]
        rfl
      · rw [if_neg c1, w64 (by omega) (by omega)]
        rfl
theorem spec_Cut_ev (w h : Int) (l : List Int) : Ev (fun k => spec_CutCloth.f k w h l) (cutOf w h l) := by
  unfold spec_CutCloth.f cutOf
  refine Ev.bind (spec_WindowOk_ev w h l) ?_
  by_cases c : winOk w h l = true
  · have hl := win_len c
    refine ev_eq (Ev.congr (fun k => (if_pos c).trans ((if_pos (by omega)).trans ((if_pos (by omega)).trans ((if_pos (by omega)).trans (if_pos (by omega)))))) ?_) (if_pos c).symm
    have h4 := cutRows_len w h l
    exact spec_cut_l (cutRows w h l) (by omega) h4.2 4 0 [] rfl (by simp)
  · exact ev_eq (Ev.congr (fun k => if_neg c) (Ev.now _)) (if_neg c).symm

end Go.Proofs.Ytoildabjnioafaa.PA
