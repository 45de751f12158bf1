/- BestMarker: the loops. -/
import Derived.Test.YtghnaclpjdhilaaLibBN
import Derived.Test.YtghnaclpjdhilaaPAx18
import Derived.Test.YtghnaclpjdhilaaPAx19
import Derived.Test.YtghnaclpjdhilaaPAx21
import Derived.Test.YtghnaclpjdhilaaPAx4
namespace Go.Proofs.Ytghnaclpjdhilaa.PA
open Go.RowKit Go.Proofs.YtghnaclpjdhilaaW.PrintWords Go.Proofs.YtghnaclpjdhilaaW.PrintLast Go.Proofs.YtghnaclpjdhilaaW.PrintMore
set_option linter.unusedVariables false
set_option linter.unusedSimpArgs false

/-! BestMarker: the two loops -/
theorem grow_ev {w : List Int} (hw : wantedOk w = true) (hs : 0 < w.sum) : ∀ (d : Nat) (m : List Int) (left : Nat) (s : List Int × Int), m.length + d = w.length → (∀ x ∈ m, 0 ≤ x ∧ x ≤ 8) → 0 ≤ m.sum → m.sum + left ≤ 8 → (s.2 = -1 ∨ 0 < s.2) →
    Ev (fun k => impl_BestMarker.g k w m (left : Int) (bmI s).1 (bmI s).2.1 (bmI s).2.2) (bmI (((mks d left).map fun t => m ++ t).foldl (bmUpd w) s)) := by
  obtain ⟨h1, h5, hb⟩ := wantedOk_iff.1 hw
  intro d
  induction d with
  | zero =>
    intro m left s hm hx h0 h8 hok
    have e := leaf_ev hw hs m (by omega) hx ⟨h0, by omega⟩ (left : Int) s hok
    simpa [mks] using e
  | succ d ih =>
    intro m left s hm hx h0 h8 hok
    have go : ∀ (c j : Nat) (s : List Int × Int), j + c = left + 1 → (s.2 = -1 ∨ 0 < s.2) → Ev (fun k => impl_BestMarker.l k w m (left : Int) (bmI s).1 (bmI s).2.1 (bmI s).2.2 (j : Int)) (bmI ((((List.range' j c).flatMap fun j => (mks d (left - j)).map fun t => (j : Int) :: t).map fun t => m ++ t).foldl (bmUpd w) s)) := by
      intro c
      induction c with
      | zero =>
        intro j s hj _
        refine Ev.step (f := fun _ => some ((bmI s).1, (bmI s).2.1, (bmI s).2.2)) (fun k => ?_) (ev_eq (Ev.now _) (by simp))
        rw [impl_BestMarker.l, if_neg (by omega)]
      | succ c ihc =>
        intro j s hj hok
        have e := ih (m ++ [(j : Int)]) (left - j) s (by simp; omega) (fun x hx2 => by
          rcases List.mem_append.1 hx2 with hx2 | hx2
          · exact hx x hx2
          · rw [List.mem_singleton.1 hx2]; omega) (by simp; omega) (by simp; omega) hok
        have hok2 := bmFold_ok w ((mks d (left - j)).map fun t => m ++ [(j : Int)] ++ t) s hok
        have e2 := ihc (j + 1) _ (by omega) hok2
        rw [List.range'_succ, List.flatMap_cons, List.map_append, List.foldl_append]
        have em : (((mks d (left - j)).map fun t => (j : Int) :: t).map fun t => m ++ t) = (mks d (left - j)).map fun t => m ++ [(j : Int)] ++ t := by
          rw [List.map_map]
          apply List.map_congr_left
          intro t _
          simp
        rw [em]
        refine Ev.step (f := fun k => (impl_BestMarker.g k w (m ++ [(j : Int)]) ((left - j : Nat) : Int) (bmI s).1 (bmI s).2.1 (bmI s).2.2).bind fun t => impl_BestMarker.l k w m (left : Int) t.1 t.2.1 t.2.2 ((j + 1 : Nat) : Int)) (fun k => ?_) (Ev.bind e e2)
        rw [impl_BestMarker.l, if_pos (by omega), w64 (x := (left : Int) - j) (by omega) (by omega), w64 (x := (j : Int) + 1) (by omega) (by omega), show (left : Int) - (j : Int) = ((left - j : Nat) : Int) by omega]
        rfl
    have e := go (left + 1) 0 s (by omega) hok
    simp only [mks]
    rw [List.range_eq_range']
    refine Ev.step (f := fun k => impl_BestMarker.l k w m (left : Int) (bmI s).1 (bmI s).2.1 (bmI s).2.2 0) (fun k => ?_) e
    rw [impl_BestMarker.g, if_neg (by omega), if_pos (by omega)]
/-- What both texts give. -/
def bestMk (w : List Int) (r : Int) : List Int × Bool := if wantedOk w = true ∧ w.sum ≠ 0 ∧ 1 ≤ r ∧ r ≤ 8 then (if ((mks w.length r.toNat).foldl (bmUpd w) ([], -1)).2 < 0 then ([], false) else (((mks w.length r.toNat).foldl (bmUpd w) ([], -1)).1, true)) else ([], false)
theorem spec_best_l {w : List Int} (hw : wantedOk w = true) (T : List (List Int)) (hT : T.length ≤ 100000) (hrow : ∀ t ∈ T, t.length = w.length ∧ ∀ x ∈ t, 0 ≤ x ∧ x ≤ 8) : ∀ (d i : Nat) (s : List Int × Int), i + d = T.length →
    Ev (fun k => spec_BestMarker.l0 k w s.1 s.2 T (T.length : Int) (i : Int)) (if ((T.drop i).foldl (bmUpd w) s).2 < 0 then ([], false) else (((T.drop i).foldl (bmUpd w) s).1, true)) := by
  obtain ⟨h1, h5, hb⟩ := wantedOk_iff.1 hw
  intro d
  induction d with
  | zero =>
    intro i s hi
    rw [List.drop_of_length_le (by omega), List.foldl_nil]
    refine Ev.step (f := fun _ => if s.2 < 0 then some ([], false) else some (s.1, true)) (fun k => ?_) ?_
    · rw [spec_BestMarker.l0, if_neg (by omega)]
    · by_cases z : s.2 < 0
      · exact Ev.congr (fun k => if_pos z) (ev_eq (Ev.now _) (if_pos z).symm)
      · exact Ev.congr (fun k => if_neg z) (ev_eq (Ev.now _) (if_neg z).symm)
  | succ d ih =>
    intro i s hi
    have hlt : i < T.length := by omega
    obtain ⟨r1, r2⟩ := hrow _ (List.getElem_mem hlt)
    have e1 := spec_l19Layers_ev w T[i] h5 r1 hb r2
    have e2 := ih (i + 1) (bmUpd w s T[i]) (by omega)
    rw [List.drop_eq_getElem_cons hlt, List.foldl_cons]
    refine Ev.step (f := fun k => (spec_l19Layers.f k w T[i]).bind fun n => (if n > 0 then (if s.2 < 0 then (spec_BestMarker.l0 k w T[i] n T (T.length : Int) ((i + 1 : Nat) : Int)) else (if n < s.2 then (spec_BestMarker.l0 k w T[i] n T (T.length : Int) ((i + 1 : Nat) : Int)) else (spec_BestMarker.l0 k w s.1 s.2 T (T.length : Int) ((i + 1 : Nat) : Int)))) else (spec_BestMarker.l0 k w s.1 s.2 T (T.length : Int) ((i + 1 : Nat) : Int)))) (fun k => ?_) (Ev.bind e1 ?_)
    · rw [spec_BestMarker.l0, if_pos (by omega), if_pos (by omega), if_pos (by omega), rdL_get hlt, w64 (by omega) (by omega)]
      rfl
    · by_cases c1 : layersL w T[i] 0 > 0
      · refine Ev.congr (fun k => if_pos c1) ?_
        by_cases c2 : s.2 < 0
        · have u : bmUpd w s T[i] = (T[i], layersL w T[i] 0) := by unfold bmUpd; exact if_pos ⟨c1, .inl c2⟩
          rw [u] at e2 ⊢
          exact Ev.congr (fun k => if_pos c2) e2
        · refine Ev.congr (fun k => if_neg c2) ?_
          by_cases c3 : layersL w T[i] 0 < s.2
          · have u : bmUpd w s T[i] = (T[i], layersL w T[i] 0) := by unfold bmUpd; exact if_pos ⟨c1, .inr c3⟩
            rw [u] at e2 ⊢
            exact Ev.congr (fun k => if_pos c3) e2
          · have u : bmUpd w s T[i] = s := by unfold bmUpd; exact if_neg (fun z => z.2.elim c2 c3)
            rw [u] at e2 ⊢
            exact Ev.congr (fun k => if_neg c3) e2
      · have u : bmUpd w s T[i] = s := by unfold bmUpd; exact if_neg (fun z => c1 z.1)
        rw [u] at e2 ⊢
        exact Ev.congr (fun k => if_neg c1) e2
theorem spec_best_ev (w : List Int) (r : Int) : Ev (fun k => spec_BestMarker.f k w r) (bestMk w r) := by
  unfold spec_BestMarker.f bestMk
  refine Ev.bind (spec_Wanted_ev w) ?_
  have bad : Ev (fun k => spec_BestMarker.j0 k w r true) (([] : List Int), false) := by
    refine Ev.step (f := fun _ => some (([] : List Int), false)) (fun k => ?_) (Ev.now _)
    rw [spec_BestMarker.j0, if_pos rfl]
  by_cases c : wantedOk w = true
  · obtain ⟨h1, h5, hb⟩ := wantedOk_iff.1 c
    refine Ev.congr (fun k => if_pos c) ?_
    refine Ev.bind (spec_l19Sum_ev w h5 hb) ?_
    by_cases c2 : w.sum = 0
    · exact ev_eq (Ev.congr (fun k => if_pos c2) bad) (if_neg (fun z => z.2.1 c2)).symm
    · refine Ev.congr (fun k => if_neg c2) ?_
      refine Ev.bind (ev_const (l01In_eq r 1 8)) ?_
      by_cases c3 : 1 ≤ r ∧ r ≤ 8
      · obtain ⟨R, rfl⟩ := Int.eq_ofNat_of_zero_le (show (0 : Int) ≤ r by omega)
        rw [if_pos ⟨c, c2, c3.1, c3.2⟩, Int.toNat_natCast, show decide (1 ≤ (R : Int) ∧ (R : Int) ≤ 8) = true from decide_eq_true c3]
        have hl := mks_len w.length R (by omega)
        have h9 : 9 ^ w.length ≤ 9 ^ 5 := Nat.pow_le_pow_right (by omega) h5
        have e := spec_best_l c (mks w.length R) (by omega) (fun t ht => ⟨(mks_row _ _ t ht).1, fun x hx => by have := (mks_row _ _ t ht).2.1 x hx; omega⟩) (mks w.length R).length 0 ([], -1) (by omega)
        rw [List.drop_zero] at e
        refine Ev.step (f := fun k => (spec_l19Markers.f k (w.length : Int) (R : Int)).bind fun t => spec_BestMarker.l0 k w [] (-1) t (t.length : Int) 0) (fun k => ?_) (Ev.bind (spec_mks w.length h5 R (by omega)) e)
        rw [spec_BestMarker.j0, if_neg (by simp)]
      · rw [if_neg (fun z => c3 ⟨z.2.2.1, z.2.2.2⟩), show decide (1 ≤ r ∧ r ≤ 8) = false from decide_eq_false c3]
        exact bad
  · rw [if_neg (fun z => c z.1)]
    exact Ev.congr (fun k => if_neg c) bad
theorem impl_best_ev (w : List Int) (r : Int) : Ev (fun k => impl_BestMarker.f k w r) (bestMk w r) := by
  unfold impl_BestMarker.f bestMk
  refine Ev.bind (ev_const (impl_Wanted_eq w)) ?_
  by_cases c : wantedOk w = true
  · obtain ⟨h1, h5, hb⟩ := wantedOk_iff.1 c
    refine Ev.congr (fun k => if_pos c) ?_
    refine Ev.bind (impl_sumOf_ev w h5 hb) ?_
    by_cases c2 : w.sum = 0
    · exact ev_eq (Ev.congr (fun k => if_pos c2) (Ev.now _)) (if_neg (fun z => z.2.1 c2)).symm
    · refine Ev.congr (fun k => if_neg c2) ?_
      refine Ev.bind (ev_const (within_eq r 1 8)) ?_
      by_cases c3 : 1 ≤ r ∧ r ≤ 8
      · obtain ⟨R, rfl⟩ := Int.eq_ofNat_of_zero_le (show (0 : Int) ≤ r by omega)
        rw [if_pos ⟨c, c2, c3.1, c3.2⟩, Int.toNat_natCast]
        refine Ev.congr (fun k => if_pos (decide_eq_true c3)) ?_
        have hs := (lsum_bd (by omega : (0 : Int) ≤ 100) w hb).1
        have e := grow_ev c (by omega) w.length [] R ([], -1) (by simp) (by simp) (by simp) (by simp; omega) (.inl rfl)
        simp only [List.nil_append, List.map_id'] at e
        have hfin := bmFold_ok w (mks w.length R) ([], -1) (.inl rfl)
        generalize (mks w.length R).foldl (bmUpd w) ([], -1) = S at *
        refine Ev.bind e (ev_eq (Ev.now _) ?_)
        unfold bmI
        by_cases z : S.2 < 0
        · rw [if_pos z, if_pos z]; rfl
        · rw [if_neg z, if_neg z]; rfl
      · rw [if_neg (fun z => c3 ⟨z.2.2.1, z.2.2.2⟩)]
        exact Ev.congr (fun k => if_neg (by simpa using c3)) (Ev.now _)
  · rw [if_neg (fun z => c z.1)]
    exact Ev.congr (fun k => if_neg c) (Ev.now _)

end Go.Proofs.Ytghnaclpjdhilaa.PA
