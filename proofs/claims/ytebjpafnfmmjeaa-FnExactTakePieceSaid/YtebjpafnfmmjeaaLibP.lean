/- one piece -/
import Derived.Test.YtebjpafnfmmjeaaLibL
import Derived.Test.YtebjpafnfmmjeaaPAx0
import Derived.Test.YtebjpafnfmmjeaaPAx2
import Derived.Test.YtebjpafnfmmjeaaPAx20
import Derived.Test.YtebjpafnfmmjeaaPAx21
import Derived.Test.YtebjpafnfmmjeaaPAx22
import Derived.Test.YtebjpafnfmmjeaaPAx5
namespace Go.Proofs.Ytebjpafnfmmjeaa.PA
open Go.RowKit Go.Proofs.YtebjpafnfmmjeaaW.PrintWords Go.Proofs.YtebjpafnfmmjeaaW.PrintLast Go.Proofs.YtebjpafnfmmjeaaW.PrintMore
set_option linter.unusedVariables false
set_option linter.unusedSimpArgs false

/-! TakePiece -/
structure Fits (l : List (List Int)) (w h i : Int) : Prop where
  lo : 0 ≤ i
  hi : i < (l.length : Int)
  w : w ≤ rd (l.getD i.toNat []) 0
  h : h ≤ rd (l.getD i.toNat []) 1
theorem pick_fits {l : List (List Int)} {w h best : Int} {i : Nat} (hi : i < l.length) (hb : best = -1 ∨ Fits l w h best) : pick l w h best i = -1 ∨ Fits l w h (pick l w h best i) := by
  unfold pick
  split
  · rename_i hc
    exact .inr ⟨by omega, by omega, by rw [Int.toNat_natCast]; exact hc.1, by rw [Int.toNat_natCast]; exact hc.2.1⟩
  · exact hb
theorem smallL_fits (l : List (List Int)) (w h : Int) : ∀ (d i : Nat) (best : Int), i + d = l.length → (best = -1 ∨ Fits l w h best) → smallL l w h d i best = -1 ∨ Fits l w h (smallL l w h d i best) := by
  intro d
  induction d with
  | zero => intro i best _ hb; exact hb
  | succ d ih =>
    intro i best hi hb
    simp only [smallL]
    exact ih (i + 1) _ (by omega) (pick_fits (by omega) hb)
structure Small (l : List (List Int)) (w h i : Int) : Prop where
  ok : storeOk l = true
  w1 : 1 ≤ w
  w2 : w ≤ 100
  h1 : 1 ≤ h
  h2 : h ≤ 100
  fits : Fits l w h i
theorem smallest_small {l : List (List Int)} {w h : Int} (hs : ¬ smallest l w h < 0) : Small l w h (smallest l w h) := by
  unfold smallest at hs ⊢
  by_cases c : storeOk l = true ∧ (1 ≤ w ∧ w ≤ 100 ∧ 1 ≤ h ∧ h ≤ 100)
  · rw [if_pos c] at hs ⊢
    rcases smallL_fits l w h l.length 0 (-1) (by omega) (.inl rfl) with e | e
    · rw [e] at hs; omega
    · exact ⟨c.1, c.2.1, c.2.2.1, c.2.2.2.1, c.2.2.2.2, e⟩
  · rw [if_neg c] at hs
    omega
theorem smallest_none {l : List (List Int)} {w h : Int} (hs : smallest l w h < 0) : smallest l w h = -1 := by
  unfold smallest at hs ⊢
  by_cases c : storeOk l = true ∧ (1 ≤ w ∧ w ≤ 100 ∧ 1 ≤ h ∧ h ≤ 100)
  · rw [if_pos c] at hs ⊢
    rcases smallL_fits l w h l.length 0 (-1) (by omega) (.inl rfl) with e | e
    · exact e
    · have := e.lo; omega
  · rw [if_neg c]
/-- What is left of the store, with the index and whether there was room. -/
def finPiece (i : Int) (R : List (List Int)) : List (List Int) × Int × Bool := if storeOk R = true then (R, i, true) else ([], -1, false)
def takePiece (l : List (List Int)) (w h : Int) : List (List Int) × Int × Bool :=
  if smallest l w h < 0 then ([], -1, false) else finPiece (smallest l w h) (l.eraseIdx (smallest l w h).toNat ++ (pieces (rd_L1 l (smallest l w h)) w h).filter pieceGood)
structure PieceOk (p : List Int) : Prop where
  len : p.length = 2
  a1 : 0 ≤ rd p 0
  a2 : rd p 0 ≤ 100
  b1 : 0 ≤ rd p 1
  b2 : rd p 1 ≤ 100
theorem pieceArea_eq {p : List Int} (h : PieceOk p) : pieceArea p = rd p 0 * rd p 1 := by
  have p2 : rd p 0 * rd p 1 ≤ 100 * 100 := Int.mul_le_mul h.a2 h.b2 h.b1 (by omega)
  have p1 := Int.mul_nonneg h.a1 h.b1
  unfold pieceArea
  exact w64 (by omega) (by omega)
theorem pieceGood_iff {p : List Int} (h : PieceOk p) : pieceGood p = true ↔ rd p 0 > 0 ∧ rd p 1 > 0 := by
  unfold pieceGood
  rw [decide_eq_true_iff, pieceArea_eq h]
  constructor
  · intro hp
    have h1 := h.a1
    have h2 := h.b1
    refine ⟨?_, ?_⟩
    · rcases Int.lt_or_eq_of_le h1 with c | c
      · exact c
      · rw [← c, Int.zero_mul] at hp; omega
    · rcases Int.lt_or_eq_of_le h2 with c | c
      · exact c
      · rw [← c, Int.mul_zero] at hp; omega
  · rintro ⟨h1, h2⟩
    exact Int.mul_pos h1 h2
theorem small_row {l : List (List Int)} {w h i : Int} (s : Small l w h i) : ∃ n : Nat, i = (n : Int) ∧ n < l.length ∧ l.length ≤ 20 ∧ rd_L1 l i = l.getD n [] ∧ RowOk (rd_L1 l i) ∧ w ≤ rd (rd_L1 l i) 0 ∧ h ≤ rd (rd_L1 l i) 1 := by
  obtain ⟨h1, h2⟩ := storeOk_iff.1 s.ok
  have f := s.fits
  obtain ⟨n, rfl⟩ := Int.eq_ofNat_of_zero_le f.lo
  have hn : n < l.length := by have := f.hi; omega
  have e : rd_L1 l (n : Int) = l[n] := rdL_get hn
  have e2 : l.getD n [] = l[n] := getD_get hn
  have fw := f.w
  have fh := f.h
  rw [Int.toNat_natCast, e2] at fw fh
  exact ⟨n, rfl, hn, h1, by rw [e, e2], by rw [e]; exact h2 _ (List.getElem_mem hn), by rw [e]; exact fw, by rw [e]; exact fh⟩
theorem piecesA_ok {r : List Int} {w h : Int} (hr : RowOk r) (w1 : 1 ≤ w) (w2 : w ≤ rd r 0) (h1 : 1 ≤ h) (h2 : h ≤ rd r 1) : piecesA r w h = [[rd r 0 - w, h], [rd r 0, rd r 1 - h]] := by
  have a := hr.w2
  have b := hr.h2
  unfold piecesA
  rw [w64 (by omega) (by omega), w64 (by omega) (by omega)]
theorem piecesB_ok {r : List Int} {w h : Int} (hr : RowOk r) (w1 : 1 ≤ w) (w2 : w ≤ rd r 0) (h1 : 1 ≤ h) (h2 : h ≤ rd r 1) : piecesB r w h = [[rd r 0 - w, rd r 1], [w, rd r 1 - h]] := by
  have a := hr.w2
  have b := hr.h2
  unfold piecesB
  rw [w64 (by omega) (by omega), w64 (by omega) (by omega)]
theorem pieces_ok {r : List Int} {w h : Int} (hr : RowOk r) (w1 : 1 ≤ w) (w2 : w ≤ rd r 0) (h1 : 1 ≤ h) (h2 : h ≤ rd r 1) : (∀ p ∈ pieces r w h, PieceOk p) ∧ (pieces r w h).length = 2 := by
  have a := hr.w2
  have b := hr.h2
  have two : ∀ x1 y1 x2 y2 : Int, 0 ≤ x1 ∧ x1 ≤ 100 → 0 ≤ y1 ∧ y1 ≤ 100 → 0 ≤ x2 ∧ x2 ≤ 100 → 0 ≤ y2 ∧ y2 ≤ 100 → (∀ p ∈ ([[x1, y1], [x2, y2]] : List (List Int)), PieceOk p) ∧ ([[x1, y1], [x2, y2]] : List (List Int)).length = 2 := by
    intro x1 y1 x2 y2 e1 e2 e3 e4
    refine ⟨fun p hp => ?_, rfl⟩
    rcases List.mem_cons.1 hp with rfl | hp
    · exact ⟨rfl, e1.1, e1.2, e2.1, e2.2⟩
    · rcases List.mem_cons.1 hp with rfl | hp
      · exact ⟨rfl, e3.1, e3.2, e4.1, e4.2⟩
      · cases hp
  unfold pieces
  split
  · rw [piecesB_ok hr w1 w2 h1 h2]
    exact two _ _ _ _ (by omega) (by omega) (by omega) (by omega)
  · rw [piecesA_ok hr w1 w2 h1 h2]
    exact two _ _ _ _ (by omega) (by omega) (by omega) (by omega)
theorem impl_TakePiece_ev (l : List (List Int)) (w h : Int) : Ev (fun k => impl_TakePiece.f k l w h) (takePiece l w h) := by
  unfold impl_TakePiece.f takePiece
  refine Ev.bind (impl_small_ev l w h) ?_
  by_cases c : smallest l w h < 0
  · exact ev_eq (Ev.congr (fun k => if_pos c) (Ev.now _)) (if_pos c).symm
  · rw [if_neg c]
    have s := smallest_small c
    obtain ⟨n, e, hn, h20, er, hrow, _, _⟩ := small_row s
    generalize smallest l w h = i at *
    subst e
    refine Ev.congr (fun k => if_neg c) ?_
    refine Ev.congr (fun k => if_pos ⟨⟨by omega, by omega⟩, by have := hrow.len; omega⟩) ?_
    have h2 := (storeOk_iff.1 s.ok).2
    refine Ev.bind (copyLists_ev l (by omega) (fun r hr => by have := (h2 r hr).len; omega)) ?_
    refine Ev.bind (ev_const (r := l.eraseIdx n) ?_) ?_
    · unfold slices_Delete_int_int.f
      rw [if_pos ⟨by omega, w64 (by omega) (by omega), by omega⟩, Int.toNat_natCast]
    · refine Ev.congr (fun k => if_pos (by have := List.length_eraseIdx_le l n; omega)) ?_
      refine Ev.bind (impl_StoreOk_ev _) ?_
      unfold finPiece
      rw [Int.toNat_natCast]
      by_cases c2 : storeOk (l.eraseIdx n ++ (pieces (rd_L1 l (n : Int)) w h).filter pieceGood) = true
      · exact ev_eq (Ev.congr (fun k => if_pos c2) (Ev.now _)) (if_pos c2).symm
      · exact ev_eq (Ev.congr (fun k => if_neg c2) (Ev.now _)) (if_neg c2).symm
theorem spec_take_l (x9 : Int) (P : List (List Int)) (hP : ∀ p ∈ P, PieceOk p) (hl : P.length = 2) : ∀ (m i : Nat) (acc : List (List Int)), i + m = P.length → acc.length ≤ 20 + i →
    Ev (fun k => spec_TakePiece.l0 k x9 acc P (P.length : Int) (i : Int)) (finPiece x9 (acc ++ (P.drop i).filter pieceGood)) := by
  intro m
  induction m with
  | zero =>
    intro i acc hi ha
    rw [List.drop_of_length_le (by omega), List.filter_nil, List.append_nil]
    refine Ev.step (f := fun k => (spec_StoreOk.f k acc).bind fun t => if t = true then some (acc, x9, true) else some ([], -1, false)) (fun k => ?_) (Ev.bind (spec_StoreOk_ev acc) ?_)
    · simp only [spec_TakePiece.l0]
      rw [if_neg (by omega)]
    · unfold finPiece
      by_cases c2 : storeOk acc = true
      · exact ev_eq (Ev.congr (fun k => if_pos c2) (Ev.now _)) (if_pos c2).symm
      · exact ev_eq (Ev.congr (fun k => if_neg c2) (Ev.now _)) (if_neg c2).symm
  | succ m ih =>
    intro i acc hi ha
    have hlt : i < P.length := by omega
    have hp := hP P[i] (List.getElem_mem hlt)
    have hlen := hp.len
    have hg := pieceGood_iff hp
    rw [List.drop_eq_getElem_cons hlt, List.filter_cons]
    by_cases c : pieceGood P[i] = true
    · rw [if_pos c]
      obtain ⟨c1, c2⟩ := hg.1 c
      refine Ev.step (f := fun k => spec_TakePiece.l0 k x9 (acc ++ [P[i]]) P (P.length : Int) ((i + 1 : Nat) : Int)) (fun k => ?_) (ev_eq (ih (i + 1) (acc ++ [P[i]]) (by omega) (by simp; omega)) (by simp))
      simp only [spec_TakePiece.l0]
      rw [if_pos (by omega), if_pos (by omega), if_pos (by omega), rdL_get hlt, if_pos (by omega), if_pos c1, if_pos (by omega), if_pos c2, if_pos (by omega), w64 (by omega) (by omega)]
      rfl
    · rw [if_neg c]
      refine Ev.step (f := fun k => spec_TakePiece.l0 k x9 acc P (P.length : Int) ((i + 1 : Nat) : Int)) (fun k => ?_) (ih (i + 1) acc (by omega) (by omega))
      simp only [spec_TakePiece.l0]
      rw [if_pos (by omega), if_pos (by omega), if_pos (by omega), rdL_get hlt, if_pos (by omega)]
      by_cases c1 : rd P[i] 0 > 0
      · rw [if_pos c1, if_pos (by omega), if_neg (fun z => c (hg.2 ⟨c1, z⟩)), w64 (by omega) (by omega)]
        rfl
      · rw [if_neg c1, w64 (by omega) (by omega)]
        rfl
theorem spec_TakePiece_ev (l : List (List Int)) (w h : Int) : Ev (fun k => spec_TakePiece.f k l w h) (takePiece l w h) := by
  unfold spec_TakePiece.f takePiece
  refine Ev.bind (spec_small_ev l w h) ?_
  by_cases c : smallest l w h < 0
  · exact ev_eq (Ev.congr (fun k => if_pos c) (Ev.now _)) (if_pos c).symm
  · rw [if_neg c]
    have s := smallest_small c
    obtain ⟨n, e, hn, h20, er, hrow, hw, hh⟩ := small_row s
    generalize smallest l w h = i at *
    subst e
    have h2 := (storeOk_iff.1 s.ok).2
    have hlen := hrow.len
    have hpo := pieces_ok hrow s.w1 hw s.h1 hh
    refine Ev.congr (fun k => if_neg c) ?_
    refine Ev.congr (fun k => if_pos (by omega)) ?_
    refine Ev.congr (fun k => if_pos (by omega)) ?_
    refine Ev.congr (fun k => if_pos (by omega)) ?_
    refine Ev.congr (fun k => if_pos (by omega)) ?_
    refine Ev.bind (spec_copy_ev (n : Int) l h20 (fun r hr => (h2 r hr).len)) ?_
    rw [show ((n : Int)) = ((0 + n : Nat) : Int) by omega, skip_erase, show ((0 + n : Nat) : Int) = (n : Int) by omega, Int.toNat_natCast]
    have hd : (l.eraseIdx n).length ≤ 20 + 0 := by have := List.length_eraseIdx_le l n; omega
    have fin : ∀ P : List (List Int), pieces (rd_L1 l (n : Int)) w h = P → Ev (fun k => spec_TakePiece.j0 k (n : Int) (l.eraseIdx n) P) (finPiece (n : Int) (l.eraseIdx n ++ (pieces (rd_L1 l (n : Int)) w h).filter pieceGood)) := by
      intro P e
      rw [e] at hpo ⊢
      refine Ev.step (f := fun k => spec_TakePiece.l0 k (n : Int) (l.eraseIdx n) P (P.length : Int) ((0 : Nat) : Int)) (fun k => ?_) (ev_eq (spec_take_l (n : Int) P hpo.1 hpo.2 P.length 0 _ (by omega) hd) (by simp))
      simp only [spec_TakePiece.j0]
      rfl
    by_cases c2 : mx (wrap64 (wrap64 (rd (rd_L1 l (n : Int)) 0 - w) * rd (rd_L1 l (n : Int)) 1)) (wrap64 (w * wrap64 (rd (rd_L1 l (n : Int)) 1 - h))) > mx (wrap64 (wrap64 (rd (rd_L1 l (n : Int)) 0 - w) * h)) (wrap64 (rd (rd_L1 l (n : Int)) 0 * wrap64 (rd (rd_L1 l (n : Int)) 1 - h)))
    · refine Ev.congr (fun k => if_pos c2) (fin _ ?_)
      unfold pieces
      rw [if_pos c2]
      rfl
    · refine Ev.congr (fun k => if_neg c2) (fin _ ?_)
      unfold pieces
      rw [if_neg c2]
      rfl
theorem takePiece_ok {l : List (List Int)} {w h : Int} : storeOk (takePiece l w h).1 = true := by
  have e0 : storeOk ([] : List (List Int)) = true := by simp [storeOk]
  unfold takePiece finPiece
  split
  · exact e0
  · split
    · assumption
    · exact e0
theorem takePiece_bd (l : List (List Int)) (w h : Int) : (takePiece l w h).1.length ≤ 20 ∧ (∀ r ∈ (takePiece l w h).1, r.length ≤ 1048576) ∧ totlen (takePiece l w h).1 ≤ 40 := store_bd takePiece_ok

end Go.Proofs.Ytebjpafnfmmjeaa.PA
