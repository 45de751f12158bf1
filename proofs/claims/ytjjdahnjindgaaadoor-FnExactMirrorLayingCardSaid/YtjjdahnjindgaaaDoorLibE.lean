/- EndsOf, RoomOf, CountLayings: both texts. -/
import Derived.Test.YtjjdahnjindgaaaDoorLibB
import Derived.Test.YtjjdahnjindgaaaDoorPAx10
import Derived.Test.YtjjdahnjindgaaaDoorPAx11
import Derived.Test.YtjjdahnjindgaaaDoorPAx12
import Derived.Test.YtjjdahnjindgaaaDoorPAx13
import Derived.Test.YtjjdahnjindgaaaDoorPAx14
import Derived.Test.YtjjdahnjindgaaaDoorPAx15
import Derived.Test.YtjjdahnjindgaaaDoorPAx2
import Derived.Test.YtjjdahnjindgaaaDoorPAx3
import Derived.Test.YtjjdahnjindgaaaDoorPAx5
import Derived.Test.YtjjdahnjindgaaaDoorPAx7
namespace Go.Proofs.YtjjdahnjindgaaaDoor.PA
open Go.RowKit Go.Proofs.YtjjdahnjindgaaaDoorW.PrintWords Go.Proofs.YtjjdahnjindgaaaDoorW.PrintLast Go.Proofs.YtjjdahnjindgaaaDoorW.PrintMore
set_option linter.unusedVariables false
set_option linter.unusedSimpArgs false

/-! EndsOf, RoomOf, CountLayings -/
def layB (l : List Int) : Bool := l.all fun b => b == 114 || b == 108
theorem layOk_eq (s : ByteArray) : layOk s = layB (bytesOf s) := by
  unfold layOk layB bytesOf
  rw [List.all_map]
  congr 1
  funext b
  have h : ∀ n : UInt8, (b == n) = ((b.toNat : Int) == (n.toNat : Int)) := by
    intro n
    rw [Bool.eq_iff_iff, beq_iff_eq, beq_iff_eq]
    constructor
    · intro e; rw [e]
    · intro e; exact UInt8.toNat_inj.1 (by omega)
  rw [h 114, h 108]
  rfl
theorem layB_drop {l : List Int} {i : Nat} (h : i < l.length) : layB (l.drop i) = ((l[i] == 114 || l[i] == 108) && layB (l.drop (i + 1))) := by
  unfold layB
  rw [List.drop_eq_getElem_cons h, List.all_cons]
theorem bt_get (s : ByteArray) {i : Nat} (h : i < (bytesOf s).length) : bt s (i : Int) = (bytesOf s)[i] := by
  rw [← rd_bytesOf, rd_get h]
theorem spec_is_l (s : ByteArray) (hs : s.size ≤ 10) : ∀ (d i : Nat), i + d = s.size → Ev (fun k => spec_l22Is.l0 k s (i : Int)) (layB ((bytesOf s).drop i)) := by
  have hl := bytesOf_length s
  intro d
  induction d with
  | zero =>
    intro i hi
    refine Ev.step (f := fun _ => some true) (fun k => ?_) (ev_eq (Ev.now _) (by rw [List.drop_of_length_le (by omega)]; rfl))
    simp only [spec_l22Is.l0]
    rw [if_neg (by omega)]
  | succ d ih =>
    intro i hi
    have hlt : i < (bytesOf s).length := by omega
    have e := ih (i + 1) (by omega)
    rw [layB_drop hlt]
    by_cases c1 : (bytesOf s)[i] = 114
    · rw [c1, show ((114 : Int) == 114 || (114 : Int) == 108) = true from rfl, Bool.true_and]
      refine Ev.step (fun k => ?_) e
      simp only [spec_l22Is.l0]
      rw [if_pos (by omega), if_pos (by omega), bt_get s hlt, if_pos c1, w64 (by omega) (by omega)]
      rfl
    · by_cases c2 : (bytesOf s)[i] = 108
      · rw [c2, show ((108 : Int) == 114 || (108 : Int) == 108) = true from rfl, Bool.true_and]
        refine Ev.step (fun k => ?_) e
        simp only [spec_l22Is.l0]
        rw [if_pos (by omega), if_pos (by omega), bt_get s hlt, if_neg c1, if_pos c2, w64 (by omega) (by omega)]
        rfl
      · rw [show ((bytesOf s)[i] == 114 || (bytesOf s)[i] == 108) = false by simp [c1, c2], Bool.false_and]
        refine Ev.step (f := fun _ => some false) (fun k => ?_) (Ev.now _)
        simp only [spec_l22Is.l0]
        rw [if_pos (by omega), if_pos (by omega), bt_get s hlt, if_neg c1, if_neg c2]
def layFor (l : List Int) (s : ByteArray) : Prop := rulerOk l = true ∧ s.size = l.length ∧ layOk s = true
instance (l : List Int) (s : ByteArray) : Decidable (layFor l s) := by unfold layFor; infer_instance
def endsOf (l : List Int) (s : ByteArray) : List Int := if layFor l s then endsL l s l.length else []
theorem endsOf_len (l : List Int) (s : ByteArray) : (endsOf l s).length ≤ 11 := by
  unfold endsOf
  split
  · rename_i h
    rw [ends_len]
    have := (rulerOk_iff.1 h.1).2.1
    omega
  · simp
theorem spec_EndsOf_ev (l : List Int) (s : ByteArray) : Ev (fun k => spec_EndsOf.f k l s) (endsOf l s) := by
  unfold spec_EndsOf.f endsOf
  refine Ev.bind (spec_Ruler_ev l) ?_
  by_cases c : rulerOk l = true
  · refine Ev.congr (fun k => if_pos c) ?_
    obtain ⟨hP, h1⟩ := parts_of c
    have h10 := hP.1
    unfold spec_l22Is.f
    by_cases c1 : s.size = l.length
    · have e := spec_is_l s (by omega) s.size 0 (by omega)
      rw [List.drop_zero, ← layOk_eq] at e
      have e1 : Ev (fun k => if (s.size : Int) = (l.length : Int) then spec_l22Is.l0 k s 0 else some false) (layOk s) := Ev.congr (fun k => if_pos (by omega)) e
      refine Ev.bind e1 ?_
      by_cases c2 : layOk s = true
      · rw [if_pos ⟨c, c1, c2⟩]
        refine Ev.congr (fun k => if_pos c2) ?_
        have e2 := spec_ends_ev s l.length (Nat.le_refl _) c1 hP
        rw [List.take_length] at e2
        exact Ev.bind e2 (Ev.now _)
      · rw [if_neg (fun z => c2 z.2.2)]
        exact Ev.congr (fun k => if_neg c2) (Ev.now _)
    · rw [if_neg (fun z => c1 z.2.1)]
      have e1 : Ev (fun k => if (s.size : Int) = (l.length : Int) then spec_l22Is.l0 k s 0 else some false) false := Ev.congr (fun k => if_neg (by omega)) (Ev.now _)
      refine Ev.bind e1 ?_
      exact Ev.congr (fun k => if_neg (by simp)) (Ev.now _)
  · rw [if_neg (fun z => c z.1)]
    exact Ev.congr (fun k => if_neg c) (Ev.now _)
theorem isLaying_eq {s : ByteArray} (h : s.size ≤ 10) : impl_isLaying.f s = some (layOk s) := by
  unfold impl_isLaying.f
  rw [if_pos (by omega)]
theorem impl_EndsOf_ev (l : List Int) (s : ByteArray) : Ev (fun k => impl_EndsOf.f k l s) (endsOf l s) := by
  unfold impl_EndsOf.f endsOf
  refine Ev.bind (ev_const (impl_Ruler_eq l)) ?_
  by_cases c : rulerOk l = true
  · refine Ev.congr (fun k => if_pos c) ?_
    obtain ⟨hP, h1⟩ := parts_of c
    have h10 := hP.1
    by_cases c1 : s.size = l.length
    · refine Ev.congr (fun k => if_pos (by omega)) ?_
      refine Ev.bind (ev_const (isLaying_eq (by omega))) ?_
      by_cases c2 : layOk s = true
      · rw [if_pos ⟨c, c1, c2⟩]
        refine Ev.congr (fun k => if_pos c2) ?_
        exact Ev.bind (impl_ends_ev s l.length (Nat.le_refl _) c1 hP) (Ev.now _)
      · rw [if_neg (fun z => c2 z.2.2)]
        exact Ev.congr (fun k => if_neg c2) (Ev.now _)
    · rw [if_neg (fun z => c1 z.2.1)]
      exact Ev.congr (fun k => if_neg (by omega)) (Ev.now _)
  · rw [if_neg (fun z => c z.1)]
    exact Ev.congr (fun k => if_neg c) (Ev.now _)
def roomFor (l : List Int) (s : ByteArray) : Int := if layFor l s then roomOf (endsL l s l.length) else -1
theorem spec_RoomOf_ev (l : List Int) (s : ByteArray) : Ev (fun k => spec_RoomOf.f k l s) (roomFor l s) := by
  unfold spec_RoomOf.f roomFor
  refine Ev.bind (spec_EndsOf_ev l s) ?_
  unfold endsOf
  by_cases c : layFor l s
  · rw [if_pos c, if_pos c]
    obtain ⟨hP, h1⟩ := parts_of c.1
    have h10 := hP.1
    refine Ev.congr (fun k => if_neg (by rw [ends_len]; omega)) ?_
    exact Ev.bind (spec_room_ev _ (by rw [ends_len]; omega) (ends_mem hP (Nat.le_refl _))) (Ev.now _)
  · rw [if_neg c, if_neg c]
    exact Ev.congr (fun k => if_pos (by simp)) (Ev.now _)
theorem impl_RoomOf_ev (l : List Int) (s : ByteArray) : Ev (fun k => impl_RoomOf.f k l s) (roomFor l s) := by
  unfold impl_RoomOf.f roomFor
  refine Ev.bind (ev_const (impl_Ruler_eq l)) ?_
  by_cases c : rulerOk l = true
  · refine Ev.congr (fun k => if_pos c) ?_
    obtain ⟨hP, h1⟩ := parts_of c
    have h10 := hP.1
    by_cases c1 : s.size = l.length
    · refine Ev.congr (fun k => if_pos (by omega)) ?_
      refine Ev.bind (ev_const (isLaying_eq (by omega))) ?_
      by_cases c2 : layOk s = true
      · rw [if_pos ⟨c, c1, c2⟩]
        refine Ev.congr (fun k => if_pos c2) ?_
        have eE := impl_EndsOf_ev l s
        rw [show endsOf l s = endsL l s l.length from if_pos ⟨c, c1, c2⟩] at eE
        refine Ev.bind eE ?_
        refine Ev.congr (fun k => if_pos (by rw [ends_len]; omega)) ?_
        exact ev_const (impl_room_eq l s l.length hP (Nat.le_refl _))
      · rw [if_neg (fun z => c2 z.2.2)]
        exact Ev.congr (fun k => if_neg c2) (Ev.now _)
    · rw [if_neg (fun z => c1 z.2.1)]
      exact Ev.congr (fun k => if_neg (by omega)) (Ev.now _)
  · rw [if_neg (fun z => c z.1)]
    exact Ev.congr (fun k => if_neg c) (Ev.now _)
/-! CountLayings -/
theorem layS_ok (n j : Nat) : layOk (layS n j) = true := by
  unfold layOk layS strOfNums
  rw [List.all_eq_true]
  intro b hb
  simp only [List.mem_map, layN, List.mem_range, List.toList_toArray] at hb
  obtain ⟨x, ⟨i, _, rfl⟩, rfl⟩ := hb
  split <;> rfl
theorem roomFor_lay {l : List Int} (h : rulerOk l = true) (j : Nat) : roomFor l (layS l.length j) = roomAt l j := by
  unfold roomFor roomAt
  rw [if_pos ⟨h, layS_size _ _, layS_ok _ _⟩]
def countTo (l : List Int) (r : Int) : Nat → Int
  | 0 => 0
  | j + 1 => if roomAt l j ≤ r then countTo l r j + 1 else countTo l r j
theorem countTo_bd (l : List Int) (r : Int) : ∀ j, 0 ≤ countTo l r j ∧ countTo l r j ≤ (j : Int) := by
  intro j
  induction j with
  | zero => simp [countTo]
  | succ j ih => simp only [countTo]; split <;> omega
theorem impl_count_ev {l : List Int} (h : rulerOk l = true) (r : Int) : ∀ j, j ≤ 1024 → Ev (fun k => countStep k l r l.length j) (countTo l r j) := by
  intro j
  induction j with
  | zero => intro _; exact Ev.now _
  | succ j ih =>
    intro hj
    have hb := countTo_bd l r j
    have e := impl_RoomOf_ev l (layS l.length j)
    rw [roomFor_lay h] at e
    simp only [countStep]
    refine Ev.bind (ih (by omega)) (Ev.bind e (ev_eq (Ev.now _) ?_))
    simp only [countTo]
    split
    · rw [w64 (by omega) (by omega)]
    · rfl
theorem spec_count_l {l : List Int} (h : rulerOk l = true) (r : Int) : ∀ (d j : Nat), j + d = 2 ^ l.length → Ev (fun k => spec_CountLayings.l0 k l r (countTo l r j) (j : Int)) (countTo l r (2 ^ l.length)) := by
  obtain ⟨hP, h1⟩ := parts_of h
  have h10 := hP.1
  have hp := pow_small h10
  have hsh := shl_one l.length (by omega)
  intro d
  induction d with
  | zero =>
    intro j hj
    refine Ev.step (f := fun _ => some (countTo l r j)) (fun k => ?_) (ev_eq (Ev.now _) (by rw [show j = 2 ^ l.length by omega]))
    simp only [spec_CountLayings.l0]
    rw [hsh, if_neg (by omega)]
  | succ d ih =>
    intro j hj
    have hb := countTo_bd l r j
    have e := ih (j + 1) (by omega)
    have e1 := spec_lay_ev l.length j h10 (by omega)
    have e2 := spec_ends_ev (layS l.length j) l.length (Nat.le_refl _) (layS_size _ _) hP
    rw [List.take_length] at e2
    have e3 := spec_room_ev (endsL l (layS l.length j) l.length) (by rw [ends_len]; omega) (ends_mem hP (Nat.le_refl _))
    refine Ev.step (f := fun k => (spec_l22Laying.f k (l.length : Int) (j : Int)).bind fun t198 => ((spec_l22Ends.f k l t198).bind fun t199 => ((spec_l22Room.f k t199).bind fun t202 => (if t202 ≤ r then (spec_CountLayings.l0 k l r (wrap64 (countTo l r j + 1)) (wrap64 ((j : Int) + 1))) else (spec_CountLayings.l0 k l r (countTo l r j) (wrap64 ((j : Int) + 1))))))) (fun k => ?_) (Ev.bind e1 (Ev.bind e2 (Ev.bind e3 ?_)))
    · simp only [spec_CountLayings.l0]
      rw [hsh, if_pos (by omega)]
    · rw [w64 (x := (j : Int) + 1) (by omega) (by omega)]
      have hn : ((j : Int) + 1) = ((j + 1 : Nat) : Int) := by omega
      simp only [countTo] at e
      by_cases c : roomAt l j ≤ r
      · rw [if_pos c] at e
        refine Ev.congr (fun k => if_pos c) ?_
        rw [w64 (by omega) (by omega), hn]
        exact e
      · rw [if_neg c] at e
        refine Ev.congr (fun k => if_neg c) ?_
        rw [hn]
        exact e
def countLay (l : List Int) (r : Int) : Int := if rulerOk l = true then countTo l r (2 ^ l.length) else -1
theorem spec_Count_ev (l : List Int) (r : Int) : Ev (fun k => spec_CountLayings.f k l r) (countLay l r) := by
  unfold spec_CountLayings.f countLay
  refine Ev.bind (spec_Ruler_ev l) ?_
  by_cases c : rulerOk l = true
  · rw [if_pos c]
    exact Ev.congr (fun k => if_pos c) (spec_count_l c r (2 ^ l.length) 0 (by omega))
  · rw [if_neg c]
    exact Ev.congr (fun k => if_neg c) (Ev.now _)
theorem impl_Count_ev (l : List Int) (r : Int) : Ev (fun k => impl_CountLayings.f k l r) (countLay l r) := by
  unfold impl_CountLayings.f countLay
  refine Ev.bind (ev_const (impl_Ruler_eq l)) ?_
  by_cases c : rulerOk l = true
  · rw [if_pos c]
    obtain ⟨hP, h1⟩ := parts_of c
    have h10 := hP.1
    refine Ev.congr (fun k => if_pos c) (Ev.congr (fun k => if_pos ⟨h1, h10⟩) ?_)
    exact impl_count_ev c r _ (pow_small h10)
  · rw [if_neg c]
    exact Ev.congr (fun k => if_neg c) (Ev.now _)

end Go.Proofs.YtjjdahnjindgaaaDoor.PA
