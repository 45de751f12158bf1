/- marks -/
import Derived.Test.YtjjdahnjindgaaaDoorLibI
import Derived.Test.YtjjdahnjindgaaaDoorPAx8
namespace Go.Proofs.YtjjdahnjindgaaaDoor.PA
open Go.RowKit Go.Proofs.YtjjdahnjindgaaaDoorW.PrintWords Go.Proofs.YtjjdahnjindgaaaDoorW.PrintLast Go.Proofs.YtjjdahnjindgaaaDoorW.PrintMore
set_option linter.unusedVariables false
set_option linter.unusedSimpArgs false

/-! markIntS, heldIntS: what was marked is held -/
def ramp : Int → Nat → List Int
  | _, 0 => []
  | a, n + 1 => a :: ramp (a + 1) n
theorem ramp_len : ∀ (n : Nat) (a : Int), (ramp a n).length = n := by
  intro n
  induction n with
  | zero => intro a; rfl
  | succ n ih => intro a; simp [ramp, ih]
theorem rd_mid (pre suf : List Int) (x : Int) : rd (pre ++ x :: suf) (pre.length : Int) = x := by
  simp [rd, List.getD_eq_getElem?_getD]
theorem set_mid (pre suf : List Int) (x y : Int) : (pre ++ x :: suf).set pre.length y = (pre ++ [y]) ++ suf := by
  simp [List.set_append]
theorem markIntS_l : ∀ (suf pre : List Int) (a : Int), pre.length + suf.length ≤ 4194304 → 0 ≤ a → a + suf.length ≤ 1099511627776 →
    Ev (fun k => laws_markIntS.l0 k (pre ++ suf) a (pre.length : Int)) (a + suf.length, pre ++ ramp a suf.length) := by
  intro suf
  induction suf with
  | nil =>
    intro pre a hl h0 h1
    refine Ev.step (f := fun _ => some (a, pre)) (fun k => ?_) (ev_eq (Ev.now _) (by simp [ramp]))
    simp only [laws_markIntS.l0]
    rw [if_neg (by simp)]
    simp
  | cons x suf ih =>
    intro pre a hl h0 h1
    simp only [List.length_cons] at hl h1
    have h := ih (pre ++ [a]) (a + 1) (by simp; omega) (by omega) (by omega)
    have e : (a + 1 + (suf.length : Int), pre ++ [a] ++ ramp (a + 1) suf.length) = (a + ((x :: suf).length : Int), pre ++ ramp a (x :: suf).length) := by
      simp only [List.length_cons, ramp, List.append_assoc, List.singleton_append]
      congr 1
      omega
    rw [e] at h
    refine Ev.step (f := fun k => laws_markIntS.l0 k ((pre ++ [a]) ++ suf) (a + 1) ((pre ++ [a]).length : Int)) (fun k => ?_) h
    simp only [laws_markIntS.l0]
    rw [if_pos (by simp; omega), if_pos (by omega), Int.toNat_natCast, set_mid, w64 (x := a + 1) (by omega) (by omega), w64 (by omega) (by omega)]
    simp
theorem markIntS_ev (l : List Int) (a : Int) (hl : l.length ≤ 1048576) (h0 : 0 ≤ a) (h1 : a ≤ 549755813888) : Ev (fun k => laws_markIntS.f k l a) (a + l.length, ramp a l.length) :=
  markIntS_l l [] a (by simp; omega) h0 (by omega)
theorem heldIntS_l : ∀ (n : Nat) (pre : List Int) (a : Int), pre.length + n ≤ 4194304 → 0 ≤ a → a + n ≤ 1099511627776 →
    Ev (fun k => laws_heldIntS.l0 k (pre ++ ramp a n) a (pre.length : Int)) (a + n) := by
  intro n
  induction n with
  | zero =>
    intro pre a hl h0 h1
    rw [show ramp a 0 = [] from rfl]
    refine Ev.step (f := fun _ => some a) (fun k => ?_) (ev_eq (Ev.now _) (by simp))
    simp only [laws_heldIntS.l0]
    rw [if_neg (by simp)]
  | succ n ih =>
    intro pre a hl h0 h1
    rw [show ramp a (n + 1) = a :: ramp (a + 1) n from rfl]
    have h := ih (pre ++ [a]) (a + 1) (by simp; omega) (by omega) (by omega)
    rw [show a + 1 + (n : Int) = a + ((n + 1 : Nat) : Int) by omega] at h
    refine Ev.step (f := fun k => laws_heldIntS.l0 k ((pre ++ [a]) ++ ramp (a + 1) n) (a + 1) ((pre ++ [a]).length : Int)) (fun k => ?_) h
    simp only [laws_heldIntS.l0]
    rw [if_pos (by simp; omega), if_pos (by omega), rd_mid, if_pos rfl, w64 (x := a + 1) (by omega) (by omega), w64 (by omega) (by omega)]
    simp
theorem heldIntS_ev (n : Nat) (a : Int) (hl : n ≤ 1048576) (h0 : 0 ≤ a) (h1 : a ≤ 549755813888) : Ev (fun k => laws_heldIntS.f k (ramp a n) a) (a + n) :=
  heldIntS_l n [] a (by simp; omega) h0 (by omega)

end Go.Proofs.YtjjdahnjindgaaaDoor.PA
