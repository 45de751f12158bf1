/- IsStroke: both texts. -/
import Derived.Test.YtcdajmbnijmdfaaPAx9
import Derived.Test.YtcdajmbnijmdfaaPAx11
import Derived.Test.YtcdajmbnijmdfaaLibD
namespace Go.Proofs.Ytcdajmbnijmdfaa.PA
open Go.RowKit Go.Proofs.YtcdajmbnijmdfaaW.PrintWords Go.Proofs.YtcdajmbnijmdfaaW.PrintLast Go.Proofs.YtcdajmbnijmdfaaW.PrintMore
set_option linter.unusedVariables false
set_option linter.unusedSimpArgs false

/-! masks -/
theorem wraps_i64n (n : Int) (h0 : 0 ≤ n) (h1 : n < 2 ^ 63) : IntKind.i64.wrap n = n := by
  rw [IntKind.wrap_i64]
  omega
theorem or_nat (a b : Nat) (ha : a < 2 ^ 63) (hb : b < 2 ^ 63) : Go.bits .or .i64 (a : Int) (b : Int) = ((a ||| b : Nat) : Int) :=
  (bits_nat .i64 63 (by decide) wraps_i64n a b ha hb).2
theorem and_nat (a b : Nat) (ha : a < 2 ^ 63) (hb : b < 2 ^ 63) : Go.bits .and .i64 (a : Int) (b : Int) = ((a &&& b : Nat) : Int) :=
  (bits_nat .i64 63 (by decide) wraps_i64n a b ha hb).1
theorem shl_one (e : Nat) (he : e < 62) : shl .i64 1 (e : Int) = ((2 ^ e : Nat) : Int) := by
  unfold shl
  rw [Int.toNat_natCast, Nat.min_eq_left (by simp [IntKind.bits]; omega)]
  have hp : (2 : Nat) ^ e < 2 ^ 62 := Nat.pow_lt_pow_right (by omega) he
  rw [wraps_i64n]
  · simp
  · simp
    exact_mod_cast Nat.zero_le _
  · simp
    have : ((2 ^ e : Nat) : Int) < ((2 ^ 62 : Nat) : Int) := Int.ofNat_lt.2 hp
    simp at this
    omega
theorem shr_nat (m e : Nat) (he : e < 64) : shr .i64 (m : Int) (e : Int) = ((m >>> e : Nat) : Int) := by
  unfold shr
  rw [Int.toNat_natCast, Nat.min_eq_left (by simp [IntKind.bits]; omega), Nat.shiftRight_eq_div_pow]
  simp
theorem bit_nat (m e : Nat) (hm : m < 2 ^ 63) (he : e < 64) : Go.bits .and .i64 (shr .i64 (m : Int) (e : Int)) 1 = if m.testBit e then 1 else 0 := by
  rw [shr_nat m e he]
  have h1 : m >>> e < 2 ^ 63 := by
    rw [Nat.shiftRight_eq_div_pow]
    exact Nat.lt_of_le_of_lt (Nat.div_le_self _ _) hm
  have := and_nat (m >>> e) 1 h1 (by decide)
  rw [show ((1 : Nat) : Int) = 1 from rfl] at this
  rw [this, Nat.testBit]
  rw [Nat.and_one_is_mod, Nat.one_and_eq_mod_two]
  rcases Nat.mod_two_eq_zero_or_one (m >>> e) with h | h <;> simp [h]
theorem or_add (m e : Nat) (h : m.testBit e = false) : m ||| 2 ^ e = m + 2 ^ e := by
  have hb : m % 2 ^ (e + 1) < 2 ^ e := by
    rw [Nat.mod_pow_succ]
    have h1 : m / 2 ^ e % 2 = 0 := by
      rw [Nat.testBit, Nat.shiftRight_eq_div_pow, Nat.one_and_eq_mod_two] at h
      simpa using h
    rw [h1]
    simpa using Nat.mod_lt m (Nat.two_pow_pos e)
  have hm := Nat.div_add_mod m (2 ^ (e + 1))
  have hp : (2 : Nat) ^ (e + 1) = 2 ^ e + 2 ^ e := by rw [Nat.pow_succ]; omega
  have e1 := Nat.two_pow_add_eq_or_of_lt (i := e + 1) (b := m % 2 ^ (e + 1)) (by omega) (m / 2 ^ (e + 1))
  have e2 := Nat.two_pow_add_eq_or_of_lt (i := e + 1) (b := m % 2 ^ (e + 1) + 2 ^ e) (by omega) (m / 2 ^ (e + 1))
  have e3 := Nat.or_two_pow_eq_add_of_lt hb
  rw [← e3] at e2
  calc m ||| 2 ^ e = (2 ^ (e + 1) * (m / 2 ^ (e + 1)) ||| m % 2 ^ (e + 1)) ||| 2 ^ e := by rw [← e1, hm]
    _ = 2 ^ (e + 1) * (m / 2 ^ (e + 1)) ||| (m % 2 ^ (e + 1) ||| 2 ^ e) := by rw [Nat.or_assoc]
    _ = m + 2 ^ e := by rw [← e2, e3]; omega
theorem test_lt (m e n : Nat) (hm : m < 2 ^ n) (he : n ≤ e) : m.testBit e = false := Nat.testBit_lt_two_pow (Nat.lt_of_lt_of_le hm (Nat.pow_le_pow_right (by omega) he))

/-! IsStroke -/
def strokeL (ls : List (List Int)) : Int → Nat → List Int → Bool
  | _, _, [] => true
  | at_, used, i :: s =>
    if 0 ≤ i ∧ i ≤ (ls.length : Int) - 1 ∧ used.testBit i.toNat = false then
      (if at_ = rd (rd_L1 ls i) 0 then strokeL ls (rd (rd_L1 ls i) 1) (used + 2 ^ i.toNat) s
       else if at_ = rd (rd_L1 ls i) 1 then strokeL ls (rd (rd_L1 ls i) 0) (used + 2 ^ i.toNat) s else false)
    else false
theorem drawOk_iff {n : Int} {l : List (List Int)} : drawOk n l = true ↔ (1 ≤ n ∧ n ≤ 8 ∧ l.length ≤ 12) ∧ ∀ r ∈ l, lineOk n r = true := by
  unfold drawOk
  rw [Bool.and_eq_true, decide_eq_true_iff, List.all_eq_true]
theorem used_lt {used i : Nat} (h : used < 4096) (hi : i < 12) (ht : used.testBit i = false) : used + 2 ^ i < 4096 ∧ used ||| 2 ^ i = used + 2 ^ i := by
  have h1 := or_add used i ht
  have h2 : used ||| 2 ^ i < 2 ^ 12 := Nat.or_lt_two_pow h (Nat.pow_lt_pow_right (by omega) hi)
  exact ⟨by omega, h1⟩
def isStroke (n : Int) (ls : List (List Int)) (start : Int) (s : List Int) : Bool := drawOk n ls && decide (0 ≤ start ∧ start ≤ n - 1) && strokeL ls start 0 s
theorem pow12 {i : Nat} (h : i < 12) : (0 : Int) ≤ ((2 ^ i : Nat) : Int) ∧ ((2 ^ i : Nat) : Int) ≤ 2048 ∧ 2 ^ i ≤ 2048 := by
  have h1 : (2 : Nat) ^ i ≤ 2 ^ 11 := Nat.pow_le_pow_right (by omega) (by omega)
  have h2 : (2 : Nat) ^ 11 = 2048 := rfl
  rw [h2] at h1
  exact ⟨Int.natCast_nonneg _, by omega, h1⟩

theorem spec_stroke_l (ls : List (List Int)) (s : List Int) (hl : ls.length ≤ 12) (h2 : ∀ r ∈ ls, r.length = 2) (hs : s.length ≤ 1048577) : ∀ (d i used : Nat) (at_ : Int), i + d = s.length → used < 4096 →
    Ev (fun k => spec_IsStroke.l0 k ls at_ (used : Int) s (s.length : Int) (i : Int)) (strokeL ls at_ used (s.drop i)) := by
  intro d
  induction d with
  | zero =>
    intro i used at_ hi hu
    refine Ev.step (f := fun _ => some (strokeL ls at_ used (s.drop i))) (fun k => ?_) (Ev.now _)
    simp only [spec_IsStroke.l0]
    rw [if_neg (by omega), List.drop_of_length_le (by omega)]
    rfl
  | succ d ih =>
    intro i used at_ hi hu
    have hlt : i < s.length := by omega
    rw [List.drop_eq_getElem_cons hlt]
    simp only [strokeL]
    by_cases c : 0 ≤ s[i] ∧ s[i] ≤ (ls.length : Int) - 1 ∧ used.testBit s[i].toNat = false
    · rw [if_pos c]
      have hj : s[i].toNat < ls.length := by omega
      have hu := used_lt hu (show s[i].toNat < 12 by omega) c.2.2
      have hp := pow12 (show s[i].toNat < 12 by omega)
      have hline : rd_L1 ls s[i] ∈ ls := by
        have : rd_L1 ls s[i] = ls[s[i].toNat] := by simp [rd_L1, List.getD_eq_getElem?_getD, hj]
        rw [this]
        exact List.getElem_mem hj
      have h2l := h2 _ hline
      have hsh : shl .i64 1 s[i] = ((2 ^ s[i].toNat : Nat) : Int) := by
        have := shl_one s[i].toNat (by omega)
        rw [Int.toNat_of_nonneg c.1] at this
        exact this
      refine Ev.step (f := fun k => spec_IsStroke.j2 k ls at_ (used : Int) s[i] s (s.length : Int) (i : Int) false) (fun k => ?_) ?_
      · simp only [spec_IsStroke.l0, l01In_eq, Option.bind_some]
        rw [if_pos (by omega), if_pos (by omega), if_pos (by omega), rd_get hlt, w64 (x := (ls.length : Int) - 1) (by omega) (by omega), if_pos (by simpa using ⟨c.1, c.2.1⟩), if_pos c.1]
        rw [show (s[i] : Int) = ((s[i].toNat : Nat) : Int) by omega, bit_nat used s[i].toNat (by omega) (by omega), c.2.2]
        rfl
      · by_cases c1 : at_ = rd (rd_L1 ls s[i]) 0
        · rw [if_pos c1]
          refine Ev.step (f := fun k => spec_IsStroke.l0 k ls (rd (rd_L1 ls s[i]) 1) ((used + 2 ^ s[i].toNat : Nat) : Int) s (s.length : Int) ((i + 1 : Nat) : Int)) (fun k => ?_) (ih (i + 1) (used + 2 ^ s[i].toNat) _ (by omega) hu.1)
          simp only [spec_IsStroke.j2]
          rw [if_neg (by simp), if_pos c.1, if_pos (by omega), if_pos (by omega), if_pos c1, if_pos (by omega), hsh, w64 (by omega) (by omega), w64 (by omega) (by omega)]
          rfl
        · rw [if_neg c1]
          by_cases c2 : at_ = rd (rd_L1 ls s[i]) 1
          · rw [if_pos c2]
            refine Ev.step (f := fun k => spec_IsStroke.l0 k ls (rd (rd_L1 ls s[i]) 0) ((used + 2 ^ s[i].toNat : Nat) : Int) s (s.length : Int) ((i + 1 : Nat) : Int)) (fun k => ?_) (ih (i + 1) (used + 2 ^ s[i].toNat) _ (by omega) hu.1)
            simp only [spec_IsStroke.j2]
            rw [if_neg (by simp), if_pos c.1, if_pos (by omega), if_pos (by omega), if_neg c1, if_pos (by omega), if_pos c2, hsh, w64 (by omega) (by omega), w64 (by omega) (by omega)]
            rfl
          · rw [if_neg c2]
            refine Ev.step (f := fun k => some false) (fun k => ?_) (Ev.now _)
            simp only [spec_IsStroke.j2]
            rw [if_neg (by simp), if_pos c.1, if_pos (by omega), if_pos (by omega), if_neg c1, if_pos (by omega), if_neg c2]
    · rw [if_neg c]
      have no : Ev (fun k => spec_IsStroke.j2 k ls at_ (used : Int) s[i] s (s.length : Int) (i : Int) true) false := by
        refine Ev.step (f := fun _ => some false) (fun k => ?_) (Ev.now _)
        simp only [spec_IsStroke.j2]
        rw [if_pos trivial]
      by_cases c1 : 0 ≤ s[i] ∧ s[i] ≤ (ls.length : Int) - 1
      · have c2 : used.testBit s[i].toNat = true := by
          cases ht : used.testBit s[i].toNat with
          | true => rfl
          | false => exact absurd ⟨c1.1, c1.2, ht⟩ c
        refine Ev.step (f := fun k => spec_IsStroke.j2 k ls at_ (used : Int) s[i] s (s.length : Int) (i : Int) true) (fun k => ?_) no
        simp only [spec_IsStroke.l0, l01In_eq, Option.bind_some]
        rw [if_pos (by omega), if_pos (by omega), if_pos (by omega), rd_get hlt, w64 (x := (ls.length : Int) - 1) (by omega) (by omega), if_pos (by simpa using c1), if_pos c1.1]
        rw [show (s[i] : Int) = ((s[i].toNat : Nat) : Int) by omega, bit_nat used s[i].toNat (by omega) (by omega), c2]
        rfl
      · refine Ev.step (f := fun k => spec_IsStroke.j2 k ls at_ (used : Int) s[i] s (s.length : Int) (i : Int) true) (fun k => ?_) no
        simp only [spec_IsStroke.l0, l01In_eq, Option.bind_some]
        rw [if_pos (by omega), if_pos (by omega), if_pos (by omega), rd_get hlt, w64 (x := (ls.length : Int) - 1) (by omega) (by omega), if_neg (by simpa using c1)]
theorem spec_IsStroke_ev (n : Int) (ls : List (List Int)) (start : Int) (s : List Int) (hs : s.length ≤ 1048577) : Ev (fun k => spec_IsStroke.f k n ls start s) (isStroke n ls start s) := by
  unfold spec_IsStroke.f isStroke
  refine Ev.bind (spec_IsDrawing_ev n ls) ?_
  have no : Ev (fun k => spec_IsStroke.j0 k ls start s true) false := by
    refine Ev.step (f := fun _ => some false) (fun k => ?_) (Ev.now _)
    simp only [spec_IsStroke.j0]
    rw [if_pos trivial]
  by_cases c : drawOk n ls = true
  · refine Ev.congr (fun k => if_pos c) ?_
    obtain ⟨h1, h2⟩ := drawOk_iff.1 c
    rw [c, Bool.true_and, w64 (x := n - 1) (by omega) (by omega)]
    refine Ev.bind (ev_const (l01In_eq start 0 (n - 1))) ?_
    by_cases c1 : 0 ≤ start ∧ start ≤ n - 1
    · rw [decide_eq_true c1, Bool.true_and]
      refine Ev.step (f := fun k => spec_IsStroke.l0 k ls start ((0 : Nat) : Int) s (s.length : Int) ((0 : Nat) : Int)) (fun k => ?_) (spec_stroke_l ls s h1.2.2 (fun r hr => (of_decide_eq_true (h2 r hr)).1) hs s.length 0 0 start (by omega) (by omega))
      simp only [spec_IsStroke.j0]
      rw [if_neg (by simp)]
      rfl
    · rw [decide_eq_false c1, Bool.false_and]
      exact no
  · refine Ev.congr (fun k => if_neg c) ?_
    rw [show drawOk n ls = false by simpa using c, Bool.false_and, Bool.false_and]
    exact no

theorem impl_stroke_l (ls : List (List Int)) (s : List Int) (hl : ls.length ≤ 12) (h2 : ∀ r ∈ ls, r.length = 2) (hs : s.length ≤ 1048577) : ∀ (d i used : Nat) (at_ : Int), i + d = s.length → used < 4096 →
    Ev (fun k => impl_IsStroke.l0 k ls at_ (used : Int) s (s.length : Int) (i : Int)) (strokeL ls at_ used (s.drop i)) := by
  intro d
  induction d with
  | zero =>
    intro i used at_ hi hu
    refine Ev.step (f := fun _ => some (strokeL ls at_ used (s.drop i))) (fun k => ?_) (Ev.now _)
    simp only [impl_IsStroke.l0]
    rw [if_neg (by omega), List.drop_of_length_le (by omega)]
    rfl
  | succ d ih =>
    intro i used at_ hi hu
    have hlt : i < s.length := by omega
    rw [List.drop_eq_getElem_cons hlt]
    simp only [strokeL]
    by_cases c : 0 ≤ s[i] ∧ s[i] ≤ (ls.length : Int) - 1 ∧ used.testBit s[i].toNat = false
    · rw [if_pos c]
      have hj : s[i].toNat < ls.length := by omega
      have hu := used_lt hu (show s[i].toNat < 12 by omega) c.2.2
      have hp := pow12 (show s[i].toNat < 12 by omega)
      have hline : rd_L1 ls s[i] ∈ ls := by
        have : rd_L1 ls s[i] = ls[s[i].toNat] := by simp [rd_L1, List.getD_eq_getElem?_getD, hj]
        rw [this]
        exact List.getElem_mem hj
      have h2l := h2 _ hline
      have hsh : shl .i64 1 s[i] = ((2 ^ s[i].toNat : Nat) : Int) := by
        have := shl_one s[i].toNat (by omega)
        rw [Int.toNat_of_nonneg c.1] at this
        exact this
      refine Ev.step (f := fun k => impl_IsStroke.j2 k ls at_ (used : Int) s[i] s (s.length : Int) (i : Int) false) (fun k => ?_) ?_
      · simp only [impl_IsStroke.l0, within_eq, Option.bind_some]
        rw [if_pos (by omega), if_pos (by omega), if_pos (by omega), rd_get hlt, w64 (x := (ls.length : Int) - 1) (by omega) (by omega), if_pos (by simpa using ⟨c.1, c.2.1⟩)]
        unfold impl_has.f
        rw [if_pos c.1]
        rw [show (s[i] : Int) = ((s[i].toNat : Nat) : Int) by omega, bit_nat used s[i].toNat (by omega) (by omega), c.2.2]
        rfl
      · by_cases c1 : at_ = rd (rd_L1 ls s[i]) 0
        · rw [if_pos c1]
          refine Ev.step (f := fun k => impl_IsStroke.l0 k ls (rd (rd_L1 ls s[i]) 1) ((used + 2 ^ s[i].toNat : Nat) : Int) s (s.length : Int) ((i + 1 : Nat) : Int)) (fun k => ?_) (ih (i + 1) (used + 2 ^ s[i].toNat) _ (by omega) hu.1)
          simp only [impl_IsStroke.j2]
          unfold impl_along.f
          rw [if_neg (by simp), if_pos c.1, if_pos (by omega), if_pos (by omega), if_pos c1, if_pos (by omega), Option.bind_some, if_pos rfl, hsh, or_nat used (2 ^ s[i].toNat) (by omega) (by omega), hu.2, w64 (by omega) (by omega)]
          rfl
        · rw [if_neg c1]
          by_cases c2 : at_ = rd (rd_L1 ls s[i]) 1
          · rw [if_pos c2]
            refine Ev.step (f := fun k => impl_IsStroke.l0 k ls (rd (rd_L1 ls s[i]) 0) ((used + 2 ^ s[i].toNat : Nat) : Int) s (s.length : Int) ((i + 1 : Nat) : Int)) (fun k => ?_) (ih (i + 1) (used + 2 ^ s[i].toNat) _ (by omega) hu.1)
            simp only [impl_IsStroke.j2]
            unfold impl_along.f
            rw [if_neg (by simp), if_pos c.1, if_pos (by omega), if_pos (by omega), if_neg c1, if_pos (by omega), if_pos c2, Option.bind_some, if_pos rfl, hsh, or_nat used (2 ^ s[i].toNat) (by omega) (by omega), hu.2, w64 (by omega) (by omega)]
            rfl
          · rw [if_neg c2]
            refine Ev.step (f := fun k => some false) (fun k => ?_) (Ev.now _)
            simp only [impl_IsStroke.j2]
            unfold impl_along.f
            rw [if_neg (by simp), if_pos c.1, if_pos (by omega), if_pos (by omega), if_neg c1, if_pos (by omega), if_neg c2, Option.bind_some, if_neg (by simp)]
    · rw [if_neg c]
      have no : Ev (fun k => impl_IsStroke.j2 k ls at_ (used : Int) s[i] s (s.length : Int) (i : Int) true) false := by
        refine Ev.step (f := fun _ => some false) (fun k => ?_) (Ev.now _)
        simp only [impl_IsStroke.j2]
        rw [if_pos trivial]
      by_cases c1 : 0 ≤ s[i] ∧ s[i] ≤ (ls.length : Int) - 1
      · have c2 : used.testBit s[i].toNat = true := by
          cases ht : used.testBit s[i].toNat with
          | true => rfl
          | false => exact absurd ⟨c1.1, c1.2, ht⟩ c
        refine Ev.step (f := fun k => impl_IsStroke.j2 k ls at_ (used : Int) s[i] s (s.length : Int) (i : Int) true) (fun k => ?_) no
        simp only [impl_IsStroke.l0, within_eq, Option.bind_some]
        rw [if_pos (by omega), if_pos (by omega), if_pos (by omega), rd_get hlt, w64 (x := (ls.length : Int) - 1) (by omega) (by omega), if_pos (by simpa using c1)]
        unfold impl_has.f
        rw [if_pos c1.1]
        rw [show (s[i] : Int) = ((s[i].toNat : Nat) : Int) by omega, bit_nat used s[i].toNat (by omega) (by omega), c2]
        rfl
      · refine Ev.step (f := fun k => impl_IsStroke.j2 k ls at_ (used : Int) s[i] s (s.length : Int) (i : Int) true) (fun k => ?_) no
        simp only [impl_IsStroke.l0, within_eq, Option.bind_some]
        rw [if_pos (by omega), if_pos (by omega), if_pos (by omega), rd_get hlt, w64 (x := (ls.length : Int) - 1) (by omega) (by omega), if_neg (by simpa using c1)]
theorem impl_IsStroke_ev (n : Int) (ls : List (List Int)) (start : Int) (s : List Int) (hs : s.length ≤ 1048577) : Ev (fun k => impl_IsStroke.f k n ls start s) (isStroke n ls start s) := by
  unfold impl_IsStroke.f isStroke
  refine Ev.bind (impl_IsDrawing_ev n ls) ?_
  have no : Ev (fun k => impl_IsStroke.j0 k ls start s true) false := by
    refine Ev.step (f := fun _ => some false) (fun k => ?_) (Ev.now _)
    simp only [impl_IsStroke.j0]
    rw [if_pos trivial]
  by_cases c : drawOk n ls = true
  · refine Ev.congr (fun k => if_pos c) ?_
    obtain ⟨h1, h2⟩ := drawOk_iff.1 c
    rw [c, Bool.true_and, w64 (x := n - 1) (by omega) (by omega)]
    refine Ev.bind (ev_const (within_eq start 0 (n - 1))) ?_
    by_cases c1 : 0 ≤ start ∧ start ≤ n - 1
    · rw [decide_eq_true c1, Bool.true_and]
      refine Ev.step (f := fun k => impl_IsStroke.l0 k ls start ((0 : Nat) : Int) s (s.length : Int) ((0 : Nat) : Int)) (fun k => ?_) (impl_stroke_l ls s h1.2.2 (fun r hr => (of_decide_eq_true (h2 r hr)).1) hs s.length 0 0 start (by omega) (by omega))
      simp only [impl_IsStroke.j0]
      rw [if_neg (by simp)]
      rfl
    · rw [decide_eq_false c1, Bool.false_and]
      exact no
  · refine Ev.congr (fun k => if_neg c) ?_
    rw [show drawOk n ls = false by simpa using c, Bool.false_and, Bool.false_and]
    exact no

end Go.Proofs.Ytcdajmbnijmdfaa.PA
