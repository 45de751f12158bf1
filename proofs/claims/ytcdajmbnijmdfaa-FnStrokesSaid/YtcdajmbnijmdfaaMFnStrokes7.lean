/- Texts of this claim put together in build order (FnStrokes). -/
import Derived.Test.YtcdajmbnijmdfaaMFnStrokes0
import Derived.Test.YtcdajmbnijmdfaaMFnStrokes3
import Derived.Test.YtcdajmbnijmdfaaMFnStrokes1
import Derived.Test.YtcdajmbnijmdfaaMFnStrokes2
import Derived.Test.YtcdajmbnijmdfaaMFnStrokes4
/- ints -/
namespace Go.Proofs.Ytcdajmbnijmdfaa.PA
open Go.RowKit Go.Proofs.YtcdajmbnijmdfaaW.PrintWords Go.Proofs.YtcdajmbnijmdfaaW.PrintLast Go.Proofs.YtcdajmbnijmdfaaW.PrintMore
set_option linter.unusedVariables false
set_option linter.unusedSimpArgs false
theorem w64 {x : Int} (h0 : -9223372036854775808 ≤ x) (h1 : x < 9223372036854775808) : wrap64 x = x := by
  unfold wrap64
  omega
theorem rd_nat (l : List Int) (i : Nat) : rd l (i : Int) = l.getD i 0 := by simp [rd]
theorem rd_get {l : List Int} {i : Nat} (h : i < l.length) : rd l (i : Int) = l[i] := by simp [rd, List.getD_eq_getElem?_getD, h]
theorem ev_eq {α : Type} {g : Nat → Option α} {r r' : α} (h : Ev g r) (e : r = r') : Ev g r' := e ▸ h
theorem ev_const {α : Type} {a : Option α} {r : α} (h : a = some r) : Ev (fun _ => a) r := ⟨0, fun _ _ => h⟩
theorem rdL_get {l : List (List Int)} {i : Nat} (h : i < l.length) : rd_L1 l (i : Int) = l[i] := by simp [rd_L1, List.getD_eq_getElem?_getD, h]
theorem takeL_step {l : List (List Int)} {i : Nat} (h : i < l.length) : l.take (i + 1) = l.take i ++ [l[i]] := by
  rw [List.take_succ_eq_append_getElem h]
theorem l01In_eq (a b c : Int) : spec_l01In.f a b c = some (decide (b ≤ a ∧ a ≤ c)) := by
  unfold spec_l01In.f
  by_cases h : a ≥ b
  · rw [if_pos h]; simp [h]
  · rw [if_neg h]; simp [h]
theorem within_eq (a b c : Int) : impl_within.f a b c = some (decide (b ≤ a ∧ a ≤ c)) := l01In_eq a b c
end Go.Proofs.Ytcdajmbnijmdfaa.PA
/- drawings -/
namespace Go.Proofs.Ytcdajmbnijmdfaa.PA
open Go.RowKit Go.Proofs.YtcdajmbnijmdfaaW.PrintWords Go.Proofs.YtcdajmbnijmdfaaW.PrintLast Go.Proofs.YtcdajmbnijmdfaaW.PrintMore
set_option linter.unusedVariables false
set_option linter.unusedSimpArgs false
def lineOk (n : Int) (l : List Int) : Bool := decide (l.length = 2 ∧ 0 ≤ rd l 0 ∧ rd l 0 ≤ n - 1 ∧ 0 ≤ rd l 1 ∧ rd l 1 ≤ n - 1 ∧ ¬ rd l 0 = rd l 1)
def drawOk (n : Int) (l : List (List Int)) : Bool := decide (1 ≤ n ∧ n ≤ 8 ∧ l.length ≤ 12) && l.all (lineOk n)
theorem all_drop {α : Type} (l : List α) (p : α → Bool) (i : Nat) (h : i < l.length) : (l.drop i).all p = (p l[i] && (l.drop (i + 1)).all p) := by
  rw [List.drop_eq_getElem_cons h, List.all_cons]
theorem impl_IsDrawing_l (n : Int) (hn : 1 ≤ n ∧ n ≤ 8) (l : List (List Int)) (hl : l.length ≤ 12) : ∀ (d i : Nat), i + d = l.length → Ev (fun k => impl_IsDrawing.l0 k n l (l.length : Int) (i : Int)) ((l.drop i).all (lineOk n)) := by
  intro d
  induction d with
  | zero =>
    intro i hi
    refine Ev.step (f := fun _ => some ((l.drop i).all (lineOk n))) (fun k => ?_) (Ev.now _)
    simp only [impl_IsDrawing.l0]
    rw [if_neg (by omega), List.drop_of_length_le (by omega)]
    rfl
  | succ d ih =>
    intro i hi
    have hlt : i < l.length := by omega
    rw [all_drop l _ i hlt]
    by_cases c : lineOk n l[i] = true
    · rw [c, Bool.true_and]
      refine Ev.step (f := fun k => impl_IsDrawing.l0 k n l (l.length : Int) ((i + 1 : Nat) : Int)) (fun k => ?_) (ih (i + 1) (by omega))
      obtain ⟨c1, c2, c3, c4, c5, c6⟩ := of_decide_eq_true c
      simp only [impl_IsDrawing.l0, within_eq, Option.bind_some]
      rw [if_pos (by omega), if_pos (by omega), if_pos (by omega), rdL_get hlt, if_pos (by omega), if_pos (by omega), w64 (x := n - 1) (by omega) (by omega), if_pos (by simpa using ⟨c2, c3⟩), if_pos (by omega), if_pos (by simpa using ⟨c4, c5⟩), if_neg c6, w64 (by omega) (by omega)]
      rfl
    · have c' : lineOk n l[i] = false := by simpa using c
      rw [c', Bool.false_and]
      refine Ev.step (f := fun k => some false) (fun k => ?_) (Ev.now _)
      have hc := of_decide_eq_false c'
      simp only [impl_IsDrawing.l0, within_eq, Option.bind_some]
      rw [if_pos (by omega), if_pos (by omega), if_pos (by omega), rdL_get hlt, w64 (x := n - 1) (by omega) (by omega)]
      by_cases e1 : l[i].length = 2
      · rw [if_pos (by omega), if_pos (by omega)]
        by_cases e2 : 0 ≤ rd l[i] 0 ∧ rd l[i] 0 ≤ n - 1
        · rw [if_pos (by simpa using e2), if_pos (by omega)]
          by_cases e3 : 0 ≤ rd l[i] 1 ∧ rd l[i] 1 ≤ n - 1
          · rw [if_pos (by simpa using e3)]
            by_cases e4 : rd l[i] 0 = rd l[i] 1
            · rw [if_pos e4]
            · exact absurd ⟨e1, e2.1, e2.2, e3.1, e3.2, e4⟩ hc
          · rw [if_neg (by simpa using e3)]
        · rw [if_neg (by simpa using e2)]
      · rw [if_neg (by omega)]
theorem impl_IsDrawing_ev (n : Int) (l : List (List Int)) : Ev (fun k => impl_IsDrawing.f k n l) (drawOk n l) := by
  unfold impl_IsDrawing.f
  refine Ev.bind (ev_const (within_eq n 1 8)) ?_
  unfold drawOk
  by_cases c0 : 1 ≤ n ∧ n ≤ 8
  · refine Ev.congr (fun k => if_pos (by simpa using c0)) ?_
    by_cases c1 : l.length ≤ 12
    · rw [decide_eq_true (show 1 ≤ n ∧ n ≤ 8 ∧ l.length ≤ 12 from ⟨c0.1, c0.2, c1⟩), Bool.true_and, decide_eq_false (show ¬ ((l.length : Int) > 12) by omega)]
      refine Ev.step (f := fun k => impl_IsDrawing.l0 k n l (l.length : Int) ((0 : Nat) : Int)) (fun k => ?_) (impl_IsDrawing_l n c0 l c1 l.length 0 (by omega))
      simp only [impl_IsDrawing.j0]
      rw [if_neg (by simp)]
      rfl
    · rw [decide_eq_false (show ¬ (1 ≤ n ∧ n ≤ 8 ∧ l.length ≤ 12) from fun z => c1 z.2.2), Bool.false_and, decide_eq_true (show ((l.length : Int) > 12) by omega)]
      refine Ev.step (f := fun k => some false) (fun k => ?_) (Ev.now _)
      simp only [impl_IsDrawing.j0]
      rw [if_pos trivial]
  · refine Ev.congr (fun k => if_neg (by simpa using c0)) ?_
    rw [decide_eq_false (show ¬ (1 ≤ n ∧ n ≤ 8 ∧ l.length ≤ 12) from fun z => c0 ⟨z.1, z.2.1⟩), Bool.false_and]
    refine Ev.step (f := fun k => some false) (fun k => ?_) (Ev.now _)
    simp only [impl_IsDrawing.j0]
    rw [if_pos trivial]
end Go.Proofs.Ytcdajmbnijmdfaa.PA
/- strokes -/
namespace Go.Proofs.Ytcdajmbnijmdfaa.PA
open Go.RowKit Go.Proofs.YtcdajmbnijmdfaaW.PrintWords Go.Proofs.YtcdajmbnijmdfaaW.PrintLast Go.Proofs.YtcdajmbnijmdfaaW.PrintMore
set_option linter.unusedVariables false
set_option linter.unusedSimpArgs false
theorem wraps_i64n (n : Int) (h0 : 0 ≤ n) (h1 : n < 2 ^ 63) : IntKind.i64.wrap n = n := by
  rw [IntKind.wrap_i64]
  omega
theorem or_nat (a b : Nat) (ha : a < 2 ^ 63) (hb : b < 2 ^ 63) : Go.bits .or .i64 (a : Int) (b : Int) = ((a ||| b : Nat) : Int) :=
  (bits_nat .i64 63 (by decide) wraps_i64n a b ha hb).2
theorem and_nat (a b : Nat) (ha : a < 2 ^ 63) (hb : b < 2 ^ 63) : Go.bits .and .i64 (a : Int) (b : Int) = ((a &&& b : Nat) : Int) :=
  (bits_nat .i64 63 (by decide) wraps_i64n a b ha hb).1
theorem shl_one (e : Nat) (he : e < 62) : shl .i64 1 (e : Int) = ((2 ^ e : Nat) : Int) := by
  unfold shl
  rw [Int.toNat_natCast, Nat.min_eq_left (by simp [IntKind.bits]; omega)]
  have hp : (2 : Nat) ^ e < 2 ^ 62 := Nat.pow_lt_pow_right (by omega) he
  rw [wraps_i64n]
  · simp
  · simp
    exact_mod_cast Nat.zero_le _
  · simp
    have : ((2 ^ e : Nat) : Int) < ((2 ^ 62 : Nat) : Int) := Int.ofNat_lt.2 hp
    simp at this
    omega
theorem shr_nat (m e : Nat) (he : e < 64) : shr .i64 (m : Int) (e : Int) = ((m >>> e : Nat) : Int) := by
  unfold shr
  rw [Int.toNat_natCast, Nat.min_eq_left (by simp [IntKind.bits]; omega), Nat.shiftRight_eq_div_pow]
  simp
theorem bit_nat (m e : Nat) (hm : m < 2 ^ 63) (he : e < 64) : Go.bits .and .i64 (shr .i64 (m : Int) (e : Int)) 1 = if m.testBit e then 1 else 0 := by
  rw [shr_nat m e he]
  have h1 : m >>> e < 2 ^ 63 := by
    rw [Nat.shiftRight_eq_div_pow]
    exact Nat.lt_of_le_of_lt (Nat.div_le_self _ _) hm
  have := and_nat (m >>> e) 1 h1 (by decide)
  rw [show ((1 : Nat) : Int) = 1 from rfl] at this
  rw [this, Nat.testBit]
  rw [Nat.and_one_is_mod, Nat.one_and_eq_mod_two]
  rcases Nat.mod_two_eq_zero_or_one (m >>> e) with h | h <;> simp [h]
theorem or_add (m e : Nat) (h : m.testBit e = false) : m ||| 2 ^ e = m + 2 ^ e := by
  have hb : m % 2 ^ (e + 1) < 2 ^ e := by
    rw [Nat.mod_pow_succ]
    have h1 : m / 2 ^ e % 2 = 0 := by
      rw [Nat.testBit, Nat.shiftRight_eq_div_pow, Nat.one_and_eq_mod_two] at h
      simpa using h
    rw [h1]
    simpa using Nat.mod_lt m (Nat.two_pow_pos e)
  have hm := Nat.div_add_mod m (2 ^ (e + 1))
  have hp : (2 : Nat) ^ (e + 1) = 2 ^ e + 2 ^ e := by rw [Nat.pow_succ]; omega
  have e1 := Nat.two_pow_add_eq_or_of_lt (i := e + 1) (b := m % 2 ^ (e + 1)) (by omega) (m / 2 ^ (e + 1))
  have e2 := Nat.two_pow_add_eq_or_of_lt (i := e + 1) (b := m % 2 ^ (e + 1) + 2 ^ e) (by omega) (m / 2 ^ (e + 1))
  have e3 := Nat.or_two_pow_eq_add_of_lt hb
  rw [← e3] at e2
  calc m ||| 2 ^ e = (2 ^ (e + 1) * (m / 2 ^ (e + 1)) ||| m % 2 ^ (e + 1)) ||| 2 ^ e := by rw [← e1, hm]
    _ = 2 ^ (e + 1) * (m / 2 ^ (e + 1)) ||| (m % 2 ^ (e + 1) ||| 2 ^ e) := by rw [Nat.or_assoc]
    _ = m + 2 ^ e := by rw [← e2, e3]; omega
def strokeL (ls : List (List Int)) : Int → Nat → List Int → Bool
  | _, _, [] => true
  | at_, used, i :: s =>
    if 0 ≤ i ∧ i ≤ (ls.length : Int) - 1 ∧ used.testBit i.toNat = false then
      (if at_ = rd (rd_L1 ls i) 0 then strokeL ls (rd (rd_L1 ls i) 1) (used + 2 ^ i.toNat) s
       else if at_ = rd (rd_L1 ls i) 1 then strokeL ls (rd (rd_L1 ls i) 0) (used + 2 ^ i.toNat) s else false)
    else false
theorem drawOk_iff {n : Int} {l : List (List Int)} : drawOk n l = true ↔ (1 ≤ n ∧ n ≤ 8 ∧ l.length ≤ 12) ∧ ∀ r ∈ l, lineOk n r = true := by
  unfold drawOk
  rw [Bool.and_eq_true, decide_eq_true_iff, List.all_eq_true]
theorem used_lt {used i : Nat} (h : used < 4096) (hi : i < 12) (ht : used.testBit i = false) : used + 2 ^ i < 4096 ∧ used ||| 2 ^ i = used + 2 ^ i := by
  have h1 := or_add used i ht
  have h2 : used ||| 2 ^ i < 2 ^ 12 := Nat.or_lt_two_pow h (Nat.pow_lt_pow_right (by omega) hi)
  exact ⟨by omega, h1⟩
def isStroke (n : Int) (ls : List (List Int)) (start : Int) (s : List Int) : Bool := drawOk n ls && decide (0 ≤ start ∧ start ≤ n - 1) && strokeL ls start 0 s
theorem pow12 {i : Nat} (h : i < 12) : (0 : Int) ≤ ((2 ^ i : Nat) : Int) ∧ ((2 ^ i : Nat) : Int) ≤ 2048 ∧ 2 ^ i ≤ 2048 := by
  have h1 : (2 : Nat) ^ i ≤ 2 ^ 11 := Nat.pow_le_pow_right (by omega) (by omega)
  have h2 : (2 : Nat) ^ 11 = 2048 := rfl
  rw [h2] at h1
  exact ⟨Int.natCast_nonneg _, by omega, h1⟩
theorem impl_stroke_l (ls : List (List Int)) (s : List Int) (hl : ls.length ≤ 12) (h2 : ∀ r ∈ ls, r.length = 2) (hs : s.length ≤ 1048577) : ∀ (d i used : Nat) (at_ : Int), i + d = s.length → used < 4096 →
    Ev (fun k => impl_IsStroke.l0 k ls at_ (used : Int) s (s.length : Int) (i : Int)) (strokeL ls at_ used (s.drop i)) := by
  intro d
  induction d with
  | zero =>
    intro i used at_ hi hu
    refine Ev.step (f := fun _ => some (strokeL ls at_ used (s.drop i))) (fun k => ?_) (Ev.now _)
    simp only [impl_IsStroke.l0]
    rw [if_neg (by omega), List.drop_of_length_le (by omega)]
    rfl
  | succ d ih =>
    intro i used at_ hi hu
    have hlt : i < s.length := by omega
    rw [List.drop_eq_getElem_cons hlt]
    simp only [strokeL]
    by_cases c : 0 ≤ s[i] ∧ s[i] ≤ (ls.length : Int) - 1 ∧ used.testBit s[i].toNat = false
    · rw [if_pos c]
      have hj : s[i].toNat < ls.length := by omega
      have hu := used_lt hu (show s[i].toNat < 12 by omega) c.2.2
      have hp := pow12 (show s[i].toNat < 12 by omega)
      have hline : rd_L1 ls s[i] ∈ ls := by
        have : rd_L1 ls s[i] = ls[s[i].toNat] := by simp [rd_L1, List.getD_eq_getElem?_getD, hj]
        rw [this]
        exact List.getElem_mem hj
      have h2l := h2 _ hline
      have hsh : shl .i64 1 s[i] = ((2 ^ s[i].toNat : Nat) : Int) := by
        have := shl_one s[i].toNat (by omega)
        rw [Int.toNat_of_nonneg c.1] at this
        exact this
      refine Ev.step (f := fun k => impl_IsStroke.j2 k ls at_ (used : Int) s[i] s (s.length : Int) (i : Int) false) (fun k => ?_) ?_
      · simp only [impl_IsStroke.l0, within_eq, Option.bind_some]
        rw [if_pos (by omega), if_pos (by omega), if_pos (by omega), rd_get hlt, w64 (x := (ls.length : Int) - 1) (by omega) (by omega), if_pos (by simpa using ⟨c.1, c.2.1⟩)]
        unfold impl_has.f
        rw [if_pos c.1]
        rw [show (s[i] : Int) = ((s[i].toNat : Nat) : Int) by omega, bit_nat used s[i].toNat (by omega) (by omega), c.2.2]
        rfl
      · by_cases c1 : at_ = rd (rd_L1 ls s[i]) 0
        · rw [if_pos c1]
          refine Ev.step (f := fun k => impl_IsStroke.l0 k ls (rd (rd_L1 ls s[i]) 1) ((used + 2 ^ s[i].toNat : Nat) : Int) s (s.length : Int) ((i + 1 : Nat) : Int)) (fun k => ?_) (ih (i + 1) (used + 2 ^ s[i].toNat) _ (by omega) hu.1)
          simp only [impl_IsStroke.j2]
          unfold impl_along.f
          rw [if_neg (by simp), if_pos c.1, if_pos (by omega), if_pos (by omega), if_pos c1, if_pos (by omega), Option.bind_some, if_pos rfl, hsh, or_nat used (2 ^ s[i].toNat) (by omega) (by omega), hu.2, w64 (by omega) (by omega)]
          rfl
        · rw [if_neg c1]
          by_cases c2 : at_ = rd (rd_L1 ls s[i]) 1
          · rw [if_pos c2]
            refine Ev.step (f := fun k => impl_IsStroke.l0 k ls (rd (rd_L1 ls s[i]) 0) ((used + 2 ^ s[i].toNat : Nat) : Int) s (s.length : Int) ((i + 1 : Nat) : Int)) (fun k => ?_) (ih (i + 1) (used + 2 ^ s[i].toNat) _ (by omega) hu.1)
            simp only [impl_IsStroke.j2]
            unfold impl_along.f
            rw [if_neg (by simp), if_pos c.1, if_pos (by omega), if_pos (by omega), if_neg c1, if_pos (by omega), if_pos c2, Option.bind_some, if_pos rfl, hsh, or_nat used (2 ^ s[i].toNat) (by omega) (by omega), hu.2, w64 (by omega) (by omega)]
            rfl
          · rw [if_neg c2]
            refine Ev.step (f := fun k => some false) (fun k => ?_) (Ev.now _)
            simp only [impl_IsStroke.j2]
            unfold impl_along.f
            rw [if_neg (by simp), if_pos c.1, if_pos (by omega), if_pos (by omega), if_neg c1, if_pos (by omega), if_neg c2, Option.bind_some, if_neg (by simp)]
    · rw [if_neg c]
      have no : Ev (fun k => impl_IsStroke.j2 k ls at_ (used : Int) s[i] s (s.length : Int) (i : Int) true) false := by
        refine Ev.step (f := fun _ => some false) (fun k => ?_) (Ev.now _)
        simp only [impl_IsStroke.j2]
        rw [if_pos trivial]
      by_cases c1 : 0 ≤ s[i] ∧ s[i] ≤ (ls.length : Int) - 1
      · have c2 : used.testBit s[i].toNat = true := by
          cases ht : used.testBit s[i].toNat with
          | true => rfl
          | false => exact absurd ⟨c1.1, c1.2, ht⟩ c
        refine Ev.step (f := fun k => impl_IsStroke.j2 k ls at_ (used : Int) s[i] s (s.length : Int) (i : Int) true) (fun k => ?_) no
        simp only [impl_IsStroke.l0, within_eq, Option.bind_some]
        rw [if_pos (by omega), if_pos (by omega), if_pos (by omega), rd_get hlt, w64 (x := (ls.length : Int) - 1) (by omega) (by omega), if_pos (by simpa using c1)]
        unfold impl_has.f
        rw [if_pos c1.1]
        rw [show (s[i] : Int) = ((s[i].toNat : Nat) : Int) by omega, bit_nat used s[i].toNat (by omega) (by omega), c2]
        rfl
      · refine Ev.step (f := fun k => impl_IsStroke.j2 k ls at_ (used : Int) s[i] s (s.length : Int) (i : Int) true) (fun k => ?_) no
        simp only [impl_IsStroke.l0, within_eq, Option.bind_some]
        rw [if_pos (by omega), if_pos (by omega), if_pos (by omega), rd_get hlt, w64 (x := (ls.length : Int) - 1) (by omega) (by omega), if_neg (by simpa using c1)]
theorem impl_IsStroke_ev (n : Int) (ls : List (List Int)) (start : Int) (s : List Int) (hs : s.length ≤ 1048577) : Ev (fun k => impl_IsStroke.f k n ls start s) (isStroke n ls start s) := by
  unfold impl_IsStroke.f isStroke
  refine Ev.bind (impl_IsDrawing_ev n ls) ?_
  have no : Ev (fun k => impl_IsStroke.j0 k ls start s true) false := by
    refine Ev.step (f := fun _ => some false) (fun k => ?_) (Ev.now _)
    simp only [impl_IsStroke.j0]
    rw [if_pos trivial]
  by_cases c : drawOk n ls = true
  · refine Ev.congr (fun k => if_pos c) ?_
    obtain ⟨h1, h2⟩ := drawOk_iff.1 c
    rw [c, Bool.true_and, w64 (x := n - 1) (by omega) (by omega)]
    refine Ev.bind (ev_const (within_eq start 0 (n - 1))) ?_
    by_cases c1 : 0 ≤ start ∧ start ≤ n - 1
    · rw [decide_eq_true c1, Bool.true_and]
      refine Ev.step (f := fun k => impl_IsStroke.l0 k ls start ((0 : Nat) : Int) s (s.length : Int) ((0 : Nat) : Int)) (fun k => ?_) (impl_stroke_l ls s h1.2.2 (fun r hr => (of_decide_eq_true (h2 r hr)).1) hs s.length 0 0 start (by omega) (by omega))
      simp only [impl_IsStroke.j0]
      rw [if_neg (by simp)]
      rfl
    · rw [decide_eq_false c1, Bool.false_and]
      exact no
  · refine Ev.congr (fun k => if_neg c) ?_
    rw [show drawOk n ls = false by simpa using c, Bool.false_and, Bool.false_and]
    exact no
end Go.Proofs.Ytcdajmbnijmdfaa.PA
/- degrees -/
namespace Go.Proofs.Ytcdajmbnijmdfaa.PA
open Go.RowKit Go.Proofs.YtcdajmbnijmdfaaW.PrintWords Go.Proofs.YtcdajmbnijmdfaaW.PrintLast Go.Proofs.YtcdajmbnijmdfaaW.PrintMore
set_option linter.unusedVariables false
set_option linter.unusedSimpArgs false
structure LineOk (n : Nat) (r : List Int) : Prop where
  len : r.length = 2
  a0 : 0 ≤ rd r 0
  a1 : rd r 0 < n
  b0 : 0 ≤ rd r 1
  b1 : rd r 1 < n
  ne : ¬ rd r 0 = rd r 1
theorem drawOk_lines {n : Nat} {l : List (List Int)} (c : drawOk (n : Int) l = true) : 1 ≤ n ∧ n ≤ 8 ∧ l.length ≤ 12 ∧ ∀ r ∈ l, LineOk n r := by
  obtain ⟨⟨h1, h2, h3⟩, h4⟩ := drawOk_iff.1 c
  refine ⟨by omega, by omega, h3, fun r hr => ?_⟩
  obtain ⟨a, b, c, d, e, f⟩ := of_decide_eq_true (h4 r hr)
  exact ⟨a, b, by omega, d, by omega, f⟩
/-- One line more at each of its points. -/
def incr (d : List Int) (i : Nat) : List Int := d.set i (d.getD i 0 + 1)
theorem incr_len (d : List Int) (i : Nat) : (incr d i).length = d.length := by simp [incr]
def degL : List (List Int) → List Int → List Int
  | [], d => d
  | r :: l, d => degL l (incr (incr d (rd r 0).toNat) (rd r 1).toNat)
theorem degL_len : ∀ (l : List (List Int)) (d : List Int), (degL l d).length = d.length := by
  intro l
  induction l with
  | nil => intro d; rfl
  | cons r l ih => intro d; simp [degL, ih, incr_len]
theorem incr_bd {d : List Int} {B : Int} (h : ∀ x ∈ d, 0 ≤ x ∧ x ≤ B) (hB : 0 ≤ B) (i : Nat) : ∀ x ∈ incr d i, 0 ≤ x ∧ x ≤ B + 1 := by
  intro x hx
  unfold incr at hx
  rcases List.mem_or_eq_of_mem_set hx with h1 | h1
  · have := h x h1; omega
  · rw [h1]
    by_cases hi : i < d.length
    · have := h d[i] (List.getElem_mem hi)
      simp [List.getD_eq_getElem?_getD, hi]
      omega
    · simp [List.getD_eq_getElem?_getD, hi]
      omega
theorem degL_bd : ∀ (l : List (List Int)) (d : List Int) (B : Int), (∀ x ∈ d, 0 ≤ x ∧ x ≤ B) → 0 ≤ B → ∀ x ∈ degL l d, 0 ≤ x ∧ x ≤ B + 2 * (l.length : Int) := by
  intro l
  induction l with
  | nil => intro d B h hB x hx; have := h x hx; simp; exact this
  | cons r l ih =>
    intro d B h hB x hx
    simp only [degL] at hx
    have := ih _ (B + 2) (fun y hy => by have := incr_bd (incr_bd h hB (rd r 0).toNat) (by omega) (rd r 1).toNat y hy; omega) (by omega) x hx
    simp only [List.length_cons]
    omega
def degs (n : Nat) (l : List (List Int)) : List Int := degL l (List.replicate n 0)
theorem degs_len (n : Nat) (l : List (List Int)) : (degs n l).length = n := by simp [degs, degL_len]
theorem degs_bd (n : Nat) (l : List (List Int)) : ∀ x ∈ degs n l, 0 ≤ x ∧ x ≤ 2 * (l.length : Int) := by
  intro x hx
  have := degL_bd l (List.replicate n 0) 0 (fun y hy => by rw [List.eq_of_mem_replicate hy]; omega) (by omega) x hx
  omega
theorem impl_deg_l {n : Nat} (l : List (List Int)) (hl : l.length ≤ 12) (hr : ∀ r ∈ l, LineOk n r) : ∀ (m i : Nat) (d : List Int), i + m = l.length → d.length = n → (∀ x ∈ d, 0 ≤ x ∧ x ≤ 2 * (i : Int)) →
    Ev (fun k => impl_degrees.l0 k d l (l.length : Int) (i : Int)) (degL (l.drop i) d) := by
  intro m
  induction m with
  | zero =>
    intro i d hi hd hb
    refine Ev.step (f := fun _ => some (degL (l.drop i) d)) (fun k => ?_) (Ev.now _)
    simp only [impl_degrees.l0]
    rw [if_neg (by omega), List.drop_of_length_le (by omega)]
    rfl
  | succ m ih =>
    intro i d hi hd hb
    have hlt : i < l.length := by omega
    obtain ⟨hL, a0, a1, b0, b1, hne⟩ := hr l[i] (List.getElem_mem hlt)
    rw [List.drop_eq_getElem_cons hlt]
    simp only [degL]
    have hb1 := incr_bd hb (by omega) (rd l[i] 0).toNat
    have hb2 := incr_bd hb1 (by omega) (rd l[i] 1).toNat
    obtain ⟨x, hx⟩ := Int.eq_ofNat_of_zero_le a0
    obtain ⟨y, hy⟩ := Int.eq_ofNat_of_zero_le b0
    have e1 : d.set (rd l[i] 0).toNat (wrap64 (rd d (rd l[i] 0) + 1)) = incr d (rd l[i] 0).toNat := by
      rw [hx, Int.toNat_natCast, rd_nat]
      have hxd : x < d.length := by omega
      have := hb d[x] (List.getElem_mem hxd)
      have e : d.getD x 0 = d[x] := by simp [List.getD_eq_getElem?_getD, hxd]
      rw [w64 (by omega) (by omega)]
      rfl
    have e2 : (incr d (rd l[i] 0).toNat).set (rd l[i] 1).toNat (wrap64 (rd (incr d (rd l[i] 0).toNat) (rd l[i] 1) + 1)) = incr (incr d (rd l[i] 0).toNat) (rd l[i] 1).toNat := by
      generalize hz : incr d (rd l[i] 0).toNat = d1 at hb1
      have hd1 : d1.length = n := by rw [← hz, incr_len, hd]
      rw [hy, Int.toNat_natCast, rd_nat]
      have hyd : y < d1.length := by omega
      have := hb1 d1[y] (List.getElem_mem hyd)
      have e : d1.getD y 0 = d1[y] := by simp [List.getD_eq_getElem?_getD, hyd]
      rw [w64 (by omega) (by omega)]
      rfl
    refine Ev.step (f := fun k => impl_degrees.l0 k (incr (incr d (rd l[i] 0).toNat) (rd l[i] 1).toNat) l (l.length : Int) ((i + 1 : Nat) : Int)) (fun k => ?_) (ih (i + 1) _ (by omega) ((incr_len _ _).trans ((incr_len _ _).trans hd)) (fun z hz => by have := hb2 z hz; omega))
    simp only [impl_degrees.l0, Option.bind_some]
    rw [if_pos (by omega), if_pos (by omega), if_pos (by omega), rdL_get hlt, if_pos (by omega), if_pos (by omega), if_pos (by omega), e1, if_pos (by omega), if_pos (by omega), if_pos (by omega), e2, w64 (by omega) (by omega)]
    rfl
theorem impl_deg_ev {n : Nat} (l : List (List Int)) (hn : n ≤ 8) (hl : l.length ≤ 12) (hr : ∀ r ∈ l, LineOk n r) : Ev (fun k => impl_degrees.f k (n : Int) l) (degs n l) := by
  refine Ev.congr (fun k => ?_) (impl_deg_l l hl hr l.length 0 (List.replicate n 0) (by omega) (by simp) (fun x hx => by rw [List.eq_of_mem_replicate hx]; omega))
  unfold impl_degrees.f
  rw [if_pos (by omega), if_pos (by simp; omega), Int.toNat_natCast]
  rfl
theorem impl_DegreesOf_ev (n : Int) (l : List (List Int)) : Ev (fun k => impl_DegreesOf.f k n l) (if drawOk n l then degs n.toNat l else []) := by
  unfold impl_DegreesOf.f
  refine Ev.bind (impl_IsDrawing_ev n l) ?_
  by_cases c : drawOk n l = true
  · rw [if_pos c]
    refine Ev.congr (fun k => if_pos c) ?_
    obtain ⟨m, rfl⟩ := Int.eq_ofNat_of_zero_le (a := n) (by have := (drawOk_iff.1 c).1; omega)
    obtain ⟨h1, h2, h3, h4⟩ := drawOk_lines c
    rw [Int.toNat_natCast]
    exact Ev.bind (impl_deg_ev l h2 h3 h4) (Ev.now _)
  · rw [if_neg c]
    exact Ev.congr (fun k => if_neg c) (Ev.now _)
end Go.Proofs.Ytcdajmbnijmdfaa.PA
/- parts that hang together -/
namespace Go.Proofs.Ytcdajmbnijmdfaa.PA
open Go.RowKit Go.Proofs.YtcdajmbnijmdfaaW.PrintWords Go.Proofs.YtcdajmbnijmdfaaW.PrintLast Go.Proofs.YtcdajmbnijmdfaaW.PrintMore
set_option linter.unusedVariables false
set_option linter.unusedSimpArgs false
def rsum (f : Nat → Int) : Nat → Int
  | 0 => 0
  | n + 1 => rsum f n + f n
theorem rsum_add (f g : Nat → Int) : ∀ n, rsum (fun i => f i + g i) n = rsum f n + rsum g n := by
  intro n
  induction n with
  | zero => rfl
  | succ n ih => simp only [rsum]; omega
theorem rsum_congr {f g : Nat → Int} : ∀ {n : Nat}, (∀ i, i < n → f i = g i) → rsum f n = rsum g n := by
  intro n
  induction n with
  | zero => intro _; rfl
  | succ n ih => intro h; simp only [rsum]; rw [ih (fun i hi => h i (by omega)), h n (by omega)]
theorem rsum_one (x : Int) (c : Int) : ∀ n : Nat, rsum (fun g => if (g : Int) = x then c else 0) n = if 0 ≤ x ∧ x < (n : Int) then c else 0 := by
  intro n
  induction n with
  | zero => simp only [rsum]; rw [if_neg (by omega)]
  | succ n ih =>
    simp only [rsum]
    rw [ih]
    by_cases h1 : 0 ≤ x ∧ x < (n : Int)
    · rw [if_pos h1, if_neg (by omega), if_pos (by omega)]; omega
    · rw [if_neg h1]
      by_cases h2 : (n : Int) = x
      · rw [if_pos h2, if_pos (by omega)]; omega
      · rw [if_neg h2, if_neg (by omega)]; omega
theorem rsum_zero {f : Nat → Int} : ∀ {n : Nat}, (∀ i, i < n → f i = 0) → rsum f n = 0 := by
  intro n
  induction n with
  | zero => intro _; rfl
  | succ n ih => intro h; simp only [rsum]; rw [ih (fun i hi => h i (by omega)), h n (by omega)]; rfl
theorem rsum_bd {f : Nat → Int} {B : Int} : ∀ {n : Nat}, (∀ i, i < n → 0 ≤ f i ∧ f i ≤ B) → 0 ≤ rsum f n ∧ rsum f n ≤ (n : Int) * B := by
  intro n
  induction n with
  | zero => intro _; simp [rsum]
  | succ n ih =>
    intro h
    have h1 := ih (fun i hi => h i (by omega))
    have h2 := h n (by omega)
    simp only [rsum]
    have h3 : ((n + 1 : Nat) : Int) * B = (n : Int) * B + B := by rw [Int.natCast_succ, Int.add_mul, Int.one_mul]
    rw [h3]
    omega
def lab (a b g : Int) : Int := if g = a then b else g
def relab (G : List Int) (a b : Int) : List Int := G.map (lab a b)
theorem relab_len (G : List Int) (a b : Int) : (relab G a b).length = G.length := by simp [relab]
theorem relab_self (G : List Int) (a : Int) : relab G a a = G := by
  unfold relab
  have : (lab a a) = id := by funext g; unfold lab; split <;> simp_all
  rw [this, List.map_id]
theorem relab_at {G : List Int} {a b : Int} {i : Nat} (h : i < G.length) : (relab G a b).getD i 0 = lab a b (G.getD i 0) := by
  simp [relab, List.getD_eq_getElem?_getD, h]
structure SameParts (n : Nat) (G P : List Int) : Prop where
  lg : G.length = n
  lp : P.length = n
  bg : ∀ x ∈ G, 0 ≤ x ∧ x < (n : Int)
  bp : ∀ x ∈ P, 0 ≤ x ∧ x < (n : Int)
  iff : ∀ i j, i < n → j < n → (G.getD i 0 = G.getD j 0 ↔ P.getD i 0 = P.getD j 0)
theorem mem_getD {G : List Int} {i : Nat} (h : i < G.length) : G.getD i 0 ∈ G := by
  simp [List.getD_eq_getElem?_getD, h]
theorem same_step {n : Nat} {G P : List Int} (h : SameParts n G P) {a b : Nat} (ha : a < n) (hb : b < n) : SameParts n (relab G (G.getD a 0) (G.getD b 0)) (relab P (P.getD b 0) (P.getD a 0)) := by
  have mg := h.bg _ (mem_getD (G := G) (i := b) (by rw [h.lg]; exact hb))
  have mp := h.bp _ (mem_getD (G := P) (i := a) (by rw [h.lp]; exact ha))
  refine ⟨by rw [relab_len, h.lg], by rw [relab_len, h.lp], fun x hx => ?_, fun x hx => ?_, fun i j hi hj => ?_⟩
  · obtain ⟨y, hy, rfl⟩ := List.mem_map.1 hx
    unfold lab
    split
    · exact mg
    · exact h.bg y hy
  · obtain ⟨y, hy, rfl⟩ := List.mem_map.1 hx
    unfold lab
    split
    · exact mp
    · exact h.bp y hy
  · rw [relab_at (by rw [h.lg]; exact hi), relab_at (by rw [h.lg]; exact hj), relab_at (by rw [h.lp]; exact hi), relab_at (by rw [h.lp]; exact hj)]
    have e1 := h.iff i j hi hj
    have e2 := h.iff i a hi ha
    have e3 := h.iff i b hi hb
    have e4 := h.iff j a hj ha
    have e5 := h.iff j b hj hb
    have e6 := h.iff a b ha hb
    unfold lab
    generalize G.getD i 0 = gi at *
    generalize G.getD j 0 = gj at *
    generalize G.getD a 0 = ga at *
    generalize G.getD b 0 = gb at *
    generalize P.getD i 0 = pi at *
    generalize P.getD j 0 = pj at *
    generalize P.getD a 0 = pa at *
    generalize P.getD b 0 = pb at *
    split <;> split <;> split <;> split <;> omega
def joinG : List (List Int) → List Int → List Int
  | [], G => G
  | r :: l, G => joinG l (relab G (rd G (rd r 0)) (rd G (rd r 1)))
def joinP : List (List Int) → List Int → List Int
  | [], P => P
  | r :: l, P => joinP l (relab P (rd P (rd r 1)) (rd P (rd r 0)))
theorem line_nat {n : Nat} {r : List Int} (h : LineOk n r) : ∃ a b : Nat, rd r 0 = (a : Int) ∧ rd r 1 = (b : Int) ∧ a < n ∧ b < n := by
  obtain ⟨h1, h2, h3, h4, h5, h6⟩ := h
  exact ⟨(rd r 0).toNat, (rd r 1).toNat, by omega, by omega, by omega, by omega⟩
theorem join_same {n : Nat} : ∀ (l : List (List Int)) (G P : List Int), (∀ r ∈ l, LineOk n r) → SameParts n G P → SameParts n (joinG l G) (joinP l P) := by
  intro l
  induction l with
  | nil => intro G P _ h; exact h
  | cons r l ih =>
    intro G P hl h
    obtain ⟨a, b, ea, eb, ha, hb⟩ := line_nat (hl r List.mem_cons_self)
    simp only [joinG, joinP]
    refine ih _ _ (fun x hx => hl x (List.mem_cons_of_mem _ hx)) ?_
    rw [ea, eb, rd_nat, rd_nat, rd_nat, rd_nat]
    exact same_step h ha hb
def idL (n : Nat) : List Int := (List.range n).map fun i : Nat => (i : Int)
theorem same_start (n : Nat) : SameParts n (idL n) (idL n) := by
  have hb : ∀ x ∈ idL n, 0 ≤ x ∧ x < (n : Int) := fun x hx => by
    obtain ⟨i, hi, rfl⟩ := List.mem_map.1 hx
    have := List.mem_range.1 hi
    omega
  exact ⟨by simp [idL], by simp [idL], hb, hb, fun i j _ _ => Iff.rfl⟩
theorem mixed_at (P : List Int) (f : Int → Int) (t i : Nat) (hi : i < P.length) : ((P.take t).map f ++ P.drop t).getD i 0 = if i < t then f (P.getD i 0) else P.getD i 0 := by
  rw [List.getD_eq_getElem?_getD, List.getD_eq_getElem?_getD]
  by_cases c : i < t
  · rw [if_pos c, List.getElem?_append_left (by simp; omega), List.getElem?_map, List.getElem?_take_of_lt c]
    simp [hi]
  · rw [if_neg c, List.getElem?_append_right (by simp; omega), List.getElem?_drop]
    congr 2
    simp
    omega
theorem mixed_set (P : List Int) (f : Int → Int) (t : Nat) (ht : t < P.length) (v : Int) (hv : v = f (P.getD t 0)) : ((P.take t).map f ++ P.drop t).set t v = (P.take (t + 1)).map f ++ P.drop (t + 1) := by
  apply List.ext_getElem?
  intro i
  rw [List.getElem?_set]
  by_cases c : t = i
  · subst c
    rw [if_pos rfl, if_pos (by simp; omega), List.getElem?_append_left (by simp; omega), List.getElem?_map, List.getElem?_take_of_lt (by omega), hv, List.getD_eq_getElem?_getD, List.getElem?_eq_getElem ht]
    rfl
  · rw [if_neg c]
    by_cases c2 : i < t
    · rw [List.getElem?_append_left (by simp; omega), List.getElem?_append_left (by simp; omega), List.getElem?_map, List.getElem?_map, List.getElem?_take_of_lt c2, List.getElem?_take_of_lt (by omega)]
    · rw [List.getElem?_append_right (by simp; omega), List.getElem?_append_right (by simp; omega), List.getElem?_drop, List.getElem?_drop]
      congr 1
      simp
      omega
theorem mixed_same (P : List Int) (f : Int → Int) (t : Nat) (ht : t < P.length) (hv : P.getD t 0 = f (P.getD t 0)) : (P.take t).map f ++ P.drop t = (P.take (t + 1)).map f ++ P.drop (t + 1) := by
  rw [← mixed_set P f t ht _ rfl]
  apply List.ext_getElem?
  intro i
  rw [List.getElem?_set]
  by_cases c : t = i
  · subst c
    rw [if_pos rfl, if_pos (by simp; omega), List.getElem?_append_right (by simp; omega), List.getElem?_drop, ← hv, List.getD_eq_getElem?_getD]
    have e : t + (t - (List.map f (List.take t P)).length) = t := by simp; omega
    rw [e, List.getElem?_eq_getElem ht]
    rfl
  · rw [if_neg c]
theorem rd_getD (P : List Int) (i : Nat) : rd P (i : Int) = P.getD i 0 := rd_nat P i
/-- The mask of all lines. -/
theorem mask_all (m : Nat) (h : m ≤ 12) : wrap64 ((shl .i64 1 (m : Int)) - 1) = ((2 ^ m - 1 : Nat) : Int) := by
  have h1 : 2 ^ m ≤ 2 ^ 12 := Nat.pow_le_pow_right (by omega) h
  have h2 : 0 < 2 ^ m := Nat.pow_pos (by omega)
  rw [shl_one m (by omega), w64 (by omega) (by omega)]
  omega
theorem mask_bit (m i : Nat) (h : m ≤ 12) (hi : i < m) : Go.bits .and .i64 (shr .i64 ((2 ^ m - 1 : Nat) : Int) (i : Int)) 1 = 1 := by
  have h1 : 2 ^ m ≤ 2 ^ 12 := Nat.pow_le_pow_right (by omega) h
  rw [bit_nat _ _ (by omega) (by omega), if_pos (by rw [Nat.testBit_two_pow_sub_one]; simpa using hi)]
theorem impl_join_2 (l G : List (List Int)) (mask : Int) (x9 : Bool) (H : List Int) (fr tt : Int) (i : Nat) (hH : H.length ≤ 8) (R : List Int × Bool) (hi : i < l.length) (hl : l.length ≤ 12) : ∀ (m t : Nat), t + m = H.length →
    Ev (fun k => impl_joined.l1 k mask (relab H fr tt) x9 l (l.length : Int) ((i + 1 : Nat) : Int)) R →
    Ev (fun k => impl_joined.l2 k mask ((H.take t).map (lab fr tt) ++ H.drop t) x9 fr tt l (l.length : Int) (i : Int) (H.length : Int) (t : Int)) R := by
  intro m
  induction m with
  | zero =>
    intro t ht hr
    have e : (H.take t).map (lab fr tt) ++ H.drop t = relab H fr tt := by rw [List.take_of_length_le (by omega), List.drop_of_length_le (by omega), List.append_nil]; rfl
    rw [e]
    refine Ev.step (f := fun k => impl_joined.l1 k mask (relab H fr tt) x9 l (l.length : Int) ((i + 1 : Nat) : Int)) (fun k => ?_) hr
    simp only [impl_joined.l2]
    rw [if_neg (by omega), w64 (by omega) (by omega)]
    rfl
  | succ m ih =>
    intro t ht hr
    have hlt : t < H.length := by omega
    have hlen : ((H.take t).map (lab fr tt) ++ H.drop t).length = H.length := by simp; omega
    have hat := mixed_at H (lab fr tt) t t hlt
    rw [if_neg (by omega)] at hat
    by_cases c : H.getD t 0 = fr
    · refine Ev.step (f := fun k => impl_joined.l2 k mask ((H.take (t + 1)).map (lab fr tt) ++ H.drop (t + 1)) x9 fr tt l (l.length : Int) (i : Int) (H.length : Int) ((t + 1 : Nat) : Int)) (fun k => ?_) (ih (t + 1) (by omega) hr)
      simp only [impl_joined.l2]
      rw [if_pos (by omega), if_pos (by omega), if_pos (by omega), rd_getD, hat, if_pos c, Int.toNat_natCast, mixed_set H (lab fr tt) t hlt tt (by unfold lab; rw [if_pos c]), w64 (by omega) (by omega)]
      rfl
    · refine Ev.step (f := fun k => impl_joined.l2 k mask ((H.take (t + 1)).map (lab fr tt) ++ H.drop (t + 1)) x9 fr tt l (l.length : Int) (i : Int) (H.length : Int) ((t + 1 : Nat) : Int)) (fun k => ?_) (ih (t + 1) (by omega) hr)
      simp only [impl_joined.l2]
      rw [if_pos (by omega), if_pos (by omega), if_pos (by omega), rd_getD, hat, if_neg c, ← mixed_same H (lab fr tt) t hlt (by unfold lab; rw [if_neg c]), w64 (by omega) (by omega)]
      rfl
theorem impl_join_1 {n : Nat} (l : List (List Int)) (hn : n ≤ 8) (hl : l.length ≤ 12) (hr : ∀ r ∈ l, LineOk n r) : ∀ (m i : Nat) (H : List Int) (x9 : Bool), i + m = l.length → H.length = n →
    ∃ b, Ev (fun k => impl_joined.l1 k ((2 ^ l.length - 1 : Nat) : Int) H x9 l (l.length : Int) (i : Int)) (joinG (l.drop i) H, b) := by
  intro m
  induction m with
  | zero =>
    intro i H x9 hi hH
    rw [List.drop_of_length_le (by omega)]
    refine ⟨x9, Ev.step (f := fun _ => some (H, x9)) (fun k => ?_) (Ev.now _)⟩
    simp only [impl_joined.l1]
    rw [if_neg (by omega)]
  | succ m ih =>
    intro i H x9 hi hH
    have hlt : i < l.length := by omega
    have hlo := hr l[i] (List.getElem_mem hlt)
    obtain ⟨a, b, ea, eb, ha, hb⟩ := line_nat hlo
    have hlen := hlo.len
    rw [List.drop_eq_getElem_cons hlt]
    simp only [joinG]
    have go : ∀ y : Bool, ∃ b', Ev (fun k => impl_joined.j2 k ((2 ^ l.length - 1 : Nat) : Int) H y (rd H (rd l[i] 0)) (rd H (rd l[i] 1)) l (l.length : Int) (i : Int)) (joinG (l.drop (i + 1)) (relab H (rd H (rd l[i] 0)) (rd H (rd l[i] 1))), b') := by
      intro y
      obtain ⟨b', h2⟩ := ih (i + 1) (relab H (rd H (rd l[i] 0)) (rd H (rd l[i] 1))) y (by omega) (by rw [relab_len, hH])
      have h3 := impl_join_2 l l ((2 ^ l.length - 1 : Nat) : Int) y H (rd H (rd l[i] 0)) (rd H (rd l[i] 1)) i (by omega) _ hlt hl H.length 0 (by omega) h2
      refine ⟨b', Ev.step (f := fun k => impl_joined.l2 k ((2 ^ l.length - 1 : Nat) : Int) ((H.take 0).map (lab (rd H (rd l[i] 0)) (rd H (rd l[i] 1))) ++ H.drop 0) y (rd H (rd l[i] 0)) (rd H (rd l[i] 1)) l (l.length : Int) (i : Int) (H.length : Int) ((0 : Nat) : Int)) (fun k => ?_) h3⟩
      simp only [impl_joined.j2, List.take_zero, List.map_nil, List.nil_append, List.drop_zero]
      rfl
    have hm := mask_bit l.length i hl hlt
    by_cases c : rd H (rd l[i] 0) = rd H (rd l[i] 1)
    · obtain ⟨b', h2⟩ := go false
      refine ⟨b', Ev.step (f := fun k => impl_joined.j2 k ((2 ^ l.length - 1 : Nat) : Int) H false (rd H (rd l[i] 0)) (rd H (rd l[i] 1)) l (l.length : Int) (i : Int)) (fun k => ?_) h2⟩
      simp only [impl_joined.l1]
      rw [if_pos (by omega), if_pos (by omega), if_pos (by omega), rdL_get hlt, hm, if_neg (by omega), if_pos (by omega), if_pos (by omega), if_pos (by omega), if_pos (by omega), if_pos (by omega), if_pos (by omega), if_pos c]
    · obtain ⟨b', h2⟩ := go x9
      refine ⟨b', Ev.step (f := fun k => impl_joined.j2 k ((2 ^ l.length - 1 : Nat) : Int) H x9 (rd H (rd l[i] 0)) (rd H (rd l[i] 1)) l (l.length : Int) (i : Int)) (fun k => ?_) h2⟩
      simp only [impl_joined.l1]
      rw [if_pos (by omega), if_pos (by omega), if_pos (by omega), rdL_get hlt, hm, if_neg (by omega), if_pos (by omega), if_pos (by omega), if_pos (by omega), if_pos (by omega), if_pos (by omega), if_pos (by omega), if_neg c]
theorem idL_succ (i : Nat) : idL (i + 1) = idL i ++ [(i : Int)] := by simp [idL, List.range_succ]
theorem idL_len (i : Nat) : (idL i).length = i := by simp [idL]
theorem impl_joined_ev {n : Nat} (l : List (List Int)) (hn : n ≤ 8) (hl : l.length ≤ 12) (hr : ∀ r ∈ l, LineOk n r) : ∃ b, Ev (fun k => impl_joined.f k (n : Int) l (wrap64 ((shl .i64 1 (l.length : Int)) - 1))) (joinG l (idL n), b) := by
  obtain ⟨b, h⟩ := impl_join_1 l hn hl hr l.length 0 (idL n) true (by omega) (idL_len n)
  rw [List.drop_zero] at h
  refine ⟨b, ?_⟩
  rw [mask_all _ hl]
  unfold impl_joined.f
  have go : ∀ (m i : Nat), i + m = n → Ev (fun k => impl_joined.l0 k l ((2 ^ l.length - 1 : Nat) : Int) (idL i) true (n : Int) (i : Int)) (joinG l (idL n), b) := by
    intro m
    induction m with
    | zero =>
      intro i hi
      obtain rfl : i = n := by omega
      refine Ev.step (f := fun k => impl_joined.l1 k ((2 ^ l.length - 1 : Nat) : Int) (idL i) true l (l.length : Int) ((0 : Nat) : Int)) (fun k => ?_) h
      simp only [impl_joined.l0]
      rw [if_neg (by omega)]
      rfl
    | succ m ih =>
      intro i hi
      refine Ev.step (f := fun k => impl_joined.l0 k l ((2 ^ l.length - 1 : Nat) : Int) (idL (i + 1)) true (n : Int) ((i + 1 : Nat) : Int)) (fun k => ?_) (ih (i + 1) (by omega))
      simp only [impl_joined.l0]
      rw [if_pos (by omega), if_pos (by rw [idL_len]; omega), w64 (by omega) (by omega), idL_succ]
      rfl
  exact go n 0 (by omega)
end Go.Proofs.Ytcdajmbnijmdfaa.PA
/- StrokesNeeded, LineParts: both texts. -/
namespace Go.Proofs.Ytcdajmbnijmdfaa.PA
open Go.RowKit Go.Proofs.YtcdajmbnijmdfaaW.PrintWords Go.Proofs.YtcdajmbnijmdfaaW.PrintLast Go.Proofs.YtcdajmbnijmdfaaW.PrintMore
set_option linter.unusedVariables false
set_option linter.unusedSimpArgs false
def oddR (G d : List Int) (g : Int) : Nat → Int
  | 0 => 0
  | t + 1 => oddR G d g t + (if G.getD t 0 = g ∧ 0 < d.getD t 0 then d.getD t 0 % 2 else 0)
def someR (G d : List Int) (g : Int) : Nat → Bool
  | 0 => false
  | t + 1 => someR G d g t || decide (G.getD t 0 = g ∧ 0 < d.getD t 0)
theorem oddR_bd (G d : List Int) (g : Int) : ∀ t : Nat, 0 ≤ oddR G d g t ∧ oddR G d g t ≤ (t : Int) := by
  intro t
  induction t with
  | zero => simp [oddR]
  | succ t ih => simp only [oddR]; split <;> omega
theorem someR_iff (G d : List Int) (g : Int) : ∀ t : Nat, someR G d g t = true ↔ ∃ i, i < t ∧ G.getD i 0 = g ∧ 0 < d.getD i 0 := by
  intro t
  induction t with
  | zero => simp [someR]
  | succ t ih =>
    simp only [someR]
    rw [Bool.or_eq_true, ih, decide_eq_true_iff]
    constructor
    · rintro (⟨i, h1, h2⟩ | h)
      · exact ⟨i, by omega, h2⟩
      · exact ⟨t, by omega, h⟩
    · rintro ⟨i, h1, h2⟩
      by_cases c : i = t
      · subst c; exact .inr h2
      · exact .inl ⟨i, by omega, h2⟩
/-- The sum of F over the parts' numbers of odd points. -/
def partSum (F : Int → Int) (G d : List Int) (n : Nat) : Int := rsum (fun g => if someR G d (g : Int) n = true then F (oddR G d (g : Int) n) else 0) n
/-- The list that lineParts gives. -/
def oddsOf (G d : List Int) (n : Nat) : Nat → List Int
  | 0 => []
  | g + 1 => oddsOf G d n g ++ (if someR G d (g : Int) n = true then [oddR G d (g : Int) n] else [])
theorem oddsOf_len (G d : List Int) (n : Nat) : ∀ g, (oddsOf G d n g).length ≤ g := by
  intro g
  induction g with
  | zero => simp [oddsOf]
  | succ g ih => simp only [oddsOf]; split <;> simp <;> omega
theorem oddsOf_sum (F : Int → Int) (G d : List Int) (n : Nat) : ∀ g, ((oddsOf G d n g).map F).sum = rsum (fun g => if someR G d (g : Int) n = true then F (oddR G d (g : Int) n) else 0) g := by
  intro g
  induction g with
  | zero => rfl
  | succ g ih =>
    simp only [oddsOf, rsum]
    rw [List.map_append, List.sum_append, ih]
    split <;> simp
theorem oddsOf_bd (G d : List Int) (n : Nat) : ∀ g, ∀ x ∈ oddsOf G d n g, 0 ≤ x ∧ x ≤ (n : Int) := by
  intro g
  induction g with
  | zero => intro x hx; simp [oddsOf] at hx
  | succ g ih =>
    intro x hx
    simp only [oddsOf] at hx
    rcases List.mem_append.1 hx with hx | hx
    · exact ih x hx
    · split at hx
      · rw [List.mem_singleton.1 hx]; exact oddR_bd _ _ _ _
      · simp at hx
theorem tmod2 {x : Int} (h : 0 ≤ x) : Int.tmod x 2 = x % 2 := Int.tmod_eq_emod_of_nonneg h
theorem impl_lp_1 {n : Nat} (G d : List Int) (out : List Int) (g : Nat) (hn : n ≤ 8) (hg : G.length = n) (hd : d.length = n) (hdb : ∀ x ∈ d, 0 ≤ x ∧ x ≤ 24) (hgn : g < n) (ho : out.length ≤ g) (R : List Int)
    (hr : Ev (fun k => impl_lineParts.l0 k G d (out ++ (if someR G d (g : Int) n = true then [oddR G d (g : Int) n] else [])) (n : Int) ((g + 1 : Nat) : Int)) R) : ∀ (m t : Nat), t + m = n →
    Ev (fun k => impl_lineParts.l1 k G d out (g : Int) (oddR G d (g : Int) t) (someR G d (g : Int) t) (n : Int) (g : Int) G (G.length : Int) (t : Int)) R := by
  intro m
  induction m with
  | zero =>
    intro t ht
    obtain rfl : t = n := by omega
    by_cases c : someR G d (g : Int) t = true
    · rw [if_pos c] at hr
      refine Ev.step (f := fun k => impl_lineParts.l0 k G d (out ++ [oddR G d (g : Int) t]) (t : Int) ((g + 1 : Nat) : Int)) (fun k => ?_) hr
      simp only [impl_lineParts.l1]
      rw [if_neg (by omega), if_pos c, if_pos (by omega), w64 (by omega) (by omega)]
      rfl
    · rw [if_neg c, List.append_nil] at hr
      refine Ev.step (f := fun k => impl_lineParts.l0 k G d out (t : Int) ((g + 1 : Nat) : Int)) (fun k => ?_) hr
      simp only [impl_lineParts.l1]
      rw [if_neg (by omega), if_neg c, w64 (by omega) (by omega)]
      rfl
  | succ m ih =>
    intro t ht
    have hlt : t < G.length := by omega
    have ho2 := oddR_bd G d (g : Int) t
    have hdt := hdb _ (mem_getD (G := d) (i := t) (by omega))
    refine Ev.step (f := fun k => impl_lineParts.l1 k G d out (g : Int) (oddR G d (g : Int) (t + 1)) (someR G d (g : Int) (t + 1)) (n : Int) (g : Int) G (G.length : Int) ((t + 1 : Nat) : Int)) (fun k => ?_) (ih (t + 1) (by omega))
    simp only [impl_lineParts.l1, oddR, someR]
    rw [if_pos (by omega), if_pos (by omega), if_pos (by omega), rd_getD, rd_getD]
    by_cases c1 : G.getD t 0 = (g : Int)
    · rw [if_pos c1, if_pos (by omega)]
      by_cases c2 : d.getD t 0 > 0
      · rw [if_pos c2, if_pos ⟨c1, c2⟩, decide_eq_true (⟨c1, c2⟩ : G.getD t 0 = (g : Int) ∧ 0 < d.getD t 0), Bool.or_true, tmod2 (by omega), w64 (by omega) (by omega), w64 (by omega) (by omega)]
        rfl
      · rw [if_neg c2, if_neg (fun z => c2 z.2), decide_eq_false (fun z : G.getD t 0 = (g : Int) ∧ 0 < d.getD t 0 => c2 z.2), Bool.or_false, w64 (by omega) (by omega), Int.add_zero]
        rfl
    · rw [if_neg c1, if_neg (fun z => c1 z.1), decide_eq_false (fun z : G.getD t 0 = (g : Int) ∧ 0 < d.getD t 0 => c1 z.1), Bool.or_false, w64 (by omega) (by omega), Int.add_zero]
      rfl
theorem impl_lp_0 {n : Nat} (G d : List Int) (hn : n ≤ 8) (hg : G.length = n) (hd : d.length = n) (hdb : ∀ x ∈ d, 0 ≤ x ∧ x ≤ 24) : ∀ (m g : Nat), g + m = n →
    Ev (fun k => impl_lineParts.l0 k G d (oddsOf G d n g) (n : Int) (g : Int)) (oddsOf G d n n) := by
  intro m
  induction m with
  | zero =>
    intro g hgm
    obtain rfl : g = n := by omega
    refine Ev.step (f := fun _ => some (oddsOf G d g g)) (fun k => ?_) (Ev.now _)
    simp only [impl_lineParts.l0]
    rw [if_neg (by omega)]
  | succ m ih =>
    intro g hgm
    have h := impl_lp_1 G d (oddsOf G d n g) g hn hg hd hdb (by omega) (oddsOf_len G d n g) (oddsOf G d n n) (ih (g + 1) (by omega)) n 0 (by omega)
    refine Ev.step (f := fun k => impl_lineParts.l1 k G d (oddsOf G d n g) (g : Int) 0 false (n : Int) (g : Int) G (G.length : Int) ((0 : Nat) : Int)) (fun k => ?_) h
    simp only [impl_lineParts.l0]
    rw [if_pos (by omega)]
    rfl
theorem impl_lineParts_ev {n : Nat} (l : List (List Int)) (hn : n ≤ 8) (hl : l.length ≤ 12) (hr : ∀ r ∈ l, LineOk n r) : Ev (fun k => impl_lineParts.f k (n : Int) l) (oddsOf (joinG l (idL n)) (degs n l) n n) := by
  unfold impl_lineParts.f
  obtain ⟨b, hb⟩ := impl_joined_ev l hn hl hr
  have hs := join_same l _ _ hr (same_start n)
  have hd := degs_bd n l
  refine Ev.bind hb (Ev.bind (impl_deg_ev l hn hl hr) ?_)
  exact impl_lp_0 _ _ hn hs.lg (degs_len n l) (fun x hx => by have := hd x hx; omega) n 0 (by omega)
/-- What both come to. -/
def strokeF (x : Int) : Int := mx 1 (x / 2)
def lineN (F : Int → Int) (n : Int) (l : List (List Int)) : Int := if drawOk n l = true then partSum F (joinG l (idL n.toNat)) (degs n.toNat l) n.toNat else -1
theorem draw_nat {n : Int} {l : List (List Int)} (c : drawOk n l = true) : ∃ m : Nat, n = (m : Int) := by
  have h := drawOk_iff.1 c
  exact ⟨n.toNat, by omega⟩
theorem impl_LineParts_ev (n : Int) (l : List (List Int)) : Ev (fun k => impl_LineParts.f k n l) (lineN (fun _ => 1) n l) := by
  unfold impl_LineParts.f lineN
  refine Ev.bind (impl_IsDrawing_ev n l) ?_
  by_cases c : drawOk n l = true
  · rw [if_pos c]
    obtain ⟨m, rfl⟩ := draw_nat c
    obtain ⟨h1, h2, h3, h4⟩ := drawOk_lines c
    refine Ev.congr (fun k => if_pos c) (Ev.bind (impl_lineParts_ev l h2 h3 h4) ?_)
    rw [Int.toNat_natCast]
    refine ev_eq (Ev.now _) ?_
    have := oddsOf_sum (fun _ => 1) (joinG l (idL m)) (degs m l) m m
    unfold partSum
    rw [← this]
    generalize oddsOf (joinG l (idL m)) (degs m l) m m = xs
    induction xs with
    | nil => rfl
    | cons x xs ih => simp only [List.length_cons, List.map_cons, List.sum_cons]; omega
  · rw [if_neg c]
    exact Ev.congr (fun k => if_neg c) (Ev.now _)
theorem strokeF_bd {x : Int} (h0 : 0 ≤ x) (h1 : x ≤ 8) : 1 ≤ strokeF x ∧ strokeF x ≤ 8 := by
  unfold strokeF mx
  split <;> omega
theorem tdiv2 {x : Int} (h : 0 ≤ x) : Int.tdiv x 2 = x / 2 := Int.tdiv_eq_ediv_of_nonneg h
theorem strokeF_eq {x : Int} (h0 : 0 ≤ x) (h1 : x ≤ 8) : mx 1 (wrap64 (Int.tdiv x 2)) = strokeF x := by
  rw [tdiv2 h0, w64 (by omega) (by omega)]
  rfl
theorem impl_sn_l (xs : List Int) (hl : xs.length ≤ 8) (hb : ∀ x ∈ xs, 0 ≤ x ∧ x ≤ 8) : ∀ (m i : Nat) (a : Int), i + m = xs.length → 0 ≤ a → a ≤ 8 * (i : Int) →
    Ev (fun k => impl_StrokesNeeded.l0 k a xs (xs.length : Int) (i : Int)) (a + ((xs.drop i).map strokeF).sum) := by
  intro m
  induction m with
  | zero =>
    intro i a hi h0 h1
    rw [List.drop_of_length_le (by omega)]
    refine Ev.step (f := fun _ => some a) (fun k => ?_) (ev_eq (Ev.now _) (by simp))
    simp only [impl_StrokesNeeded.l0]
    rw [if_neg (by omega)]
  | succ m ih =>
    intro i a hi h0 h1
    have hlt : i < xs.length := by omega
    have hx := hb _ (List.getElem_mem hlt)
    have hf := strokeF_bd hx.1 hx.2
    rw [List.drop_eq_getElem_cons hlt, List.map_cons, List.sum_cons, ← Int.add_assoc]
    refine Ev.step (f := fun k => impl_StrokesNeeded.l0 k (a + strokeF xs[i]) xs (xs.length : Int) ((i + 1 : Nat) : Int)) (fun k => ?_) (ih (i + 1) (a + strokeF xs[i]) (by omega) (by omega) (by omega))
    simp only [impl_StrokesNeeded.l0]
    rw [if_pos (by omega), if_pos (by omega), if_pos (by omega), rd_get hlt, strokeF_eq hx.1 hx.2, w64 (by omega) (by omega), w64 (by omega) (by omega)]
    rfl
theorem impl_StrokesNeeded_ev (n : Int) (l : List (List Int)) : Ev (fun k => impl_StrokesNeeded.f k n l) (lineN strokeF n l) := by
  unfold impl_StrokesNeeded.f lineN
  refine Ev.bind (impl_IsDrawing_ev n l) ?_
  by_cases c : drawOk n l = true
  · rw [if_pos c]
    obtain ⟨m, rfl⟩ := draw_nat c
    obtain ⟨h1, h2, h3, h4⟩ := drawOk_lines c
    refine Ev.congr (fun k => if_pos c) (Ev.bind (impl_lineParts_ev l h2 h3 h4) ?_)
    rw [Int.toNat_natCast]
    have hb := oddsOf_bd (joinG l (idL m)) (degs m l) m m
    have hl := oddsOf_len (joinG l (idL m)) (degs m l) m m
    refine ev_eq (impl_sn_l (oddsOf (joinG l (idL m)) (degs m l) m m) (by omega) (fun x hx => by have := hb x hx; omega) (oddsOf (joinG l (idL m)) (degs m l) m m).length 0 0 (by omega) (by omega) (by omega)) ?_
    rw [List.drop_zero, Int.zero_add, oddsOf_sum]
    rfl
  · rw [if_neg c]
    exact Ev.congr (fun k => if_neg c) (Ev.now _)
end Go.Proofs.Ytcdajmbnijmdfaa.PA
/- first strokes -/
namespace Go.Proofs.Ytcdajmbnijmdfaa.PA
open Go.RowKit Go.Proofs.YtcdajmbnijmdfaaW.PrintWords Go.Proofs.YtcdajmbnijmdfaaW.PrintLast Go.Proofs.YtcdajmbnijmdfaaW.PrintMore
set_option linter.unusedVariables false
set_option linter.unusedSimpArgs false
def leftN (n u : Nat) : Nat := (List.range n).countP fun i => !u.testBit i
theorem leftN_succ (n u : Nat) : leftN (n + 1) u = leftN n u + (if u.testBit n then 0 else 1) := by
  unfold leftN
  rw [List.range_succ, List.countP_append, List.countP_singleton]
  cases u.testBit n <;> simp
theorem bit_or (u i e : Nat) : (u ||| 2 ^ e).testBit i = (u.testBit i || decide (e = i)) := by
  rw [Nat.testBit_or, Nat.testBit_two_pow]
theorem leftN_far (u e : Nat) : ∀ n, n ≤ e → leftN n (u ||| 2 ^ e) = leftN n u := by
  intro n
  induction n with
  | zero => intro _; rfl
  | succ n ih =>
    intro h
    rw [leftN_succ, leftN_succ, ih (by omega), bit_or, decide_eq_false (by omega), Bool.or_false]
theorem leftN_set (u e : Nat) (hb : u.testBit e = false) : ∀ n, e < n → leftN n (u ||| 2 ^ e) + 1 = leftN n u := by
  intro n
  induction n with
  | zero => intro h; omega
  | succ n ih =>
    intro h
    rw [leftN_succ, leftN_succ, bit_or]
    by_cases c : e = n
    · subst c
      rw [leftN_far u e e (Nat.le_refl _), hb]
      simp
    · have := ih (by omega)
      rw [decide_eq_false c, Bool.or_false]
      omega
theorem leftN_zero {n u : Nat} (hu : u < 2 ^ n) : leftN n u = 0 ↔ u = 2 ^ n - 1 := by
  unfold leftN
  rw [List.countP_eq_zero]
  constructor
  · intro h
    refine Nat.eq_of_testBit_eq fun i => ?_
    rw [Nat.testBit_two_pow_sub_one]
    by_cases c : i < n
    · have := h i (List.mem_range.2 c)
      rw [decide_eq_true c]
      simpa using this
    · rw [decide_eq_false c]
      exact Nat.testBit_lt_two_pow (Nat.lt_of_lt_of_le hu (Nat.pow_le_pow_right (by omega) (by omega)))
  · rintro rfl i hi
    rw [Nat.testBit_two_pow_sub_one, decide_eq_true (List.mem_range.1 hi)]
    simp
theorem leftN_nought (n : Nat) : leftN n 0 = n := by
  unfold leftN
  rw [List.countP_eq_length.2 (fun a _ => by simp), List.length_range]
/-- The other end of a line. -/
def nextOf (r : List Int) (p : Int) : Option Int := if p = rd r 0 then some (rd r 1) else if p = rd r 1 then some (rd r 0) else none
def stepL {α : Type} (f : Nat → Option α) : Nat → Nat → Option α
  | 0, _ => none
  | d + 1, i => match f i with
    | some p => some p
    | none => stepL f d (i + 1)
/-- The first way on from a point with all lines that are left; j of them are. -/
def dfs (ls : List (List Int)) : Nat → Nat → Int → Option (List Int)
  | 0, _, _ => some []
  | j + 1, u, a => stepL (fun i => if u.testBit i = true then none else match nextOf (ls.getD i []) a with
    | none => none
    | some p => (dfs ls j (u + 2 ^ i) p).map fun q => (i : Int) :: q) ls.length 0
def dfsAt (ls : List (List Int)) (u : Nat) (a : Int) : Option (List Int) := dfs ls (leftN ls.length u) u a
/-- What one line gives. -/
def dfsBr (ls : List (List Int)) (u : Nat) (a : Int) (i : Nat) : Option (List Int) := if u.testBit i = true then none else match nextOf (ls.getD i []) a with
    | none => none
    | some p => (dfsAt ls (u + 2 ^ i) p).map fun q => (i : Int) :: q
theorem stepL_congr {α : Type} {f g : Nat → Option α} : ∀ (d i : Nat), (∀ x, i ≤ x → x < i + d → f x = g x) → stepL f d i = stepL g d i := by
  intro d
  induction d with
  | zero => intro i _; rfl
  | succ d ih =>
    intro i h
    simp only [stepL]
    rw [h i (Nat.le_refl _) (by omega), ih (i + 1) (fun x h1 h2 => h x (by omega) (by omega))]
theorem dfsAt_full {ls : List (List Int)} {u : Nat} (a : Int) (hu : u = 2 ^ ls.length - 1) : dfsAt ls u a = some [] := by
  unfold dfsAt
  rw [(leftN_zero (by have := Nat.two_pow_pos ls.length; omega)).2 hu]
  rfl
theorem left_add {n u i : Nat} (hi : i < n) (hb : u.testBit i = false) : leftN n (u + 2 ^ i) + 1 = leftN n u := by
  rw [← or_add u i hb]
  exact leftN_set u i hb n hi
theorem dfsAt_step {ls : List (List Int)} {u : Nat} (a : Int) (h2 : u < 2 ^ ls.length) (hu : u ≠ 2 ^ ls.length - 1) : dfsAt ls u a = stepL (dfsBr ls u a) ls.length 0 := by
  obtain ⟨j, hj⟩ : ∃ j, leftN ls.length u = j + 1 := ⟨leftN ls.length u - 1, by
    have := mt (leftN_zero h2).1 hu
    omega⟩
  unfold dfsAt
  rw [hj]
  simp only [dfs]
  refine stepL_congr _ _ fun i _ hi => ?_
  unfold dfsBr
  by_cases c : u.testBit i = true
  · rw [if_pos c, if_pos c]
  · rw [if_neg c, if_neg c]
    have := left_add (n := ls.length) (u := u) (i := i) (by omega) (by simpa using c)
    unfold dfsAt
    rw [show leftN ls.length (u + 2 ^ i) = j by omega]
theorem used_lt2 {n u i : Nat} (h : u < 2 ^ n) (hi : i < n) (hb : u.testBit i = false) : u + 2 ^ i < 2 ^ n := by
  rw [← or_add u i hb]
  exact Nat.or_lt_two_pow h (Nat.pow_lt_pow_right (by omega) hi)
theorem stepL_some {α : Type} {f : Nat → Option α} {p : α} : ∀ (d i : Nat), stepL f d i = some p → ∃ x, i ≤ x ∧ x < i + d ∧ f x = some p := by
  intro d
  induction d with
  | zero => intro i h; simp [stepL] at h
  | succ d ih =>
    intro i h
    simp only [stepL] at h
    cases hf : f i with
    | some q =>
      rw [hf] at h
      exact ⟨i, Nat.le_refl _, by omega, by rw [hf]; exact h⟩
    | none =>
      rw [hf] at h
      obtain ⟨x, h1, h2, h3⟩ := ih (i + 1) h
      exact ⟨x, by omega, by omega, h3⟩
theorem nextOf_some {r : List Int} {a p : Int} (h : nextOf r a = some p) : (a = rd r 0 ∧ p = rd r 1) ∨ (¬ a = rd r 0 ∧ a = rd r 1 ∧ p = rd r 0) := by
  unfold nextOf at h
  by_cases c : a = rd r 0
  · rw [if_pos c] at h; exact .inl ⟨c, (Option.some.inj h).symm⟩
  · rw [if_neg c] at h
    by_cases c2 : a = rd r 1
    · rw [if_pos c2] at h; exact .inr ⟨c, c2, (Option.some.inj h).symm⟩
    · rw [if_neg c2] at h; cases h
theorem along_eq {r : List Int} (h : r.length = 2) (p : Int) : impl_along.f r p = some ((nextOf r p).getD 0, (nextOf r p).isSome) := by
  unfold impl_along.f nextOf
  rw [if_pos (by omega)]
  by_cases c : p = rd r 0
  · rw [if_pos c, if_pos c, if_pos (by omega)]
    rfl
  · rw [if_neg c, if_neg c, if_pos (by omega)]
    by_cases c2 : p = rd r 1
    · rw [if_pos c2, if_pos c2]
      rfl
    · rw [if_neg c2, if_neg c2]
      rfl
theorem has_eq (u i : Nat) (hu : u < 2 ^ 63) (hi : i < 64) : impl_has.f (u : Int) (i : Int) = some (u.testBit i) := by
  unfold impl_has.f
  rw [if_pos (by omega), bit_nat u i hu hi]
  cases u.testBit i <;> rfl
def Sound (ls : List (List Int)) (F : Int → Int → Bool) : Prop := ∀ (u : Nat) (a : Int), u < 2 ^ ls.length → F (u : Int) a = true → dfsAt ls u a = none
theorem sound_upd {ls : List (List Int)} {F : Int → Int → Bool} (h : Sound ls F) {u : Nat} {a : Int} (hd : dfsAt ls u a = none) : Sound ls (upd F (u : Int) a) := by
  intro u' a' hu' hF
  unfold upd at hF
  by_cases c : ((u' : Int) = (u : Int)) ∧ a' = a
  · obtain ⟨c1, rfl⟩ := c
    obtain rfl : u' = u := by omega
    exact hd
  · rw [if_neg c] at hF
    exact h u' a' hu' hF
theorem pow_le12 {n : Nat} (h : n ≤ 12) : 2 ^ n ≤ 4096 := Nat.pow_le_pow_right (by omega) h
theorem shl_one' (i : Nat) (hi : i < 62) : shl .i64 1 (i : Int) = ((2 ^ i : Nat) : Int) := shl_one i hi
theorem nextOf_ok {n : Nat} {r : List Int} (h : LineOk n r) {a p : Int} (hp : nextOf r a = some p) : ∃ q : Nat, p = (q : Int) ∧ q < n := by
  obtain ⟨x, y, e0, e1, hx, hy⟩ := line_nat h
  rcases nextOf_some hp with ⟨_, e⟩ | ⟨_, _, e⟩
  · exact ⟨y, by rw [e, e1], hy⟩
  · exact ⟨x, by rw [e, e0], hx⟩
theorem impl_g_ev {n : Nat} (hn : n ≤ 8) (ls : List (List Int)) (hl : ls.length ≤ 12) (hr : ∀ r ∈ ls, LineOk n r) : ∀ (j u a : Nat) (F : Int → Int → Bool) (m : Nat) (st : List Int), leftN ls.length u = j → u < 2 ^ ls.length → a < n → Sound ls F → st.length + j = ls.length → m + 13 ^ j ≤ 900000000000000000 →
    ∃ F' m', Ev (fun k => impl_FirstStroke.g k ls (u : Int) (a : Int) F m st) ((dfsAt ls u (a : Int)).isSome, F', m', st ++ (dfsAt ls u (a : Int)).getD []) ∧ (dfsAt ls u (a : Int) = none → Sound ls F' ∧ m' ≤ m + 13 ^ j) := by
  have h12 := pow_le12 hl
  intro j
  induction j with
  | zero =>
    intro u a F m st hj hu ha hF hst hm
    have hfull := (leftN_zero hu).1 hj
    rw [dfsAt_full (a : Int) hfull]
    refine ⟨F, m, Ev.step (f := fun _ => some (true, F, m, st)) (fun k => ?_) (ev_eq (Ev.now _) (by simp)), fun h => by cases h⟩
    simp only [impl_FirstStroke.g]
    rw [mask_all ls.length hl, if_pos (by rw [hfull])]
  | succ j ih =>
    intro u a F m st hj hu ha hF hst hm
    have hnf : u ≠ 2 ^ ls.length - 1 := by rw [Ne, ← leftN_zero hu]; omega
    have hpow : 13 ^ (j + 1) = 13 * 13 ^ j := by rw [Nat.pow_succ]; omega
    have hpos : 0 < 13 ^ j := Nat.pow_pos (by omega)
    have loop : ∀ (d i : Nat) (F : Int → Int → Bool) (m1 : Nat), i + d = ls.length → Sound ls F → m1 ≤ m + i * 13 ^ j → dfsAt ls u (a : Int) = stepL (dfsBr ls u (a : Int)) d i →
        ∃ F' m', Ev (fun k => impl_FirstStroke.l k ls (u : Int) (a : Int) F m1 st (i : Int)) ((dfsAt ls u (a : Int)).isSome, F', m', st ++ (dfsAt ls u (a : Int)).getD []) ∧ (dfsAt ls u (a : Int) = none → Sound ls F' ∧ m' ≤ m + 13 ^ (j + 1)) := by
      intro d
      induction d with
      | zero =>
        intro i F m1 hi hF hm1 hd
        obtain rfl : i = ls.length := by omega
        have hd' : dfsAt ls u (a : Int) = none := hd
        have hmul : ls.length * 13 ^ j ≤ 12 * 13 ^ j := Nat.mul_le_mul_right _ hl
        rw [hd']
        refine ⟨upd F (u : Int) (a : Int), m1 + 1, Ev.step (f := fun _ => some (false, upd F (u : Int) (a : Int), m1 + 1, st)) (fun k => ?_) (ev_eq (Ev.now _) (by simp)), fun _ => ⟨sound_upd hF hd', by omega⟩⟩
        rw [impl_FirstStroke.l, if_neg (by omega), if_pos (by omega)]
      | succ d ihd =>
        intro i F m1 hi hF hm1 hd
        have hlt : i < ls.length := by omega
        have hrow : rd_L1 ls (i : Int) = ls.getD i [] := by simp [rd_L1]
        have hm : ls.getD i [] ∈ ls := by simp [List.getD_eq_getElem?_getD, hlt]
        have hL := hr _ hm
        have hmul : i * 13 ^ j ≤ 11 * 13 ^ j := Nat.mul_le_mul_right _ (by omega)
        have hmul1 : (i + 1) * 13 ^ j = i * 13 ^ j + 13 ^ j := by rw [Nat.add_mul, Nat.one_mul]
        have hal := along_eq hL.len (a : Int)
        rw [← hrow] at hal
        simp only [stepL] at hd
        have hnext : ((i : Int) + 1) = ((i + 1 : Nat) : Int) := by omega
        cases hn1 : nextOf (ls.getD i []) (a : Int) with
        | none =>
          have hb : dfsBr ls u (a : Int) i = none := by
            unfold dfsBr
            rw [hn1]
            split <;> rfl
          rw [hb] at hd
          obtain ⟨F', m', h1, h2⟩ := ihd (i + 1) F m1 (by omega) hF (by omega) hd
          refine ⟨F', m', Ev.step (fun k => ?_) h1, h2⟩
          rw [impl_FirstStroke.l, if_pos (by omega), if_pos (by omega), hal, hrow, hn1, Option.bind_some, if_neg (by simp), w64 (by omega) (by omega)]
          rfl
        | some p =>
          obtain ⟨q, rfl, hq⟩ := nextOf_ok hL hn1
          cases hb : u.testBit i with
          | true =>
            have hbr : dfsBr ls u (a : Int) i = none := by
              unfold dfsBr
              rw [if_pos hb]
            rw [hbr] at hd
            obtain ⟨F', m', h1, h2⟩ := ihd (i + 1) F m1 (by omega) hF (by omega) hd
            refine ⟨F', m', Ev.step (fun k => ?_) h1, h2⟩
            rw [impl_FirstStroke.l, if_pos (by omega), if_pos (by omega), hal, hrow, hn1, Option.bind_some, if_pos (show ((some (q : Int)).getD 0, (some (q : Int)).isSome).2 = true from rfl), has_eq u i (by omega) (by omega), Option.bind_some, if_pos hb, w64 (by omega) (by omega)]
            rfl
          | false =>
            have hbr : dfsBr ls u (a : Int) i = (dfsAt ls (u + 2 ^ i) (q : Int)).map fun z => (i : Int) :: z := by
              unfold dfsBr
              rw [if_neg (by rw [hb]; simp), hn1]
            rw [hbr] at hd
            have hl1 := left_add (n := ls.length) hlt hb
            have hu2 := used_lt2 hu hlt hb
            have hor : Go.bits .or .i64 (u : Int) (shl .i64 1 (i : Int)) = ((u + 2 ^ i : Nat) : Int) := by
              rw [shl_one' i (by omega), or_nat u (2 ^ i) (by omega) (by omega), or_add u i hb]
            obtain ⟨F1, m2, g1, g2⟩ := ih (u + 2 ^ i) q F m1 (st ++ [(i : Int)]) (by omega) hu2 hq hF (by rw [List.length_append]; simp; omega) (by omega)
            cases hr1 : dfsAt ls (u + 2 ^ i) (q : Int) with
            | some z =>
              rw [hr1] at hd g1
              have hd' : dfsAt ls u (a : Int) = some ((i : Int) :: z) := hd
              rw [hd']
              refine ⟨F1, m2, ?_, fun h => by cases h⟩
              refine Ev.step (f := fun k => (impl_FirstStroke.g k ls ((u + 2 ^ i : Nat) : Int) (q : Int) F m1 (st ++ [(i : Int)])).bind fun r => if r.1 = true then some r else (if 0 < r.2.2.2.length ∧ r.2.2.2.length < 1000 then impl_FirstStroke.l k ls (u : Int) (a : Int) r.2.1 r.2.2.1 (r.2.2.2.take (r.2.2.2.length - 1)) (wrap64 ((i : Int) + 1)) else none)) (fun k => ?_) (Ev.bind g1 (Ev.congr (fun k => if_pos rfl) (ev_eq (Ev.now _) (by simp))))
              rw [impl_FirstStroke.l, if_pos (by omega), if_pos (by omega), hal, hrow, hn1, Option.bind_some, if_pos (show ((some (q : Int)).getD 0, (some (q : Int)).isSome).2 = true from rfl), has_eq u i (by omega) (by omega), Option.bind_some, if_neg (by rw [hb]; simp), if_pos (by omega), hor]
              rfl
            | none =>
              rw [hr1] at hd g1
              obtain ⟨s1, s2⟩ := g2 hr1
              obtain ⟨F', m', h1, h2⟩ := ihd (i + 1) F1 m2 (by omega) s1 (by omega) hd
              refine ⟨F', m', ?_, h2⟩
              refine Ev.step (f := fun k => (impl_FirstStroke.g k ls ((u + 2 ^ i : Nat) : Int) (q : Int) F m1 (st ++ [(i : Int)])).bind fun r => if r.1 = true then some r else (if 0 < r.2.2.2.length ∧ r.2.2.2.length < 1000 then impl_FirstStroke.l k ls (u : Int) (a : Int) r.2.1 r.2.2.1 (r.2.2.2.take (r.2.2.2.length - 1)) (wrap64 ((i : Int) + 1)) else none)) (fun k => ?_) (Ev.bind g1 (Ev.congr (fun k => if_neg (by simp)) (Ev.congr (fun k => if_pos (by simp; omega)) ?_)))
              · rw [impl_FirstStroke.l, if_pos (by omega), if_pos (by omega), hal, hrow, hn1, Option.bind_some, if_pos (show ((some (q : Int)).getD 0, (some (q : Int)).isSome).2 = true from rfl), has_eq u i (by omega) (by omega), Option.bind_some, if_neg (by rw [hb]; simp), if_pos (by omega), hor]
                rfl
              · have e1 : ((st ++ [(i : Int)]) ++ (none : Option (List Int)).getD []).take (((st ++ [(i : Int)]) ++ (none : Option (List Int)).getD []).length - 1) = st := by simp
                simp only [e1]
                rw [w64 (by omega) (by omega), hnext]
                exact h1
    by_cases hmem : F (u : Int) (a : Int) = true
    · have hd := hF u (a : Int) hu hmem
      rw [hd]
      refine ⟨F, m, Ev.step (f := fun _ => some (false, F, m, st)) (fun k => ?_) (ev_eq (Ev.now _) (by simp)), fun _ => ⟨hF, by omega⟩⟩
      rw [impl_FirstStroke.g, mask_all ls.length hl, if_neg (by omega), if_pos (by omega), if_pos hmem]
    · obtain ⟨F', m', h1, h2⟩ := loop ls.length 0 F m (by omega) hF (by omega) (dfsAt_step (a : Int) hu hnf)
      refine ⟨F', m', Ev.step (fun k => ?_) h1, h2⟩
      rw [impl_FirstStroke.g, mask_all ls.length hl, if_neg (by omega), if_pos (by omega), if_neg hmem]
      rfl
/-- What both come to. -/
def firstStroke (n : Int) (l : List (List Int)) (s : Int) : List Int × Bool := if drawOk n l = true ∧ (0 ≤ s ∧ s ≤ n - 1) then (match dfsAt l 0 s with | some q => (q, true) | none => ([], false)) else ([], false)
theorem impl_FirstStroke_ev (n : Int) (l : List (List Int)) (s : Int) : Ev (fun k => impl_FirstStroke.f k n l s) (firstStroke n l s) := by
  unfold impl_FirstStroke.f firstStroke
  refine Ev.bind (impl_IsDrawing_ev n l) ?_
  by_cases c : drawOk n l = true
  · obtain ⟨m, rfl⟩ := draw_nat c
    obtain ⟨h1, h2, h3, h4⟩ := drawOk_lines c
    refine Ev.congr (fun k => if_pos c) ?_
    rw [w64 (x := (m : Int) - 1) (by omega) (by omega)]
    refine Ev.bind (ev_const (within_eq s 0 ((m : Int) - 1))) ?_
    by_cases c1 : 0 ≤ s ∧ s ≤ (m : Int) - 1
    · rw [if_pos ⟨c, c1⟩]
      refine Ev.congr (fun k => if_pos (by simpa using c1)) ?_
      obtain ⟨a, rfl⟩ := Int.eq_ofNat_of_zero_le c1.1
      have hl0 : leftN l.length 0 = l.length := leftN_nought _
      have hp : 13 ^ l.length ≤ 13 ^ 12 := Nat.pow_le_pow_right (by omega) h3
      obtain ⟨F', m', g1, _⟩ := impl_g_ev h2 l h3 h4 l.length 0 a (fun _ _ => false) 0 [] hl0 (Nat.two_pow_pos _) (by omega) (fun _ _ _ h => by cases h) (by simp) (by omega)
      refine Ev.bind g1 ?_
      cases dfsAt l 0 (a : Int) with
      | some q => exact Ev.congr (fun k => if_pos rfl) (ev_eq (Ev.now _) (by simp))
      | none => exact Ev.congr (fun k => if_neg (by simp)) (Ev.now _)
    · rw [if_neg (fun z => c1 z.2)]
      exact Ev.congr (fun k => if_neg (by simpa using c1)) (Ev.now _)
  · rw [if_neg (fun z => c z.1)]
    exact Ev.congr (fun k => if_neg c) (Ev.now _)
end Go.Proofs.Ytcdajmbnijmdfaa.PA
/- first strokes, CanTrace: both texts. -/
namespace Go.Proofs.Ytcdajmbnijmdfaa.PA
open Go.RowKit Go.Proofs.YtcdajmbnijmdfaaW.PrintWords Go.Proofs.YtcdajmbnijmdfaaW.PrintLast Go.Proofs.YtcdajmbnijmdfaaW.PrintMore
set_option linter.unusedVariables false
set_option linter.unusedSimpArgs false
def canTrace (n : Int) (l : List (List Int)) : Bool := (List.range (mn (mx n 0) 8).toNat).any fun i => (firstStroke n l (i : Int)).2
theorem any_range (p : Nat → Bool) {m i : Nat} (h : i < m) : ((List.range m).drop i).any p = (p i || ((List.range m).drop (i + 1)).any p) := by
  rw [List.drop_eq_getElem_cons (by simpa using h), List.any_cons]
  simp
theorem impl_can_l (n : Int) (l : List (List Int)) (m : Nat) (hm : m ≤ 8) : ∀ (d i : Nat), i + d = m → Ev (fun k => impl_CanTrace.l0 k n l (m : Int) (i : Int)) (((List.range m).drop i).any fun i => (firstStroke n l (i : Int)).2) := by
  intro d
  induction d with
  | zero =>
    intro i hi
    refine Ev.step (f := fun _ => some false) (fun k => ?_) (ev_eq (Ev.now _) (by rw [List.drop_of_length_le (by simp; omega)]; rfl))
    rw [impl_CanTrace.l0, if_neg (by omega)]
  | succ d ih =>
    intro i hi
    rw [any_range _ (by omega : i < m)]
    have e := ih (i + 1) (by omega)
    refine Ev.step (f := fun k => (impl_FirstStroke.f k n l (i : Int)).bind fun bt => if bt.2 = true then some true else impl_CanTrace.l0 k n l (m : Int) (wrap64 ((i : Int) + 1))) (fun k => ?_) (Ev.bind (impl_FirstStroke_ev n l (i : Int)) ?_)
    · rw [impl_CanTrace.l0, if_pos (by omega)]
    · by_cases c : (firstStroke n l (i : Int)).2 = true
      · rw [c]
        exact Ev.congr (fun k => if_pos rfl) (ev_eq (Ev.now _) (by simp))
      · rw [show (firstStroke n l (i : Int)).2 = false by simpa using c, Bool.false_or]
        refine Ev.congr (fun k => if_neg (by simp)) ?_
        rw [w64 (by omega) (by omega)]
        exact e
theorem impl_CanTrace_ev (n : Int) (l : List (List Int)) : Ev (fun k => impl_CanTrace.f k n l) (canTrace n l) := by
  unfold impl_CanTrace.f canTrace
  have hb : 0 ≤ mn (mx n 0) 8 ∧ mn (mx n 0) 8 ≤ 8 := by unfold mn mx; split <;> split <;> omega
  obtain ⟨m, hm⟩ := Int.eq_ofNat_of_zero_le hb.1
  rw [hm, Int.toNat_natCast]
  exact impl_can_l n l m (by omega) m 0 (by omega)
end Go.Proofs.Ytcdajmbnijmdfaa.PA
/- odd points -/
namespace Go.Proofs.Ytcdajmbnijmdfaa.PA
open Go.RowKit Go.Proofs.YtcdajmbnijmdfaaW.PrintWords Go.Proofs.YtcdajmbnijmdfaaW.PrintLast Go.Proofs.YtcdajmbnijmdfaaW.PrintMore
set_option linter.unusedVariables false
set_option linter.unusedSimpArgs false
def oddL : List Int → Nat → List Int
  | [], _ => []
  | d :: l, i => if d % 2 = 1 then (i : Int) :: oddL l (i + 1) else oddL l (i + 1)
theorem oddL_len : ∀ (l : List Int) (i : Nat), (oddL l i).length ≤ l.length := by
  intro l
  induction l with
  | nil => intro i; simp [oddL]
  | cons d l ih =>
    intro i
    simp only [oddL]
    have := ih (i + 1)
    split <;> simp <;> omega
def odds (n : Nat) (l : List (List Int)) : List Int := oddL (degs n l) 0
theorem odds_len (n : Nat) (l : List (List Int)) : (odds n l).length ≤ n := by
  have := oddL_len (degs n l) 0
  rw [degs_len] at this
  exact this
theorem impl_odd_l (ds : List Int) (hl : ds.length ≤ 8) (hb : ∀ x ∈ ds, 0 ≤ x) : ∀ (m i : Nat) (acc : List Int), i + m = ds.length → acc.length ≤ i →
    Ev (fun k => impl_OddPoints.l0 k acc ds (ds.length : Int) (i : Int)) (acc ++ oddL (ds.drop i) i) := by
  intro m
  induction m with
  | zero =>
    intro i acc hi ha
    refine Ev.step (f := fun _ => some (acc ++ oddL (ds.drop i) i)) (fun k => ?_) (Ev.now _)
    simp only [impl_OddPoints.l0]
    rw [if_neg (by omega), List.drop_of_length_le (by omega)]
    simp [oddL]
  | succ m ih =>
    intro i acc hi ha
    have hlt : i < ds.length := by omega
    have hx := hb ds[i] (List.getElem_mem hlt)
    rw [List.drop_eq_getElem_cons hlt]
    simp only [oddL]
    have ht : Int.tmod ds[i] 2 = ds[i] % 2 := Int.tmod_eq_emod_of_nonneg hx
    by_cases c : ds[i] % 2 = 1
    · rw [if_pos c]
      have h := ih (i + 1) (acc ++ [(i : Int)]) (by omega) (by simp; omega)
      rw [List.append_assoc, List.singleton_append] at h
      refine Ev.step (f := fun k => impl_OddPoints.l0 k (acc ++ [(i : Int)]) ds (ds.length : Int) ((i + 1 : Nat) : Int)) (fun k => ?_) h
      simp only [impl_OddPoints.l0]
      rw [if_pos (by omega), if_pos (by omega), if_pos (by omega), rd_get hlt, ht, if_pos c, if_pos (by omega), w64 (by omega) (by omega)]
      rfl
    · rw [if_neg c]
      refine Ev.step (f := fun k => impl_OddPoints.l0 k acc ds (ds.length : Int) ((i + 1 : Nat) : Int)) (fun k => ?_) (ih (i + 1) acc (by omega) (by omega))
      simp only [impl_OddPoints.l0]
      rw [if_pos (by omega), if_pos (by omega), if_pos (by omega), rd_get hlt, ht, if_neg c, w64 (by omega) (by omega)]
      rfl
theorem impl_OddPoints_ev (n : Int) (l : List (List Int)) : Ev (fun k => impl_OddPoints.f k n l) (if drawOk n l then odds n.toNat l else []) := by
  unfold impl_OddPoints.f
  refine Ev.bind (impl_IsDrawing_ev n l) ?_
  by_cases c : drawOk n l = true
  · rw [if_pos c]
    refine Ev.congr (fun k => if_pos c) ?_
    obtain ⟨m, rfl⟩ := Int.eq_ofNat_of_zero_le (a := n) (by have := (drawOk_iff.1 c).1; omega)
    obtain ⟨h1, h2, h3, h4⟩ := drawOk_lines c
    rw [Int.toNat_natCast]
    refine Ev.bind (impl_deg_ev l h2 h3 h4) ?_
    exact impl_odd_l (degs m l) (by rw [degs_len]; omega) (fun x hx => (degs_bd m l x hx).1) (degs m l).length 0 [] (by omega) (by simp)
  · rw [if_neg c]
    exact Ev.congr (fun k => if_neg c) (Ev.now _)
end Go.Proofs.Ytcdajmbnijmdfaa.PA
/- one more line -/
namespace Go.Proofs.Ytcdajmbnijmdfaa.PA
open Go.RowKit Go.Proofs.YtcdajmbnijmdfaaW.PrintWords Go.Proofs.YtcdajmbnijmdfaaW.PrintLast Go.Proofs.YtcdajmbnijmdfaaW.PrintMore
set_option linter.unusedVariables false
set_option linter.unusedSimpArgs false
theorem copyLists_l (l : List (List Int)) (hl : l.length ≤ 1048576) (hr : ∀ r ∈ l, r.length ≤ 1048576) : ∀ (m i : Nat) (acc : List (List Int)), i + m = l.length → acc = l.take i →
    Ev (fun k => impl_copyLists.l0 k acc l (l.length : Int) (i : Int)) l := by
  intro m
  induction m with
  | zero =>
    intro i acc hi ha
    refine Ev.step (f := fun _ => some l) (fun k => ?_) (Ev.now _)
    simp only [impl_copyLists.l0]
    rw [if_neg (by omega), ha, List.take_of_length_le (by omega)]
  | succ m ih =>
    intro i acc hi ha
    have hlt : i < l.length := by omega
    have hx := hr l[i] (List.getElem_mem hlt)
    have hacc : acc.length ≤ i := by rw [ha, List.length_take]; omega
    refine Ev.step (f := fun k => impl_copyLists.l0 k (acc ++ [l[i]]) l (l.length : Int) ((i + 1 : Nat) : Int)) (fun k => ?_) (ih (i + 1) (acc ++ [l[i]]) (by omega) (by rw [takeL_step hlt, ha]))
    simp only [impl_copyLists.l0, Option.bind_some]
    rw [if_pos (by omega), if_pos (by omega), if_pos (by omega), rdL_get hlt, if_pos (by simp; omega), if_pos (by omega), w64 (by omega) (by omega)]
    simp
theorem copyLists_ev (l : List (List Int)) (hl : l.length ≤ 1048576) (hr : ∀ r ∈ l, r.length ≤ 1048576) : Ev (fun k => impl_copyLists.f k l) l :=
  copyLists_l l hl hr l.length 0 [] (by omega) (by simp)
def withLine (n : Int) (l : List (List Int)) (a b : Int) : List (List Int) × Bool := if drawOk n l = true ∧ drawOk n (l ++ [[a, b]]) = true then (l ++ [[a, b]], true) else ([], false)
theorem impl_WithLine_ev (n : Int) (l : List (List Int)) (a b : Int) (hl : l.length ≤ 1048576) : Ev (fun k => impl_WithLine.f k n l a b) (withLine n l a b) := by
  unfold impl_WithLine.f withLine
  refine Ev.bind (impl_IsDrawing_ev n l) ?_
  by_cases c : drawOk n l = true
  · refine Ev.congr (fun k => if_pos c) ?_
    have h2 := (drawOk_iff.1 c).2
    refine Ev.bind (copyLists_ev l hl (fun r hr => by have := (of_decide_eq_true (h2 r hr)).1; omega)) ?_
    refine Ev.congr (f := fun k => (impl_IsDrawing.f k n (l ++ [[a, b]])).bind fun t => if t = true then some (l ++ [[a, b]], true) else some ([], false)) (fun k => if_pos (by omega)) ?_
    refine Ev.bind (impl_IsDrawing_ev n (l ++ [[a, b]])) ?_
    by_cases c2 : drawOk n (l ++ [[a, b]]) = true
    · exact ev_eq (Ev.congr (fun k => if_pos c2) (Ev.now _)) (if_pos ⟨c, c2⟩).symm
    · exact ev_eq (Ev.congr (fun k => if_neg c2) (Ev.now _)) (if_neg (fun z => c2 z.2)).symm
  · exact ev_eq (Ev.congr (fun k => if_neg c) (Ev.now _)) (if_neg (fun z => c z.1)).symm
end Go.Proofs.Ytcdajmbnijmdfaa.PA
