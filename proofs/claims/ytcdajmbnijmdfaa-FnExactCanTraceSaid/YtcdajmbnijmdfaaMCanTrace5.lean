/- Texts of this claim put together in build order (FnExactCanTrace). -/
import Derived.Test.YtcdajmbnijmdfaaMCanTrace4
import Derived.Test.YtcdajmbnijmdfaaMCanTrace0
import Derived.Test.YtcdajmbnijmdfaaMCanTrace2
import Derived.Deep.Matrix
import Derived.Test.YtcdajmbnijmdfaaRows
import Derived.WalkKit
import Derived.ProofKit
import Derived.OpenShut
import Derived.ShutString
import Derived.ChangeOld
import Derived.Below
import Derived.SizedLaws
/- first strokes -/
namespace Go.Proofs.Ytcdajmbnijmdfaa.PA
open Go.RowKit Go.Proofs.YtcdajmbnijmdfaaW.PrintWords Go.Proofs.YtcdajmbnijmdfaaW.PrintLast Go.Proofs.YtcdajmbnijmdfaaW.PrintMore
set_option linter.unusedVariables false
set_option linter.unusedSimpArgs false
def leftN (n u : Nat) : Nat := (List.range n).countP fun i => !u.testBit i
theorem leftN_succ (n u : Nat) : leftN (n + 1) u = leftN n u + (if u.testBit n then 0 else 1) := by
  unfold leftN
  rw [List.range_succ, List.countP_append, List.countP_singleton]
  cases u.testBit n <;> simp
theorem bit_or (u i e : Nat) : (u ||| 2 ^ e).testBit i = (u.testBit i || decide (e = i)) := by
  rw [Nat.testBit_or, Nat.testBit_two_pow]
theorem leftN_far (u e : Nat) : ∀ n, n ≤ e → leftN n (u ||| 2 ^ e) = leftN n u := by
  intro n
  induction n with
  | zero => intro _; rfl
  | succ n ih =>
    intro h
    rw [leftN_succ, leftN_succ, ih (by omega), bit_or, decide_eq_false (by omega), Bool.or_false]
theorem leftN_set (u e : Nat) (hb : u.testBit e = false) : ∀ n, e < n → leftN n (u ||| 2 ^ e) + 1 = leftN n u := by
  intro n
  induction n with
  | zero => intro h; omega
  | succ n ih =>
    intro h
    rw [leftN_succ, leftN_succ, bit_or]
    by_cases c : e = n
    · subst c
      rw [leftN_far u e e (Nat.le_refl _), hb]
      simp
    · have := ih (by omega)
      rw [decide_eq_false c, Bool.or_false]
      omega
theorem leftN_zero {n u : Nat} (hu : u < 2 ^ n) : leftN n u = 0 ↔ u = 2 ^ n - 1 := by
  unfold leftN
  rw [List.countP_eq_zero]
  constructor
  · intro h
    refine Nat.eq_of_testBit_eq fun i => ?_
    rw [Nat.testBit_two_pow_sub_one]
    by_cases c : i < n
    · have := h i (List.mem_range.2 c)
      rw [decide_eq_true c]
      simpa using this
    · rw [decide_eq_false c]
      exact Nat.testBit_lt_two_pow (Nat.lt_of_lt_of_le hu (Nat.pow_le_pow_right (by omega) (by omega)))
  · rintro rfl i hi
    rw [Nat.testBit_two_pow_sub_one, decide_eq_true (List.mem_range.1 hi)]
    simp
theorem leftN_le (n u : Nat) : leftN n u ≤ n := by
  unfold leftN
  have := List.countP_le_length (p := fun i => !u.testBit i) (l := List.range n)
  simpa using this
theorem leftN_nought (n : Nat) : leftN n 0 = n := by
  unfold leftN
  rw [List.countP_eq_length.2 (fun a _ => by simp), List.length_range]
/-- The other end of a line. -/
def nextOf (r : List Int) (p : Int) : Option Int := if p = rd r 0 then some (rd r 1) else if p = rd r 1 then some (rd r 0) else none
def stepL {α : Type} (f : Nat → Option α) : Nat → Nat → Option α
  | 0, _ => none
  | d + 1, i => match f i with
    | some p => some p
    | none => stepL f d (i + 1)
/-- The first way on from a point with all lines that are left; j of them are. -/
def dfs (ls : List (List Int)) : Nat → Nat → Int → Option (List Int)
  | 0, _, _ => some []
  | j + 1, u, a => stepL (fun i => if u.testBit i = true then none else match nextOf (ls.getD i []) a with
    | none => none
    | some p => (dfs ls j (u + 2 ^ i) p).map fun q => (i : Int) :: q) ls.length 0
def dfsAt (ls : List (List Int)) (u : Nat) (a : Int) : Option (List Int) := dfs ls (leftN ls.length u) u a
/-- What one line gives. -/
def dfsBr (ls : List (List Int)) (u : Nat) (a : Int) (i : Nat) : Option (List Int) := if u.testBit i = true then none else match nextOf (ls.getD i []) a with
    | none => none
    | some p => (dfsAt ls (u + 2 ^ i) p).map fun q => (i : Int) :: q
theorem stepL_congr {α : Type} {f g : Nat → Option α} : ∀ (d i : Nat), (∀ x, i ≤ x → x < i + d → f x = g x) → stepL f d i = stepL g d i := by
  intro d
  induction d with
  | zero => intro i _; rfl
  | succ d ih =>
    intro i h
    simp only [stepL]
    rw [h i (Nat.le_refl _) (by omega), ih (i + 1) (fun x h1 h2 => h x (by omega) (by omega))]
theorem dfsAt_full {ls : List (List Int)} {u : Nat} (a : Int) (hu : u = 2 ^ ls.length - 1) : dfsAt ls u a = some [] := by
  unfold dfsAt
  rw [(leftN_zero (by have := Nat.two_pow_pos ls.length; omega)).2 hu]
  rfl
theorem left_add {n u i : Nat} (hi : i < n) (hb : u.testBit i = false) : leftN n (u + 2 ^ i) + 1 = leftN n u := by
  rw [← or_add u i hb]
  exact leftN_set u i hb n hi
theorem dfsAt_step {ls : List (List Int)} {u : Nat} (a : Int) (h2 : u < 2 ^ ls.length) (hu : u ≠ 2 ^ ls.length - 1) : dfsAt ls u a = stepL (dfsBr ls u a) ls.length 0 := by
  obtain ⟨j, hj⟩ : ∃ j, leftN ls.length u = j + 1 := ⟨leftN ls.length u - 1, by
    have := mt (leftN_zero h2).1 hu
    omega⟩
  unfold dfsAt
  rw [hj]
  simp only [dfs]
  refine stepL_congr _ _ fun i _ hi => ?_
  unfold dfsBr
  by_cases c : u.testBit i = true
  · rw [if_pos c, if_pos c]
  · rw [if_neg c, if_neg c]
    have := left_add (n := ls.length) (u := u) (i := i) (by omega) (by simpa using c)
    unfold dfsAt
    rw [show leftN ls.length (u + 2 ^ i) = j by omega]
theorem used_lt2 {n u i : Nat} (h : u < 2 ^ n) (hi : i < n) (hb : u.testBit i = false) : u + 2 ^ i < 2 ^ n := by
  rw [← or_add u i hb]
  exact Nat.or_lt_two_pow h (Nat.pow_lt_pow_right (by omega) hi)
theorem stepL_some {α : Type} {f : Nat → Option α} {p : α} : ∀ (d i : Nat), stepL f d i = some p → ∃ x, i ≤ x ∧ x < i + d ∧ f x = some p := by
  intro d
  induction d with
  | zero => intro i h; simp [stepL] at h
  | succ d ih =>
    intro i h
    simp only [stepL] at h
    cases hf : f i with
    | some q =>
      rw [hf] at h
      exact ⟨i, Nat.le_refl _, by omega, by rw [hf]; exact h⟩
    | none =>
      rw [hf] at h
      obtain ⟨x, h1, h2, h3⟩ := ih (i + 1) h
      exact ⟨x, by omega, by omega, h3⟩
theorem dfs_len (ls : List (List Int)) : ∀ (j u : Nat) (a : Int) (q : List Int), dfs ls j u a = some q → q.length = j := by
  intro j
  induction j with
  | zero => intro u a q h; simp only [dfs, Option.some.injEq] at h; subst h; rfl
  | succ j ih =>
    intro u a q h
    simp only [dfs] at h
    obtain ⟨i, _, _, hf⟩ := stepL_some _ _ h
    split at hf
    · cases hf
    · split at hf
      · cases hf
      · obtain ⟨q', hq, rfl⟩ := Option.map_eq_some_iff.1 hf
        rw [List.length_cons, ih _ _ _ hq]
theorem dfsAt_len {ls : List (List Int)} {u : Nat} {a : Int} {q : List Int} (h : dfsAt ls u a = some q) : q.length ≤ ls.length := by
  rw [dfs_len ls _ u a q h]
  exact leftN_le _ _
theorem nextOf_some {r : List Int} {a p : Int} (h : nextOf r a = some p) : (a = rd r 0 ∧ p = rd r 1) ∨ (¬ a = rd r 0 ∧ a = rd r 1 ∧ p = rd r 0) := by
  unfold nextOf at h
  by_cases c : a = rd r 0
  · rw [if_pos c] at h; exact .inl ⟨c, (Option.some.inj h).symm⟩
  · rw [if_neg c] at h
    by_cases c2 : a = rd r 1
    · rw [if_pos c2] at h; exact .inr ⟨c, c2, (Option.some.inj h).symm⟩
    · rw [if_neg c2] at h; cases h
theorem along_eq {r : List Int} (h : r.length = 2) (p : Int) : impl_along.f r p = some ((nextOf r p).getD 0, (nextOf r p).isSome) := by
  unfold impl_along.f nextOf
  rw [if_pos (by omega)]
  by_cases c : p = rd r 0
  · rw [if_pos c, if_pos c, if_pos (by omega)]
    rfl
  · rw [if_neg c, if_neg c, if_pos (by omega)]
    by_cases c2 : p = rd r 1
    · rw [if_pos c2, if_pos c2]
      rfl
    · rw [if_neg c2, if_neg c2]
      rfl
theorem has_eq (u i : Nat) (hu : u < 2 ^ 63) (hi : i < 64) : impl_has.f (u : Int) (i : Int) = some (u.testBit i) := by
  unfold impl_has.f
  rw [if_pos (by omega), bit_nat u i hu hi]
  cases u.testBit i <;> rfl
def Sound (ls : List (List Int)) (F : Int → Int → Bool) : Prop := ∀ (u : Nat) (a : Int), u < 2 ^ ls.length → F (u : Int) a = true → dfsAt ls u a = none
theorem sound_upd {ls : List (List Int)} {F : Int → Int → Bool} (h : Sound ls F) {u : Nat} {a : Int} (hd : dfsAt ls u a = none) : Sound ls (upd F (u : Int) a) := by
  intro u' a' hu' hF
  unfold upd at hF
  by_cases c : ((u' : Int) = (u : Int)) ∧ a' = a
  · obtain ⟨c1, rfl⟩ := c
    obtain rfl : u' = u := by omega
    exact hd
  · rw [if_neg c] at hF
    exact h u' a' hu' hF
theorem pow_le12 {n : Nat} (h : n ≤ 12) : 2 ^ n ≤ 4096 := Nat.pow_le_pow_right (by omega) h
theorem shl_one' (i : Nat) (hi : i < 62) : shl .i64 1 (i : Int) = ((2 ^ i : Nat) : Int) := shl_one i hi
theorem nextOf_ok {n : Nat} {r : List Int} (h : LineOk n r) {a p : Int} (hp : nextOf r a = some p) : ∃ q : Nat, p = (q : Int) ∧ q < n := by
  obtain ⟨x, y, e0, e1, hx, hy⟩ := line_nat h
  rcases nextOf_some hp with ⟨_, e⟩ | ⟨_, _, e⟩
  · exact ⟨y, by rw [e, e1], hy⟩
  · exact ⟨x, by rw [e, e0], hx⟩
theorem impl_g_ev {n : Nat} (hn : n ≤ 8) (ls : List (List Int)) (hl : ls.length ≤ 12) (hr : ∀ r ∈ ls, LineOk n r) : ∀ (j u a : Nat) (F : Int → Int → Bool) (m : Nat) (st : List Int), leftN ls.length u = j → u < 2 ^ ls.length → a < n → Sound ls F → st.length + j = ls.length → m + 13 ^ j ≤ 900000000000000000 →
    ∃ F' m', Ev (fun k => impl_FirstStroke.g k ls (u : Int) (a : Int) F m st) ((dfsAt ls u (a : Int)).isSome, F', m', st ++ (dfsAt ls u (a : Int)).getD []) ∧ (dfsAt ls u (a : Int) = none → Sound ls F' ∧ m' ≤ m + 13 ^ j) := by
  have h12 := pow_le12 hl
  intro j
  induction j with
  | zero =>
    intro u a F m st hj hu ha hF hst hm
    have hfull := (leftN_zero hu).1 hj
    rw [dfsAt_full (a : Int) hfull]
    refine ⟨F, m, Ev.step (f := fun _ => some (true, F, m, st)) (fun k => ?_) (ev_eq (Ev.now _) (by simp)), fun h => by cases h⟩
    simp only [impl_FirstStroke.g]
    rw [mask_all ls.length hl, if_pos (by rw [hfull])]
  | succ j ih =>
    intro u a F m st hj hu ha hF hst hm
    have hnf : u ≠ 2 ^ ls.length - 1 := by rw [Ne, ← leftN_zero hu]; omega
    have hpow : 13 ^ (j + 1) = 13 * 13 ^ j := by rw [Nat.pow_succ]; omega
    have hpos : 0 < 13 ^ j := Nat.pow_pos (by omega)
    have loop : ∀ (d i : Nat) (F : Int → Int → Bool) (m1 : Nat), i + d = ls.length → Sound ls F → m1 ≤ m + i * 13 ^ j → dfsAt ls u (a : Int) = stepL (dfsBr ls u (a : Int)) d i →
        ∃ F' m', Ev (fun k => impl_FirstStroke.l k ls (u : Int) (a : Int) F m1 st (i : Int)) ((dfsAt ls u (a : Int)).isSome, F', m', st ++ (dfsAt ls u (a : Int)).getD []) ∧ (dfsAt ls u (a : Int) = none → Sound ls F' ∧ m' ≤ m + 13 ^ (j + 1)) := by
      intro d
      induction d with
      | zero =>
        intro i F m1 hi hF hm1 hd
        obtain rfl : i = ls.length := by omega
        have hd' : dfsAt ls u (a : Int) = none := hd
        have hmul : ls.length * 13 ^ j ≤ 12 * 13 ^ j := Nat.mul_le_mul_right _ hl
        rw [hd']
        refine ⟨upd F (u : Int) (a : Int), m1 + 1, Ev.step (f := fun _ => some (false, upd F (u : Int) (a : Int), m1 + 1, st)) (fun k => ?_) (ev_eq (Ev.now _) (by simp)), fun _ => ⟨sound_upd hF hd', by omega⟩⟩
        rw [impl_FirstStroke.l, if_neg (by omega), if_pos (by omega)]
      | succ d ihd =>
        intro i F m1 hi hF hm1 hd
        have hlt : i < ls.length := by omega
        have hrow : rd_L1 ls (i : Int) = ls.getD i [] := by simp [rd_L1]
        have hm : ls.getD i [] ∈ ls := by simp [List.getD_eq_getElem?_getD, hlt]
        have hL := hr _ hm
        have hmul : i * 13 ^ j ≤ 11 * 13 ^ j := Nat.mul_le_mul_right _ (by omega)
        have hmul1 : (i + 1) * 13 ^ j = i * 13 ^ j + 13 ^ j := by rw [Nat.add_mul, Nat.one_mul]
        have hal := along_eq hL.len (a : Int)
        rw [← hrow] at hal
        simp only [stepL] at hd
        have hnext : ((i : Int) + 1) = ((i + 1 : Nat) : Int) := by omega
        cases hn1 : nextOf (ls.getD i []) (a : Int) with
        | none =>
          have hb : dfsBr ls u (a : Int) i = none := by
            unfold dfsBr
            rw [hn1]
            split <;> rfl
          rw [hb] at hd
          obtain ⟨F', m', h1, h2⟩ := ihd (i + 1) F m1 (by omega) hF (by omega) hd
          refine ⟨F', m', Ev.step (fun k => ?_) h1, h2⟩
          rw [impl_FirstStroke.l, if_pos (by omega), if_pos (by omega), hal, hrow, hn1, Option.bind_some, if_neg (by simp), w64 (by omega) (by omega)]
          rfl
        | some p =>
          obtain ⟨q, rfl, hq⟩ := nextOf_ok hL hn1
          cases hb : u.testBit i with
          | true =>
            have hbr : dfsBr ls u (a : Int) i = none := by
              unfold dfsBr
              rw [if_pos hb]
            rw [hbr] at hd
            obtain ⟨F', m', h1, h2⟩ := ihd (i + 1) F m1 (by omega) hF (by omega) hd
            refine ⟨F', m', Ev.step (fun k => ?_) h1, h2⟩
            rw [impl_FirstStroke.l, if_pos (by omega), if_pos (by omega), hal, hrow, hn1, Option.bind_some, if_pos (show ((some (q : Int)).getD 0, (some (q : Int)).isSome).2 = true from rfl), has_eq u i (by omega) (by omega), Option.bind_some, if_pos hb, w64 (by omega) (by omega)]
            rfl
          | false =>
            have hbr : dfsBr ls u (a : Int) i = (dfsAt ls (u + 2 ^ i) (q : Int)).map fun z => (i : Int) :: z := by
              unfold dfsBr
              rw [if_neg (by rw [hb]; simp), hn1]
            rw [hbr] at hd
            have hl1 := left_add (n := ls.length) hlt hb
            have hu2 := used_lt2 hu hlt hb
            have hor : Go.bits .or .i64 (u : Int) (shl .i64 1 (i : Int)) = ((u + 2 ^ i : Nat) : Int) := by
              rw [shl_one' i (by omega), or_nat u (2 ^ i) (by omega) (by omega), or_add u i hb]
            obtain ⟨F1, m2, g1, g2⟩ := ih (u + 2 ^ i) q F m1 (st ++ [(i : Int)]) (by omega) hu2 hq hF (by rw [List.length_append]; simp; omega) (by omega)
            cases hr1 : dfsAt ls (u + 2 ^ i) (q : Int) with
            | some z =>
              rw [hr1] at hd g1
              have hd' : dfsAt ls u (a : Int) = some ((i : Int) :: z) := hd
              rw [hd']
              refine ⟨F1, m2, ?_, fun h => by cases h⟩
              refine Ev.step (f := fun k => (impl_FirstStroke.g k ls ((u + 2 ^ i : Nat) : Int) (q : Int) F m1 (st ++ [(i : Int)])).bind fun r => if r.1 = true then some r else (if 0 < r.2.2.2.length ∧ r.2.2.2.length < 1000 then impl_FirstStroke.l k ls (u : Int) (a : Int) r.2.1 r.2.2.1 (r.2.2.2.take (r.2.2.2.length - 1)) (wrap64 ((i : Int) + 1)) else none)) (fun k => ?_) (Ev.bind g1 (Ev.congr (fun k => if_pos rfl) (ev_eq (Ev.now _) (by simp))))
              rw [impl_FirstStroke.l, if_pos (by omega), if_pos (by omega), hal, hrow, hn1, Option.bind_some, if_pos (show ((some (q : Int)).getD 0, (some (q : Int)).isSome).2 = true from rfl), has_eq u i (by omega) (by omega), Option.bind_some, if_neg (by rw [hb]; simp), if_pos (by omega), hor]
              rfl
            | none =>
              rw [hr1] at hd g1
              obtain ⟨s1, s2⟩ := g2 hr1
              obtain ⟨F', m', h1, h2⟩ := ihd (i + 1) F1 m2 (by omega) s1 (by omega) hd
              refine ⟨F', m', ?_, h2⟩
              refine Ev.step (f := fun k => (impl_FirstStroke.g k ls ((u + 2 ^ i : Nat) : Int) (q : Int) F m1 (st ++ [(i : Int)])).bind fun r => if r.1 = true then some r else (if 0 < r.2.2.2.length ∧ r.2.2.2.length < 1000 then impl_FirstStroke.l k ls (u : Int) (a : Int) r.2.1 r.2.2.1 (r.2.2.2.take (r.2.2.2.length - 1)) (wrap64 ((i : Int) + 1)) else none)) (fun k => ?_) (Ev.bind g1 (Ev.congr (fun k => if_neg (by simp)) (Ev.congr (fun k => if_pos (by simp; omega)) ?_)))
              · rw [impl_FirstStroke.l, if_pos (by omega), if_pos (by omega), hal, hrow, hn1, Option.bind_some, if_pos (show ((some (q : Int)).getD 0, (some (q : Int)).isSome).2 = true from rfl), has_eq u i (by omega) (by omega), Option.bind_some, if_neg (by rw [hb]; simp), if_pos (by omega), hor]
                rfl
              · have e1 : ((st ++ [(i : Int)]) ++ (none : Option (List Int)).getD []).take (((st ++ [(i : Int)]) ++ (none : Option (List Int)).getD []).length - 1) = st := by simp
                simp only [e1]
                rw [w64 (by omega) (by omega), hnext]
                exact h1
    by_cases hmem : F (u : Int) (a : Int) = true
    · have hd := hF u (a : Int) hu hmem
      rw [hd]
      refine ⟨F, m, Ev.step (f := fun _ => some (false, F, m, st)) (fun k => ?_) (ev_eq (Ev.now _) (by simp)), fun _ => ⟨hF, by omega⟩⟩
      rw [impl_FirstStroke.g, mask_all ls.length hl, if_neg (by omega), if_pos (by omega), if_pos hmem]
    · obtain ⟨F', m', h1, h2⟩ := loop ls.length 0 F m (by omega) hF (by omega) (dfsAt_step (a : Int) hu hnf)
      refine ⟨F', m', Ev.step (fun k => ?_) h1, h2⟩
      rw [impl_FirstStroke.g, mask_all ls.length hl, if_neg (by omega), if_pos (by omega), if_neg hmem]
      rfl
/-- What both come to. -/
def firstStroke (n : Int) (l : List (List Int)) (s : Int) : List Int × Bool := if drawOk n l = true ∧ (0 ≤ s ∧ s ≤ n - 1) then (match dfsAt l 0 s with | some q => (q, true) | none => ([], false)) else ([], false)
theorem impl_FirstStroke_ev (n : Int) (l : List (List Int)) (s : Int) : Ev (fun k => impl_FirstStroke.f k n l s) (firstStroke n l s) := by
  unfold impl_FirstStroke.f firstStroke
  refine Ev.bind (impl_IsDrawing_ev n l) ?_
  by_cases c : drawOk n l = true
  · obtain ⟨m, rfl⟩ := draw_nat c
    obtain ⟨h1, h2, h3, h4⟩ := drawOk_lines c
    refine Ev.congr (fun k => if_pos c) ?_
    rw [w64 (x := (m : Int) - 1) (by omega) (by omega)]
    refine Ev.bind (ev_const (within_eq s 0 ((m : Int) - 1))) ?_
    by_cases c1 : 0 ≤ s ∧ s ≤ (m : Int) - 1
    · rw [if_pos ⟨c, c1⟩]
      refine Ev.congr (fun k => if_pos (by simpa using c1)) ?_
      obtain ⟨a, rfl⟩ := Int.eq_ofNat_of_zero_le c1.1
      have hl0 : leftN l.length 0 = l.length := leftN_nought _
      have hp : 13 ^ l.length ≤ 13 ^ 12 := Nat.pow_le_pow_right (by omega) h3
      obtain ⟨F', m', g1, _⟩ := impl_g_ev h2 l h3 h4 l.length 0 a (fun _ _ => false) 0 [] hl0 (Nat.two_pow_pos _) (by omega) (fun _ _ _ h => by cases h) (by simp) (by omega)
      refine Ev.bind g1 ?_
      cases dfsAt l 0 (a : Int) with
      | some q => exact Ev.congr (fun k => if_pos rfl) (ev_eq (Ev.now _) (by simp))
      | none => exact Ev.congr (fun k => if_neg (by simp)) (Ev.now _)
    · rw [if_neg (fun z => c1 z.2)]
      exact Ev.congr (fun k => if_neg (by simpa using c1)) (Ev.now _)
  · rw [if_neg (fun z => c z.1)]
    exact Ev.congr (fun k => if_neg c) (Ev.now _)
end Go.Proofs.Ytcdajmbnijmdfaa.PA
/- first strokes, CanTrace: both texts. -/
namespace Go.Proofs.Ytcdajmbnijmdfaa.PA
open Go.RowKit Go.Proofs.YtcdajmbnijmdfaaW.PrintWords Go.Proofs.YtcdajmbnijmdfaaW.PrintLast Go.Proofs.YtcdajmbnijmdfaaW.PrintMore
set_option linter.unusedVariables false
set_option linter.unusedSimpArgs false
structure SoundL (ls : List (List Int)) (fl : List Bool) : Prop where
  len : fl.length = 8 * 2 ^ ls.length
  ok : ∀ u a : Nat, u < 2 ^ ls.length → a < 8 → fl.getD (u * 8 + a) false = true → dfsAt ls u (a : Int) = none
theorem soundL_start (ls : List (List Int)) : SoundL ls (List.replicate (8 * 2 ^ ls.length) false) :=
  ⟨List.length_replicate, fun u a _ _ h => by simp [List.getD_eq_getElem?_getD, List.getElem?_replicate] at h; split at h <;> simp at h⟩
theorem soundL_set {ls : List (List Int)} {fl : List Bool} (h : SoundL ls fl) {u a : Nat} (ha : a < 8) (hd : dfsAt ls u (a : Int) = none) : SoundL ls (fl.set (u * 8 + a) true) := by
  refine ⟨by rw [List.length_set, h.len], fun u' a' hu' ha' hF => ?_⟩
  by_cases c : u * 8 + a = u' * 8 + a'
  · obtain rfl : u = u' := by omega
    obtain rfl : a = a' := by omega
    exact hd
  · refine h.ok u' a' hu' ha' ?_
    rw [List.getD_eq_getElem?_getD, List.getElem?_set, if_neg c] at hF
    rw [List.getD_eq_getElem?_getD]
    exact hF
theorem nextOf_sum {r : List Int} {a p : Int} (h : nextOf r a = some p) : p = rd r 0 + rd r 1 - a ∧ (rd r 0 = a ∨ rd r 1 = a) := by
  rcases nextOf_some h with ⟨e1, e2⟩ | ⟨_, e1, e2⟩
  · exact ⟨by omega, .inl e1.symm⟩
  · exact ⟨by omega, .inr e1.symm⟩
theorem nextOf_none {r : List Int} {a : Int} (h : nextOf r a = none) : ¬ (rd r 0 = a ∨ rd r 1 = a) := by
  unfold nextOf at h
  by_cases c : a = rd r 0
  · rw [if_pos c] at h; cases h
  · rw [if_neg c] at h
    by_cases c2 : a = rd r 1
    · rw [if_pos c2] at h; cases h
    · rintro (z | z)
      · exact c z.symm
      · exact c2 z.symm
theorem spec_g_ev {n : Nat} (hn : n ≤ 8) (ls : List (List Int)) (hl : ls.length ≤ 12) (hr : ∀ r ∈ ls, LineOk n r) : ∀ (j u a : Nat) (fl : List Bool), leftN ls.length u = j → u < 2 ^ ls.length → a < n → SoundL ls fl →
    ∃ fl', Ev (fun k => spec_l23Trace.g k ls (a : Int) (u : Int) fl) ((dfsAt ls u (a : Int)).getD [], (dfsAt ls u (a : Int)).isSome, fl') ∧ (dfsAt ls u (a : Int) = none → SoundL ls fl') := by
  have h12 := pow_le12 hl
  intro j
  induction j with
  | zero =>
    intro u a fl hj hu ha hF
    have hfull := (leftN_zero hu).1 hj
    rw [dfsAt_full (a : Int) hfull]
    refine ⟨fl, Ev.step (f := fun _ => some ([], true, fl)) (fun k => ?_) (Ev.now _), fun h => by cases h⟩
    rw [spec_l23Trace.g, mask_all ls.length hl, if_pos (by rw [hfull])]
  | succ j ih =>
    intro u a fl hj hu ha hF
    have hnf : u ≠ 2 ^ ls.length - 1 := by rw [Ne, ← leftN_zero hu]; omega
    have hidx : wrap64 (wrap64 ((u : Int) * 8) + (a : Int)) = ((u * 8 + a : Nat) : Int) := by
      rw [w64 (x := (u : Int) * 8) (by omega) (by omega), w64 (by omega) (by omega)]
      omega
    have hin : ∀ fl' : List Bool, SoundL ls fl' → (0 ≤ ((u * 8 + a : Nat) : Int) ∧ ((u * 8 + a : Nat) : Int) < (fl'.length : Int)) := by
      intro fl' h'
      have := h'.len
      omega
    have loop : ∀ (d i : Nat) (fl : List Bool), i + d = ls.length → SoundL ls fl → dfsAt ls u (a : Int) = stepL (dfsBr ls u (a : Int)) d i →
        ∃ fl', Ev (fun k => spec_l23Trace.l k ls (a : Int) (u : Int) fl (i : Int)) ((dfsAt ls u (a : Int)).getD [], (dfsAt ls u (a : Int)).isSome, fl') ∧ (dfsAt ls u (a : Int) = none → SoundL ls fl') := by
      intro d
      induction d with
      | zero =>
        intro i fl hi hF hd
        obtain rfl : i = ls.length := by omega
        have hd' : dfsAt ls u (a : Int) = none := hd
        rw [hd']
        refine ⟨fl.set (u * 8 + a) true, Ev.step (f := fun _ => some ([], false, fl.set (u * 8 + a) true)) (fun k => ?_) (Ev.now _), fun _ => soundL_set hF (by omega) hd'⟩
        rw [spec_l23Trace.l, if_neg (by omega), hidx, if_pos (hin fl hF)]
        rfl
      | succ d ihd =>
        intro i fl hi hF hd
        have hlt : i < ls.length := by omega
        have hrow : rd_L1 ls (i : Int) = ls.getD i [] := by simp [rd_L1]
        have hm : ls.getD i [] ∈ ls := by simp [List.getD_eq_getElem?_getD, hlt]
        have hL := hr _ hm
        have hnext : ((i : Int) + 1) = ((i + 1 : Nat) : Int) := by omega
        have hbit := bit_nat u i (by omega) (by omega)
        simp only [stepL] at hd
        cases hb : u.testBit i with
        | true =>
          have hbr : dfsBr ls u (a : Int) i = none := by
            unfold dfsBr
            rw [if_pos hb]
          rw [hbr] at hd
          rw [hb] at hbit
          obtain ⟨fl', h1, h2⟩ := ihd (i + 1) fl (by omega) hF hd
          refine ⟨fl', Ev.step (fun k => ?_) h1, h2⟩
          rw [spec_l23Trace.l, if_pos (by omega), hrow, if_pos ⟨by omega, hL.len⟩, if_pos (by rw [hbit]; rfl), w64 (by omega) (by omega)]
          rfl
        | false =>
          rw [hb] at hbit
          have hbit0 : ¬ Go.bits .and .i64 (shr .i64 (u : Int) (i : Int)) 1 = 1 := by rw [hbit]; simp
          cases hn1 : nextOf (ls.getD i []) (a : Int) with
          | none =>
            have hbr : dfsBr ls u (a : Int) i = none := by
              unfold dfsBr
              rw [hn1]
              split <;> rfl
            rw [hbr] at hd
            obtain ⟨fl', h1, h2⟩ := ihd (i + 1) fl (by omega) hF hd
            refine ⟨fl', Ev.step (fun k => ?_) h1, h2⟩
            rw [spec_l23Trace.l, if_pos (by omega), hrow, if_pos ⟨by omega, hL.len⟩, if_neg hbit0, if_neg (nextOf_none hn1), w64 (by omega) (by omega)]
            rfl
          | some p =>
            obtain ⟨q, rfl, hq⟩ := nextOf_ok hL hn1
            obtain ⟨hs1, hs2⟩ := nextOf_sum hn1
            have hbr : dfsBr ls u (a : Int) i = (dfsAt ls (u + 2 ^ i) (q : Int)).map fun z => (i : Int) :: z := by
              unfold dfsBr
              rw [if_neg (by rw [hb]; simp), hn1]
            rw [hbr] at hd
            have hl1 := left_add (n := ls.length) hlt hb
            have hu2 := used_lt2 hu hlt hb
            obtain ⟨l1, l2, l3, l4, l5, l6⟩ := hL
            have hadd : wrap64 ((u : Int) + shl .i64 1 (i : Int)) = ((u + 2 ^ i : Nat) : Int) := by
              have hp := pow12 (show i < 12 by omega)
              rw [shl_one' i (by omega)]
              generalize 2 ^ i = z at hp ⊢
              rw [w64 (by omega) (by omega)]
              omega
            have hsum : wrap64 (wrap64 (rd (ls.getD i []) 0 + rd (ls.getD i []) 1) - (a : Int)) = (q : Int) := by
              rw [w64 (x := rd (ls.getD i []) 0 + rd (ls.getD i []) 1) (by omega) (by omega), w64 (by omega) (by omega)]
              omega
            obtain ⟨fl1, g1, g2⟩ := ih (u + 2 ^ i) q fl (by omega) hu2 hq hF
            have unf : ∀ k, spec_l23Trace.l (k + 1) ls (a : Int) (u : Int) fl (i : Int) = (spec_l23Trace.g k ls (q : Int) ((u + 2 ^ i : Nat) : Int) fl).bind fun t => if t.2.1 = true then (if t.1.length < 1000 then some ((i : Int) :: t.1, true, t.2.2) else none) else spec_l23Trace.l k ls (a : Int) (u : Int) t.2.2 (wrap64 ((i : Int) + 1)) := by
              intro k
              rw [spec_l23Trace.l, if_pos (by omega), hrow, if_pos ⟨by omega, l1⟩, if_neg hbit0, if_pos hs2, hsum, hadd]
            cases hr1 : dfsAt ls (u + 2 ^ i) (q : Int) with
            | some z =>
              rw [hr1] at hd g1
              have hd' : dfsAt ls u (a : Int) = some ((i : Int) :: z) := hd
              have hz := dfsAt_len hr1
              rw [hd']
              refine ⟨fl1, Ev.step unf (Ev.bind g1 (Ev.congr (fun k => if_pos rfl) (Ev.congr (fun k => if_pos (by simp; omega)) (Ev.now _)))), fun h => by cases h⟩
            | none =>
              rw [hr1] at hd g1
              obtain ⟨fl', h1, h2⟩ := ihd (i + 1) fl1 (by omega) (g2 hr1) hd
              refine ⟨fl', Ev.step unf (Ev.bind g1 (Ev.congr (fun k => if_neg (by simp)) ?_)), h2⟩
              simp only
              rw [w64 (by omega) (by omega), hnext]
              exact h1
    have hrd : ∀ fl' : List Bool, rdOf false fl' ((u * 8 + a : Nat) : Int) = fl'.getD (u * 8 + a) false := fun fl' => by unfold rdOf; rw [Int.toNat_natCast]
    by_cases hmem : fl.getD (u * 8 + a) false = true
    · have hd := hF.ok u a hu (by omega) hmem
      rw [hd]
      refine ⟨fl, Ev.step (f := fun _ => some ([], false, fl)) (fun k => ?_) (Ev.now _), fun _ => hF⟩
      rw [spec_l23Trace.g, mask_all ls.length hl, if_neg (by omega), hidx, if_pos (hin fl hF), hrd, if_pos hmem]
    · obtain ⟨fl', h1, h2⟩ := loop ls.length 0 fl (by omega) hF (dfsAt_step (a : Int) hu hnf)
      refine ⟨fl', Ev.step (fun k => ?_) h1, h2⟩
      rw [spec_l23Trace.g, mask_all ls.length hl, if_neg (by omega), hidx, if_pos (hin fl hF), hrd, if_neg hmem]
      rfl
theorem spec_FirstStroke_ev (n : Int) (l : List (List Int)) (s : Int) : Ev (fun k => spec_FirstStroke.f k n l s) (firstStroke n l s) := by
  unfold spec_FirstStroke.f firstStroke
  refine Ev.bind (spec_IsDrawing_ev n l) ?_
  by_cases c : drawOk n l = true
  · obtain ⟨m, rfl⟩ := draw_nat c
    obtain ⟨h1, h2, h3, h4⟩ := drawOk_lines c
    refine Ev.congr (fun k => if_pos c) ?_
    rw [w64 (x := (m : Int) - 1) (by omega) (by omega)]
    refine Ev.bind (ev_const (l01In_eq s 0 ((m : Int) - 1))) ?_
    by_cases c1 : 0 ≤ s ∧ s ≤ (m : Int) - 1
    · rw [if_pos ⟨c, c1⟩]
      refine Ev.congr (fun k => if_pos (by simpa using c1)) ?_
      refine Ev.congr (fun k => if_pos h3) ?_
      obtain ⟨a, rfl⟩ := Int.eq_ofNat_of_zero_le c1.1
      have hl0 : leftN l.length 0 = l.length := leftN_nought _
      obtain ⟨fl', g1, _⟩ := spec_g_ev h2 l h3 h4 l.length 0 a _ hl0 (Nat.two_pow_pos _) (by omega) (soundL_start l)
      refine Ev.bind g1 (ev_eq (Ev.now _) ?_)
      cases dfsAt l 0 (a : Int) with
      | some q => rfl
      | none => rfl
    · rw [if_neg (fun z => c1 z.2)]
      exact Ev.congr (fun k => if_neg (by simpa using c1)) (Ev.now _)
  · rw [if_neg (fun z => c z.1)]
    exact Ev.congr (fun k => if_neg c) (Ev.now _)
def canTrace (n : Int) (l : List (List Int)) : Bool := (List.range (mn (mx n 0) 8).toNat).any fun i => (firstStroke n l (i : Int)).2
theorem canTrace_not {n : Int} {l : List (List Int)} (c : ¬ drawOk n l = true) : canTrace n l = false := by
  unfold canTrace
  rw [List.any_eq_false]
  intro i _
  unfold firstStroke
  rw [if_neg (fun z => c z.1)]
  simp
theorem any_range (p : Nat → Bool) {m i : Nat} (h : i < m) : ((List.range m).drop i).any p = (p i || ((List.range m).drop (i + 1)).any p) := by
  rw [List.drop_eq_getElem_cons (by simpa using h), List.any_cons]
  simp
theorem impl_can_l (n : Int) (l : List (List Int)) (m : Nat) (hm : m ≤ 8) : ∀ (d i : Nat), i + d = m → Ev (fun k => impl_CanTrace.l0 k n l (m : Int) (i : Int)) (((List.range m).drop i).any fun i => (firstStroke n l (i : Int)).2) := by
  intro d
  induction d with
  | zero =>
    intro i hi
    refine Ev.step (f := fun _ => some false) (fun k => ?_) (ev_eq (Ev.now _) (by rw [List.drop_of_length_le (by simp; omega)]; rfl))
    rw [impl_CanTrace.l0, if_neg (by omega)]
  | succ d ih =>
    intro i hi
    rw [any_range _ (by omega : i < m)]
    have e := ih (i + 1) (by omega)
    refine Ev.step (f := fun k => (impl_FirstStroke.f k n l (i : Int)).bind fun bt => if bt.2 = true then some true else impl_CanTrace.l0 k n l (m : Int) (wrap64 ((i : Int) + 1))) (fun k => ?_) (Ev.bind (impl_FirstStroke_ev n l (i : Int)) ?_)
    · rw [impl_CanTrace.l0, if_pos (by omega)]
    · by_cases c : (firstStroke n l (i : Int)).2 = true
      · rw [c]
        exact Ev.congr (fun k => if_pos rfl) (ev_eq (Ev.now _) (by simp))
      · rw [show (firstStroke n l (i : Int)).2 = false by simpa using c, Bool.false_or]
        refine Ev.congr (fun k => if_neg (by simp)) ?_
        rw [w64 (by omega) (by omega)]
        exact e
theorem impl_CanTrace_ev (n : Int) (l : List (List Int)) : Ev (fun k => impl_CanTrace.f k n l) (canTrace n l) := by
  unfold impl_CanTrace.f canTrace
  have hb : 0 ≤ mn (mx n 0) 8 ∧ mn (mx n 0) 8 ≤ 8 := by unfold mn mx; split <;> split <;> omega
  obtain ⟨m, hm⟩ := Int.eq_ofNat_of_zero_le hb.1
  rw [hm, Int.toNat_natCast]
  exact impl_can_l n l m (by omega) m 0 (by omega)
theorem spec_can_l (n : Nat) (l : List (List Int)) (hn : n ≤ 8) : ∀ (d i : Nat), i + d = n → Ev (fun k => spec_CanTrace.l0 k (n : Int) l (i : Int)) (((List.range n).drop i).any fun i => (firstStroke (n : Int) l (i : Int)).2) := by
  intro d
  induction d with
  | zero =>
    intro i hi
    refine Ev.step (f := fun _ => some false) (fun k => ?_) (ev_eq (Ev.now _) (by rw [List.drop_of_length_le (by simp; omega)]; rfl))
    rw [spec_CanTrace.l0, if_neg (by omega)]
  | succ d ih =>
    intro i hi
    rw [any_range _ (by omega : i < n)]
    have e := ih (i + 1) (by omega)
    refine Ev.step (f := fun k => (spec_FirstStroke.f k (n : Int) l (i : Int)).bind fun bt => if bt.2 = true then some true else spec_CanTrace.l0 k (n : Int) l (wrap64 ((i : Int) + 1))) (fun k => ?_) (Ev.bind (spec_FirstStroke_ev (n : Int) l (i : Int)) ?_)
    · rw [spec_CanTrace.l0, if_pos (by omega)]
    · by_cases c : (firstStroke (n : Int) l (i : Int)).2 = true
      · rw [c]
        exact Ev.congr (fun k => if_pos rfl) (ev_eq (Ev.now _) (by simp))
      · rw [show (firstStroke (n : Int) l (i : Int)).2 = false by simpa using c, Bool.false_or]
        refine Ev.congr (fun k => if_neg (by simp)) ?_
        rw [w64 (by omega) (by omega)]
        exact e
theorem spec_CanTrace_ev (n : Int) (l : List (List Int)) : Ev (fun k => spec_CanTrace.f k n l) (canTrace n l) := by
  unfold spec_CanTrace.f
  refine Ev.bind (spec_IsDrawing_ev n l) ?_
  by_cases c : drawOk n l = true
  · obtain ⟨m, rfl⟩ := draw_nat c
    obtain ⟨h1, h2, h3, h4⟩ := drawOk_lines c
    refine Ev.congr (fun k => if_pos c) ?_
    have e : mn (mx (m : Int) 0) 8 = (m : Int) := by unfold mn mx; split <;> split <;> omega
    unfold canTrace
    rw [e, Int.toNat_natCast]
    exact spec_can_l m l h2 m 0 (by omega)
  · rw [canTrace_not c]
    exact Ev.congr (fun k => if_neg c) (Ev.now _)
end Go.Proofs.Ytcdajmbnijmdfaa.PA
/- What the contracts ask of a slice of slices that comes in. -/
namespace Go.Proofs.Ytcdajmbnijmdfaa.PA
open Go.RowKit Go.Proofs.YtcdajmbnijmdfaaW.PrintWords Go.Proofs.YtcdajmbnijmdfaaW.PrintLast Go.Proofs.YtcdajmbnijmdfaaW.PrintMore
set_option linter.unusedVariables false
set_option linter.unusedSimpArgs false
open Go.ChangeShapes Go.WideShapes Go.Deep in
theorem rows_open {H : Type} {enc : TypeId × Value → H} {P : Program} {w : World} {base : Nat} {held : Bool} {t e q : TypeId} {k : IntKind} {fuel : Nat} {cs : List Value} {x : DataW H × List MemPlace} {a : Option Addr} {len cap : Nat}
    (ht : P.underlying t = some (.slice e)) (he : P.underlying e = some (.slice q)) (hq : P.underlying q = some (.int k))
    (ce : P.cellsOf e = 1) (cq : P.cellsOf q = 1) (h : DataW.trod enc P w base (fun _ => true) held fuel t cs = some x) (hcs : cs = [.slice a len cap]) :
    ∃ l : List (List Int), l.length = len ∧ len ≤ cap ∧ Kd.C (Kd.slice q (Kd.int k)) w a len l ∧ ∀ r ∈ l, ∀ n ∈ r, (Lit.int k n).wf = true := by
  rcases open_int_rows ht he hq ce cq h with ⟨h0, _⟩ | ⟨a', len', cap', A, L, C, Z, h0, _, hl, hm, _, hrows⟩
  · rw [hcs] at h0
    simp at h0
    obtain ⟨rfl, rfl, rfl⟩ := h0
    exact ⟨[], rfl, Nat.le_refl _, ⟨rfl, by omega, fun hh => absurd hh (by omega)⟩, by simp⟩
  · rw [hcs] at h0
    simp at h0
    obtain ⟨rfl, rfl, rfl⟩ := h0
    have hM : maxLen = 9223372036854775807 := rfl
    refine ⟨(List.range len).map fun r => (Z r).take (L r), by simp, hl, ⟨by simp, by omega, fun _ => ⟨a', rfl, fun j p hj => ?_⟩⟩, fun r hr n hn => ?_⟩
    · obtain ⟨hj1, hj2⟩ := List.getElem?_eq_some_iff.1 hj
      have hjl : j < len := by simpa using hj1
      obtain ⟨hc, h1, h2, h3, h4, h5, h6⟩ := hrows j (by omega)
      have hp : p = (Z j).take (L j) := by simpa using hj2.symm
      have hpl : p.length = L j := by rw [hp, List.length_take]; omega
      refine ⟨[.slice (A j) (L j) (C j)], rfl, ⟨A j, C j, by rw [hpl], by omega, ⟨rfl, by omega, fun hp0 => ?_⟩⟩, fun i u hu => ?_⟩
      · cases hA : A j with
        | none => have := h5 hA; omega
        | some b =>
          obtain ⟨_, hcell⟩ := h6 b hA
          refine ⟨b, rfl, fun i y hy => ⟨[.int k y], rfl, rfl, fun i' u hu => ?_⟩⟩
          obtain ⟨hi1, hi2⟩ := List.getElem?_eq_some_iff.1 hy
          cases i' with
          | succ i' => simp at hu
          | zero =>
            simp at hu
            subst hu
            have hz := hcell i (by omega)
            simp only [Kd.int, Kd.scalar, Nat.mul_one, Nat.add_zero]
            rw [hz]
            subst hp
            rw [List.getElem_take] at hi2
            rw [List.getD_eq_getElem?_getD, List.getElem?_eq_getElem (by omega), Option.getD_some, hi2]
      · cases i with
        | succ i => simp at hu
        | zero =>
          simp at hu
          subst hu
          simp only [Kd.slice, Nat.mul_one, Nat.add_zero]
          exact hc
    · obtain ⟨j, hj, rfl⟩ := List.mem_map.1 hr
      obtain ⟨_, _, _, _, h4, _⟩ := hrows j (by have := List.mem_range.1 hj; omega)
      exact h4 n (List.mem_of_mem_take hn)
/-- Each row of what came in has a length that an int holds. -/
theorem rows_len {w : World} {A : Option Addr} {n q : Nat} {k : IntKind} {l : List (List Int)} (h : Kd.C (Kd.slice q (Kd.int k)) w A n l) : l.length ≤ 9223372036854775807 ∧ ∀ r ∈ l, r.length ≤ 9223372036854775807 := by
  obtain ⟨h1, h2, h3⟩ := h
  refine ⟨by omega, fun r hr => ?_⟩
  obtain ⟨j, hj, rfl⟩ := List.getElem_of_mem hr
  obtain ⟨ad, _, hc⟩ := h3 (by omega)
  obtain ⟨c, _, ⟨A', c', _, _, hC⟩, _⟩ := hc j _ (List.getElem?_eq_getElem hj)
  exact hC.2.1
end Go.Proofs.Ytcdajmbnijmdfaa.PA
/- The program's CanTrace returns what the reference's returns, for all arguments; no condition. -/
namespace Go.Proofs.Ytcdajmbnijmdfaa.PA
open Go.RowKit Go.Proofs.YtcdajmbnijmdfaaW.PrintWords
def laws_FnExactCanTrace.Pure : Prop := ∀ (a0 : Int) (l1 : List (List Int)), (Lit.int .i64 a0).wf = true → l1.length ≤ 9223372036854775807 → (∀ r ∈ l1, r.length ≤ 9223372036854775807) → (∀ r ∈ l1, ∀ x ∈ r, (Lit.int .i64 x).wf = true) → ∃ k, laws_FnExactCanTrace.f k a0 l1 = some true
end Go.Proofs.Ytcdajmbnijmdfaa.PA
namespace Go.Proofs.Ytcdajmbnijmdfaa.Pure
open Go.RowKit Go.Proofs.Ytcdajmbnijmdfaa.PA Go.Proofs.YtcdajmbnijmdfaaW.PrintWords Go.Proofs.YtcdajmbnijmdfaaW.PrintLast Go.Proofs.YtcdajmbnijmdfaaW.PrintMore
set_option linter.unusedVariables false
set_option linter.unusedSimpArgs false
theorem FnExactCanTrace : laws_FnExactCanTrace.Pure := by
  intro n l _ hl hr _
  refine Ev.rounds (g := fun k => laws_FnExactCanTrace.f k n l) ?_
  unfold laws_FnExactCanTrace.f
  obtain ⟨s, hs, hd⟩ := szIntSS_ev l hl hr
  refine Ev.bind hs ?_
  by_cases c : s < 0
  · exact Ev.congr (fun k => if_pos c) (Ev.now _)
  refine Ev.congr (fun k => if_neg c) ?_
  obtain ⟨h1, h2⟩ : l.length ≤ 1048576 ∧ ∀ x ∈ l, x.length ≤ 1048576 := by
    rcases hd with hd | hd
    · exact absurd hd c
    · exact hd
  refine Ev.bind (toIntSS_ev l h1 h2) ?_
  refine Ev.bind (spec_CanTrace_ev n l) ?_
  refine Ev.bind (toIntSS_ev l h1 h2) ?_
  refine Ev.bind (impl_CanTrace_ev n l) ?_
  refine Ev.congr (fun k => if_neg (by simp)) ?_
  refine Ev.bind (toIntSS_ev l h1 h2) ?_
  refine Ev.bind (eqIntSS_ev l l (by omega) (fun x hx => by have := h2 x hx; omega)) ?_
  exact ev_const (if_pos (by simp))
end Go.Proofs.Ytcdajmbnijmdfaa.Pure
/- The row of the law FnExactCanTrace: for every input it answers true and its arguments read as before. No condition. Written by a program of this session's (rowgen.py) in the form of the kit's print. -/
namespace Go.Proofs.Ytcdajmbnijmdfaa.fnExactCanTrace
open Go.ChangeShapes Go.WideShapes Go.ChangeAt Go.RowKit Go.Proofs.YtcdajmbnijmdfaaW.PrintWords
open Go.ChangeMaps (open_string shut_string)
set_option linter.unusedVariables false
theorem own : ownKnob Try.prog.godebug = none := by kernel_rfl
theorem laidOut : laidOutB Try.prog = true := by kernel_rfl
def IsRow (k : IntKind) (w : World) (a : Option Addr) (len cap : Nat) (zs : List Int) : Prop :=
  (a = none ∧ len = 0 ∧ cap = 0 ∧ zs = []) ∨
  ∃ x, a = some x ∧ len ≤ cap ∧ cap ≤ maxLen ∧ zs.length = cap ∧ (∀ i, i < zs.length → w.cell? (x.add i) = some (.int k (zs.getD i 0))) ∧ ∀ n ∈ zs, (Lit.int k n).wf = true
set_option maxRecDepth 100000 in
theorem lifted (os : Os) (started : os.Started) (H : Type) (enc : TypeId × Value → H) :
    ReturnsInHanded {} Try.checked os 8 .any (Rows.fnExactCanTraceSpec.pre6 enc Try.prog Try.f8 Rows.fnExactCanTraceRow.domain false) (Rows.fnExactCanTraceSpec.post enc Try.prog Try.f8 false true false false) := by
  refine returnsInHanded_of_change_sized (C := Try.checked) own started (by kernel_rfl) Try.func8
    (ChangeSpec.witness6 (enc := enc) (C := Try.checked) false ⟨#[], #[.int .i64 0, .slice none 0 0], []⟩ 8 (by kernel_rfl) (by kernel_rfl) (by kernel_rfl) (by kernel_rfl)) ?_
  intro W base args ds gs before hval0 hW hcnd hsz0 _
  have hval : ∀ (j : Nat) t v, Try.f8.params[j]? = some t → args[j]? = some v → Value.okWide Try.prog W .any base t v := hval0
  have hW' := hW
  obtain ⟨p, q, hA0, hV, rfl, hfz, hnd⟩ := hW
  have hA : DataW.TrodAll enc Try.prog W 0 (fun _ => true) true Try.f8.params.toList args.toList ds p := hA0
  rw [Try.params8] at hA hval
  obtain ⟨v0, vs0, d0, ds0, p0, q0, hargs, rfl, rfl, h0, r0⟩ := trodAll_cons hA
  obtain ⟨v1, vs1, d1, ds1, p1, q1, rfl, rfl, rfl, h1, r1⟩ := trodAll_cons r0
  obtain ⟨rfl, rfl, rfl⟩ := trodAll_nil r1
  obtain rfl : args = #[v0, v1] := by cases args; simp_all
  obtain ⟨rfl, rfl⟩ := trodVars_none hV
  obtain ⟨a0, rfl, rfl, rfl, w0⟩ := open_int Try.underlying3 (hval 0 3 v0 rfl rfl) h0
  obtain ⟨b1, len1, cap1, rfl⟩ := okWide_slice Try.underlying22 (hval 1 22 v1 rfl rfl)
  have k1 := h1
  have lt1 : ∀ x ∈ p1, x.block < W.heap.size := by obtain ⟨m, hm⟩ := k1; exact DataW.trod_lt m _ _ _ hm
  obtain ⟨l1, hl1, hc1, hr1, hw1⟩ : ∃ l : List (List Int), l.length = len1 ∧ len1 ≤ cap1 ∧ Kd.C (Kd.slice 3 (Kd.int .i64)) W b1 len1 l ∧ ∀ r ∈ l, ∀ n ∈ r, (Lit.int .i64 n).wf = true := by
    obtain ⟨fuel, hf⟩ := h1
    exact PA.rows_open Try.underlying22 Try.underlying27 Try.underlying3 (by kernel_rfl) (by kernel_rfl) hf (by simp [Value.cells])
  subst hl1
  clear hA0 hval0 hsz0
  obtain ⟨k, hk⟩ := Pure.FnExactCanTrace a0 l1 w0 (PA.rows_len hr1).1 (PA.rows_len hr1).2 hw1
  refine (PA.laws_FnExactCanTrace.calls k a0 _ _ l1 true W hr1 hc1 hk).mono fun e W' ⟨he, bel0⟩ => ?_
  have bel : Below W.heap.size W W' := bel0
  subst he
  exact ⟨_, rfl, _, _, _, [], _, [], hW', trodAll_mk1 (shut_bool Try.underlying4 _), (trodAll_cons_mk (shut_int Try.underlying3 w0) (trodAll_cons_mk (Below.trod laidOut (by kernel_rfl) (of_decide_eq_true (by kernel_rfl)) k1 bel lt1) trodAll_mk0)), rfl, bel.frame _, fun h => by cases h⟩
theorem over : Rows.fnExactCanTraceRow.holds Try.pinned (OpenSpec.ofChange Rows.fnExactCanTraceSpec) :=
  OpenClaim.holds_of_wide 8 Try.f8 rfl rfl rfl rfl rfl rfl rfl ⟨rfl, rfl, rfl, rfl, rfl⟩ rfl rfl rfl rfl rfl (by kernel_rfl) Try.func8 (by kernel_rfl)
    (of_decide_eq_true (by kernel_rfl)) (by unfold Func.isWrapper; first | (rw [if_pos (by decide +kernel)]; kernel_rfl) | (rw [if_neg (by decide +kernel)]; exact ⟨rfl, rfl⟩))
    (fun os started H enc _ => lifted os started H enc)
theorem proved : Rows.FnExactCanTraceSaid := over
#print axioms proved
end Go.Proofs.Ytcdajmbnijmdfaa.fnExactCanTrace
namespace Go.Proofs.Ytcdajmbnijmdfaa
/-- The row, under a short name, for the claim. -/
theorem fnExactCanTrace_holds : Rows.FnExactCanTraceSaid := fnExactCanTrace.proved
end Go.Proofs.Ytcdajmbnijmdfaa
