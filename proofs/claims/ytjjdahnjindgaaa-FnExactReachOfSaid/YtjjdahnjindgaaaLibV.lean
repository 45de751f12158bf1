/- reach of layings -/
import Derived.Test.YtjjdahnjindgaaaLibB
import Derived.Test.YtjjdahnjindgaaaPAx12
import Derived.Test.YtjjdahnjindgaaaPAx16
import Derived.Test.YtjjdahnjindgaaaPAx17
import Derived.Test.YtjjdahnjindgaaaPAx18
import Derived.Test.YtjjdahnjindgaaaPAx19
import Derived.Test.YtjjdahnjindgaaaPAx20
namespace Go.Proofs.Ytjjdahnjindgaaa.PA
open Go.RowKit Go.Proofs.YtjjdahnjindgaaaW.PrintWords Go.Proofs.YtjjdahnjindgaaaW.PrintLast Go.Proofs.YtjjdahnjindgaaaW.PrintMore
set_option linter.unusedVariables false
set_option linter.unusedSimpArgs false

/-! ReachOf: what the layings reach, and ascending lists -/
def absI (x : Int) : Int := if x < 0 then -x else x
def endAt (l : List Int) (i : Nat) : Int := at_ l (layS l.length i) l.length
theorem reachL_ev {l : List Int} (hl : Parts l) (h1 : 1 ≤ l.length) : ∀ j, j ≤ 1024 → Ev (fun k => reachL k l l.length j) ((List.range j).map fun i => absI (endAt l i)) := by
  intro j
  induction j with
  | zero => intro _; exact Ev.now _
  | succ j ih =>
    intro hj
    refine Ev.bind (ih (by omega)) ?_
    have he := impl_ends_ev (layS l.length j) l.length (Nat.le_refl _) (layS_size _ _) hl
    refine Ev.bind he ?_
    have hb := at_bd (layS l.length j) hl l.length (Nat.le_refl _)
    have hlen := hl.1
    have hr : rd (endsL l (layS l.length j) l.length) (((endsL l (layS l.length j) l.length).length : Int) - 1) = endAt l j := by
      rw [ends_len, show (((l.length + 1 : Nat) : Int) - 1) = ((l.length : Nat) : Int) by omega, rd_ends _ _ (Nat.le_refl _)]
      rfl
    refine Ev.congr (fun k => if_pos ⟨by rw [ends_len]; omega, by rw [List.length_map, List.length_range]; omega⟩) ?_
    refine ev_const ?_
    have hs : impl_size.f (endAt l j) = some (absI (endAt l j)) := by
      have hb' : -50 * (l.length : Int) ≤ endAt l j ∧ endAt l j ≤ 50 * (l.length : Int) := hb
      unfold impl_size.f
      rw [w64 (by omega) (by omega)]
      unfold mx absI
      congr 1
      split <;> split <;> omega
    rw [hr, hs, List.range_succ, List.map_append]
    rfl
theorem asc_ext : ∀ {a b : List Int}, a.Pairwise (· < ·) → b.Pairwise (· < ·) → (∀ x, x ∈ a ↔ x ∈ b) → a = b
  | [], [], _, _, _ => rfl
  | [], y :: b, _, _, h => absurd ((h y).2 (by simp)) (by simp)
  | x :: a, [], _, _, h => absurd ((h x).1 (by simp)) (by simp)
  | x :: a, y :: b, ha, hb, h => by
    rw [List.pairwise_cons] at ha hb
    have e : x = y := by
      rcases List.mem_cons.1 ((h x).1 (by simp)) with e | e
      · exact e
      · rcases List.mem_cons.1 ((h y).2 (by simp)) with e2 | e2
        · exact e2.symm
        · have := hb.1 x e
          have := ha.1 y e2
          omega
    subst e
    have ht : a = b := asc_ext ha.2 hb.2 (fun z => by
      constructor
      · intro hz
        rcases List.mem_cons.1 ((h z).1 (List.mem_cons_of_mem _ hz)) with e | e
        · have := ha.1 z hz
          omega
        · exact e
      · intro hz
        rcases List.mem_cons.1 ((h z).2 (List.mem_cons_of_mem _ hz)) with e | e
        · have := hb.1 z hz
          omega
        · exact e)
    rw [ht]
theorem big_ok (n : Nat) (h : n ≤ 8192) : n < 17592186044416 := by omega
/-- r is l with x in it, ascending. -/
def Into (l : List Int) (x : Int) (r : List Int) : Prop := r.Pairwise (· < ·) ∧ (∀ y, y ∈ r ↔ y = x ∨ y ∈ l) ∧ r.length ≤ l.length + 1
theorem into_at {l : List Int} {x : Int} {i : Nat} (hs : l.Pairwise (· < ·)) (h1 : ∀ y ∈ l.take i, y < x) (h2 : ∀ y ∈ l.drop i, x < y) : Into l x (([] ++ l.take i) ++ [x] ++ l.drop i) := by
  have hs' : (l.take i ++ l.drop i).Pairwise (· < ·) := by rw [List.take_append_drop]; exact hs
  obtain ⟨a1, a2, a3⟩ := List.pairwise_append.1 hs'
  have hm : ∀ y, y ∈ l ↔ y ∈ l.take i ∨ y ∈ l.drop i := fun y => by rw [← List.mem_append, List.take_append_drop]
  refine ⟨?_, fun y => ?_, ?_⟩
  · rw [List.nil_append, List.append_assoc, List.pairwise_append]
    refine ⟨a1, ?_, ?_⟩
    · rw [List.singleton_append, List.pairwise_cons]
      exact ⟨h2, a2⟩
    · intro a ha b hb
      rw [List.singleton_append, List.mem_cons] at hb
      rcases hb with rfl | hb
      · exact h1 a ha
      · exact a3 a ha b hb
  · rw [hm y]
    simp only [List.nil_append, List.mem_append, List.mem_singleton]
    constructor
    · rintro ((h | h) | h)
      · exact .inr (.inl h)
      · exact .inl h
      · exact .inr (.inr h)
    · rintro (h | h | h)
      · exact .inl (.inr h)
      · exact .inl (.inl h)
      · exact .inr h
  · simp only [List.nil_append, List.length_append, List.length_cons, List.length_nil, List.length_take, List.length_drop]
    omega
theorem ins_put (l : List Int) (x : Int) (i : Nat) (hi : i ≤ l.length) (hl : l.length ≤ 4096) : ((some (([] : List Int) : List Int)).bind fun y226 => (if 0 ≤ (i : Int) then (if (i : Int) ≤ (l.length : Int) then ((some (l.take (i : Int).toNat : List Int)).bind fun y229 => (if y226.length + y229.length < 17592186044416 then ((some (y226 ++ y229 : List Int)).bind fun y233 => (if y233.length < 17592186044416 then ((some (y233 ++ [x] : List Int)).bind fun y236 => ((some (l.drop (i : Int).toNat : List Int)).bind fun y239 => (if y236.length + y239.length < 17592186044416 then (some (y236 ++ y239)) else (none)))) else (none))) else (none))) else (none)) else (none))) = some (([] ++ l.take i) ++ [x] ++ l.drop i) := by
  have e1 : (l.take i).length = i := by rw [List.length_take]; omega
  have e2 : (l.drop i).length = l.length - i := List.length_drop
  rw [Option.bind_some, if_pos (by omega), if_pos (by omega), Int.toNat_natCast, Option.bind_some]
  rw [if_pos (big_ok _ (by rw [e1, List.length_nil]; omega)), Option.bind_some]
  rw [if_pos (big_ok _ (by rw [List.nil_append, e1]; omega)), Option.bind_some, Option.bind_some]
  rw [if_pos (big_ok _ (by rw [List.length_append, List.nil_append, e1, e2, List.length_singleton]; omega))]
theorem ins_l (l : List Int) (x : Int) (hs : l.Pairwise (· < ·)) (hl : l.length ≤ 4096) : ∀ i : Nat, i ≤ l.length → (∀ y ∈ l.drop i, x < y) → ∃ r, Ev (fun k => spec_l17Insert.l0 k l x (i : Int)) r ∧ Into l x r := by
  intro i
  induction i with
  | zero =>
    intro hi hd
    refine ⟨_, Ev.step (f := fun _ => some (([] ++ l.take 0) ++ [x] ++ l.drop 0)) (fun k => ?_) (Ev.now _), into_at hs (by simp) hd⟩
    rw [spec_l17Insert.l0, if_neg (by omega)]
    exact ins_put l x 0 (by omega) hl
  | succ i ih =>
    intro hi hd
    have hw : wrap64 (((i + 1 : Nat) : Int) - 1) = (i : Int) := by rw [show (((i + 1 : Nat) : Int) - 1) = (i : Int) by omega]; exact w64 (by omega) (by omega)
    have hg : rd l (i : Int) = l[i] := rd_get (by omega)
    have hdr : l.drop i = l[i] :: l.drop (i + 1) := List.drop_eq_getElem_cons (by omega)
    by_cases c1 : l[i] > x
    · obtain ⟨r, h1, h2⟩ := ih (by omega) (by
        rw [hdr]
        intro y hy
        rcases List.mem_cons.1 hy with rfl | hy
        · exact c1
        · exact hd y hy)
      refine ⟨r, Ev.step (f := fun k => spec_l17Insert.l0 k l x (i : Int)) (fun k => ?_) h1, h2⟩
      rw [spec_l17Insert.l0, if_pos (by omega), hw, if_pos (by omega), if_pos (by omega), hg, if_pos c1]
    by_cases c2 : l[i] = x
    · refine ⟨l, Ev.step (f := fun _ => some l) (fun k => ?_) (Ev.now _), hs, fun y => ?_, by omega⟩
      · rw [spec_l17Insert.l0, if_pos (by omega), hw, if_pos (by omega), if_pos (by omega), hg, if_neg c1, if_pos c2]
      · constructor
        · exact .inr
        · rintro (rfl | h)
          · rw [← c2]; exact List.getElem_mem _
          · exact h
    · refine ⟨_, Ev.step (f := fun _ => some (([] ++ l.take (i + 1)) ++ [x] ++ l.drop (i + 1))) (fun k => ?_) (Ev.now _), into_at hs ?_ hd⟩
      · rw [spec_l17Insert.l0, if_pos (by omega), hw, if_pos (by omega), if_pos (by omega), hg, if_neg c1, if_neg c2]
        exact ins_put l x (i + 1) (by omega) hl
      · intro y hy
        have hp : (l.take i ++ l.drop i).Pairwise (· < ·) := by rw [List.take_append_drop]; exact hs
        have h3 := (List.pairwise_append.1 hp).2.2
        rw [take_step (by omega)] at hy
        rcases List.mem_append.1 hy with hy | hy
        · have hin : l[i] ∈ l.drop i := by rw [hdr]; exact List.mem_cons_self
          have := h3 y hy l[i] hin
          omega
        · have := List.mem_singleton.1 hy
          omega
theorem ins_ev (l : List Int) (x : Int) (hs : l.Pairwise (· < ·)) (hl : l.length ≤ 4096) : ∃ r, Ev (fun k => spec_l17Insert.f k l x) r ∧ Into l x r :=
  ins_l l x hs hl l.length (Nat.le_refl _) (by simp)
theorem compact_asc (zs : List Int) (h : zs.Pairwise (· ≤ ·)) : ∀ m, m ≤ zs.length → (Go.Lib.compactUpTo zs.toArray m).Pairwise (· < ·) ∧ ∀ x, x ∈ Go.Lib.compactUpTo zs.toArray m ↔ x ∈ zs.take m := by
  intro m
  induction m with
  | zero => intro _; simp [Go.Lib.compactUpTo]
  | succ m ih =>
    intro hm
    obtain ⟨h1, h2⟩ := ih (by omega)
    have hd : zs.toArray[m]! = zs[m] := by simp [getElem!_pos, show m < zs.length by omega]
    rw [Go.Lib.compactUpTo_succ, take_step (by omega), hd]
    have hle : ∀ i j : Nat, (hi : i < zs.length) → (hj : j < zs.length) → i ≤ j → zs[i] ≤ zs[j] := fun i j hi hj hij => by
      rcases Nat.lt_or_eq_of_le hij with hlt | rfl
      · exact List.pairwise_iff_getElem.1 h i j hi hj hlt
      · exact Int.le_refl _
    by_cases c : Go.Lib.keeps zs.toArray m = true
    · rw [if_pos c]
      refine ⟨List.pairwise_append.2 ⟨h1, by simp, ?_⟩, fun x => by rw [List.mem_append, List.mem_append, h2 x]⟩
      intro a ha b hb
      obtain rfl := List.mem_singleton.1 hb
      obtain ⟨i, hi, rfl⟩ := List.mem_iff_getElem.1 ((h2 a).1 ha)
      rw [List.length_take] at hi
      rw [List.getElem_take]
      have hm0 : m ≠ 0 := by omega
      have hd1 : zs.toArray[m - 1]! = zs[m - 1]'(by omega) := by simp [getElem!_pos, show m - 1 < zs.length by omega]
      have hne : zs[m] ≠ zs[m - 1]'(by omega) := by
        have hk := c
        unfold Go.Lib.keeps at hk
        rw [decide_eq_true_eq, hd, hd1] at hk
        exact hk.resolve_left hm0
      have q1 := hle i (m - 1) (by omega) (by omega) (by omega)
      have q2 := hle (m - 1) m (by omega) (by omega) (by omega)
      omega
    · rw [if_neg c, List.append_nil]
      refine ⟨h1, fun x => ?_⟩
      rw [h2 x, List.mem_append]
      constructor
      · exact .inl
      · rintro (hx | hx)
        · exact hx
        · obtain rfl := List.mem_singleton.1 hx
          have hk : ¬ (m = 0 ∨ zs.toArray[m]! ≠ zs.toArray[m - 1]!) := by
            intro hk
            apply c
            unfold Go.Lib.keeps
            exact decide_eq_true hk
          have hm0 : m ≠ 0 := fun e => hk (.inl e)
          have hd1 : zs.toArray[m - 1]! = zs[m - 1]'(by omega) := by simp [getElem!_pos, show m - 1 < zs.length by omega]
          have he : zs[m] = zs[m - 1]'(by omega) := Classical.byContradiction fun hne => hk (.inr (by rw [hd, hd1]; exact hne))
          rw [he]
          exact List.mem_iff_getElem.2 ⟨m - 1, by rw [List.length_take]; omega, by rw [List.getElem_take]⟩
theorem compact_sorted (out : List Int) : (Go.Lib.compact (out.mergeSort fun x y => decide (x ≤ y))).Pairwise (· < ·) ∧ ∀ x, x ∈ Go.Lib.compact (out.mergeSort fun x y => decide (x ≤ y)) ↔ x ∈ out := by
  have hp : (out.mergeSort fun x y => decide (x ≤ y)).Pairwise (· ≤ ·) := by
    have := List.pairwise_mergeSort (le := fun x y : Int => decide (x ≤ y)) (by intro a b c; simp; omega) (by intro a b; simp; omega) out
    simpa using this
  obtain ⟨h1, h2⟩ := compact_asc _ hp _ (Nat.le_refl _)
  refine ⟨h1, fun x => ?_⟩
  have := h2 x
  rw [List.take_length] at this
  exact this.trans (List.mem_mergeSort)

/-! ReachOf: the reference's rounds -/
theorem mag_eq (x : Int) (h0 : -100000 ≤ x) (h1 : x ≤ 100000) : spec_l04Mag.f x = some (absI x) := by
  unfold spec_l04Mag.f
  rw [w64 (by omega) (by omega)]
  unfold mx absI
  congr 1
  split <;> split <;> omega
/-- u is a signed sum of the first i parts. -/
def SS (l : List Int) : Nat → Int → Prop
  | 0, u => u = 0
  | i + 1, u => ∃ v, SS l i v ∧ (u = v + rd l (i : Int) ∨ u = v - rd l (i : Int))
theorem SS.neg {l : List Int} : ∀ {i : Nat} {u : Int}, SS l i u → SS l i (-u)
  | 0, u, h => by simp only [SS] at h ⊢; omega
  | i + 1, u, h => by
    obtain ⟨v, hv, h⟩ := h
    refine ⟨-v, hv.neg, ?_⟩
    omega
theorem SS.abs {l : List Int} {i : Nat} {u : Int} (h : SS l i u) : SS l i (absI u) := by
  unfold absI
  split
  · exact h.neg
  · exact h
theorem SS.bd {l : List Int} (hl : Parts l) : ∀ {i : Nat} {u : Int}, i ≤ l.length → SS l i u → -50 * (i : Int) ≤ u ∧ u ≤ 50 * (i : Int)
  | 0, u, _, h => by simp only [SS] at h; omega
  | i + 1, u, hi, h => by
    obtain ⟨v, hv, h⟩ := h
    have h1 := SS.bd hl (by omega) hv
    have h2 := hl.2 i (by omega)
    omega
theorem absI_nonneg (x : Int) : 0 ≤ absI x := by unfold absI; split <;> omega
theorem SS.step {l : List Int} {i : Nat} (hx : 1 ≤ rd l (i : Int)) (y : Int) : (∃ u, SS l (i + 1) u ∧ y = absI u) ↔ ∃ y0, (∃ u, SS l i u ∧ y0 = absI u) ∧ (y = y0 + rd l (i : Int) ∨ y = absI (y0 - rd l (i : Int))) := by
  constructor
  · rintro ⟨u, ⟨v, hv, hu⟩, rfl⟩
    refine ⟨absI v, ⟨v, hv, rfl⟩, ?_⟩
    rcases hu with rfl | rfl <;> · unfold absI; split <;> split <;> (try split) <;> omega
  · rintro ⟨y0, ⟨u, hu, rfl⟩, h | h⟩
    · refine ⟨absI u + rd l (i : Int), ⟨absI u, hu.abs, .inl rfl⟩, ?_⟩
      have := absI_nonneg u
      have h3 : ∀ z : Int, 0 ≤ z → absI z = z := fun z hz => by unfold absI; rw [if_neg (by omega)]
      rw [h, h3 (absI u + rd l (i : Int)) (by omega)]
    · exact ⟨absI u - rd l (i : Int), ⟨absI u, hu.abs, .inr rfl⟩, h⟩
theorem spec_reach_in {l : List Int} (x : Int) (hx : 1 ≤ x ∧ x ≤ 50) (now : List Int) (hb : ∀ y ∈ now, 0 ≤ y ∧ y ≤ 500) (hn : now.length ≤ 1024) (i : Int) (out : List Int)
    (hcont : ∀ next : List Int, next.Pairwise (· < ·) → (∀ y, y ∈ next ↔ ∃ y0 ∈ now, y = y0 + x ∨ y = absI (y0 - x)) → next.length ≤ 2 * now.length → Ev (fun k => spec_ReachOf.l0 k next l (l.length : Int) (wrap64 (i + 1))) out) :
    ∀ (m j : Nat) (next : List Int), j + m = now.length → next.Pairwise (· < ·) → (∀ y, y ∈ next ↔ ∃ y0 ∈ now.take j, y = y0 + x ∨ y = absI (y0 - x)) → next.length ≤ 2 * j → Ev (fun k => spec_ReachOf.l1 k x next l (l.length : Int) i now (now.length : Int) (j : Int)) out := by
  intro m
  induction m with
  | zero =>
    intro j next hj hs hm hlen
    obtain rfl : j = now.length := by omega
    rw [List.take_length] at hm
    refine Ev.step (f := fun k => spec_ReachOf.l0 k next l (l.length : Int) (wrap64 (i + 1))) (fun k => ?_) (hcont next hs hm hlen)
    rw [spec_ReachOf.l1, if_neg (by omega)]
  | succ m ih =>
    intro j next hj hs hm hlen
    have hjl : j < now.length := by omega
    have hr : rd now (j : Int) = now[j] := rd_get hjl
    have hy := hb now[j] (List.getElem_mem hjl)
    obtain ⟨r1, e1, s1, m1, l1⟩ := ins_ev next (now[j] + x) hs (by omega)
    obtain ⟨r2, e2, s2, m2, l2⟩ := ins_ev r1 (absI (now[j] - x)) s1 (by omega)
    refine Ev.step (f := fun k => (spec_l17Insert.f k next (now[j] + x)).bind fun t275 => (some (absI (now[j] - x)) : Option Int).bind fun t278 => ((spec_l17Insert.f k t275 t278).bind fun t279 => (spec_ReachOf.l1 k x t279 l (l.length : Int) i now (now.length : Int) ((j + 1 : Nat) : Int)))) (fun k => ?_) (Ev.bind e1 ?_)
    · rw [spec_ReachOf.l1, if_pos (by omega), if_pos (by omega), if_pos (by omega), hr, w64 (x := now[j] + x) (by omega) (by omega), w64 (x := now[j] - x) (by omega) (by omega), mag_eq _ (by omega) (by omega), w64 (x := (j : Int) + 1) (by omega) (by omega), show ((j : Int) + 1) = ((j + 1 : Nat) : Int) by omega]
    · refine Ev.bind (Ev.now _) (Ev.bind e2 (ih (j + 1) r2 (by omega) s2 (fun y => ?_) (by omega)))
      rw [m2 y, m1 y, hm y, take_step hjl]
      constructor
      · rintro (h | h | ⟨y0, h0, h⟩)
        · exact ⟨now[j], List.mem_append.2 (.inr (List.mem_singleton.2 rfl)), .inr h⟩
        · exact ⟨now[j], List.mem_append.2 (.inr (List.mem_singleton.2 rfl)), .inl h⟩
        · exact ⟨y0, List.mem_append.2 (.inl h0), h⟩
      · rintro ⟨y0, h0, h⟩
        rcases List.mem_append.1 h0 with h0 | h0
        · exact .inr (.inr ⟨y0, h0, h⟩)
        · obtain rfl := List.mem_singleton.1 h0
          rcases h with h | h
          · exact .inr (.inl h)
          · exact .inl h
theorem spec_reach_out {l : List Int} (hl : Parts l) (out : List Int) (ho : out.Pairwise (· < ·)) (hm : ∀ y, y ∈ out ↔ ∃ u, SS l l.length u ∧ y = absI u) :
    ∀ (m i : Nat) (now : List Int), i + m = l.length → now.Pairwise (· < ·) → (∀ y, y ∈ now ↔ ∃ u, SS l i u ∧ y = absI u) → now.length ≤ 2 ^ i → Ev (fun k => spec_ReachOf.l0 k now l (l.length : Int) (i : Int)) out := by
  intro m
  induction m with
  | zero =>
    intro i now hi hs hn hlen
    obtain rfl : i = l.length := by omega
    have e : now = out := asc_ext hs ho (fun y => by rw [hn y, hm y])
    subst e
    refine Ev.step (f := fun _ => some now) (fun k => ?_) (Ev.now _)
    rw [spec_ReachOf.l0, if_neg (by omega)]
  | succ m ih =>
    intro i now hi hs hn hlen
    have h10 := hl.1
    have hx := hl.2 i (by omega)
    have hp : (2 : Nat) ^ i ≤ 1024 := Nat.pow_le_pow_right (n := 2) (by decide) (show i ≤ 10 by omega)
    refine Ev.step (f := fun k => spec_ReachOf.l1 k (rd l (i : Int)) [] l (l.length : Int) (i : Int) now (now.length : Int) ((0 : Nat) : Int)) (fun k => ?_) ?_
    · rw [spec_ReachOf.l0, if_pos (by omega), if_pos (by omega), if_pos (by omega)]
      rfl
    · refine spec_reach_in (rd l (i : Int)) hx now (fun y hy => ?_) (by omega) (i : Int) out (fun next h1 h2 h3 => ?_) now.length 0 [] (by omega) List.Pairwise.nil (by simp) (by simp)
      · obtain ⟨u, hu, rfl⟩ := (hn y).1 hy
        have := hu.bd hl (by omega)
        have h0 := absI_nonneg u
        refine ⟨h0, ?_⟩
        unfold absI
        split <;> omega
      · rw [w64 (x := (i : Int) + 1) (by omega) (by omega), show ((i : Int) + 1) = ((i + 1 : Nat) : Int) by omega]
        refine ih (i + 1) next (by omega) h1 (fun y => ?_) (by rw [Nat.pow_succ]; omega)
        rw [h2 y, SS.step hx.1 y]
        constructor
        · rintro ⟨y0, h0, h⟩
          exact ⟨y0, (hn y0).1 h0, h⟩
        · rintro ⟨y0, h0, h⟩
          exact ⟨y0, (hn y0).2 h0, h⟩

/-! ReachOf: all layings reach all signed sums -/
theorem bt_lay (n j i : Nat) (h : i < n) : bt (layS n j) (i : Int) = if j.testBit (n - 1 - i) then 114 else 108 := by
  unfold bt
  rw [dif_pos (by rw [Int.toNat_natCast, layS_size]; exact h)]
  have hi : (i : Int).toNat = i := Int.toNat_natCast i
  simp only [hi, ByteArray.getElem_eq_getElem_data, layS, strOfNums, layN, List.getElem_toArray, List.getElem_map, List.getElem_range]
  split <;> rfl
theorem bits_ex : ∀ (n : Nat) (b : Nat → Bool), ∃ j, j < 2 ^ n ∧ ∀ e, e < n → j.testBit e = b e
  | 0, _ => ⟨0, by simp, fun e h => by omega⟩
  | n + 1, b => by
    obtain ⟨j, hj, hb⟩ := bits_ex n b
    have hp : (2 : Nat) ^ (n + 1) = 2 ^ n + 2 ^ n := by rw [Nat.pow_succ]; omega
    by_cases c : b n = true
    · refine ⟨2 ^ n + j, by omega, fun e he => ?_⟩
      rcases Nat.lt_or_eq_of_le (Nat.le_of_lt_succ he) with h | rfl
      · rw [Nat.testBit_two_pow_add_gt h, hb e h]
      · rw [Nat.testBit_two_pow_add_eq, Nat.testBit_lt_two_pow hj, c]
        rfl
    · refine ⟨j, by omega, fun e he => ?_⟩
      rcases Nat.lt_or_eq_of_le (Nat.le_of_lt_succ he) with h | rfl
      · exact hb e h
      · rw [Nat.testBit_lt_two_pow hj]
        simp at c
        exact c.symm
theorem at_SS (l : List Int) (s : ByteArray) : ∀ i, SS l i (at_ l s i)
  | 0 => rfl
  | i + 1 => by
    refine ⟨at_ l s i, at_SS l s i, ?_⟩
    simp only [at_]
    split
    · exact .inl rfl
    · exact .inr rfl
theorem SS_bits {l : List Int} : ∀ {i : Nat} {u : Int}, SS l i u → ∃ b : Nat → Bool, ∀ s : ByteArray, (∀ e : Nat, e < i → bt s (e : Int) = if b e then 114 else 108) → at_ l s i = u
  | 0, u, h => ⟨fun _ => true, fun s _ => by simp only [SS] at h; rw [h]; rfl⟩
  | i + 1, u, h => by
    obtain ⟨v, hv, h⟩ := h
    obtain ⟨b, hb⟩ := SS_bits hv
    rcases h with h | h
    · refine ⟨fun e => if e < i then b e else true, fun s hs => ?_⟩
      have h1 : at_ l s i = v := hb s (fun e he => by rw [hs e (by omega)]; simp only [if_pos he])
      have h2 := hs i (by omega)
      simp only [Nat.lt_irrefl, if_false, if_true] at h2
      simp only [at_]
      rw [h1, if_pos h2, h]
    · refine ⟨fun e => if e < i then b e else false, fun s hs => ?_⟩
      have h1 : at_ l s i = v := hb s (fun e he => by rw [hs e (by omega)]; simp only [if_pos he])
      have h2 : bt s (i : Int) = 108 := by
        have := hs i (by omega)
        simpa using this
      simp only [at_]
      rw [h1, if_neg (by omega), h]
theorem reach_mem (l : List Int) (y : Int) : y ∈ ((List.range (2 ^ l.length)).map fun i => absI (endAt l i)) ↔ ∃ u, SS l l.length u ∧ y = absI u := by
  rw [List.mem_map]
  constructor
  · rintro ⟨j, hj, rfl⟩
    exact ⟨endAt l j, at_SS l _ _, rfl⟩
  · rintro ⟨u, hu, rfl⟩
    obtain ⟨b, hb⟩ := SS_bits hu
    obtain ⟨j, hj, hbit⟩ := bits_ex l.length (fun e => b (l.length - 1 - e))
    refine ⟨j, List.mem_range.2 hj, ?_⟩
    have h1 : endAt l j = u := hb _ (fun e he => by
      rw [bt_lay _ _ _ he, hbit _ (by omega), show l.length - 1 - (l.length - 1 - e) = e by omega])
    rw [h1]
def reachP (l : List Int) : List Int := if rulerOk l = true then Go.Lib.compact (((List.range (2 ^ l.length)).map fun i => absI (endAt l i)).mergeSort fun x y => decide (x ≤ y)) else []
theorem spec_Reach_ev (l : List Int) : Ev (fun k => spec_ReachOf.f k l) (reachP l) := by
  unfold spec_ReachOf.f reachP
  refine Ev.bind (spec_Ruler_ev l) ?_
  by_cases c : rulerOk l = true
  · refine Ev.congr (fun k => if_pos c) ?_
    rw [if_pos c]
    have hc := compact_sorted ((List.range (2 ^ l.length)).map fun i => absI (endAt l i))
    exact spec_reach_out (parts_of c).1 _ hc.1 (fun y => by rw [hc.2 y, reach_mem]) l.length 0 [0] (by omega) (by simp) (fun y => by simp only [List.mem_singleton]; constructor; (intro h; exact ⟨0, rfl, h⟩); (rintro ⟨u, hu, rfl⟩; simp only [SS] at hu; rw [hu]; rfl)) (by simp)
  · refine Ev.congr (fun k => if_neg c) ?_
    rw [if_neg c]
    exact Ev.now _
theorem impl_Reach_ev (l : List Int) : Ev (fun k => impl_ReachOf.f k l) (reachP l) := by
  unfold impl_ReachOf.f reachP
  refine Ev.bind (ev_const (impl_Ruler_eq l)) ?_
  by_cases c : rulerOk l = true
  · refine Ev.congr (fun k => if_pos c) ?_
    rw [if_pos c]
    have hp := parts_of c
    have h10 := hp.1.1
    have hpow := pow_small h10
    refine Ev.congr (fun k => if_pos ⟨hp.2, h10⟩) ?_
    refine Ev.bind (reachL_ev hp.1 hp.2 (2 ^ l.length) hpow) ?_
    have hpos : 0 < 2 ^ l.length := Nat.two_pow_pos _
    refine Ev.bind (ev_const (if_pos (by rw [List.length_map, List.length_range]; omega))) ?_
    exact ev_const (if_pos (by rw [List.length_mergeSort, List.length_map, List.length_range]; omega))
  · refine Ev.congr (fun k => if_neg c) ?_
    rw [if_neg c]
    exact Ev.now _

end Go.Proofs.Ytjjdahnjindgaaa.PA
