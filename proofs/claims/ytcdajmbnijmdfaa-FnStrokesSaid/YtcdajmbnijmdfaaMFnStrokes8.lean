/- Texts of this claim put together in build order (FnStrokes). -/
import Derived.Test.YtcdajmbnijmdfaaMFnStrokes7
import Derived.Test.YtcdajmbnijmdfaaMFnStrokes0
import Derived.Test.YtcdajmbnijmdfaaMFnStrokes4
import Derived.Test.YtcdajmbnijmdfaaMFnStrokes5
import Derived.Test.YtcdajmbnijmdfaaMFnStrokes2
import Derived.Test.YtcdajmbnijmdfaaMFnStrokes3
import Derived.Test.YtcdajmbnijmdfaaMFnStrokes6
import Derived.Test.YtcdajmbnijmdfaaRows
import Derived.WalkKit
import Derived.ProofKit
import Derived.OpenShut
import Derived.ShutString
import Derived.ChangeOld
import Derived.Below
import Derived.SizedLaws
import Derived.Test.YtcdajmbnijmdfaaWSized
/- trails, strokes, needs -/
namespace Go.Proofs.Ytcdajmbnijmdfaa.PA
open Go.RowKit Go.Proofs.YtcdajmbnijmdfaaW.PrintWords Go.Proofs.YtcdajmbnijmdfaaW.PrintLast Go.Proofs.YtcdajmbnijmdfaaW.PrintMore
set_option linter.unusedVariables false
set_option linter.unusedSimpArgs false
section
variable (ea eb : Nat → Int)
inductive Trail : Int → List Nat → Int → Prop
  | nil (s : Int) : Trail s [] s
  | fwd {k : Nat} {R R' : List Nat} {t : Int} : Trail (eb k) R t → R'.Perm (k :: R) → Trail (ea k) R' t
  | bwd {k : Nat} {R R' : List Nat} {t : Int} : Trail (ea k) R t → R'.Perm (k :: R) → Trail (eb k) R' t
def inc (v : Int) (k : Nat) : Nat := (if ea k = v then 1 else 0) + (if eb k = v then 1 else 0)
def deg (v : Int) : List Nat → Nat
  | [] => 0
  | k :: R => inc ea eb v k + deg v R
inductive Reach (R : List Nat) (s : Int) : Int → Prop
  | refl : Reach R s s
  | fwd {k : Nat} : Reach R s (ea k) → k ∈ R → Reach R s (eb k)
  | bwd {k : Nat} : Reach R s (eb k) → k ∈ R → Reach R s (ea k)
variable {ea eb}
theorem Trail.perm {s t : Int} {R R' : List Nat} (h : Trail ea eb s R t) (hp : R'.Perm R) : Trail ea eb s R' t := by
  cases h with
  | nil => rw [List.perm_nil.1 hp]; exact Trail.nil _
  | fwd h q => exact Trail.fwd h (hp.trans q)
  | bwd h q => exact Trail.bwd h (hp.trans q)
theorem Trail.append {s v t : Int} {A B : List Nat} (h : Trail ea eb s A v) (h2 : Trail ea eb v B t) : Trail ea eb s (A ++ B) t := by
  induction h with
  | nil => exact h2
  | fwd _ q ih => exact Trail.fwd (ih h2) (q.append_right B)
  | bwd _ q ih => exact Trail.bwd (ih h2) (q.append_right B)
theorem deg_append (v : Int) : ∀ A B : List Nat, deg ea eb v (A ++ B) = deg ea eb v A + deg ea eb v B := by
  intro A B
  induction A with
  | nil => simp [deg]
  | cons k A ih => simp only [List.cons_append, deg, ih]; omega
theorem deg_perm {v : Int} {A B : List Nat} (h : A.Perm B) : deg ea eb v A = deg ea eb v B := by
  induction h with
  | nil => rfl
  | cons k _ ih => simp only [deg, ih]
  | swap a b l => simp only [deg]; omega
  | trans _ _ h1 h2 => rw [h1, h2]
/-- A trail's degrees are even but for its two ends. -/
theorem Trail.parity {s t : Int} {R : List Nat} (h : Trail ea eb s R t) (v : Int) : (deg ea eb v R + (if v = s then 1 else 0) + (if v = t then 1 else 0)) % 2 = 0 := by
  induction h with
  | nil s => simp only [deg]; split <;> omega
  | @fwd k R R' t _ q ih =>
    rw [deg_perm q]
    simp only [deg, inc]
    have e1 : (if v = ea k then 1 else 0 : Nat) = if ea k = v then 1 else 0 := by by_cases e : v = ea k <;> simp [e, eq_comm]
    have e2 : (if v = eb k then 1 else 0 : Nat) = if eb k = v then 1 else 0 := by by_cases e : v = eb k <;> simp [e, eq_comm]
    rw [e1]
    rw [e2] at ih
    omega
  | @bwd k R R' t _ q ih =>
    rw [deg_perm q]
    simp only [deg, inc]
    have e1 : (if v = ea k then 1 else 0 : Nat) = if ea k = v then 1 else 0 := by by_cases e : v = ea k <;> simp [e, eq_comm]
    have e2 : (if v = eb k then 1 else 0 : Nat) = if eb k = v then 1 else 0 := by by_cases e : v = eb k <;> simp [e, eq_comm]
    rw [e2]
    rw [e1] at ih
    omega
/-- Go on till no edge is left where one stands. -/
theorem trail_stuck : ∀ (n : Nat) (R : List Nat) (s : Int), R.length = n → ∃ (A B : List Nat) (t : Int), R.Perm (A ++ B) ∧ Trail ea eb s A t ∧ (∀ k ∈ B, ea k ≠ t ∧ eb k ≠ t) := by
  intro n
  induction n with
  | zero =>
    intro R s h
    rw [List.eq_nil_of_length_eq_zero h]
    exact ⟨[], [], s, List.Perm.refl _, Trail.nil _, by simp⟩
  | succ n ih =>
    intro R s h
    by_cases c : ∃ k ∈ R, ea k = s ∨ eb k = s
    · obtain ⟨k, hk, hs⟩ := c
      have hl : (R.erase k).length = n := by rw [List.length_erase_of_mem hk, h]; rfl
      have hp : R.Perm (k :: R.erase k) := List.perm_cons_erase hk
      rcases hs with hs | hs
      · obtain ⟨A, B, t, h1, h2, h3⟩ := ih (R.erase k) (eb k) hl
        refine ⟨k :: A, B, t, hp.trans (h1.cons k), ?_, h3⟩
        rw [← hs]
        exact Trail.fwd h2 (List.Perm.refl _)
      · obtain ⟨A, B, t, h1, h2, h3⟩ := ih (R.erase k) (ea k) hl
        refine ⟨k :: A, B, t, hp.trans (h1.cons k), ?_, h3⟩
        rw [← hs]
        exact Trail.bwd h2 (List.Perm.refl _)
    · exact ⟨[], R, s, List.Perm.refl _, Trail.nil _, fun k hk => ⟨fun z => c ⟨k, hk, .inl z⟩, fun z => c ⟨k, hk, .inr z⟩⟩⟩
theorem deg_zero {v : Int} : ∀ {R : List Nat}, (∀ k ∈ R, ea k ≠ v ∧ eb k ≠ v) → deg ea eb v R = 0 := by
  intro R
  induction R with
  | nil => intro _; rfl
  | cons k R ih =>
    intro h
    have h1 := h k List.mem_cons_self
    simp only [deg, inc, if_neg h1.1, if_neg h1.2, ih (fun j hj => h j (List.mem_cons_of_mem _ hj))]
/-- A place that a trail comes by: the trail falls into two there. -/
def OnT (ea eb : Nat → Int) (s : Int) (A : List Nat) (t v : Int) : Prop := ∃ A1 A2 : List Nat, A.Perm (A1 ++ A2) ∧ Trail ea eb s A1 v ∧ Trail ea eb v A2 t
theorem OnT.start {s t : Int} {A : List Nat} (h : Trail ea eb s A t) : OnT ea eb s A t s := ⟨[], A, List.Perm.refl _, Trail.nil _, h⟩
theorem OnT.cons_fwd {k : Nat} {A A' : List Nat} {t v : Int} (h : OnT ea eb (eb k) A t v) (q : A'.Perm (k :: A)) : OnT ea eb (ea k) A' t v := by
  obtain ⟨A1, A2, h1, h2, h3⟩ := h
  exact ⟨k :: A1, A2, q.trans (h1.cons k), Trail.fwd h2 (List.Perm.refl _), h3⟩
theorem OnT.cons_bwd {k : Nat} {A A' : List Nat} {t v : Int} (h : OnT ea eb (ea k) A t v) (q : A'.Perm (k :: A)) : OnT ea eb (eb k) A' t v := by
  obtain ⟨A1, A2, h1, h2, h3⟩ := h
  exact ⟨k :: A1, A2, q.trans (h1.cons k), Trail.bwd h2 (List.Perm.refl _), h3⟩
theorem Trail.on {s t : Int} {A : List Nat} (h : Trail ea eb s A t) : ∀ k ∈ A, OnT ea eb s A t (ea k) ∧ OnT ea eb s A t (eb k) := by
  induction h with
  | nil => intro k hk; cases hk
  | @fwd k0 R R' t h q ih =>
    intro k hk
    rcases List.mem_cons.1 (q.mem_iff.1 hk) with rfl | hk
    · exact ⟨OnT.start (Trail.fwd h q), OnT.cons_fwd (OnT.start h) q⟩
    · exact ⟨OnT.cons_fwd (ih k hk).1 q, OnT.cons_fwd (ih k hk).2 q⟩
  | @bwd k0 R R' t h q ih =>
    intro k hk
    rcases List.mem_cons.1 (q.mem_iff.1 hk) with rfl | hk
    · exact ⟨OnT.cons_bwd (OnT.start h) q, OnT.start (Trail.bwd h q)⟩
    · exact ⟨OnT.cons_bwd (ih k hk).1 q, OnT.cons_bwd (ih k hk).2 q⟩
/-- A trail takes in what is left, one round tour at a time. -/
theorem trail_splice : ∀ (n : Nat) (R A B : List Nat) (s t : Int), B.length ≤ n → R.Perm (A ++ B) → Trail ea eb s A t → (∀ v, deg ea eb v B % 2 = 0) → (∀ k ∈ R, Reach ea eb R s (ea k)) → Trail ea eb s R t := by
  intro n
  induction n with
  | zero =>
    intro R A B s t hn hp h _ _
    rw [List.eq_nil_of_length_eq_zero (Nat.le_zero.1 hn), List.append_nil] at hp
    exact h.perm hp
  | succ n ih =>
    intro R A B s t hn hp h he hc
    by_cases hB : B = []
    · subst hB
      rw [List.append_nil] at hp
      exact h.perm hp
    · -- an edge of what is left that touches the trail
      have hx : ∃ v, OnT ea eb s A t v ∧ ∃ k ∈ B, ea k = v ∨ eb k = v := by
        by_cases c : ∃ v, OnT ea eb s A t v ∧ ∃ k ∈ B, ea k = v ∨ eb k = v
        · exact c
        · exfalso
          have hr : ∀ v, Reach ea eb R s v → OnT ea eb s A t v := by
            intro v hv
            induction hv with
            | refl => exact OnT.start h
            | @fwd k _ hk ih2 =>
              rcases List.mem_append.1 (hp.mem_iff.1 hk) with hk | hk
              · exact (h.on k hk).2
              · exact absurd ⟨_, ih2, k, hk, .inl rfl⟩ c
            | @bwd k _ hk ih2 =>
              rcases List.mem_append.1 (hp.mem_iff.1 hk) with hk | hk
              · exact (h.on k hk).1
              · exact absurd ⟨_, ih2, k, hk, .inr rfl⟩ c
          cases B with
          | nil => exact hB rfl
          | cons k B =>
            have hk : k ∈ R := hp.mem_iff.2 (by simp)
            exact c ⟨_, hr _ (hc k hk), k, List.mem_cons_self, .inl rfl⟩
      obtain ⟨v, ⟨A1, A2, p1, t1, t2⟩, k, hk, hkv⟩ := hx
      obtain ⟨C, D, u, p2, t3, hst⟩ := trail_stuck (ea := ea) (eb := eb) B.length B v rfl
      have hu : u = v := by
        by_cases e : u = v
        · exact e
        · exfalso
          have h1 := t3.parity u
          have h2 := he u
          rw [deg_perm p2, deg_append, deg_zero hst] at h2
          rw [if_neg e, if_pos rfl] at h1
          omega
      subst hu
      have hC : C ≠ [] := by
        rintro rfl
        have hkD : k ∈ D := by have := p2.mem_iff.1 hk; simpa using this
        have := hst k hkD
        rcases hkv with z | z
        · exact this.1 z
        · exact this.2 z
      have hlen : D.length ≤ n := by
        have h1 := p2.length_eq
        rw [List.length_append] at h1
        have h2 : 0 < C.length := List.length_pos_iff.2 hC
        omega
      refine ih R (A1 ++ (C ++ A2)) D s t hlen ?_ (t1.append (t3.append t2)) (fun w => ?_) hc
      · -- R ~ A ++ B ~ (A1 ++ A2) ++ (C ++ D) ~ (A1 ++ (C ++ A2)) ++ D
        refine hp.trans ((p1.append p2).trans ?_)
        rw [List.append_assoc, List.append_assoc, List.append_assoc]
        refine List.Perm.append_left A1 ?_
        rw [← List.append_assoc, ← List.append_assoc]
        exact List.Perm.append_right D List.perm_append_comm
      · have h1 := t3.parity w
        have h2 := he w
        rw [deg_perm p2, deg_append] at h2
        split at h1 <;> omega
/-- Euler: one stroke. -/
theorem euler {R : List Nat} {s u : Int} (hc : ∀ k ∈ R, Reach ea eb R s (ea k)) (hd : ∀ v, (deg ea eb v R + (if v = s then 1 else 0) + (if v = u then 1 else 0)) % 2 = 0) : ∃ t, Trail ea eb s R t := by
  obtain ⟨A, B, t, p, h, hst⟩ := trail_stuck (ea := ea) (eb := eb) R.length R s rfl
  refine ⟨t, trail_splice B.length R A B s t (Nat.le_refl _) p h ?_ hc⟩
  have htu : t = u := by
    have h1 := h.parity t
    have h2 := hd t
    rw [deg_perm p, deg_append, deg_zero hst] at h2
    rw [if_pos rfl] at h1
    by_cases e : t = u
    · exact e
    · rw [if_neg e] at h2
      omega
  subst htu
  intro v
  have h1 := h.parity v
  have h2 := hd v
  rw [deg_perm p, deg_append] at h2
  omega
/-- What a trail has is reached. -/
theorem Trail.reach {s t : Int} {A : List Nat} (h : Trail ea eb s A t) : ∀ {R : List Nat}, (∀ k ∈ A, k ∈ R) → ∀ k ∈ A, Reach ea eb R s (ea k) ∧ Reach ea eb R s (eb k) := by
  have lift_fwd : ∀ {R : List Nat} {k : Nat} {v : Int}, k ∈ R → Reach ea eb R (eb k) v → Reach ea eb R (ea k) v := by
    intro R k v hk hr
    induction hr with
    | refl => exact Reach.fwd Reach.refl hk
    | fwd _ hj ih => exact Reach.fwd ih hj
    | bwd _ hj ih => exact Reach.bwd ih hj
  have lift_bwd : ∀ {R : List Nat} {k : Nat} {v : Int}, k ∈ R → Reach ea eb R (ea k) v → Reach ea eb R (eb k) v := by
    intro R k v hk hr
    induction hr with
    | refl => exact Reach.bwd Reach.refl hk
    | fwd _ hj ih => exact Reach.fwd ih hj
    | bwd _ hj ih => exact Reach.bwd ih hj
  induction h with
  | nil => intro R _ k hk; cases hk
  | @fwd k0 A A' t h q ih =>
    intro R hR k hk
    have h0 : k0 ∈ R := hR k0 (q.mem_iff.2 List.mem_cons_self)
    rcases List.mem_cons.1 (q.mem_iff.1 hk) with rfl | hk
    · exact ⟨Reach.refl, Reach.fwd Reach.refl h0⟩
    · have := ih (fun j hj => hR j (q.mem_iff.2 (List.mem_cons_of_mem _ hj))) k hk
      exact ⟨lift_fwd h0 this.1, lift_fwd h0 this.2⟩
  | @bwd k0 A A' t h q ih =>
    intro R hR k hk
    have h0 : k0 ∈ R := hR k0 (q.mem_iff.2 List.mem_cons_self)
    rcases List.mem_cons.1 (q.mem_iff.1 hk) with rfl | hk
    · exact ⟨Reach.bwd Reach.refl h0, Reach.refl⟩
    · have := ih (fun j hj => hR j (q.mem_iff.2 (List.mem_cons_of_mem _ hj))) k hk
      exact ⟨lift_bwd h0 this.1, lift_bwd h0 this.2⟩
end
theorem rsum_le {f g : Nat → Int} : ∀ {n : Nat}, (∀ i, i < n → f i ≤ g i) → rsum f n ≤ rsum g n := by
  intro n
  induction n with
  | zero => intro _; exact Int.le_refl _
  | succ n ih => intro h; simp only [rsum]; have := ih (fun i hi => h i (by omega)); have := h n (by omega); omega
theorem rsum_mul2 (f : Nat → Int) : ∀ n, rsum (fun i => 2 * f i) n = 2 * rsum f n := by
  intro n
  induction n with
  | zero => rfl
  | succ n ih => simp only [rsum]; omega
theorem rsum_mod2 (f : Nat → Int) : ∀ n, (rsum (fun i => f i % 2) n - rsum f n) % 2 = 0 := by
  intro n
  induction n with
  | zero => rfl
  | succ n ih => simp only [rsum]; omega
theorem rsum_take (xs : List Int) : ∀ t, t ≤ xs.length → rsum (fun i => xs.getD i 0) t = (xs.take t).sum := by
  intro t
  induction t with
  | zero => intro _; rfl
  | succ t ih =>
    intro h
    simp only [rsum]
    rw [ih (by omega), List.take_succ_eq_append_getElem (by omega), List.sum_append]
    simp [List.getD_eq_getElem?_getD, show t < xs.length by omega]
theorem rsum_sum (xs : List Int) : rsum (fun i => xs.getD i 0) xs.length = xs.sum := by rw [rsum_take xs _ (Nat.le_refl _), List.take_length]
/-- The lines at a point. -/
def degAt : List (List Int) → Nat → Int
  | [], _ => 0
  | r :: l, i => ((if (i : Int) = rd r 0 then 1 else 0) + (if (i : Int) = rd r 1 then 1 else 0)) + degAt l i
theorem degAt_nn : ∀ (l : List (List Int)) (i : Nat), 0 ≤ degAt l i := by
  intro l
  induction l with
  | nil => intro i; exact Int.le_refl _
  | cons r l ih => intro i; simp only [degAt]; have := ih i; split <;> split <;> omega
theorem incr_at (d : List Int) (j i : Nat) (hi : i < d.length) : (incr d j).getD i 0 = d.getD i 0 + (if i = j then 1 else 0) := by
  unfold incr
  by_cases c : i = j
  · subst c; simp [List.getD_eq_getElem?_getD, hi]
  · rw [if_neg c]; simp [List.getD_eq_getElem?_getD, List.getElem?_set, c, Ne.symm c, hi]
theorem degL_at {n : Nat} : ∀ (l : List (List Int)) (d : List Int) (i : Nat), (∀ r ∈ l, LineOk n r) → d.length = n → i < n → (degL l d).getD i 0 = d.getD i 0 + degAt l i := by
  intro l
  induction l with
  | nil => intro d i _ _ _; simp [degL, degAt]
  | cons r l ih =>
    intro d i hr hd hi
    obtain ⟨a, b, ea, eb, ha, hb⟩ := line_nat (hr r List.mem_cons_self)
    simp only [degL, degAt]
    rw [ih _ i (fun x hx => hr x (List.mem_cons_of_mem _ hx)) (by rw [incr_len, incr_len, hd]) hi, incr_at _ _ _ (by rw [incr_len, hd]; exact hi), incr_at _ _ _ (by rw [hd]; exact hi), ea, eb]
    simp only [Int.toNat_natCast]
    have e1 : (if i = a then 1 else 0 : Int) = if (i : Int) = (a : Int) then 1 else 0 := by
      by_cases c : i = a
      · rw [if_pos c, if_pos (by omega)]
      · rw [if_neg c, if_neg (by omega)]
    have e2 : (if i = b then 1 else 0 : Int) = if (i : Int) = (b : Int) then 1 else 0 := by
      by_cases c : i = b
      · rw [if_pos c, if_pos (by omega)]
      · rw [if_neg c, if_neg (by omega)]
    rw [e1, e2]
    omega
theorem degs_at {n : Nat} {l : List (List Int)} (hr : ∀ r ∈ l, LineOk n r) {i : Nat} (hi : i < n) : (degs n l).getD i 0 = degAt l i := by
  unfold degs
  rw [degL_at l _ i hr (by simp) hi]
  simp [List.getD_eq_getElem?_getD, hi]
def lineW (P : Nat → Bool) : List (List Int) → Int
  | [] => 0
  | r :: l => ((if P (rd r 0).toNat = true then 1 else 0) + (if P (rd r 1).toNat = true then 1 else 0)) + lineW P l
theorem rsum_pt (P : Nat → Bool) {n a : Nat} (ha : a < n) : rsum (fun i => if P i = true then (if (i : Int) = (a : Int) then 1 else 0) else 0) n = if P a = true then 1 else 0 := by
  have e : rsum (fun i => if P i = true then (if (i : Int) = (a : Int) then 1 else 0) else 0) n = rsum (fun g => if (g : Int) = (a : Int) then (if P a = true then 1 else 0) else 0) n := by
    refine rsum_congr fun i _ => ?_
    by_cases c : (i : Int) = (a : Int)
    · obtain rfl : i = a := by omega
      simp
    · simp [c]
  rw [e, rsum_one, if_pos ⟨by omega, by omega⟩]
theorem hand {n : Nat} (P : Nat → Bool) : ∀ l : List (List Int), (∀ r ∈ l, LineOk n r) → rsum (fun i => if P i = true then degAt l i else 0) n = lineW P l := by
  intro l
  induction l with
  | nil => intro _; exact rsum_zero (fun i _ => by simp [degAt])
  | cons r l ih =>
    intro hr
    obtain ⟨a, b, ea, eb, ha, hb⟩ := line_nat (hr r List.mem_cons_self)
    simp only [degAt, lineW]
    rw [← ih (fun x hx => hr x (List.mem_cons_of_mem _ hx)), ea, eb]
    simp only [Int.toNat_natCast]
    rw [← rsum_pt P ha, ← rsum_pt P hb, ← rsum_add, ← rsum_add]
    refine rsum_congr fun i _ => ?_
    by_cases c : P i = true
    · simp only [if_pos c]
    · simp only [if_neg c]; rfl
theorem lineW_even (P : Nat → Bool) : ∀ l : List (List Int), (∀ r ∈ l, P (rd r 0).toNat = P (rd r 1).toNat) → lineW P l % 2 = 0 := by
  intro l
  induction l with
  | nil => intro _; rfl
  | cons r l ih =>
    intro h
    simp only [lineW]
    have := ih (fun x hx => h x (List.mem_cons_of_mem _ hx))
    rw [h r List.mem_cons_self]
    split <;> omega
theorem lineW_all : ∀ l : List (List Int), lineW (fun _ => true) l = 2 * (l.length : Int) := by
  intro l
  induction l with
  | nil => rfl
  | cons r l ih => simp only [lineW, ih, List.length_cons, if_true]; omega
theorem degs_sum {n : Nat} {l : List (List Int)} (hr : ∀ r ∈ l, LineOk n r) : (degs n l).sum = 2 * (l.length : Int) := by
  rw [← rsum_sum, degs_len, ← lineW_all, ← hand (fun _ => true) l hr]
  exact rsum_congr fun i hi => by rw [degs_at hr hi, if_pos rfl]
theorem oddL_count : ∀ (ds : List Int) (i : Nat), ((oddL ds i).length : Int) = (ds.map fun x => x % 2).sum := by
  intro ds
  induction ds with
  | nil => intro i; rfl
  | cons d ds ih =>
    intro i
    simp only [oddL, List.map_cons, List.sum_cons]
    rw [← ih (i + 1)]
    split
    · simp only [List.length_cons]; omega
    · omega
theorem oddL_mem : ∀ (ds : List Int) (i : Nat) (y : Int), y ∈ oddL ds i ↔ ∃ j : Nat, j < ds.length ∧ y = ((i + j : Nat) : Int) ∧ ds.getD j 0 % 2 = 1 := by
  intro ds
  induction ds with
  | nil => intro i y; simp [oddL]
  | cons d ds ih =>
    intro i y
    have e : (∃ j : Nat, j < (d :: ds).length ∧ y = ((i + j : Nat) : Int) ∧ (d :: ds).getD j 0 % 2 = 1) ↔ (y = (i : Int) ∧ d % 2 = 1) ∨ ∃ j : Nat, j < ds.length ∧ y = ((i + 1 + j : Nat) : Int) ∧ ds.getD j 0 % 2 = 1 := by
      constructor
      · rintro ⟨j, h1, h2, h3⟩
        cases j with
        | zero => exact .inl ⟨by simpa using h2, by simpa using h3⟩
        | succ j => exact .inr ⟨j, by simpa using h1, by rw [h2]; omega, by simpa using h3⟩
      · rintro (⟨h1, h2⟩ | ⟨j, h1, h2, h3⟩)
        · exact ⟨0, by simp, by simpa using h1, by simpa using h2⟩
        · exact ⟨j + 1, by simpa using h1, by rw [h2]; omega, by simpa using h3⟩
    rw [e, ← ih]
    simp only [oddL]
    split
    · rename_i c; simp [c]
    · rename_i c; simp [c]
theorem odds_mem {n : Nat} {l : List (List Int)} (hr : ∀ r ∈ l, LineOk n r) (y : Int) : y ∈ odds n l ↔ ∃ j : Nat, j < n ∧ y = (j : Int) ∧ degAt l j % 2 = 1 := by
  unfold odds
  rw [oddL_mem, degs_len]
  constructor
  · rintro ⟨j, h1, h2, h3⟩
    exact ⟨j, h1, by simpa using h2, by rw [← degs_at hr h1]; exact h3⟩
  · rintro ⟨j, h1, h2, h3⟩
    exact ⟨j, h1, by simpa using h2, by rw [degs_at hr h1]; exact h3⟩
theorem odds_count {n : Nat} {l : List (List Int)} (hr : ∀ r ∈ l, LineOk n r) : ((odds n l).length : Int) = rsum (fun i => degAt l i % 2) n := by
  unfold odds
  rw [oddL_count, ← rsum_sum]
  rw [List.length_map, degs_len]
  refine rsum_congr fun i hi => ?_
  rw [← degs_at hr hi]
  simp [List.getD_eq_getElem?_getD, degs_len, hi]
theorem odds_even {n : Nat} {l : List (List Int)} (hr : ∀ r ∈ l, LineOk n r) : ((odds n l).length : Int) % 2 = 0 := by
  rw [odds_count hr]
  have h1 : (rsum (fun i => degAt l i % 2) n - rsum (fun i => degAt l i) n) % 2 = 0 := rsum_mod2 (fun i => degAt l i) n
  have h2 : rsum (fun i => degAt l i) n = 2 * (l.length : Int) := by
    rw [← lineW_all, ← hand (fun _ => true) l hr]
    exact rsum_congr fun i _ => (if_pos rfl).symm
  omega
structure LabOk (n : Nat) (G : List Int) : Prop where
  len : G.length = n
  bd : ∀ x ∈ G, 0 ≤ x ∧ x < (n : Int)
theorem lab_idL (n : Nat) : LabOk n (idL n) := ⟨(same_start n).lg, (same_start n).bg⟩
theorem lab_relab {n : Nat} {G : List Int} (h : LabOk n G) {a b : Int} (hb : 0 ≤ b ∧ b < (n : Int)) : LabOk n (relab G a b) := by
  refine ⟨by rw [relab_len, h.len], fun x hx => ?_⟩
  obtain ⟨y, hy, rfl⟩ := List.mem_map.1 hx
  unfold lab
  split
  · exact hb
  · exact h.bd y hy
theorem lab_at {n : Nat} {G : List Int} (h : LabOk n G) {i : Nat} (hi : i < n) : 0 ≤ G.getD i 0 ∧ G.getD i 0 < (n : Int) := h.bd _ (mem_getD (by rw [h.len]; exact hi))
theorem joinG_lab {n : Nat} : ∀ (l : List (List Int)) (G : List Int), (∀ r ∈ l, LineOk n r) → LabOk n G → LabOk n (joinG l G) := by
  intro l
  induction l with
  | nil => intro G _ h; exact h
  | cons r l ih =>
    intro G hr h
    obtain ⟨a, b, ea, eb, ha, hb⟩ := line_nat (hr r List.mem_cons_self)
    simp only [joinG]
    refine ih _ (fun x hx => hr x (List.mem_cons_of_mem _ hx)) (lab_relab h ?_)
    rw [eb, rd_nat]
    exact lab_at h hb
theorem joinG_keep {n : Nat} : ∀ (l : List (List Int)) (G : List Int), (∀ r ∈ l, LineOk n r) → LabOk n G → ∀ i j, i < n → j < n → G.getD i 0 = G.getD j 0 → (joinG l G).getD i 0 = (joinG l G).getD j 0 := by
  intro l
  induction l with
  | nil => intro G _ _ i j _ _ h; exact h
  | cons r l ih =>
    intro G hr h i j hi hj he
    obtain ⟨a, b, ea, eb, ha, hb⟩ := line_nat (hr r List.mem_cons_self)
    simp only [joinG]
    refine ih _ (fun x hx => hr x (List.mem_cons_of_mem _ hx)) (lab_relab h (by rw [eb, rd_nat]; exact lab_at h hb)) i j hi hj ?_
    rw [relab_at (by rw [h.len]; exact hi), relab_at (by rw [h.len]; exact hj), he]
theorem joinG_line {n : Nat} : ∀ (l : List (List Int)) (G : List Int), (∀ r ∈ l, LineOk n r) → LabOk n G → ∀ r ∈ l, (joinG l G).getD (rd r 0).toNat 0 = (joinG l G).getD (rd r 1).toNat 0 := by
  intro l
  induction l with
  | nil => intro G _ _ r hr; simp at hr
  | cons q l ih =>
    intro G hr h r hm
    obtain ⟨a, b, ea, eb, ha, hb⟩ := line_nat (hr q List.mem_cons_self)
    have hl : LabOk n (relab G (rd G (rd q 0)) (rd G (rd q 1))) := lab_relab h (by rw [eb, rd_nat]; exact lab_at h hb)
    simp only [joinG]
    rcases List.mem_cons.1 hm with rfl | hm
    · refine joinG_keep l _ (fun x hx => hr x (List.mem_cons_of_mem _ hx)) hl _ _ (by rw [ea]; simpa using ha) (by rw [eb]; simpa using hb) ?_
      rw [relab_at (by rw [h.len, ea]; simpa using ha), relab_at (by rw [h.len, eb]; simpa using hb), ea, eb, rd_nat, rd_nat]
      simp only [Int.toNat_natCast]
      unfold lab
      split <;> split <;> simp_all
    · exact ih _ (fun x hx => hr x (List.mem_cons_of_mem _ hx)) hl r hm
/-- What the labels join, every equivalence joins that joins the lines. -/
theorem joinG_least {n : Nat} (E : Nat → Nat → Prop) (e2 : ∀ i j, E i j → E j i) (e3 : ∀ i j k, E i j → E j k → E i k) : ∀ (l : List (List Int)) (G : List Int), (∀ r ∈ l, LineOk n r) → LabOk n G →
    (∀ r ∈ l, E (rd r 0).toNat (rd r 1).toNat) → (∀ i j, i < n → j < n → G.getD i 0 = G.getD j 0 → E i j) → ∀ i j, i < n → j < n → (joinG l G).getD i 0 = (joinG l G).getD j 0 → E i j := by
  intro l
  induction l with
  | nil => intro G _ _ _ h; exact h
  | cons r l ih =>
    intro G hr h hE hG
    obtain ⟨a, b, ea, eb, ha, hb⟩ := line_nat (hr r List.mem_cons_self)
    have hab := hE r List.mem_cons_self
    rw [ea, eb] at hab
    simp only [Int.toNat_natCast] at hab
    simp only [joinG]
    refine ih _ (fun x hx => hr x (List.mem_cons_of_mem _ hx)) (lab_relab h (by rw [eb, rd_nat]; exact lab_at h hb)) (fun x hx => hE x (List.mem_cons_of_mem _ hx)) fun i j hi hj he => ?_
    rw [relab_at (by rw [h.len]; exact hi), relab_at (by rw [h.len]; exact hj), ea, eb, rd_nat, rd_nat] at he
    have gi := hG i a hi ha
    have gj := hG j a hj ha
    have hi2 := hG i b hi hb
    have hj2 := hG j b hj hb
    have gij := hG i j hi hj
    unfold lab at he
    by_cases c1 : G.getD i 0 = G.getD a 0
    · rw [if_pos c1] at he
      by_cases c2 : G.getD j 0 = G.getD a 0
      · exact e3 _ _ _ (gi c1) (e2 _ _ (gj c2))
      · rw [if_neg c2] at he
        exact e3 _ _ _ (gi c1) (e3 _ _ _ hab (e2 _ _ (hj2 he.symm)))
    · rw [if_neg c1] at he
      by_cases c2 : G.getD j 0 = G.getD a 0
      · rw [if_pos c2] at he
        exact e3 _ _ _ (hi2 he) (e3 _ _ _ (e2 _ _ hab) (e2 _ _ (gj c2)))
      · rw [if_neg c2] at he
        exact gij he
theorem oddR_rsum (G d : List Int) (g : Int) : ∀ t, oddR G d g t = rsum (fun i => if G.getD i 0 = g ∧ 0 < d.getD i 0 then d.getD i 0 % 2 else 0) t := by
  intro t
  induction t with
  | zero => rfl
  | succ t ih => simp only [oddR, rsum]; rw [ih]
theorem oddR_deg {n : Nat} {l : List (List Int)} (hr : ∀ r ∈ l, LineOk n r) (G : List Int) (g : Int) : oddR G (degs n l) g n = rsum (fun i => if decide (G.getD i 0 = g) = true then degAt l i % 2 else 0) n := by
  rw [oddR_rsum]
  refine rsum_congr fun i hi => ?_
  rw [degs_at hr hi]
  have h0 := degAt_nn l i
  by_cases c : G.getD i 0 = g
  · rw [if_pos (decide_eq_true c)]
    by_cases c2 : 0 < degAt l i
    · rw [if_pos ⟨c, c2⟩]
    · rw [if_neg (fun z => c2 z.2)]; omega
  · rw [if_neg (fun z => c z.1), if_neg (by simpa using c)]
theorem oddR_even {n : Nat} {l : List (List Int)} (hr : ∀ r ∈ l, LineOk n r) (g : Int) : oddR (joinG l (idL n)) (degs n l) g n % 2 = 0 := by
  rw [oddR_deg hr]
  have h1 := hand (n := n) (fun i => decide ((joinG l (idL n)).getD i 0 = g)) l hr
  have h2 := lineW_even (fun i => decide ((joinG l (idL n)).getD i 0 = g)) l (fun r hm => by rw [joinG_line l _ hr (lab_idL n) r hm])
  have h3 := rsum_mod2 (fun i => if decide ((joinG l (idL n)).getD i 0 = g) = true then degAt l i else 0) n
  have h4 : rsum (fun i => (if decide ((joinG l (idL n)).getD i 0 = g) = true then degAt l i else 0) % 2) n = rsum (fun i => if decide ((joinG l (idL n)).getD i 0 = g) = true then degAt l i % 2 else 0) n := rsum_congr fun i _ => by split <;> simp
  omega
theorem rsum_swap (n : Nat) (x : Nat → Int) (y : Nat → Int) (hx : ∀ i, i < n → 0 ≤ x i ∧ x i < (n : Int)) : ∀ t, t ≤ n → rsum (fun g => rsum (fun i => if decide (x i = (g : Int)) = true then y i else 0) t) n = rsum y t := by
  intro t
  induction t with
  | zero => intro _; exact rsum_zero (fun _ _ => rfl)
  | succ t ih =>
    intro ht
    simp only [rsum]
    rw [rsum_add, ih (by omega)]
    have e : rsum (fun g => if decide (x t = (g : Int)) = true then y t else 0) n = rsum (fun g => if (g : Int) = x t then y t else 0) n := rsum_congr fun g _ => by
      by_cases c : x t = (g : Int)
      · rw [if_pos (decide_eq_true c), if_pos c.symm]
      · rw [if_neg (by simpa using c), if_neg (fun z => c z.symm)]
    rw [e, rsum_one, if_pos (hx t (by omega))]
theorem oddR_total {n : Nat} {l : List (List Int)} (hr : ∀ r ∈ l, LineOk n r) {G : List Int} (hG : LabOk n G) : rsum (fun g => oddR G (degs n l) (g : Int) n) n = ((odds n l).length : Int) := by
  rw [odds_count hr, ← rsum_swap n (fun i => G.getD i 0) (fun i => degAt l i % 2) (fun i hi => lab_at hG hi) n (Nat.le_refl _)]
  exact rsum_congr fun g _ => oddR_deg hr G g
theorem odd_some {n : Nat} (G d : List Int) (g : Int) : ∀ t, someR G d g t = false → oddR G d g t = 0 := by
  intro t
  induction t with
  | zero => intro _; rfl
  | succ t ih =>
    intro h
    simp only [someR, Bool.or_eq_false_iff, decide_eq_false_iff_not] at h
    simp only [oddR]
    rw [ih h.1, if_neg h.2]
    rfl
theorem strokeF_two {x : Int} (h0 : 0 ≤ x) (h2 : x % 2 = 0) : x ≤ 2 * strokeF x ∧ 2 * strokeF x ≤ 2 + x ∧ 1 ≤ strokeF x := by
  unfold strokeF mx
  split <;> omega
/-- What the first line of the law asks. -/
theorem strokes_bounds {n : Nat} {l : List (List Int)} (hr : ∀ r ∈ l, LineOk n r) :
    let G := joinG l (idL n)
    0 ≤ partSum (fun _ => 1) G (degs n l) n ∧ partSum (fun _ => 1) G (degs n l) n ≤ partSum strokeF G (degs n l) n ∧ ((odds n l).length : Int) ≤ 2 * partSum strokeF G (degs n l) n ∧ 2 * partSum strokeF G (degs n l) n ≤ 2 * partSum (fun _ => 1) G (degs n l) n + ((odds n l).length : Int) := by
  intro G
  have hG : LabOk n G := joinG_lab l _ hr (lab_idL n)
  have he : ∀ g : Int, oddR G (degs n l) g n % 2 = 0 := oddR_even hr
  have ht := oddR_total hr hG
  unfold partSum
  refine ⟨?_, ?_, ?_, ?_⟩
  · refine (rsum_bd (B := 1) fun i _ => ?_).1
    split <;> simp
  · refine rsum_le fun i _ => ?_
    have := strokeF_two (oddR_bd G (degs n l) (i : Int) n).1 (he i)
    split
    · exact this.2.2
    · omega
  · rw [← rsum_mul2, ← ht]
    refine rsum_le fun i _ => ?_
    have := strokeF_two (oddR_bd G (degs n l) (i : Int) n).1 (he i)
    split
    · exact this.1
    · rename_i c
      rw [odd_some (n := n) G _ _ n (by simpa using c)]
      omega
  · rw [← rsum_mul2, ← rsum_mul2, ← ht, ← rsum_add]
    refine rsum_le fun i _ => ?_
    have := strokeF_two (oddR_bd G (degs n l) (i : Int) n).1 (he i)
    split
    · show 2 * strokeF (oddR G (degs n l) (i : Int) n) ≤ 2 * (1 : Int) + oddR G (degs n l) (i : Int) n
      omega
    · rename_i c
      rw [odd_some (n := n) G _ _ n (by simpa using c)]
      omega
def unset (n u : Nat) : List Nat := (List.range n).filter fun i => !u.testBit i
theorem unset_len (n u : Nat) : (unset n u).length = leftN n u := by unfold unset leftN; rw [List.countP_eq_length_filter]
theorem unset_mem {n u i : Nat} : i ∈ unset n u ↔ i < n ∧ u.testBit i = false := by
  unfold unset
  rw [List.mem_filter, List.mem_range]
  simp
theorem unset_succ (n u : Nat) : unset (n + 1) u = unset n u ++ (if u.testBit n then [] else [n]) := by
  unfold unset
  rw [List.range_succ, List.filter_append]
  congr 1
  cases h : u.testBit n <;> simp [h]
theorem unset_far (u e : Nat) : ∀ n, n ≤ e → unset n (u ||| 2 ^ e) = unset n u := by
  intro n
  induction n with
  | zero => intro _; rfl
  | succ n ih =>
    intro h
    rw [unset_succ, unset_succ, ih (by omega), bit_or, decide_eq_false (by omega), Bool.or_false]
theorem unset_set (u e : Nat) (hb : u.testBit e = false) : ∀ n, e < n → (unset n u).Perm (e :: unset n (u ||| 2 ^ e)) := by
  intro n
  induction n with
  | zero => intro h; omega
  | succ n ih =>
    intro h
    rw [unset_succ, unset_succ, bit_or]
    by_cases c : e = n
    · subst c
      rw [unset_far u e e (Nat.le_refl _), hb]
      simp only [decide_true, Bool.or_true, if_true, List.append_nil, Bool.false_eq_true, if_false]
      exact List.perm_append_comm
    · have := ih (by omega)
      rw [decide_eq_false c, Bool.or_false, ← List.cons_append]
      exact this.append_right _
theorem unset_zero (n : Nat) : unset n 0 = List.range n := by
  unfold unset
  rw [List.filter_eq_self]
  intro a _
  simp
theorem stepL_is {α : Type} {f : Nat → Option α} : ∀ (d i x : Nat), i ≤ x → x < i + d → (f x).isSome = true → (stepL f d i).isSome = true := by
  intro d
  induction d with
  | zero => intro i x h1 h2; omega
  | succ d ih =>
    intro i x h1 h2 h3
    simp only [stepL]
    cases hf : f i with
    | some q => rfl
    | none =>
      by_cases c : x = i
      · subst c; rw [hf] at h3; simp at h3
      · exact ih (i + 1) x (by omega) (by omega) h3
def lA (ls : List (List Int)) (k : Nat) : Int := rd (ls.getD k []) 0
def lB (ls : List (List Int)) (k : Nat) : Int := rd (ls.getD k []) 1
/-- A stroke that the search gives is a trail through all that is left, and a stroke. -/
theorem dfs_sound (ls : List (List Int)) : ∀ (j u : Nat) (a : Int) (q : List Int), leftN ls.length u = j → u < 2 ^ ls.length → dfsAt ls u a = some q → q.length = j ∧ strokeL ls a u q = true ∧ ∃ R t, Trail (lA ls) (lB ls) a R t ∧ R.Perm (unset ls.length u) := by
  intro j
  induction j with
  | zero =>
    intro u a q hj hu h
    unfold dfsAt at h
    rw [hj] at h
    simp only [dfs, Option.some.injEq] at h
    subst h
    have : unset ls.length u = [] := List.eq_nil_of_length_eq_zero (by rw [unset_len, hj])
    exact ⟨rfl, rfl, [], a, Trail.nil a, by rw [this]⟩
  | succ j ih =>
    intro u a q hj hu h
    rw [dfsAt_step a hu (by rw [Ne, ← leftN_zero hu]; omega)] at h
    obtain ⟨i, _, hi, hf⟩ := stepL_some _ _ h
    rw [Nat.zero_add] at hi
    unfold dfsBr at hf
    by_cases c : u.testBit i = true
    · rw [if_pos c] at hf; cases hf
    · rw [if_neg c] at hf
      have cb : u.testBit i = false := by simpa using c
      cases hn : nextOf (ls.getD i []) a with
      | none => rw [hn] at hf; cases hf
      | some p =>
        rw [hn] at hf
        obtain ⟨q', hq, rfl⟩ := Option.map_eq_some_iff.1 hf
        have hl := left_add (n := ls.length) hi cb
        obtain ⟨h1, h2, R, t, h3, h4⟩ := ih (u + 2 ^ i) p q' (by omega) (used_lt2 hu hi cb) hq
        have hp : (i :: R).Perm (unset ls.length u) := by
          refine List.Perm.trans ?_ (unset_set u i cb _ hi).symm
          rw [or_add u i cb]
          exact h4.cons i
        have hrow : rd_L1 ls (i : Int) = ls.getD i [] := by simp [rd_L1]
        refine ⟨by rw [List.length_cons, h1], ?_, i :: R, t, ?_, hp⟩
        · simp only [strokeL]
          rw [if_pos ⟨by omega, by omega, by simpa using cb⟩, hrow]
          simp only [Int.toNat_natCast]
          rcases nextOf_some hn with ⟨e1, e2⟩ | ⟨e0, e1, e2⟩
          · rw [if_pos e1, ← e2]; exact h2
          · rw [if_neg e0, if_pos e1, ← e2]; exact h2
        · rcases nextOf_some hn with ⟨e1, e2⟩ | ⟨e0, e1, e2⟩
          · rw [e1]
            refine Trail.fwd (k := i) (R := R) ?_ (List.Perm.refl _)
            show Trail (lA ls) (lB ls) (rd (ls.getD i []) 1) R t
            rw [← e2]; exact h3
          · rw [e1]
            refine Trail.bwd (k := i) (R := R) ?_ (List.Perm.refl _)
            show Trail (lA ls) (lB ls) (rd (ls.getD i []) 0) R t
            rw [← e2]; exact h3
/-- Where there is a trail the search gives one. -/
theorem dfs_full (ls : List (List Int)) (hne : ∀ r ∈ ls, ¬ rd r 0 = rd r 1) : ∀ (j u : Nat) (a : Int) (R : List Nat) (t : Int), leftN ls.length u = j → u < 2 ^ ls.length → Trail (lA ls) (lB ls) a R t → R.Perm (unset ls.length u) → (dfsAt ls u a).isSome = true := by
  intro j
  induction j with
  | zero =>
    intro u a R t hj hu _ _
    unfold dfsAt
    rw [hj]
    rfl
  | succ j ih =>
    intro u a R t hj hu h hp
    have hlen : R.length = j + 1 := by rw [hp.length_eq, unset_len, hj]
    rw [dfsAt_step a hu (by rw [Ne, ← leftN_zero hu]; omega)]
    have step : ∀ (k : Nat) (R0 : List Nat) (p : Int), R.Perm (k :: R0) → Trail (lA ls) (lB ls) p R0 t → nextOf (ls.getD k []) a = some p → (stepL (dfsBr ls u a) ls.length 0).isSome = true := by
      intro k R0 p q h3 hn
      have hk := unset_mem.1 (hp.mem_iff.1 (q.mem_iff.2 List.mem_cons_self))
      refine stepL_is _ _ k (Nat.zero_le _) (by omega) ?_
      unfold dfsBr
      rw [if_neg (by rw [hk.2]; simp), hn]
      have hl := left_add (n := ls.length) hk.1 hk.2
      have := ih (u + 2 ^ k) p R0 t (by omega) (used_lt2 hu hk.1 hk.2) h3 (by
        rw [← or_add u k hk.2]
        exact (q.symm.trans (hp.trans (unset_set u k hk.2 _ hk.1))).cons_inv)
      simp only
      rw [Option.isSome_map]
      exact this
    have hrow : ∀ k, k ∈ R → ls.getD k [] ∈ ls := fun k hk => by
      have := (unset_mem.1 (hp.mem_iff.1 hk)).1
      simp [List.getD_eq_getElem?_getD, this]
    cases h with
    | nil => simp at hlen
    | @fwd k R0 _ _ h3 q => exact step k R0 _ q h3 (by unfold nextOf; exact if_pos rfl)
    | @bwd k R0 _ _ h3 q =>
      refine step k R0 _ q h3 ?_
      have := hne _ (hrow k (q.mem_iff.2 List.mem_cons_self))
      show nextOf (ls.getD k []) (rd (ls.getD k []) 1) = _
      unfold nextOf
      rw [if_neg (fun z => this z.symm), if_pos rfl]
      rfl
/-- All that FirstStroke tells. -/
theorem dfs_zero (ls : List (List Int)) (hne : ∀ r ∈ ls, ¬ rd r 0 = rd r 1) (s : Int) : (dfsAt ls 0 s).isSome = true ↔ ∃ R t, Trail (lA ls) (lB ls) s R t ∧ R.Perm (List.range ls.length) := by
  have h0 : (0 : Nat) < 2 ^ ls.length := Nat.two_pow_pos _
  constructor
  · intro h
    obtain ⟨q, hq⟩ := Option.isSome_iff_exists.1 h
    obtain ⟨_, _, R, t, h1, h2⟩ := dfs_sound ls _ 0 s q rfl h0 hq
    exact ⟨R, t, h1, by rw [unset_zero] at h2; exact h2⟩
  · rintro ⟨R, t, h1, h2⟩
    exact dfs_full ls hne _ 0 s R t rfl h0 h1 (by rw [unset_zero]; exact h2)
theorem strokeL_front (ls : List (List Int)) : ∀ (s t : List Int) (a : Int) (u : Nat), strokeL ls a u (s ++ t) = true → strokeL ls a u s = true := by
  intro s
  induction s with
  | nil => intro t a u _; rfl
  | cons i s ih =>
    intro t a u h
    simp only [List.cons_append, strokeL] at h ⊢
    by_cases c : 0 ≤ i ∧ i ≤ (ls.length : Int) - 1 ∧ u.testBit i.toNat = false
    · rw [if_pos c] at h ⊢
      split at h
      · rename_i c1; rw [if_pos c1]; exact ih t _ _ h
      · rename_i c1
        rw [if_neg c1]
        split at h
        · rename_i c2; rw [if_pos c2]; exact ih t _ _ h
        · cases h
    · rw [if_neg c] at h; cases h
theorem strokeL_new (ls : List (List Int)) (x : Int) : ∀ (s : List Int) (a : Int) (u : Nat), strokeL ls a u (s ++ [x]) = true → u.testBit x.toNat = false ∧ x ∉ s := by
  intro s
  induction s with
  | nil =>
    intro a u h
    simp only [List.nil_append, strokeL] at h
    by_cases c : 0 ≤ x ∧ x ≤ (ls.length : Int) - 1 ∧ u.testBit x.toNat = false
    · exact ⟨c.2.2, by simp⟩
    · rw [if_neg c] at h; cases h
  | cons i s ih =>
    intro a u h
    simp only [List.cons_append, strokeL] at h
    by_cases c : 0 ≤ i ∧ i ≤ (ls.length : Int) - 1 ∧ u.testBit i.toNat = false
    · rw [if_pos c] at h
      have go : ∀ p, strokeL ls p (u + 2 ^ i.toNat) (s ++ [x]) = true → u.testBit x.toNat = false ∧ x ∉ i :: s := by
        intro p hp
        obtain ⟨h1, h2⟩ := ih _ _ hp
        rw [← or_add u _ c.2.2, bit_or, Bool.or_eq_false_iff, decide_eq_false_iff_not] at h1
        refine ⟨h1.1, fun hm => ?_⟩
        rcases List.mem_cons.1 hm with rfl | hm
        · exact h1.2 rfl
        · exact h2 hm
      split at h
      · exact go _ h
      · split at h
        · exact go _ h
        · cases h
    · rw [if_neg c] at h; cases h
theorem deg_range (ls : List (List Int)) (v : Nat) : ∀ (d i : Nat), i + d = ls.length → ((deg (lA ls) (lB ls) (v : Int) (List.range' i d) : Nat) : Int) = degAt (ls.drop i) v := by
  intro d
  induction d with
  | zero => intro i hi; rw [List.drop_of_length_le (by omega)]; rfl
  | succ d ih =>
    intro i hi
    have hlt : i < ls.length := by omega
    rw [List.range'_succ, List.drop_eq_getElem_cons hlt]
    simp only [deg, degAt, inc]
    rw [← ih (i + 1) (by omega)]
    have e : ls.getD i [] = ls[i] := by simp [List.getD_eq_getElem?_getD, hlt]
    unfold lA lB
    rw [e]
    have e1 : (if (v : Int) = rd ls[i] 0 then 1 else 0 : Int) = ((if rd ls[i] 0 = (v : Int) then 1 else 0 : Nat) : Int) := by
      by_cases c : rd ls[i] 0 = (v : Int)
      · rw [if_pos c, if_pos c.symm]; rfl
      · rw [if_neg c, if_neg (fun z => c z.symm)]; rfl
    have e2 : (if (v : Int) = rd ls[i] 1 then 1 else 0 : Int) = ((if rd ls[i] 1 = (v : Int) then 1 else 0 : Nat) : Int) := by
      by_cases c : rd ls[i] 1 = (v : Int)
      · rw [if_pos c, if_pos c.symm]; rfl
      · rw [if_neg c, if_neg (fun z => c z.symm)]; rfl
    rw [e1, e2]
    omega
theorem deg_all {ls : List (List Int)} {R : List Nat} (hp : R.Perm (List.range ls.length)) (v : Nat) : ((deg (lA ls) (lB ls) (v : Int) R : Nat) : Int) = degAt ls v := by
  rw [deg_perm hp, List.range_eq_range', deg_range ls v ls.length 0 (by omega), List.drop_zero]
theorem oddL_sorted : ∀ (ds : List Int) (i : Nat), (oddL ds i).Pairwise (· < ·) := by
  intro ds
  induction ds with
  | nil => intro i; exact List.Pairwise.nil
  | cons d ds ih =>
    intro i
    simp only [oddL]
    split
    · refine List.pairwise_cons.2 ⟨fun y hy => ?_, ih (i + 1)⟩
      obtain ⟨j, _, rfl, _⟩ := (oddL_mem ds (i + 1) y).1 hy
      omega
    · exact ih (i + 1)
theorem degAt_touch : ∀ (l : List (List Int)) (i : Nat), 0 < degAt l i → ∃ r ∈ l, rd r 0 = (i : Int) ∨ rd r 1 = (i : Int) := by
  intro l
  induction l with
  | nil => intro i h; simp [degAt] at h
  | cons r l ih =>
    intro i h
    simp only [degAt] at h
    by_cases c1 : (i : Int) = rd r 0
    · exact ⟨r, List.mem_cons_self, .inl c1.symm⟩
    · by_cases c2 : (i : Int) = rd r 1
      · exact ⟨r, List.mem_cons_self, .inr c2.symm⟩
      · rw [if_neg c1, if_neg c2] at h
        obtain ⟨q, hq, h2⟩ := ih i (by omega)
        exact ⟨q, List.mem_cons_of_mem _ hq, h2⟩
theorem degAt_mem : ∀ (l : List (List Int)) (r : List Int), r ∈ l → ∀ i : Nat, (rd r 0 = (i : Int) ∨ rd r 1 = (i : Int)) → 0 < degAt l i := by
  intro l
  induction l with
  | nil => intro r hr; simp at hr
  | cons q l ih =>
    intro r hr i h
    simp only [degAt]
    have hn := degAt_nn l i
    rcases List.mem_cons.1 hr with rfl | hr
    · rcases h with h | h
      · rw [if_pos h.symm]; split <;> omega
      · rw [if_pos h.symm]; split <;> omega
    · have := ih r hr i h
      split <;> split <;> omega
theorem row_at {l : List (List Int)} {r : List Int} (h : r ∈ l) : ∃ k, k < l.length ∧ l.getD k [] = r := by
  obtain ⟨k, hk, rfl⟩ := List.getElem_of_mem h
  exact ⟨k, hk, by simp [List.getD_eq_getElem?_getD, hk]⟩
theorem row_mem {l : List (List Int)} {k : Nat} (h : k < l.length) : l.getD k [] ∈ l := by simp [List.getD_eq_getElem?_getD, h]
theorem reach_lab {n : Nat} {l : List (List Int)} (hr : ∀ r ∈ l, LineOk n r) {R : List Nat} (hR : ∀ k ∈ R, k < l.length) {s : Nat} {v : Int} (h : Reach (lA l) (lB l) R (s : Int) v) : (joinG l (idL n)).getD v.toNat 0 = (joinG l (idL n)).getD s 0 := by
  induction h with
  | refl => simp
  | @fwd k _ hk ih =>
    rw [← ih]
    exact (joinG_line l _ hr (lab_idL n) _ (row_mem (hR k hk))).symm
  | @bwd k _ hk ih =>
    rw [← ih]
    exact joinG_line l _ hr (lab_idL n) _ (row_mem (hR k hk))
theorem lab_reach {n : Nat} {l : List (List Int)} (hr : ∀ r ∈ l, LineOk n r) {s i : Nat} (hs : s < n) (hi : i < n) (h : (joinG l (idL n)).getD s 0 = (joinG l (idL n)).getD i 0) : Reach (lA l) (lB l) (List.range l.length) (s : Int) (i : Int) := by
  have := joinG_least (n := n) (fun a b => Reach (lA l) (lB l) (List.range l.length) (s : Int) (a : Int) ↔ Reach (lA l) (lB l) (List.range l.length) (s : Int) (b : Int)) (fun i j h => h.symm) (fun i j k h1 h2 => h1.trans h2) l (idL n) hr (lab_idL n) (fun r hm => ?_) (fun i j hi hj e => ?_) s i hs hi h
  · exact this.1 Reach.refl
  · obtain ⟨k, hk, e⟩ := row_at hm
    obtain ⟨a, b, ea, eb, _, _⟩ := line_nat (hr r hm)
    have hA : lA l k = (a : Int) := by unfold lA; rw [e, ea]
    have hB : lB l k = (b : Int) := by unfold lB; rw [e, eb]
    rw [ea, eb]
    simp only [Int.toNat_natCast]
    rw [← hA, ← hB]
    exact ⟨fun h => Reach.fwd h (List.mem_range.2 hk), fun h => Reach.bwd h (List.mem_range.2 hk)⟩
  · have h1 : (idL n).getD i 0 = (i : Int) := by simp [idL, List.getD_eq_getElem?_getD, hi]
    have h2 : (idL n).getD j 0 = (j : Int) := by simp [idL, List.getD_eq_getElem?_getD, hj]
    rw [h1, h2] at e
    obtain rfl : i = j := by omega
    exact Iff.rfl
theorem rsum_ge_two {f : Nat → Int} {n a b : Nat} (h0 : ∀ i, i < n → 0 ≤ f i) (ha : a < n) (hb : b < n) (hab : a ≠ b) (h1 : 1 ≤ f a) (h2 : 1 ≤ f b) : 2 ≤ rsum f n := by
  have e1 := rsum_one (a : Int) 1 n
  have e2 := rsum_one (b : Int) 1 n
  rw [if_pos ⟨by omega, by omega⟩] at e1 e2
  have e3 := rsum_add (fun g => if (g : Int) = (a : Int) then 1 else 0) (fun g => if (g : Int) = (b : Int) then 1 else 0) n
  have : rsum (fun i => (if (i : Int) = (a : Int) then 1 else 0) + (if (i : Int) = (b : Int) then 1 else 0)) n ≤ rsum f n := by
    refine rsum_le fun i hi => ?_
    by_cases c1 : i = a
    · subst c1
      rw [if_pos rfl, if_neg (by omega)]
      omega
    · rw [if_neg (by omega)]
      by_cases c2 : i = b
      · subst c2; rw [if_pos rfl]; omega
      · rw [if_neg (by omega)]; have := h0 i hi; omega
  omega
theorem rsum_ge_one {f : Nat → Int} {n a : Nat} (h0 : ∀ i, i < n → 0 ≤ f i) (ha : a < n) : f a ≤ rsum f n := by
  have e1 := rsum_one (a : Int) (f a) n
  rw [if_pos ⟨by omega, by omega⟩] at e1
  rw [← e1]
  refine rsum_le fun i hi => ?_
  by_cases c1 : i = a
  · subst c1; rw [if_pos rfl]; exact Int.le_refl _
  · rw [if_neg (by omega)]; exact h0 i hi
theorem some_line {n : Nat} {l : List (List Int)} (hr : ∀ r ∈ l, LineOk n r) (G : List Int) {r : List Int} (hm : r ∈ l) : someR G (degs n l) (G.getD (rd r 0).toNat 0) n = true := by
  obtain ⟨a, b, ea, eb, ha, hb⟩ := line_nat (hr r hm)
  rw [someR_iff]
  refine ⟨a, ha, by rw [ea]; simp, ?_⟩
  rw [degs_at hr ha]
  exact degAt_mem l r hm a (.inl ea)
theorem strokeF_le {x : Int} (h0 : 0 ≤ x) (h : x ≤ 3) : strokeF x ≤ 1 := by
  unfold strokeF mx
  split <;> omega
theorem strokeF_one {x : Int} (h0 : 0 ≤ x) (h : strokeF x ≤ 1) : x ≤ 3 := by
  unfold strokeF mx at h
  split at h <;> omega
theorem trail_deg {ea eb : Nat → Int} {s t : Int} {R : List Nat} (h : Trail ea eb s R t) (hne : R ≠ []) : 0 < deg ea eb s R := by
  cases h with
  | nil => exact absurd rfl hne
  | @fwd k R0 _ _ _ q =>
    rw [deg_perm q]
    simp only [deg, inc, if_true]
    omega
  | @bwd k R0 _ _ _ q =>
    rw [deg_perm q]
    simp only [deg, inc, if_true]
    omega
theorem can_need {n : Nat} {l : List (List Int)} (hr : ∀ r ∈ l, LineOk n r) {s : Nat} (hs : s < n) (h : (dfsAt l 0 (s : Int)).isSome = true) :
    partSum strokeF (joinG l (idL n)) (degs n l) n ≤ 1 ∧ (((odds n l).length : Int) = 2 → (s : Int) ∈ odds n l) ∧ (0 < l.length → 0 < degAt l s) := by
  obtain ⟨R, t, h1, h2⟩ := (dfs_zero l (fun r hm => (hr r hm).ne) (s : Int)).1 h
  have hR : ∀ k ∈ R, k < l.length := fun k hk => List.mem_range.1 (h2.mem_iff.1 hk)
  have hG := joinG_lab l _ hr (lab_idL n)
  have hpar := fun v : Nat => h1.parity (v : Int)
  have hodd : ∀ v : Nat, degAt l v % 2 = 1 → (v : Int) = (s : Int) ∨ (v : Int) = t := by
    intro v hv
    have e1 := hpar v
    have e2 := deg_all h2 v
    by_cases c1 : (v : Int) = (s : Int)
    · exact .inl c1
    · by_cases c2 : (v : Int) = t
      · exact .inr c2
      · rw [if_neg c1, if_neg c2] at e1; omega
  have hcount : ((odds n l).length : Int) ≤ 2 := by
    rw [odds_count hr]
    have e1 := rsum_one (s : Int) 1 n
    have e2 := rsum_one t 1 n
    have e3 := rsum_add (fun g => if (g : Int) = (s : Int) then 1 else 0) (fun g => if (g : Int) = t then 1 else 0) n
    have : rsum (fun i => degAt l i % 2) n ≤ rsum (fun i => (if (i : Int) = (s : Int) then 1 else 0) + (if (i : Int) = t then 1 else 0)) n := by
      refine rsum_le fun i hi => ?_
      have := hodd i
      by_cases c : degAt l i % 2 = 1
      · rcases this c with q | q
        · rw [if_pos q]; split <;> omega
        · rw [if_pos q]; split <;> omega
      · split <;> split <;> omega
    split at e1 <;> split at e2 <;> omega
  have ht := oddR_total hr hG
  refine ⟨?_, fun h2' => ?_, fun hl => ?_⟩
  · have e1 := rsum_one ((joinG l (idL n)).getD s 0) 1 n
    rw [if_pos (lab_at hG hs)] at e1
    unfold partSum
    rw [← e1]
    refine rsum_le fun g hg => ?_
    by_cases c : someR (joinG l (idL n)) (degs n l) (g : Int) n = true
    · rw [if_pos c]
      obtain ⟨i, hi, e, hd⟩ := (someR_iff _ _ _ _).1 c
      rw [degs_at hr hi] at hd
      obtain ⟨r, hm, hrr⟩ := degAt_touch l i hd
      obtain ⟨k, hk, ek⟩ := row_at hm
      have hkR : k ∈ R := h2.mem_iff.2 (List.mem_range.2 hk)
      have hrc := h1.reach (R := R) (fun _ z => z) k hkR
      have hlab : (joinG l (idL n)).getD i 0 = (joinG l (idL n)).getD s 0 := by
        rcases hrr with q | q
        · have := reach_lab hr hR hrc.1
          unfold lA at this
          rw [ek, q] at this
          simpa using this
        · have := reach_lab hr hR hrc.2
          unfold lB at this
          rw [ek, q] at this
          simpa using this
      rw [if_pos (by rw [← e, hlab])]
      refine strokeF_le (oddR_bd _ _ _ _).1 ?_
      have := rsum_ge_one (f := fun g => oddR (joinG l (idL n)) (degs n l) (g : Int) n) (fun i _ => (oddR_bd _ _ _ _).1) hg
      omega
    · rw [if_neg c]; split <;> omega
  · rw [odds_mem hr]
    refine ⟨s, hs, rfl, ?_⟩
    have hn := degAt_nn l s
    by_cases c : degAt l s % 2 = 1
    · exact c
    · exfalso
      have e1 := hpar s
      have e2 := deg_all h2 s
      rw [if_pos rfl] at e1
      have hts : (s : Int) = t := by
        by_cases q : (s : Int) = t
        · exact q
        · rw [if_neg q] at e1; omega
      have hz : rsum (fun i => degAt l i % 2) n = 0 := by
        refine rsum_zero fun i hi => ?_
        have hi2 := degAt_nn l i
        by_cases c2 : degAt l i % 2 = 1
        · rcases hodd i c2 with q | q
          · obtain rfl : i = s := by omega
            exact absurd c2 c
          · obtain rfl : i = s := by omega
            exact absurd c2 c
        · omega
      rw [odds_count hr, hz] at h2'
      omega
  · have hne : R ≠ [] := by
      rintro rfl
      have := h2.length_eq
      simp at this
      omega
    have e2 := deg_all h2 s
    have := trail_deg h1 hne
    omega
theorem can_give {n : Nat} {l : List (List Int)} (hn : 1 ≤ n) (hr : ∀ r ∈ l, LineOk n r) (h : partSum strokeF (joinG l (idL n)) (degs n l) n ≤ 1) : ∃ s : Nat, s < n ∧ (dfsAt l 0 (s : Int)).isSome = true := by
  have hG := joinG_lab l _ hr (lab_idL n)
  cases hl : l with
  | nil =>
    refine ⟨0, by omega, ?_⟩
    rw [dfs_zero _ (by simp)]
    exact ⟨[], _, Trail.nil _, by simp⟩
  | cons r0 l0 =>
    rw [← hl]
    have hm0 : r0 ∈ l := by rw [hl]; exact List.mem_cons_self
    obtain ⟨a0, b0, ea0, eb0, ha0, hb0⟩ := line_nat (hr r0 hm0)
    have hnn : ∀ i, i < n → 0 ≤ (fun g : Nat => if someR (joinG l (idL n)) (degs n l) (g : Int) n = true then strokeF (oddR (joinG l (idL n)) (degs n l) (g : Int) n) else 0) i := by
      intro i _
      simp only
      have := (strokeF_two (oddR_bd (joinG l (idL n)) (degs n l) (i : Int) n).1 (oddR_even hr _)).2.2
      split <;> omega
    -- all lines have one label
    have one : ∀ r ∈ l, (joinG l (idL n)).getD (rd r 0).toNat 0 = (joinG l (idL n)).getD a0 0 := by
      intro r hm
      by_cases c : (joinG l (idL n)).getD (rd r 0).toNat 0 = (joinG l (idL n)).getD a0 0
      · exact c
      · exfalso
        obtain ⟨a, b, ea, eb, ha, hb⟩ := line_nat (hr r hm)
        rw [ea, Int.toNat_natCast] at c
        have g1 := lab_at hG ha
        have g2 := lab_at hG ha0
        have s1 := some_line hr (joinG l (idL n)) hm
        have s2 := some_line hr (joinG l (idL n)) hm0
        rw [ea, Int.toNat_natCast] at s1
        rw [ea0, Int.toNat_natCast] at s2
        have f1 : (1 : Int) ≤ (fun g : Nat => if someR (joinG l (idL n)) (degs n l) (g : Int) n = true then strokeF (oddR (joinG l (idL n)) (degs n l) (g : Int) n) else 0) ((joinG l (idL n)).getD a 0).toNat := by
          simp only
          rw [Int.toNat_of_nonneg g1.1, if_pos s1]
          exact (strokeF_two (oddR_bd _ _ _ _).1 (oddR_even hr _)).2.2
        have f2 : (1 : Int) ≤ (fun g : Nat => if someR (joinG l (idL n)) (degs n l) (g : Int) n = true then strokeF (oddR (joinG l (idL n)) (degs n l) (g : Int) n) else 0) ((joinG l (idL n)).getD a0 0).toNat := by
          simp only
          rw [Int.toNat_of_nonneg g2.1, if_pos s2]
          exact (strokeF_two (oddR_bd _ _ _ _).1 (oddR_even hr _)).2.2
        have := rsum_ge_two hnn (by omega) (by omega) (by omega) f1 f2
        unfold partSum at h
        omega
    have touch : ∀ i : Nat, i < n → 0 < degAt l i → (joinG l (idL n)).getD i 0 = (joinG l (idL n)).getD a0 0 := by
      intro i hi hd
      obtain ⟨r, hm, q⟩ := degAt_touch l i hd
      rcases q with q | q
      · have := one r hm
        rw [q] at this
        simpa using this
      · have h1 := one r hm
        have h2 := joinG_line l _ hr (lab_idL n) r hm
        rw [h2, q] at h1
        simpa using h1
    have hg0 := lab_at hG ha0
    have hO : oddR (joinG l (idL n)) (degs n l) ((joinG l (idL n)).getD a0 0) n ≤ 3 := by
      have s2 := some_line hr (joinG l (idL n)) hm0
      rw [ea0, Int.toNat_natCast] at s2
      refine strokeF_one (oddR_bd _ _ _ _).1 ?_
      have := rsum_ge_one hnn (a := ((joinG l (idL n)).getD a0 0).toNat) (by omega)
      simp only [Int.toNat_of_nonneg hg0.1, if_pos s2] at this
      unfold partSum at h
      omega
    have hcount : ((odds n l).length : Int) ≤ 3 := by
      rw [← oddR_total hr hG]
      have e1 := rsum_one ((joinG l (idL n)).getD a0 0) 3 n
      rw [if_pos hg0] at e1
      rw [← e1]
      refine rsum_le fun g hg => ?_
      by_cases c : (g : Int) = (joinG l (idL n)).getD a0 0
      · rw [if_pos c, c]; exact hO
      · rw [if_neg c, odd_some (n := n) _ _ _ n]
        · exact Int.le_refl _
        · by_cases z : someR (joinG l (idL n)) (degs n l) (g : Int) n = true
          · exfalso
            obtain ⟨i, hi, e, hd⟩ := (someR_iff _ _ _ _).1 z
            rw [degs_at hr hi] at hd
            exact c (by rw [← e]; exact touch i hi hd)
          · simpa using z
    have heven := odds_even hr
    have hdeg0 : 0 < degAt l a0 := degAt_mem l r0 hm0 a0 (.inl ea0)
    have go : ∀ s u : Nat, s < n → u < n → 0 < degAt l s → (∀ v : Nat, v < n → (degAt l v + (if v = s then 1 else 0) + (if v = u then 1 else 0)) % 2 = 0) → ∃ s : Nat, s < n ∧ (dfsAt l 0 (s : Int)).isSome = true := by
      intro s u hs hu hd hv
      refine ⟨s, hs, ?_⟩
      rw [dfs_zero l (fun r hm => (hr r hm).ne)]
      refine (euler (ea := lA l) (eb := lB l) (R := List.range l.length) (s := (s : Int)) (u := (u : Int)) (fun k hk => ?_) (fun v => ?_)).elim fun t ht => ⟨_, t, ht, List.Perm.refl _⟩
      · have hm := row_mem (List.mem_range.1 hk)
        obtain ⟨a, b, ea, eb, ha, hb⟩ := line_nat (hr _ hm)
        have e1 := one _ hm
        rw [ea, Int.toNat_natCast] at e1
        have := lab_reach hr hs ha (by rw [touch s hs hd, e1])
        unfold lA
        rw [ea]
        exact this
      · by_cases c : 0 ≤ v ∧ v < (n : Int)
        · obtain ⟨w, rfl⟩ := Int.eq_ofNat_of_zero_le c.1
          have e1 := deg_all (ls := l) (List.Perm.refl _) w
          have e2 := hv w (by omega)
          have q1 : (if (w : Int) = (s : Int) then 1 else 0 : Nat) = if w = s then 1 else 0 := by
            by_cases z : w = s
            · rw [if_pos z, if_pos (by omega)]
            · rw [if_neg z, if_neg (by omega)]
          have q2 : (if (w : Int) = (u : Int) then 1 else 0 : Nat) = if w = u then 1 else 0 := by
            by_cases z : w = u
            · rw [if_pos z, if_pos (by omega)]
            · rw [if_neg z, if_neg (by omega)]
          rw [q1, q2]
          by_cases z1 : w = s
          · rw [if_pos z1] at e2 ⊢
            by_cases z2 : w = u
            · rw [if_pos z2] at e2 ⊢; omega
            · rw [if_neg z2] at e2 ⊢; omega
          · rw [if_neg z1] at e2 ⊢
            by_cases z2 : w = u
            · rw [if_pos z2] at e2 ⊢; omega
            · rw [if_neg z2] at e2 ⊢; omega
        · have hz : deg (lA l) (lB l) v (List.range l.length) = 0 := by
            refine deg_zero fun k hk => ?_
            have hL := hr _ (row_mem (List.mem_range.1 hk))
            obtain ⟨h1, h2, h3, h4, h5, h6⟩ := hL
            unfold lA lB
            constructor <;> omega
          rw [hz, if_neg (by omega), if_neg (by omega)]
    by_cases c0 : (odds n l).length = 0
    · refine go a0 a0 ha0 ha0 hdeg0 fun v hv => ?_
      have : ¬ degAt l v % 2 = 1 := fun z => by
        have := (odds_mem hr (v : Int)).2 ⟨v, hv, rfl, z⟩
        rw [List.eq_nil_of_length_eq_zero c0] at this
        simp at this
      have := degAt_nn l v
      split <;> omega
    · have h2 : (odds n l).length = 2 := by omega
      obtain ⟨x, y, hxy⟩ : ∃ x y, odds n l = [x, y] := by
        match hq : odds n l with
        | [] => rw [hq] at h2; simp at h2
        | [x] => rw [hq] at h2; simp at h2
        | [x, y] => exact ⟨x, y, rfl⟩
        | x :: y :: z :: w => rw [hq] at h2; simp at h2
      have hs := oddL_sorted (degs n l) 0
      have hs2 : (odds n l).Pairwise (· < ·) := hs
      rw [hxy] at hs2
      have hlt : x < y := by simpa using hs2
      obtain ⟨s, hsn, es, os⟩ := (odds_mem hr x).1 (by rw [hxy]; simp)
      obtain ⟨u, hun, eu, ou⟩ := (odds_mem hr y).1 (by rw [hxy]; simp)
      have hns := degAt_nn l s
      refine go s u hsn hun (by omega) fun v hv => ?_
      have hm := odds_mem hr (v : Int)
      rw [hxy] at hm
      have hnv := degAt_nn l v
      by_cases c1 : v = s
      · subst c1
        rw [if_pos rfl, if_neg (by omega)]
        omega
      · by_cases c2 : v = u
        · subst c2
          rw [if_neg c1, if_pos rfl]
          omega
        · rw [if_neg c1, if_neg c2]
          have : ¬ degAt l v % 2 = 1 := fun z => by
            have := hm.2 ⟨v, hv, rfl, z⟩
            simp at this
            omega
          omega
theorem degAt_app : ∀ (l : List (List Int)) (r : List Int) (i : Nat), degAt (l ++ [r]) i = degAt l i + ((if (i : Int) = rd r 0 then 1 else 0) + (if (i : Int) = rd r 1 then 1 else 0)) := by
  intro l
  induction l with
  | nil => intro r i; simp [degAt]
  | cons q l ih => intro r i; simp only [List.cons_append, degAt, ih]; omega
theorem joinG_app : ∀ (l : List (List Int)) (r : List Int) (G : List Int), joinG (l ++ [r]) G = relab (joinG l G) (rd (joinG l G) (rd r 0)) (rd (joinG l G) (rd r 1)) := by
  intro l
  induction l with
  | nil => intro r G; rfl
  | cons q l ih => intro r G; simp only [List.cons_append, joinG, ih]
theorem line_ok {n a b : Nat} (ha : a < n) (hb : b < n) (hab : a ≠ b) : LineOk n [(a : Int), (b : Int)] := by
  refine ⟨rfl, ?_, ?_, ?_, ?_, ?_⟩ <;> simp [rd] <;> omega
theorem lines_app {n a b : Nat} {l : List (List Int)} (hr : ∀ r ∈ l, LineOk n r) (ha : a < n) (hb : b < n) (hab : a ≠ b) : ∀ r ∈ l ++ [[(a : Int), (b : Int)]], LineOk n r := by
  intro r hm
  rcases List.mem_append.1 hm with hm | hm
  · exact hr r hm
  · rw [List.mem_singleton.1 hm]; exact line_ok ha hb hab
theorem degAt_more (l : List (List Int)) (a b i : Nat) : degAt (l ++ [[(a : Int), (b : Int)]]) i = degAt l i + ((if (i : Int) = (a : Int) then 1 else 0) + (if (i : Int) = (b : Int) then 1 else 0)) := by
  rw [degAt_app]
  rfl
theorem mod_more {l : List (List Int)} {a b : Nat} (hab : a ≠ b) (oa : degAt l a % 2 = 1) (ob : degAt l b % 2 = 1) (i : Nat) : degAt (l ++ [[(a : Int), (b : Int)]]) i % 2 = degAt l i % 2 + ((if (i : Int) = (a : Int) then -1 else 0) + (if (i : Int) = (b : Int) then -1 else 0)) := by
  rw [degAt_more]
  by_cases c1 : i = a
  · subst c1
    rw [if_pos rfl, if_neg (by omega), if_pos rfl, if_neg (by omega)]
    omega
  · by_cases c2 : i = b
    · subst c2
      rw [if_neg (by omega), if_pos rfl, if_neg (by omega), if_pos rfl]
      omega
    · rw [if_neg (by omega), if_neg (by omega), if_neg (by omega), if_neg (by omega)]
      omega
theorem odds_more {n a b : Nat} {l : List (List Int)} (hr : ∀ r ∈ l, LineOk n r) (ha : a < n) (hb : b < n) (hab : a ≠ b) (oa : degAt l a % 2 = 1) (ob : degAt l b % 2 = 1) : ((odds n (l ++ [[(a : Int), (b : Int)]])).length : Int) = ((odds n l).length : Int) - 2 := by
  rw [odds_count (lines_app hr ha hb hab), odds_count hr, rsum_congr (fun i _ => mod_more hab oa ob i), rsum_add, rsum_add, rsum_one, rsum_one, if_pos ⟨by omega, by omega⟩, if_pos ⟨by omega, by omega⟩]
  omega
theorem strokeF_join {x y : Int} (hx : 1 ≤ x) (hy : 1 ≤ y) (ex : x % 2 = 0) (ey : y % 2 = 0) : strokeF (x + y - 2) ≤ strokeF x + strokeF y := by
  unfold strokeF mx
  split <;> split <;> split <;> omega
theorem strokeF_less {x : Int} : strokeF (x - 2) ≤ strokeF x := by
  unfold strokeF mx
  split <;> split <;> omega
theorem odd_has {n : Nat} {l : List (List Int)} (hr : ∀ r ∈ l, LineOk n r) (G : List Int) {a : Nat} (ha : a < n) (oa : degAt l a % 2 = 1) : 1 ≤ oddR G (degs n l) (G.getD a 0) n ∧ someR G (degs n l) (G.getD a 0) n = true := by
  have hn := degAt_nn l a
  constructor
  · rw [oddR_deg hr]
    have := rsum_ge_one (f := fun i => if decide (G.getD i 0 = G.getD a 0) = true then degAt l i % 2 else 0) (n := n) (a := a) (fun i _ => by have := degAt_nn l i; split <;> omega) ha
    simp only [decide_true, if_true] at this
    omega
  · rw [someR_iff]
    exact ⟨a, ha, rfl, by rw [degs_at hr ha]; omega⟩
theorem needs_more {n a b : Nat} {l : List (List Int)} (hr : ∀ r ∈ l, LineOk n r) (ha : a < n) (hb : b < n) (hab : a ≠ b) (oa : degAt l a % 2 = 1) (ob : degAt l b % 2 = 1) :
    partSum strokeF (joinG (l ++ [[(a : Int), (b : Int)]]) (idL n)) (degs n (l ++ [[(a : Int), (b : Int)]])) n ≤ partSum strokeF (joinG l (idL n)) (degs n l) n := by
  have hr' := lines_app hr ha hb hab
  have hG := joinG_lab l _ hr (lab_idL n)
  have eG : joinG (l ++ [[(a : Int), (b : Int)]]) (idL n) = relab (joinG l (idL n)) ((joinG l (idL n)).getD a 0) ((joinG l (idL n)).getD b 0) := by
    rw [joinG_app]
    show relab _ (rd _ (a : Int)) (rd _ (b : Int)) = _
    rw [rd_nat, rd_nat]
  have ev := oddR_even hr
  rw [eG]
  generalize joinG l (idL n) = G at hG ev
  obtain ⟨pa, sa⟩ := odd_has hr G ha oa
  obtain ⟨pb, sb⟩ := odd_has hr G hb ob
  have ga := lab_at hG ha
  have gb := lab_at hG hb
  have at' : ∀ i, i < n → (relab G (G.getD a 0) (G.getD b 0)).getD i 0 = lab (G.getD a 0) (G.getD b 0) (G.getD i 0) := fun i hi => relab_at (by rw [hG.len]; exact hi)
  -- a part that neither point is in
  have far : ∀ g : Int, g ≠ G.getD a 0 → g ≠ G.getD b 0 → oddR (relab G (G.getD a 0) (G.getD b 0)) (degs n (l ++ [[(a : Int), (b : Int)]])) g n = oddR G (degs n l) g n ∧ (someR (relab G (G.getD a 0) (G.getD b 0)) (degs n (l ++ [[(a : Int), (b : Int)]])) g n = true → someR G (degs n l) g n = true) := by
    intro g h1 h2
    have key : ∀ i, i < n → ((relab G (G.getD a 0) (G.getD b 0)).getD i 0 = g ↔ G.getD i 0 = g) ∧ (G.getD i 0 = g → degAt (l ++ [[(a : Int), (b : Int)]]) i = degAt l i) := by
      intro i hi
      refine ⟨?_, fun e => ?_⟩
      · rw [at' i hi]
        unfold lab
        split
        · rename_i q
          constructor
          · intro z; exact absurd z.symm h2
          · intro z; exact absurd (z.symm.trans q) h1
        · exact Iff.rfl
      · rw [degAt_more, if_neg, if_neg]
        · omega
        · intro z; obtain rfl : i = b := by omega
          exact h2 e.symm
        · intro z; obtain rfl : i = a := by omega
          exact h1 e.symm
    constructor
    · rw [oddR_deg hr', oddR_deg hr]
      refine rsum_congr fun i hi => ?_
      obtain ⟨k1, k2⟩ := key i hi
      by_cases c : G.getD i 0 = g
      · rw [if_pos (decide_eq_true (k1.2 c)), if_pos (decide_eq_true c), k2 c]
      · rw [if_neg (by simpa using fun z => c (k1.1 z)), if_neg (by simpa using c)]
    · rw [someR_iff, someR_iff]
      rintro ⟨i, hi, e, hd⟩
      obtain ⟨k1, k2⟩ := key i hi
      rw [degs_at hr' hi, k2 (k1.1 e)] at hd
      exact ⟨i, hi, k1.1 e, by rw [degs_at hr hi]; exact hd⟩
  unfold partSum
  by_cases c : G.getD a 0 = G.getD b 0
  · refine rsum_le fun g hg => ?_
    by_cases cg : (g : Int) = G.getD a 0
    · have e : oddR (relab G (G.getD a 0) (G.getD b 0)) (degs n (l ++ [[(a : Int), (b : Int)]])) (g : Int) n = oddR G (degs n l) (g : Int) n - 2 := by
        rw [c, relab_self, oddR_deg hr', oddR_deg hr]
        have e1 : rsum (fun i => if decide (G.getD i 0 = (g : Int)) = true then degAt (l ++ [[(a : Int), (b : Int)]]) i % 2 else 0) n = rsum (fun i => (if decide (G.getD i 0 = (g : Int)) = true then degAt l i % 2 else 0) + ((if (i : Int) = (a : Int) then -1 else 0) + (if (i : Int) = (b : Int) then -1 else 0))) n := by
          refine rsum_congr fun i hi => ?_
          rw [mod_more hab oa ob i]
          by_cases ci : G.getD i 0 = (g : Int)
          · rw [if_pos (decide_eq_true ci), if_pos (decide_eq_true ci)]
          · rw [if_neg (by simpa using ci), if_neg (by simpa using ci), if_neg, if_neg]
            · rfl
            · intro z; obtain rfl : i = b := by omega
              exact ci (by rw [cg, c])
            · intro z; obtain rfl : i = a := by omega
              exact ci cg.symm
        rw [e1, rsum_add, rsum_add, rsum_one, rsum_one, if_pos ⟨by omega, by omega⟩, if_pos ⟨by omega, by omega⟩]
        omega
      rw [e, if_pos (show someR G (degs n l) (g : Int) n = true by rw [cg]; exact sa)]
      have h1 := strokeF_less (x := oddR G (degs n l) (g : Int) n)
      have h2 := (strokeF_two (oddR_bd G (degs n l) (g : Int) n).1 (ev _)).2.2
      split <;> omega
    · obtain ⟨f1, f2⟩ := far g cg (by rw [← c]; exact cg)
      rw [f1]
      have h2 := (strokeF_two (oddR_bd G (degs n l) (g : Int) n).1 (ev _)).2.2
      split
      · rename_i q; rw [if_pos (f2 q)]; exact Int.le_refl _
      · split <;> omega
  · -- two parts become one
    have eb : oddR (relab G (G.getD a 0) (G.getD b 0)) (degs n (l ++ [[(a : Int), (b : Int)]])) (G.getD b 0) n = oddR G (degs n l) (G.getD a 0) n + oddR G (degs n l) (G.getD b 0) n - 2 := by
      rw [oddR_deg hr', oddR_deg hr, oddR_deg hr]
      have e1 : rsum (fun i => if decide ((relab G (G.getD a 0) (G.getD b 0)).getD i 0 = G.getD b 0) = true then degAt (l ++ [[(a : Int), (b : Int)]]) i % 2 else 0) n = rsum (fun i => ((if decide (G.getD i 0 = G.getD a 0) = true then degAt l i % 2 else 0) + (if decide (G.getD i 0 = G.getD b 0) = true then degAt l i % 2 else 0)) + ((if (i : Int) = (a : Int) then -1 else 0) + (if (i : Int) = (b : Int) then -1 else 0))) n := by
        refine rsum_congr fun i hi => ?_
        rw [mod_more hab oa ob i, at' i hi]
        unfold lab
        by_cases c1 : G.getD i 0 = G.getD a 0
        · have da : decide (G.getD i 0 = G.getD a 0) = true := decide_eq_true c1
          have db : decide (G.getD i 0 = G.getD b 0) = false := decide_eq_false (fun z => c (c1.symm.trans z))
          rw [if_pos c1, decide_eq_true (rfl : G.getD b 0 = G.getD b 0), da, db]
          simp only [if_true, Bool.false_eq_true, if_false]
          omega
        · have da : decide (G.getD i 0 = G.getD a 0) = false := decide_eq_false c1
          by_cases c2 : G.getD i 0 = G.getD b 0
          · have db : decide (G.getD i 0 = G.getD b 0) = true := decide_eq_true c2
            rw [if_neg c1, da, db]
            simp only [if_true, Bool.false_eq_true, if_false]
            omega
          · have db : decide (G.getD i 0 = G.getD b 0) = false := decide_eq_false c2
            rw [if_neg c1, da, db]
            simp only [Bool.false_eq_true, if_false]
            rw [if_neg, if_neg]
            · rfl
            · intro z; obtain rfl : i = b := by omega
              exact c2 rfl
            · intro z; obtain rfl : i = a := by omega
              exact c1 rfl
      rw [e1, rsum_add, rsum_add, rsum_add, rsum_one, rsum_one, if_pos ⟨by omega, by omega⟩, if_pos ⟨by omega, by omega⟩]
      omega
    have na : someR (relab G (G.getD a 0) (G.getD b 0)) (degs n (l ++ [[(a : Int), (b : Int)]])) (G.getD a 0) n = false := by
      cases hq : someR (relab G (G.getD a 0) (G.getD b 0)) (degs n (l ++ [[(a : Int), (b : Int)]])) (G.getD a 0) n with
      | false => rfl
      | true =>
        exfalso
        obtain ⟨i, hi, e, _⟩ := (someR_iff _ _ _ _).1 hq
        rw [at' i hi] at e
        unfold lab at e
        split at e
        · exact c e.symm
        · rename_i q; exact q e
    have hj := strokeF_join pa pb (ev _) (ev _)
    have key : rsum (fun g => if someR (relab G (G.getD a 0) (G.getD b 0)) (degs n (l ++ [[(a : Int), (b : Int)]])) (g : Int) n = true then strokeF (oddR (relab G (G.getD a 0) (G.getD b 0)) (degs n (l ++ [[(a : Int), (b : Int)]])) (g : Int) n) else 0) n ≤
        rsum (fun g => (if someR G (degs n l) (g : Int) n = true then strokeF (oddR G (degs n l) (g : Int) n) else 0) + ((if (g : Int) = G.getD b 0 then strokeF (oddR G (degs n l) (G.getD a 0) n + oddR G (degs n l) (G.getD b 0) n - 2) - strokeF (oddR G (degs n l) (G.getD b 0) n) else 0) + (if (g : Int) = G.getD a 0 then - strokeF (oddR G (degs n l) (G.getD a 0) n) else 0))) n := by
      refine rsum_le fun g hg => ?_
      by_cases c1 : (g : Int) = G.getD a 0
      · rw [c1, na, sa, if_neg (by simp), if_pos rfl, if_neg (fun z => c z), if_pos rfl]
        omega
      · by_cases c2 : (g : Int) = G.getD b 0
        · rw [c2, eb, sb, if_pos rfl, if_pos rfl, if_neg (show ¬ G.getD b 0 = G.getD a 0 from fun z => c z.symm)]
          have h2 := (strokeF_two (x := oddR G (degs n l) (G.getD a 0) n + oddR G (degs n l) (G.getD b 0) n - 2) (by omega) (by have := ev (G.getD a 0); have := ev (G.getD b 0); omega)).2.2
          split <;> omega
        · obtain ⟨f1, f2⟩ := far g c1 c2
          rw [f1, if_neg c2, if_neg c1]
          have h2 := (strokeF_two (oddR_bd G (degs n l) (g : Int) n).1 (ev _)).2.2
          split
          · rename_i q; rw [if_pos (f2 q)]; omega
          · split <;> omega
    rw [rsum_add, rsum_add, rsum_one, rsum_one, if_pos gb, if_pos ga] at key
    omega
end Go.Proofs.Ytcdajmbnijmdfaa.PA
/- the reader of draws -/
namespace Go.Proofs.Ytcdajmbnijmdfaa.PA
open Go.RowKit Go.Proofs.YtcdajmbnijmdfaaW.PrintWords Go.Proofs.YtcdajmbnijmdfaaW.PrintLast Go.Proofs.YtcdajmbnijmdfaaW.PrintMore
set_option linter.unusedVariables false
set_option linter.unusedSimpArgs false
theorem and255 (x : Int) : 0 ≤ Go.bits .and .i64 x 255 ∧ Go.bits .and .i64 x 255 ≤ 255 := by
  unfold Go.bits
  have h : (BitVec.ofInt IntKind.i64.bits x &&& BitVec.ofInt IntKind.i64.bits 255).toNat ≤ 255 := by
    rw [BitVec.toNat_and]
    exact Nat.le_trans Nat.and_le_right (by decide)
  show 0 ≤ IntKind.i64.wrap ((BitVec.ofInt IntKind.i64.bits x &&& BitVec.ofInt IntKind.i64.bits 255).toNat : Int) ∧ IntKind.i64.wrap ((BitVec.ofInt IntKind.i64.bits x &&& BitVec.ofInt IntKind.i64.bits 255).toNat : Int) ≤ 255
  generalize (BitVec.ofInt IntKind.i64.bits x &&& BitVec.ofInt IntKind.i64.bits 255).toNat = n at *
  rw [IntKind.wrap_i64]
  omega
theorem byte_some (x : List Int) (i h : Int) (hx : x.length ≤ 1048576) (h0 : 0 ≤ i) (h1 : i ≤ (x.length : Int)) : ∃ b i' h', spec_l01Byte.f x i h = some (b, i', h') ∧ (0 ≤ b ∧ b ≤ 255) ∧ (0 ≤ i' ∧ i' ≤ (x.length : Int)) := by
  unfold spec_l01Byte.f
  by_cases c : i < (x.length : Int)
  · rw [if_pos c, if_pos h0]
    exact ⟨_, _, _, rfl, and255 _, by rw [w64 (by omega) (by omega)]; omega⟩
  · rw [if_neg c]
    exact ⟨_, _, _, rfl, and255 _, h0, h1⟩
theorem below_some (x : List Int) (i h n : Int) (hx : x.length ≤ 1048576) (h0 : 0 ≤ i) (h1 : i ≤ (x.length : Int)) (n0 : 1 ≤ n) (n1 : n ≤ 256) : ∃ v i' h', spec_l01Below.f x i h n = some (v, i', h') ∧ (0 ≤ v ∧ v < n) ∧ (0 ≤ i' ∧ i' ≤ (x.length : Int)) := by
  obtain ⟨b, i', h', e, hb, hi⟩ := byte_some x i h hx h0 h1
  refine ⟨Int.tmod b n, i', h', ?_, ?_, hi⟩
  · unfold spec_l01Below.f
    rw [if_neg (by omega), if_pos n1, e]
    simp only [Option.bind_some]
    rw [if_neg (by omega)]
  · rw [Int.tmod_eq_emod_of_nonneg hb.1]
    exact ⟨Int.emod_nonneg _ (by omega), Int.emod_lt_of_pos _ (by omega)⟩
theorem new_ev (x : List Int) (hx : x.length ≤ 1048576) : ∃ h, Ev (fun k => spec_l01New.f k x) (x, 0, h) := by
  have go : ∀ (m i : Nat) (a : Int), i + m = 4000 → ∃ h, Ev (fun k => spec_l01New.l0 k x a (i : Int)) (x, 0, h) := by
    intro m
    induction m with
    | zero =>
      intro i a hi
      refine ⟨a, Ev.step (f := fun _ => some (x, 0, a)) (fun k => ?_) (Ev.now _)⟩
      simp only [spec_l01New.l0]
      by_cases c : (i : Int) < (x.length : Int)
      · rw [if_pos c, if_neg (by omega)]
      · rw [if_neg c]
    | succ m ih =>
      intro i a hi
      by_cases c : (i : Int) < (x.length : Int)
      · obtain ⟨h, hh⟩ := ih (i + 1) (Go.bits .and .i64 (wrap64 ((wrap64 ((wrap64 (a * 179)) + (wrap64 (rd x (i : Int))))) + 7)) 1073741823) (by omega)
        refine ⟨h, Ev.step (f := fun k => spec_l01New.l0 k x (Go.bits .and .i64 (wrap64 ((wrap64 ((wrap64 (a * 179)) + (wrap64 (rd x (i : Int))))) + 7)) 1073741823) ((i + 1 : Nat) : Int)) (fun k => ?_) hh⟩
        simp only [spec_l01New.l0]
        rw [if_pos c, if_pos (by omega), if_pos (by omega), w64 (x := (i : Int) + 1) (by omega) (by omega)]
        rfl
      · refine ⟨a, Ev.step (f := fun _ => some (x, 0, a)) (fun k => ?_) (Ev.now _)⟩
        simp only [spec_l01New.l0]
        rw [if_neg c]
  obtain ⟨h, hh⟩ := go 4000 0 (wrap64 (2173 + (x.length : Int))) (by omega)
  exact ⟨h, hh⟩
theorem l31_ev (x : List Int) (hx : x.length ≤ 1048576) (n : Nat) (hn : n ≤ 1000) : ∃ i h, Ev (fun k => spec_l31New.f k x (n : Int)) (x, i, h) ∧ 0 ≤ i ∧ i ≤ (x.length : Int) := by
  obtain ⟨h0, e0⟩ := new_ev x hx
  have go : ∀ (m j : Nat) (i h : Int), j + m = n → 0 ≤ i → i ≤ (x.length : Int) → ∃ i' h', Ev (fun k => spec_l31New.l0 k x i h (n : Int) (j : Int)) (x, i', h') ∧ 0 ≤ i' ∧ i' ≤ (x.length : Int) := by
    intro m
    induction m with
    | zero =>
      intro j i h hj a b
      refine ⟨i, h, Ev.step (f := fun _ => some (x, i, h)) (fun k => ?_) (Ev.now _), a, b⟩
      simp only [spec_l31New.l0]
      rw [if_neg (by omega)]
    | succ m ih =>
      intro j i h hj a b
      obtain ⟨bb, i', h', e, _, hi⟩ := byte_some x i h hx a b
      obtain ⟨i2, h2, e2, g2⟩ := ih (j + 1) i' h' (by omega) hi.1 hi.2
      refine ⟨i2, h2, Ev.step (f := fun k => spec_l31New.l0 k x i' h' (n : Int) ((j + 1 : Nat) : Int)) (fun k => ?_) e2, g2⟩
      simp only [spec_l31New.l0]
      rw [if_pos (by omega), e]
      simp only [Option.bind_some]
      rw [w64 (by omega) (by omega)]
      rfl
  obtain ⟨i, h, e, g⟩ := go n 0 0 h0 (by omega) (by omega) (by omega)
  refine ⟨i, h, ?_, g⟩
  unfold spec_l31New.f
  exact Ev.bind e0 e
end Go.Proofs.Ytcdajmbnijmdfaa.PA
/- FnStrokes: what is drawn. -/
namespace Go.Proofs.Ytcdajmbnijmdfaa.PA
open Go.RowKit Go.Proofs.YtcdajmbnijmdfaaW.PrintWords Go.Proofs.YtcdajmbnijmdfaaW.PrintLast Go.Proofs.YtcdajmbnijmdfaaW.PrintMore
set_option linter.unusedVariables false
set_option linter.unusedSimpArgs false
theorem other_end {n v u : Int} (hn : 2 ≤ n) (hv : 0 ≤ v ∧ v < n) (hu : 0 ≤ u ∧ u < n - 1) : 0 ≤ (v + 1 + u) % n ∧ (v + 1 + u) % n ≤ n - 1 ∧ ¬ v = (v + 1 + u) % n := by
  by_cases c : v + 1 + u < n
  · rw [Int.emod_eq_of_lt (by omega) c]
    omega
  · have e : (v + 1 + u) % n = v + 1 + u - n := by
      have h1 : (v + 1 + u - n + n) % n = (v + 1 + u - n) % n := by rw [Int.add_emod_right]
      have h2 : (v + 1 + u - n) % n = v + 1 + u - n := Int.emod_eq_of_lt (by omega) (by omega)
      rw [h2, show v + 1 + u - n + n = v + 1 + u by omega] at h1
      exact h1
    rw [e]
    omega
theorem line_new {n v w : Int} (hv : 0 ≤ v ∧ v ≤ n - 1) (hw : 0 ≤ w ∧ w ≤ n - 1 ∧ ¬ v = w) : lineOk n [v, w] = true := by
  refine decide_eq_true ⟨rfl, ?_, ?_, ?_, ?_, ?_⟩
  · exact hv.1
  · exact hv.2
  · exact hw.1
  · exact hw.2.1
  · exact hw.2.2
theorem sdraw_l (x : List Int) (hx : x.length ≤ 1048576) (n : Int) (hn : 1 ≤ n ∧ n ≤ 6) : ∀ (m : Nat) (L : List (List Int)) (i h : Int), (∀ r ∈ L, lineOk n r = true) → L.length + m ≤ 8 → 0 ≤ i → i ≤ (x.length : Int) →
    ∃ L' i' h', Ev (fun k => spec_l23Draw.l0 k n L (m : Int) x i h) (n, L', i', h') ∧ (∀ r ∈ L', lineOk n r = true) ∧ L'.length ≤ 8 := by
  intro m
  induction m with
  | zero =>
    intro L i h hL hl _ _
    refine ⟨L, i, h, Ev.step (f := fun k => spec_l23Draw.j1 k n L ((0 : Nat) : Int) false x i h) (fun k => ?_) (Ev.step (f := fun _ => some (n, L, i, h)) (fun k => ?_) (Ev.now _)), hL, by omega⟩
    · simp only [spec_l23Draw.l0]
      rw [if_neg (by omega)]
    · simp only [spec_l23Draw.j1]
      rw [if_neg (by simp)]
  | succ m ih =>
    intro L i h hL hl a b
    by_cases c : 1 < n
    · obtain ⟨v, i1, h1, e1, hv, a1, b1⟩ := below_some x i h n hx a b (by omega) (by omega)
      obtain ⟨u, i2, h2, e2, hu, a2, b2⟩ := below_some x i1 h1 (n - 1) hx a1 b1 (by omega) (by omega)
      have ho := other_end (by omega : 2 ≤ n) hv hu
      obtain ⟨L', i', h', e, hL', hn'⟩ := ih (L ++ [[v, (v + 1 + u) % n]]) i2 h2 (fun r hr => by
        rcases List.mem_append.1 hr with hr | hr
        · exact hL r hr
        · rw [List.mem_singleton.1 hr]; exact line_new (by omega) ho) (by simp; omega) a2 b2
      refine ⟨L', i', h', Ev.step (f := fun k => spec_l23Draw.j1 k n L ((m + 1 : Nat) : Int) true x i h) (fun k => ?_) (Ev.step (f := fun k => spec_l23Draw.l0 k n (L ++ [[v, (v + 1 + u) % n]]) (m : Int) x i2 h2) (fun k => ?_) e), hL', hn'⟩
      · simp only [spec_l23Draw.l0]
        rw [if_pos (by omega), decide_eq_true (by omega : n > 1)]
      · simp only [spec_l23Draw.j1]
        rw [if_pos trivial, e1]
        simp only [Option.bind_some]
        rw [w64 (x := n - 1) (by omega) (by omega), e2]
        simp only [Option.bind_some]
        rw [if_neg (by omega), if_pos (by omega), w64 (x := v + 1) (by omega) (by omega), w64 (x := v + 1 + u) (by omega) (by omega), Int.tmod_eq_emod_of_nonneg (by omega), w64 (by omega) (by omega)]
        congr 1
        omega
    · refine ⟨L, i, h, Ev.step (f := fun k => spec_l23Draw.j1 k n L ((m + 1 : Nat) : Int) false x i h) (fun k => ?_) (Ev.step (f := fun _ => some (n, L, i, h)) (fun k => ?_) (Ev.now _)), hL, by omega⟩
      · simp only [spec_l23Draw.l0]
        rw [if_pos (by omega), decide_eq_false (by omega : ¬ n > 1)]
      · simp only [spec_l23Draw.j1]
        rw [if_neg (by simp)]
theorem makeDrawing_ev (x : List Int) (hx : x.length ≤ 1048576) : ∃ (n : Nat) (l : List (List Int)), Ev (fun k => spec_MakeDrawing.f k x 0) ((n : Int), l) ∧ drawOk (n : Int) l = true ∧ l.length ≤ 8 := by
  obtain ⟨i0, h0, e0, a0, b0⟩ := l31_ev x hx 0 (by omega)
  obtain ⟨v1, i1, h1, e1, hv1, a1, b1⟩ := below_some x i0 h0 6 hx a0 b0 (by omega) (by omega)
  obtain ⟨v2, i2, h2, e2, hv2, a2, b2⟩ := below_some x i1 h1 9 hx a1 b1 (by omega) (by omega)
  obtain ⟨n, rfl⟩ := Int.eq_ofNat_of_zero_le hv1.1
  obtain ⟨m, rfl⟩ := Int.eq_ofNat_of_zero_le hv2.1
  obtain ⟨L, i3, h3, e3, hL, hn⟩ := sdraw_l x hx ((n + 1 : Nat) : Int) (by omega) m [] i2 h2 (by simp) (by simp; omega) a2 b2
  refine ⟨n + 1, L, ?_, drawOk_iff.2 ⟨by omega, hL⟩, hn⟩
  unfold spec_MakeDrawing.f
  refine Ev.bind e0 ?_
  have e4 : Ev (fun k => spec_l23Draw.f k x i0 h0) (((n + 1 : Nat) : Int), L, i3, h3) := by
    unfold spec_l23Draw.f
    refine Ev.bind (ev_const e1) ?_
    refine Ev.bind (ev_const e2) ?_
    have ew : wrap64 (1 + (n : Int)) = ((n + 1 : Nat) : Int) := by rw [w64 (by omega) (by omega)]; omega
    simp only [ew]
    exact e3
  exact Ev.bind e4 (Ev.now _)
end Go.Proofs.Ytcdajmbnijmdfaa.PA
/- FnStrokes: the plain facts. -/
namespace Go.Proofs.Ytcdajmbnijmdfaa.PA
open Go.RowKit Go.Proofs.YtcdajmbnijmdfaaW.PrintWords Go.Proofs.YtcdajmbnijmdfaaW.PrintLast Go.Proofs.YtcdajmbnijmdfaaW.PrintMore
set_option linter.unusedVariables false
set_option linter.unusedSimpArgs false
theorem ssum_l (l : List Int) (hl : l.length ≤ 10) (hb : ∀ x ∈ l, -100000 ≤ x ∧ x ≤ 100000) : ∀ (d i : Nat) (a : Int), i + d = l.length → -100000 * (i : Int) ≤ a → a ≤ 100000 * (i : Int) → Ev (fun k => laws_sum.l0 k a l (l.length : Int) (i : Int)) (a + (l.drop i).sum) := by
  intro d
  induction d with
  | zero =>
    intro i a hi _ _
    rw [List.drop_of_length_le (by omega)]
    refine Ev.step (f := fun _ => some a) (fun k => ?_) (ev_eq (Ev.now _) (by simp))
    simp only [laws_sum.l0]
    rw [if_neg (by omega)]
  | succ d ih =>
    intro i a hi ha hb2
    have hlt : i < l.length := by omega
    have hx := hb l[i] (List.getElem_mem hlt)
    have e := ih (i + 1) (a + l[i]) (by omega) (by omega) (by omega)
    rw [List.drop_eq_getElem_cons hlt, List.sum_cons]
    refine Ev.step (fun k => ?_) (ev_eq e (by omega))
    simp only [laws_sum.l0]
    rw [if_pos (by omega), if_pos (by omega), if_pos (by omega), rd_get hlt, w64 (by omega) (by omega), w64 (by omega) (by omega)]
    rfl
theorem ssum_ev (l : List Int) (hl : l.length ≤ 10) (hb : ∀ x ∈ l, -100000 ≤ x ∧ x ≤ 100000) : Ev (fun k => laws_sum.f k l) l.sum := by
  have e := ssum_l l hl hb l.length 0 0 (by omega) (by omega) (by omega)
  exact ev_eq e (by simp)
theorem has_l (l : List Int) (x : Int) (hl : l.length ≤ 1000) : ∀ (d i : Nat), i + d = l.length → Ev (fun k => laws_has.l0 k x l (l.length : Int) (i : Int)) (decide (x ∈ l.drop i)) := by
  intro d
  induction d with
  | zero =>
    intro i hi
    rw [List.drop_of_length_le (by omega)]
    refine Ev.step (f := fun _ => some false) (fun k => ?_) (ev_eq (Ev.now _) (by simp))
    simp only [laws_has.l0]
    rw [if_neg (by omega)]
  | succ d ih =>
    intro i hi
    have hlt : i < l.length := by omega
    have e := ih (i + 1) (by omega)
    rw [List.drop_eq_getElem_cons hlt]
    by_cases c : l[i] = x
    · refine Ev.step (f := fun _ => some true) (fun k => ?_) (ev_eq (Ev.now _) (by simp [c]))
      simp only [laws_has.l0]
      rw [if_pos (by omega), if_pos (by omega), if_pos (by omega), rd_get hlt, if_pos c]
    · refine Ev.step (fun k => ?_) (ev_eq e (by rw [decide_eq_decide, List.mem_cons]; exact ⟨Or.inr, fun h => h.resolve_left (fun z => c z.symm)⟩))
      simp only [laws_has.l0]
      rw [if_pos (by omega), if_pos (by omega), if_pos (by omega), rd_get hlt, if_neg c, w64 (by omega) (by omega)]
      rfl
theorem has_ev (l : List Int) (x : Int) (hl : l.length ≤ 1000) : Ev (fun k => laws_has.f k l x) (decide (x ∈ l)) := has_l l x hl l.length 0 (by omega)
theorem first_some {n : Nat} {l : List (List Int)} (c : drawOk (n : Int) l = true) {s : Nat} (hs : s < n) : firstStroke (n : Int) l (s : Int) = match dfsAt l 0 (s : Int) with | some q => (q, true) | none => ([], false) := by
  unfold firstStroke
  rw [if_pos ⟨c, by omega⟩]
  cases dfsAt l 0 (s : Int) <;> rfl
theorem first_two {n : Nat} {l : List (List Int)} (c : drawOk (n : Int) l = true) {s : Nat} (hs : s < n) : (firstStroke (n : Int) l (s : Int)).2 = (dfsAt l 0 (s : Int)).isSome := by
  rw [first_some c hs]
  cases dfsAt l 0 (s : Int) <;> rfl
theorem can_any {n : Nat} {l : List (List Int)} (c : drawOk (n : Int) l = true) : canTrace (n : Int) l = (List.range n).any fun i => (firstStroke (n : Int) l (i : Int)).2 := by
  obtain ⟨h1, h2, h3, h4⟩ := drawOk_lines c
  unfold canTrace
  rw [show (mn (mx (n : Int) 0) 8).toNat = n by unfold mn mx; split <;> split <;> omega]
theorem can_iff {n : Nat} {l : List (List Int)} (c : drawOk (n : Int) l = true) : canTrace (n : Int) l = decide (partSum strokeF (joinG l (idL n)) (degs n l) n ≤ 1) := by
  obtain ⟨h1, h2, h3, h4⟩ := drawOk_lines c
  rw [Bool.eq_iff_iff, decide_eq_true_iff, can_any c, List.any_eq_true]
  constructor
  · rintro ⟨s, hs, h⟩
    have hs := List.mem_range.1 hs
    rw [first_two c hs] at h
    exact (can_need h4 hs h).1
  · intro h
    obtain ⟨s, hs, h⟩ := can_give h1 h4 h
    exact ⟨s, List.mem_range.2 hs, by rw [first_two c hs]; exact h⟩
theorem parts_zero {n : Nat} {l : List (List Int)} (hr : ∀ r ∈ l, LineOk n r) : partSum (fun _ => 1) (joinG l (idL n)) (degs n l) n = 0 ↔ l.length = 0 := by
  have hG := joinG_lab l _ hr (lab_idL n)
  have hb : ∀ i, i < n → 0 ≤ (if someR (joinG l (idL n)) (degs n l) (i : Int) n = true then (1 : Int) else 0) := fun i _ => by split <;> omega
  constructor
  · intro h
    cases hl : l with
    | nil => rfl
    | cons r l' =>
      exfalso
      have hm : r ∈ l := by rw [hl]; exact List.mem_cons_self
      have ho := hr r hm
      have hs := some_line hr (joinG l (idL n)) hm
      have hv := lab_at hG (i := (rd r 0).toNat) (by have := ho.a0; have := ho.a1; omega)
      obtain ⟨g, hg⟩ := Int.eq_ofNat_of_zero_le hv.1
      rw [hg] at hs hv
      have := rsum_ge_one hb (a := g) (by omega)
      rw [if_pos hs] at this
      unfold partSum at h
      rw [h] at this
      omega
  · intro h
    have hl : l = [] := List.eq_nil_of_length_eq_zero h
    unfold partSum
    refine rsum_zero fun i _ => if_neg ?_
    intro hs
    obtain ⟨j, hj, _, hp⟩ := (someR_iff _ _ _ n).1 hs
    rw [degs_at hr hj, hl] at hp
    simp [degAt] at hp
theorem odd_bool {n : Nat} {l : List (List Int)} (hr : ∀ r ∈ l, LineOk n r) {i : Nat} (hi : i < n) : decide ((i : Int) ∈ odds n l) = (Int.tmod (rd (degs n l) (i : Int)) 2 == 1) := by
  have h0 := degAt_nn l i
  rw [rd_nat, degs_at hr hi, Int.tmod_eq_emod_of_nonneg h0, Bool.eq_iff_iff, decide_eq_true_iff, beq_iff_eq, odds_mem hr]
  constructor
  · rintro ⟨j, _, e, h⟩
    rw [show i = j by omega]; exact h
  · intro h; exact ⟨i, hi, rfl, h⟩
/-- What a first stroke is. -/
structure StrOk (n : Nat) (l : List (List Int)) (s : Nat) (q : List Int) : Prop where
  len : q.length = l.length
  is : isStroke (n : Int) l (s : Int) q = true
  front : 0 < q.length → isStroke (n : Int) l (s : Int) (q.take (q.length - 1)) = true
  more : 0 < q.length → isStroke (n : Int) l (s : Int) (q ++ [rd q 0]) = false
  odd : (odds n l).length = 2 → (s : Int) ∈ odds n l
  pos : 0 < l.length → 0 < degAt l s
theorem str_ok {n : Nat} {l : List (List Int)} (c : drawOk (n : Int) l = true) {s : Nat} (hs : s < n) {q : List Int} (h : dfsAt l 0 (s : Int) = some q) : StrOk n l s q := by
  obtain ⟨h1, h2, h3, h4⟩ := drawOk_lines c
  obtain ⟨a1, a2, _⟩ := dfs_sound l l.length 0 (s : Int) q (leftN_nought _) (Nat.two_pow_pos _) h
  obtain ⟨b1, b2, b3⟩ := can_need h4 hs (by rw [h]; rfl)
  have hin : decide (0 ≤ (s : Int) ∧ (s : Int) ≤ (n : Int) - 1) = true := decide_eq_true (by omega)
  refine ⟨a1, ?_, fun hq => ?_, fun hq => ?_, fun ho => b2 (by omega), b3⟩
  · unfold isStroke
    rw [c, hin, a2]
    rfl
  · unfold isStroke
    rw [c, hin, strokeL_front l (q.take (q.length - 1)) (q.drop (q.length - 1)) (s : Int) 0 (by rw [List.take_append_drop]; exact a2)]
    rfl
  · unfold isStroke
    rw [c, hin, Bool.true_and, Bool.true_and]
    refine Bool.eq_false_iff.2 fun z => ?_
    refine (strokeL_new l (rd q 0) q (s : Int) 0 z).2 ?_
    have e := rd_get (l := q) (i := 0) hq
    have e' : rd q 0 = q[0] := e
    rw [e']
    exact List.getElem_mem hq
end Go.Proofs.Ytcdajmbnijmdfaa.PA
/- FnStrokes: the law. -/
namespace Go.Proofs.Ytcdajmbnijmdfaa.PA
open Go.RowKit Go.Proofs.YtcdajmbnijmdfaaW.PrintWords Go.Proofs.YtcdajmbnijmdfaaW.PrintLast Go.Proofs.YtcdajmbnijmdfaaW.PrintMore
set_option linter.unusedVariables false
set_option linter.unusedSimpArgs false
theorem strokex_ev {n : Nat} {l : List (List Int)} (c : drawOk (n : Int) l = true) {s : Nat} {q : List Int} (h : StrOk n l s q) : Ev (fun k => STROKEX.f k (n : Int) l (s : Int) q) false := by
  obtain ⟨h1, h2, h3, h4⟩ := drawOk_lines c
  have hq := h.len
  unfold STROKEX.f
  by_cases c0 : 0 < q.length
  · refine Ev.congr (fun k => if_pos c0) ?_
    refine Ev.bind (ev_eq (impl_IsStroke_ev _ _ _ _ (by rw [List.length_take]; omega)) (h.front c0)) ?_
    refine Ev.congr (fun k => if_pos rfl) ?_
    refine Ev.congr (fun k => if_pos (by omega)) ?_
    exact Ev.bind (ev_eq (impl_IsStroke_ev _ _ _ _ (by simp; omega)) (h.more c0)) (Ev.now _)
  · exact Ev.congr (fun k => if_neg c0) (Ev.now _)
theorem strokes_j3 {n : Nat} {l : List (List Int)} (c : drawOk (n : Int) l = true) (D O : List Int) (S : Int) (C b : Bool) {s : Nat} (hs : s < n) {q : List Int} (h : StrOk n l s q) (e : Ev (fun k => laws_FnStrokes.l1 k (n : Int) l D O S C b ((s + 1 : Nat) : Int)) true) :
    Ev (fun k => laws_FnStrokes.j3 k (n : Int) l D O S C b (s : Int) q false) true := by
  obtain ⟨h1, h2, h3, h4⟩ := drawOk_lines c
  refine Ev.step (f := fun k => ((STROKEX.f k (n : Int) l (s : Int) q).bind fun t628 => (if t628 = true then (none) else (laws_FnStrokes.l1 k (n : Int) l D O S C b (wrap64 ((s : Int) + 1)))))) (fun k => ?_) (Ev.bind (strokex_ev c h) ?_)
  · rw [laws_FnStrokes.j3, if_neg (by simp)]
  · refine Ev.congr (fun k => if_neg (by simp)) ?_
    rw [w64 (by omega) (by omega)]
    exact e
theorem strokes_j2 {n : Nat} {l : List (List Int)} (c : drawOk (n : Int) l = true) (S : Int) (C b : Bool) {s : Nat} (hs : s < n) (e : Ev (fun k => laws_FnStrokes.l1 k (n : Int) l (degs n l) (odds n l) S C b ((s + 1 : Nat) : Int)) true) :
    Ev (fun k => laws_FnStrokes.j2 k (n : Int) l (degs n l) (odds n l) S C b (s : Int) (firstStroke (n : Int) l (s : Int)).1 (firstStroke (n : Int) l (s : Int)).2) true := by
  obtain ⟨h1, h2, h3, h4⟩ := drawOk_lines c
  have hO := odds_len n l
  have hD := degs_len n l
  rw [first_some c hs]
  cases hd : dfsAt l 0 (s : Int) with
  | none =>
    show Ev (fun k => laws_FnStrokes.j2 k (n : Int) l (degs n l) (odds n l) S C b (s : Int) [] false) true
    refine Ev.step (f := fun k => laws_FnStrokes.l1 k (n : Int) l (degs n l) (odds n l) S C b ((s + 1 : Nat) : Int)) (fun k => ?_) e
    simp only [laws_FnStrokes.j2]
    rw [if_neg (by simp), w64 (by omega) (by omega)]
    rfl
  | some q =>
    show Ev (fun k => laws_FnStrokes.j2 k (n : Int) l (degs n l) (odds n l) S C b (s : Int) q true) true
    have h := str_ok c hs hd
    have hj := strokes_j3 c (degs n l) (odds n l) S C b hs h e
    have hT : Ev (fun k => if (l.length : Int) > 0 then (if 0 ≤ (s : Int) then (if (s : Int) < ((degs n l).length : Int) then (laws_FnStrokes.j3 k (n : Int) l (degs n l) (odds n l) S C b (s : Int) q ((rd (degs n l) (s : Int)) == 0)) else (none)) else (none)) else (laws_FnStrokes.j3 k (n : Int) l (degs n l) (odds n l) S C b (s : Int) q false)) true := by
      by_cases c0 : 0 < l.length
      · refine Ev.congr (fun k => if_pos (by omega)) (Ev.congr (fun k => if_pos (by omega)) (Ev.congr (fun k => if_pos (by omega)) ?_))
        have hp := h.pos c0
        have e0 : (rd (degs n l) (s : Int) == 0) = false := by
          rw [rd_nat, degs_at h4 hs, beq_eq_false_iff_ne]
          omega
        rw [e0]
        exact hj
      · exact Ev.congr (fun k => if_neg (by omega)) hj
    refine Ev.step (f := fun k => (if (q.length : Int) = (l.length : Int) then ((impl_IsStroke.f k (n : Int) l (s : Int) q).bind fun t624 => (if t624 = true then (if ((odds n l).length : Int) = 2 then ((laws_has.f k (odds n l) (s : Int)).bind fun t625 => (if t625 = true then (if (l.length : Int) > 0 then (if 0 ≤ (s : Int) then (if (s : Int) < ((degs n l).length : Int) then (laws_FnStrokes.j3 k (n : Int) l (degs n l) (odds n l) S C b (s : Int) q ((rd (degs n l) (s : Int)) == 0)) else (none)) else (none)) else (laws_FnStrokes.j3 k (n : Int) l (degs n l) (odds n l) S C b (s : Int) q false)) else (none))) else (if (l.length : Int) > 0 then (if 0 ≤ (s : Int) then (if (s : Int) < ((degs n l).length : Int) then (laws_FnStrokes.j3 k (n : Int) l (degs n l) (odds n l) S C b (s : Int) q ((rd (degs n l) (s : Int)) == 0)) else (none)) else (none)) else (laws_FnStrokes.j3 k (n : Int) l (degs n l) (odds n l) S C b (s : Int) q false))) else (none))) else (none))) (fun k => ?_) ?_
    · rw [laws_FnStrokes.j2, if_pos rfl]
    refine Ev.congr (fun k => if_pos (by rw [h.len])) ?_
    refine Ev.bind (ev_eq (impl_IsStroke_ev _ _ _ _ (by have := h.len; omega)) h.is) ?_
    refine Ev.congr (fun k => if_pos rfl) ?_
    by_cases c2 : (odds n l).length = 2
    · refine Ev.congr (fun k => if_pos (by omega)) ?_
      refine Ev.bind (ev_eq (has_ev _ _ (by omega)) (decide_eq_true (h.odd c2))) ?_
      exact Ev.congr (fun k => if_pos rfl) hT
    · exact Ev.congr (fun k => if_neg (by omega)) hT
theorem strokes_l1 {n : Nat} {l : List (List Int)} (c : drawOk (n : Int) l = true) (S : Int) (hj : ∀ b, (b = false ↔ 2 ≤ (odds n l).length) → Ev (fun k => laws_FnStrokes.j4 k (n : Int) l (odds n l) S b) true) (h12 : l.length < 12) : ∀ (d i : Nat), i + d = n →
    Ev (fun k => laws_FnStrokes.l1 k (n : Int) l (degs n l) (odds n l) S (canTrace (n : Int) l) ((List.range i).any fun j => (firstStroke (n : Int) l (j : Int)).2) (i : Int)) true := by
  obtain ⟨h1, h2, h3, h4⟩ := drawOk_lines c
  intro d
  induction d with
  | zero =>
    intro i hi
    obtain rfl : i = n := by omega
    rw [← can_any c]
    have e : (canTrace (i : Int) l != canTrace (i : Int) l) = false := by simp
    by_cases c2 : (odds i l).length < 2
    · refine Ev.step (f := fun k => laws_FnStrokes.j4 k (i : Int) l (odds i l) S true) (fun k => ?_) (hj true ⟨fun z => absurd z (by simp), fun z => absurd z (by omega)⟩)
      simp only [laws_FnStrokes.l1]
      rw [if_neg (by omega), e, if_neg (by simp), if_pos (by omega)]
    · refine Ev.step (f := fun k => laws_FnStrokes.j4 k (i : Int) l (odds i l) S false) (fun k => ?_) (hj false ⟨fun _ => by omega, fun _ => rfl⟩)
      have e2 : ((l.length : Int) == 12) = false := by rw [beq_eq_false_iff_ne]; omega
      simp only [laws_FnStrokes.l1]
      rw [if_neg (by omega), e, if_neg (by simp), if_neg (by omega), e2]
  | succ d ih =>
    intro i hi
    have e := ih (i + 1) (by omega)
    rw [List.range_succ, List.any_append, List.any_cons, List.any_nil, Bool.or_false] at e
    have e2 := strokes_j2 c S (canTrace (n : Int) l) _ (by omega : i < n) e
    generalize (List.range i).any (fun j => (firstStroke (n : Int) l (j : Int)).2) = b at *
    refine Ev.step (f := fun k => ((impl_FirstStroke.f k (n : Int) l (i : Int)).bind fun bt620 => (if b = true then (laws_FnStrokes.j2 k (n : Int) l (degs n l) (odds n l) S (canTrace (n : Int) l) true (i : Int) bt620.1 bt620.2) else (laws_FnStrokes.j2 k (n : Int) l (degs n l) (odds n l) S (canTrace (n : Int) l) bt620.2 (i : Int) bt620.1 bt620.2)))) (fun k => ?_) (Ev.bind (impl_FirstStroke_ev _ _ _) ?_)
    · rw [laws_FnStrokes.l1, if_pos (by omega)]
    · cases b with
      | true => exact Ev.congr (fun k => if_pos rfl) e2
      | false => exact Ev.congr (fun k => if_neg (by simp)) e2
theorem strokes_l0 {n : Nat} {l : List (List Int)} (c : drawOk (n : Int) l = true) (S : Int) (C : Bool) (e1 : Ev (fun k => laws_FnStrokes.l1 k (n : Int) l (degs n l) (odds n l) S C false 0) true) : ∀ (d i : Nat), i + d = n →
    Ev (fun k => laws_FnStrokes.l0 k (n : Int) l (degs n l) (odds n l) S C (degs n l) ((degs n l).length : Int) (i : Int)) true := by
  obtain ⟨h1, h2, h3, h4⟩ := drawOk_lines c
  have hO := odds_len n l
  have hD := degs_len n l
  intro d
  induction d with
  | zero =>
    intro i hi
    refine Ev.step (f := fun k => laws_FnStrokes.l1 k (n : Int) l (degs n l) (odds n l) S C false 0) (fun k => ?_) e1
    simp only [laws_FnStrokes.l0]
    rw [if_neg (by omega)]
  | succ d ih =>
    intro i hi
    have e := ih (i + 1) (by omega)
    refine Ev.step (f := fun k => ((laws_has.f k (odds n l) (i : Int)).bind fun t619 => (if (t619 != ((Int.tmod (rd (degs n l) (i : Int)) 2) == 1)) = true then (none) else (laws_FnStrokes.l0 k (n : Int) l (degs n l) (odds n l) S C (degs n l) ((degs n l).length : Int) (wrap64 ((i : Int) + 1)))))) (fun k => ?_) (Ev.bind (ev_eq (has_ev _ _ (by omega)) (odd_bool h4 (by omega))) ?_)
    · rw [laws_FnStrokes.l0, if_pos (by omega), if_pos (by omega), if_pos (by omega)]
    · refine Ev.congr (fun k => if_neg (by simp)) ?_
      rw [w64 (by omega) (by omega)]
      exact e
theorem strokes_j4 {n : Nat} {l : List (List Int)} (c : drawOk (n : Int) l = true) (h12 : l.length < 12) (b : Bool) (hb : 2 ≤ (odds n l).length → b = false) (hb2 : b = false → 2 ≤ (odds n l).length) :
    Ev (fun k => laws_FnStrokes.j4 k (n : Int) l (odds n l) (partSum strokeF (joinG l (idL n)) (degs n l) n) b) true := by
  obtain ⟨h1, h2, h3, h4⟩ := drawOk_lines c
  have hO := odds_len n l
  cases b with
  | true =>
    refine Ev.step (f := fun _ => some true) (fun k => ?_) (Ev.now _)
    rw [laws_FnStrokes.j4, if_pos rfl]
  | false =>
    have hO2 := hb2 rfl
    have hso : (odds n l).Pairwise (· < ·) := oddL_sorted _ _
    have e0 : rd (odds n l) 0 = (odds n l)[0] := rd_get (i := 0) (by omega)
    have e1 : rd (odds n l) 1 = (odds n l)[1] := rd_get (i := 1) (by omega)
    have hlt : (odds n l)[0] < (odds n l)[1] := List.pairwise_iff_getElem.1 hso 0 1 (by omega) (by omega) (by omega)
    obtain ⟨a, ha, ea, oa⟩ := (odds_mem h4 _).1 (List.getElem_mem (by omega : 0 < (odds n l).length))
    obtain ⟨b, hb', eb, ob⟩ := (odds_mem h4 _).1 (List.getElem_mem (by omega : 1 < (odds n l).length))
    have hab : a ≠ b := by intro z; subst z; omega
    have hr' := lines_app h4 ha hb' hab
    have hc' : drawOk (n : Int) (l ++ [[(a : Int), (b : Int)]]) = true := by
      refine drawOk_iff.2 ⟨by rw [List.length_append, List.length_singleton]; omega, fun r hr => ?_⟩
      have o := hr' r hr
      refine decide_eq_true ⟨o.len, o.a0, ?_, o.b0, ?_, o.ne⟩
      · have := o.a1; omega
      · have := o.b1; omega
    have eW : withLine (n : Int) l (rd (odds n l) 0) (rd (odds n l) 1) = (l ++ [[(a : Int), (b : Int)]], true) := by
      rw [e0, e1, ea, eb]
      unfold withLine
      rw [if_pos ⟨c, hc'⟩]
    have hm := odds_more h4 ha hb' hab oa ob
    have hn := needs_more h4 ha hb' hab oa ob
    refine Ev.step (f := fun k => (if 0 < ((odds n l).length : Int) then (if 1 < ((odds n l).length : Int) then ((impl_WithLine.f k (n : Int) l (rd (odds n l) 0) (rd (odds n l) 1)).bind fun bt631 => (if bt631.2 = true then (if (bt631.1.length : Int) = (wrap64 ((l.length : Int) + 1)) then ((impl_OddPoints.f k (n : Int) bt631.1).bind fun t635 => (if (t635.length : Int) = (wrap64 (((odds n l).length : Int) - 2)) then ((impl_StrokesNeeded.f k (n : Int) bt631.1).bind fun t638 => (some (decide (t638 ≤ (partSum strokeF (joinG l (idL n)) (degs n l) n))))) else (none))) else (none)) else (none))) else (none)) else (none))) (fun k => ?_) ?_
    · rw [laws_FnStrokes.j4, if_neg (by simp)]
    refine Ev.congr (fun k => if_pos (by omega)) (Ev.congr (fun k => if_pos (by omega)) ?_)
    refine Ev.bind (ev_eq (impl_WithLine_ev _ _ _ _ (by omega)) eW) ?_
    refine Ev.congr (fun k => if_pos rfl) ?_
    refine Ev.congr (fun k => if_pos (by rw [w64 (by omega) (by omega)]; simp)) ?_
    refine Ev.bind (ev_eq (impl_OddPoints_ev _ _) (by rw [if_pos hc', Int.toNat_natCast])) ?_
    refine Ev.congr (fun k => if_pos (by rw [hm, w64 (by omega) (by omega)])) ?_
    refine Ev.bind (ev_eq (impl_StrokesNeeded_ev _ _) (by unfold lineN; rw [if_pos hc', Int.toNat_natCast])) ?_
    exact ev_eq (Ev.now _) (decide_eq_true hn)
theorem laws_FnStrokes_ev (x : List Int) (hx : x.length ≤ 1048576) : Ev (fun k => laws_FnStrokes.f k x) true := by
  obtain ⟨n, l, e0, c, hl8⟩ := makeDrawing_ev x hx
  obtain ⟨h1, h2, h3, h4⟩ := drawOk_lines c
  have hO := odds_len n l
  have hD := degs_len n l
  obtain ⟨p0, p1, p2, p3⟩ := strokes_bounds h4
  have hpz := parts_zero h4
  have hev := odds_even h4
  have hcan := can_iff c
  have hpn : partSum (fun _ => 1) (joinG l (idL n)) (degs n l) n ≤ (n : Int) * 1 := by
    unfold partSum
    refine (rsum_bd (B := 1) fun i _ => ?_).2
    split <;> simp
  unfold laws_FnStrokes.f
  refine Ev.congr (fun k => if_neg (by omega)) ?_
  refine Ev.bind e0 ?_
  refine Ev.bind (ev_eq (impl_DegreesOf_ev _ _) (show _ = degs n l by rw [if_pos c, Int.toNat_natCast])) ?_
  refine Ev.bind (ev_eq (impl_OddPoints_ev _ _) (show _ = odds n l by rw [if_pos c, Int.toNat_natCast])) ?_
  refine Ev.bind (ev_eq (impl_StrokesNeeded_ev _ _) (show _ = partSum strokeF (joinG l (idL n)) (degs n l) n by unfold lineN; rw [if_pos c, Int.toNat_natCast])) ?_
  refine Ev.bind (ev_eq (impl_LineParts_ev _ _) (show _ = partSum (fun _ => 1) (joinG l (idL n)) (degs n l) n by unfold lineN; rw [if_pos c, Int.toNat_natCast])) ?_
  refine Ev.bind (impl_CanTrace_ev _ _) ?_
  refine Ev.bind (impl_IsDrawing_ev _ _) ?_
  have e1 := strokes_l1 c (partSum strokeF (joinG l (idL n)) (degs n l) n) (fun b hb => strokes_j4 c (by omega) b hb.2 hb.1) (by omega) n 0 (by omega)
  have e2 := strokes_l0 c (partSum strokeF (joinG l (idL n)) (degs n l) n) (canTrace (n : Int) l) e1 n 0 (by omega)
  rw [hcan] at e2 ⊢
  generalize partSum strokeF (joinG l (idL n)) (degs n l) n = S at *
  generalize partSum (fun _ => 1) (joinG l (idL n)) (degs n l) n = P at *
  refine Ev.congr (fun k => if_pos c) ?_
  refine Ev.congr (fun k => if_pos (by rw [degs_len])) ?_
  refine Ev.bind (ev_eq (ssum_ev (degs n l) (by omega) (fun y hy => by have := degs_bd n l y hy; omega)) (degs_sum h4)) ?_
  refine Ev.congr (fun k => if_pos (by dsimp only; rw [w64 (by omega) (by omega)])) ?_
  refine Ev.congr (fun k => if_pos hev) ?_
  refine Ev.congr (fun k => if_neg (by omega)) ?_
  refine Ev.congr (fun k => if_neg (by omega)) ?_
  refine Ev.congr (fun k => if_neg (by rw [w64 (by omega) (by omega)]; omega)) ?_
  refine Ev.congr (fun k => if_neg (by rw [w64 (x := ((odds n l).length : Int) / 2) (by omega) (by omega), w64 (by omega) (by omega)]; omega)) ?_
  refine Ev.congr (fun k => if_neg (by simp)) ?_
  refine Ev.congr (fun k => if_neg ?_) ?_
  · have : (P == 0) = ((l.length : Int) == 0) := by
      rw [Bool.eq_iff_iff, beq_iff_eq, beq_iff_eq, hpz]
      omega
    rw [this]
    simp
  · exact e2
end Go.Proofs.Ytcdajmbnijmdfaa.PA
/- The law FnStrokes holds of the program, for every input; no condition. -/
namespace Go.Proofs.Ytcdajmbnijmdfaa.Pure
open Go.RowKit Go.Proofs.Ytcdajmbnijmdfaa.PA Go.Proofs.YtcdajmbnijmdfaaW.PrintWords Go.Proofs.YtcdajmbnijmdfaaW.PrintLast Go.Proofs.YtcdajmbnijmdfaaW.PrintMore
set_option linter.unusedVariables false
set_option linter.unusedSimpArgs false
theorem FnStrokes : laws_FnStrokes.Pure := by
  intro l0 _ _ _
  by_cases c : (l0.length : Int) > 1048576
  · exact ⟨0, by unfold laws_FnStrokes.f; rw [if_pos c]⟩
  · exact Ev.rounds (g := fun k => laws_FnStrokes.f k l0) (laws_FnStrokes_ev l0 (by omega))
end Go.Proofs.Ytcdajmbnijmdfaa.Pure
-- Written for this claim by a program of this session's (ownprint.py), by way of the kit's print and hand-proved texts. Lean checks it.
namespace Go.Proofs.Ytcdajmbnijmdfaa.fnStrokes
open Go.ChangeShapes Go.WideShapes Go.ChangeAt Go.RowKit
open Go.ChangeMaps (open_string shut_string)
set_option linter.unusedVariables false
theorem own : ownKnob Try.prog.godebug = none := by kernel_rfl
theorem laidOut : laidOutB Try.prog = true := by kernel_rfl
def IsRow (k : IntKind) (w : World) (a : Option Addr) (len cap : Nat) (zs : List Int) : Prop :=
  (a = none ∧ len = 0 ∧ cap = 0 ∧ zs = []) ∨
  ∃ x, a = some x ∧ len ≤ cap ∧ cap ≤ maxLen ∧ zs.length = cap ∧ (∀ i, i < zs.length → w.cell? (x.add i) = some (.int k (zs.getD i 0))) ∧ ∀ n ∈ zs, (Lit.int k n).wf = true
set_option maxRecDepth 100000 in
theorem lifted (os : Os) (started : os.Started) (H : Type) (enc : TypeId × Value → H) :
    ReturnsInHanded {} Try.checked os 12 .any (Rows.fnStrokesSpec.pre6 enc Try.prog Try.f12 Rows.fnStrokesRow.domain false) (Rows.fnStrokesSpec.post enc Try.prog Try.f12 false true false false) := by
  refine returnsInHanded_of_change_sized (C := Try.checked) own started (by kernel_rfl) Try.func12
    (ChangeSpec.witness6 (enc := enc) (C := Try.checked) false ⟨#[], #[.slice none 0 0], []⟩ 8 (by kernel_rfl) (by kernel_rfl) (by kernel_rfl) (by kernel_rfl)) ?_
  intro W base args ds gs before hval0 hW hcnd hsz0 _
  have hsz : (DataW.weightsEach Try.prog (Try.f12.params.toList ++ Rows.fnStrokesSpec.plain.varTypes Try.prog) (ds ++ gs)).all (· ≤ reachBytes) = true := hsz0
  have hval : ∀ (j : Nat) t v, Try.f12.params[j]? = some t → args[j]? = some v → Value.okWide Try.prog W .any base t v := hval0
  have hW' := hW
  obtain ⟨p, q, hA0, hV, rfl, hfz, hnd⟩ := hW
  have hA : DataW.TrodAll enc Try.prog W 0 (fun _ => true) true Try.f12.params.toList args.toList ds p := hA0
  rw [Try.params12] at hA hval hsz
  obtain ⟨v0, vs0, d0, ds0, p0, q0, hargs, rfl, rfl, h0, r0⟩ := trodAll_cons hA
  obtain ⟨rfl, rfl, rfl⟩ := trodAll_nil r0
  obtain rfl : args = #[v0] := by cases args; simp_all
  obtain ⟨rfl, rfl⟩ := trodVars_none hV
  obtain ⟨a0, len0, cap0, rfl⟩ := okWide_slice Try.underlying40 (hval 0 40 v0 rfl rfl)
  have k0 := h0
  have lt0 : ∀ x ∈ p0, x.block < W.heap.size := by obtain ⟨m, hm⟩ := k0; exact DataW.trod_lt m _ _ _ hm
  obtain ⟨z0, w0⟩ : ∃ zs, IsRow .u8 W a0 len0 cap0 zs := by
    obtain ⟨fuel, hf⟩ := h0
    rcases open_ints Try.underlying40 Try.underlying5 (by kernel_rfl) hf with ⟨hcs, _⟩ | ⟨x, l, c, zs, hcs, _, hl, hm, hz, _, hcell, hwz⟩
    · simp [Value.cells] at hcs
      obtain ⟨rfl, rfl, rfl⟩ := hcs
      exact ⟨[], .inl ⟨rfl, rfl, rfl, rfl⟩⟩
    · simp [Value.cells] at hcs
      obtain ⟨rfl, rfl, rfl⟩ := hcs
      exact ⟨zs, .inr ⟨_, rfl, hl, hm, by simpa using hz, hcell, hwz⟩⟩
  have y0 : len0 * 1 ≤ 140737488351232 := Go.Proofs.YtcdajmbnijmdfaaW.PrintWords.sized_ints hsz (j := 0) (t := 40) rfl rfl Try.underlying40 Try.underlying5 (by kernel_rfl) (by kernel_rfl) h0
  clear hA0 hval0 hsz0 hsz
  refine (PA.laws_FnStrokes.walk Pure.FnStrokes a0 len0 cap0 z0 W w0 y0).mono fun e W' ⟨he, bel⟩ => ?_
  subst he
  exact ⟨_, rfl, _, _, _, [], _, [], hW', trodAll_mk1 (shut_bool Try.underlying4 _), (trodAll_cons_mk (Below.trod laidOut (by kernel_rfl) (of_decide_eq_true (by kernel_rfl)) k0 bel lt0) trodAll_mk0), rfl, bel.frame _, fun h => by cases h⟩
theorem over : Rows.fnStrokesRow.holds Try.pinned (OpenSpec.ofChange Rows.fnStrokesSpec) :=
  OpenClaim.holds_of_wide 12 Try.f12 rfl rfl rfl rfl rfl rfl rfl ⟨rfl, rfl, rfl, rfl, rfl⟩ rfl rfl rfl rfl rfl (by kernel_rfl) Try.func12 (by kernel_rfl)
    (of_decide_eq_true (by kernel_rfl)) (by unfold Func.isWrapper; first | (rw [if_pos (by decide +kernel)]; kernel_rfl) | (rw [if_neg (by decide +kernel)]; exact ⟨rfl, rfl⟩))
    (fun os started H enc _ => lifted os started H enc)
theorem proved : Rows.FnStrokesSaid := over
#print axioms proved
end Go.Proofs.Ytcdajmbnijmdfaa.fnStrokes
namespace Go.Proofs.Ytcdajmbnijmdfaa
/-- The row, under a short name, for the claim. -/
theorem fnStrokes_holds : Rows.FnStrokesSaid := fnStrokes.proved
end Go.Proofs.Ytcdajmbnijmdfaa
