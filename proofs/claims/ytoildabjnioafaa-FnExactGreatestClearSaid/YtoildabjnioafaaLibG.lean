/- GreatestClear: both texts. -/
import Derived.Test.YtoildabjnioafaaLibAc
import Derived.Test.YtoildabjnioafaaPAx28
import Derived.Test.YtoildabjnioafaaPAx29
namespace Go.Proofs.Ytoildabjnioafaa.PA
open Go.RowKit Go.Proofs.YtoildabjnioafaaW.PrintWords Go.Proofs.YtoildabjnioafaaW.PrintLast Go.Proofs.YtoildabjnioafaaW.PrintMore
set_option linter.unusedVariables false
set_option linter.unusedSimpArgs false

/-! which windows are among all -/
theorem mem_allU (W H : Nat) (m : Int) (x y v : Nat) (l : List Int) : ∀ (c u : Nat) (acc : List (List Int)), l ∈ allU W H m x y v c u acc ↔ l ∈ acc ∨ ∃ u', u ≤ u' ∧ u' < u + c ∧ clearB W H m (win4 x y v u') = true ∧ l = win4 x y v u' := by
  intro c
  induction c with
  | zero =>
    intro u acc
    simp only [allU]
    constructor
    · exact fun h => .inl h
    · rintro (h | ⟨u', h1, h2, _⟩)
      · exact h
      · omega
  | succ c ih =>
    intro u acc
    simp only [allU]
    rw [ih]
    by_cases hc : clearB W H m (win4 x y v u) = true
    · rw [if_pos hc]
      constructor
      · rintro (h | ⟨u', h1, h2, h3, h4⟩)
        · rcases List.mem_append.1 h with h | h
          · exact .inl h
          · exact .inr ⟨u, Nat.le_refl _, by omega, hc, by simpa using h⟩
        · exact .inr ⟨u', by omega, by omega, h3, h4⟩
      · rintro (h | ⟨u', h1, h2, h3, h4⟩)
        · exact .inl (List.mem_append_left _ h)
        · by_cases e : u' = u
          · subst e
            exact .inl (List.mem_append_right _ (by rw [h4]; exact List.mem_singleton.2 rfl))
          · exact .inr ⟨u', by omega, by omega, h3, h4⟩
    · rw [if_neg hc]
      constructor
      · rintro (h | ⟨u', h1, h2, h3, h4⟩)
        · exact .inl h
        · exact .inr ⟨u', by omega, by omega, h3, h4⟩
      · rintro (h | ⟨u', h1, h2, h3, h4⟩)
        · exact .inl h
        · by_cases e : u' = u
          · subst e
            exact absurd h3 hc
          · exact .inr ⟨u', by omega, by omega, h3, h4⟩
theorem mem_allV (W H : Nat) (m : Int) (x y : Nat) (l : List Int) : ∀ (c v : Nat) (acc : List (List Int)), l ∈ allV W H m x y c v acc ↔ l ∈ acc ∨ ∃ v' u', v ≤ v' ∧ v' < v + c ∧ 1 ≤ u' ∧ u' < 1 + (H - y) ∧ clearB W H m (win4 x y v' u') = true ∧ l = win4 x y v' u' := by
  intro c
  induction c with
  | zero =>
    intro v acc
    simp only [allV]
    constructor
    · exact fun h => .inl h
    · rintro (h | ⟨v', u', h1, h2, _⟩)
      · exact h
      · omega
  | succ c ih =>
    intro v acc
    simp only [allV]
    rw [ih, mem_allU]
    constructor
    · rintro ((h | ⟨u', h1, h2, h3, h4⟩) | ⟨v', u', h1, h2, h3⟩)
      · exact .inl h
      · exact .inr ⟨v, u', Nat.le_refl _, by omega, h1, h2, h3, h4⟩
      · exact .inr ⟨v', u', by omega, by omega, h3⟩
    · rintro (h | ⟨v', u', h1, h2, h3, h4, h5, h6⟩)
      · exact .inl (.inl h)
      · by_cases e : v' = v
        · subst e
          exact .inl (.inr ⟨u', h3, h4, h5, h6⟩)
        · exact .inr ⟨v', u', by omega, by omega, h3, h4, h5, h6⟩
theorem mem_allY (W H : Nat) (m : Int) (x : Nat) (l : List Int) : ∀ (c y : Nat) (acc : List (List Int)), l ∈ allY W H m x c y acc ↔ l ∈ acc ∨ ∃ y' v' u', y ≤ y' ∧ y' < y + c ∧ 1 ≤ v' ∧ v' < 1 + (W - x) ∧ 1 ≤ u' ∧ u' < 1 + (H - y') ∧ clearB W H m (win4 x y' v' u') = true ∧ l = win4 x y' v' u' := by
  intro c
  induction c with
  | zero =>
    intro y acc
    simp only [allY]
    constructor
    · exact fun h => .inl h
    · rintro (h | ⟨y', v', u', h1, h2, _⟩)
      · exact h
      · omega
  | succ c ih =>
    intro y acc
    simp only [allY]
    rw [ih, mem_allV]
    constructor
    · rintro ((h | ⟨v', u', h1, h2, h3⟩) | ⟨y', v', u', h1, h2, h3⟩)
      · exact .inl h
      · exact .inr ⟨y, v', u', Nat.le_refl _, by omega, h1, h2, h3⟩
      · exact .inr ⟨y', v', u', by omega, by omega, h3⟩
    · rintro (h | ⟨y', v', u', h1, h2, h3, h4, h5⟩)
      · exact .inl (.inl h)
      · by_cases e : y' = y
        · subst e
          exact .inl (.inr ⟨v', u', h3, h4, h5⟩)
        · exact .inr ⟨y', v', u', by omega, by omega, h3, h4, h5⟩
theorem mem_allX (W H : Nat) (m : Int) (l : List Int) : ∀ (c x : Nat) (acc : List (List Int)), l ∈ allX W H m c x acc ↔ l ∈ acc ∨ ∃ x' y' v' u', x ≤ x' ∧ x' < x + c ∧ y' < H ∧ 1 ≤ v' ∧ v' < 1 + (W - x') ∧ 1 ≤ u' ∧ u' < 1 + (H - y') ∧ clearB W H m (win4 x' y' v' u') = true ∧ l = win4 x' y' v' u' := by
  intro c
  induction c with
  | zero =>
    intro x acc
    simp only [allX]
    constructor
    · exact fun h => .inl h
    · rintro (h | ⟨x', y', v', u', h1, h2, _⟩)
      · exact h
      · omega
  | succ c ih =>
    intro x acc
    simp only [allX]
    rw [ih, mem_allY]
    constructor
    · rintro ((h | ⟨y', v', u', h1, h2, h3⟩) | ⟨x', y', v', u', h1, h2, h3⟩)
      · exact .inl h
      · exact .inr ⟨x, y', v', u', Nat.le_refl _, by omega, by omega, h3⟩
      · exact .inr ⟨x', y', v', u', by omega, by omega, h3⟩
    · rintro (h | ⟨x', y', v', u', h1, h2, h3, h4⟩)
      · exact .inl (.inl h)
      · by_cases e : x' = x
        · subst e
          exact .inl (.inr ⟨y', v', u', by omega, by omega, h4⟩)
        · exact .inr ⟨x', y', v', u', by omega, by omega, h3, h4⟩
theorem mem_allWin {w h m : Int} {l : List Int} : l ∈ allWin w h m ↔ ∃ x y v u : Nat, x < w.toNat ∧ y < h.toNat ∧ 1 ≤ v ∧ x + v ≤ w.toNat ∧ 1 ≤ u ∧ y + u ≤ h.toNat ∧ clearB (w.toNat : Int) (h.toNat : Int) m (win4 x y v u) = true ∧ l = win4 x y v u := by
  unfold allWin
  rw [mem_allX]
  constructor
  · rintro (h | ⟨x, y, v, u, h1, h2, h3, h4, h5, h6, h7, h8⟩)
    · simp at h
    · exact ⟨x, y, v, u, by omega, h3, h4, by omega, h6, by omega, h8⟩
  · rintro ⟨x, y, v, u, h1, h2, h3, h4, h5, h6, h7⟩
    exact .inr ⟨x, y, v, u, by omega, by omega, h2, h3, by omega, h5, by omega, h7⟩
/-! GreatestClear -/
def prodW (a : List Int) : Int := wrap64 (rd a 2 * rd a 3)
theorem bestG_eq : ∀ (ls : List (List Int)) (b : List Int), (∀ a ∈ ls, 0 < prodW a) → 0 < prodW b → ∃ b', bestG ls b (prodW b) = (b', prodW b') ∧ 0 < prodW b' ∧ bestI ls (some b) = some b' := by
  intro ls
  induction ls with
  | nil => intro b _ hb; exact ⟨b, rfl, hb, rfl⟩
  | cons a ls ih =>
    intro b hl hb
    have ha := hl a List.mem_cons_self
    have hl' : ∀ a ∈ ls, 0 < prodW a := fun a h => hl a (List.mem_cons_of_mem _ h)
    by_cases c : prodW b < prodW a
    · obtain ⟨b', h1, h2, h3⟩ := ih a hl' ha
      refine ⟨b', ?_, h2, ?_⟩
      · rw [← h1]
        exact if_pos c
      · rw [← h3]
        exact if_pos c
    · obtain ⟨b', h1, h2, h3⟩ := ih b hl' hb
      refine ⟨b', ?_, h2, ?_⟩
      · rw [← h1]
        exact if_neg c
      · rw [← h3]
        exact if_neg c
theorem bestG_fin (ls : List (List Int)) (h : ∀ a ∈ ls, 0 < prodW a) : (if (bestG ls [] 0).2 = 0 then (([] : List Int), false) else ((bestG ls [] 0).1, true)) = finI (bestI ls none) := by
  cases ls with
  | nil => rfl
  | cons a ls =>
    have ha := h a List.mem_cons_self
    obtain ⟨b', h1, h2, h3⟩ := bestG_eq ls a (fun a h' => h a (List.mem_cons_of_mem _ h')) ha
    have e1 : bestG (a :: ls) [] 0 = (b', prodW b') := by
      rw [← h1]
      exact if_pos ha
    have e2 : bestI (a :: ls) none = some b' := h3
    rw [e1, e2, if_neg (by simp only; omega)]
    rfl
theorem prod_win4 {x y v u : Nat} (hv : 1 ≤ v) (hu : 1 ≤ u) (hv6 : v ≤ 6) (hu6 : u ≤ 6) : 0 < prodW (win4 x y v u) := by
  have e : prodW (win4 x y v u) = wrap64 ((v : Int) * (u : Int)) := rfl
  have h1 : 1 * 1 ≤ v * u := Nat.mul_le_mul hv hu
  have h2 : v * u ≤ 6 * 6 := Nat.mul_le_mul hv6 hu6
  have e2 : (v : Int) * (u : Int) = ((v * u : Nat) : Int) := by simp
  rw [e, e2, w64 (by omega) (by omega)]
  omega
theorem shape_small {w h m : Int} (c : shapeOk w h m = true) : 1 ≤ w.toNat ∧ w.toNat ≤ 6 ∧ 1 ≤ h.toNat ∧ h.toNat ≤ 6 := by
  unfold shapeOk at c
  simp only [decide_eq_true_eq] at c
  omega
theorem allWin_prod {w h m : Int} (c : shapeOk w h m = true) : ∀ a ∈ allWin w h m, 0 < prodW a := by
  intro a ha
  obtain ⟨x, y, v, u, h1, h2, h3, h4, h5, h6, _, rfl⟩ := mem_allWin.1 ha
  have hs := shape_small c
  exact prod_win4 h3 h5 (by omega) (by omega)
theorem allWin_all (w h m : Int) : allFour (allWin w h m) = true := by
  unfold allFour
  rw [List.all_eq_true]
  intro r hr
  exact decide_eq_true (allWin_four w h m r hr)
def greatest (w h m : Int) : List Int × Bool := if shapeOk w h m then finI (bestI (allWin w h m) none) else ([], false)
theorem bestI_mem : ∀ (ls : List (List Int)) (b : Option (List Int)) (r : List Int), bestI ls b = some r → b = some r ∨ r ∈ ls := by
  intro ls
  induction ls with
  | nil => intro b r h; exact .inl h
  | cons a ls ih =>
    intro b r h
    cases b with
    | none =>
      rcases ih (some a) r h with h | h
      · exact .inr (by cases h; exact List.mem_cons_self)
      · exact .inr (List.mem_cons_of_mem _ h)
    | some b =>
      simp only [bestI] at h
      split at h
      · rcases ih (some a) r h with h | h
        · exact .inr (by cases h; exact List.mem_cons_self)
        · exact .inr (List.mem_cons_of_mem _ h)
      · rcases ih (some b) r h with h | h
        · exact .inl h
        · exact .inr (List.mem_cons_of_mem _ h)
theorem greatest_len (w h m : Int) : (greatest w h m).1.length ≤ 4 := by
  unfold greatest
  split
  · cases e : bestI (allWin w h m) none with
    | none => simp [finI]
    | some b =>
      rcases bestI_mem _ _ _ e with e | e
      · cases e
      · have := allWin_four w h m b e
        simp [finI, this]
  · simp
theorem spec_Greatest_ev (w h m : Int) : Ev (fun k => spec_GreatestClear.f k w h m) (greatest w h m) := by
  unfold spec_GreatestClear.f greatest
  rw [spec_ShapeOk_eq]
  by_cases c : shapeOk w h m = true
  · refine ev_eq (Ev.congr (fun k => by rw [Option.bind_some, if_pos c]) (Ev.bind (spec_all_ev c) (Ev.congr (fun k => if_pos (allWin_all w h m)) (ev_eq (ev_const (show _ = some (if (bestG (allWin w h m) [] 0).2 = 0 then (([] : List Int), false) else ((bestG (allWin w h m) [] 0).1, true)) by split <;> rfl)) (bestG_fin _ (allWin_prod c)))))) (if_pos c).symm
  · exact ev_eq (Ev.congr (fun k => by rw [Option.bind_some, if_neg c]) (Ev.now _)) (if_neg c).symm
theorem impl_Greatest_ev (w h m : Int) : Ev (fun k => impl_GreatestClear.f k w h m) (greatest w h m) := by
  unfold impl_GreatestClear.f greatest
  rw [impl_ShapeOk_eq]
  by_cases c : shapeOk w h m = true
  · exact ev_eq (Ev.congr (fun k => by rw [Option.bind_some, if_pos c]) (Ev.bind (impl_all_ev c) (Ev.congr (fun k => if_pos (allWin_all w h m)) (Ev.now _)))) (if_pos c).symm
  · exact ev_eq (Ev.congr (fun k => by rw [Option.bind_some, if_neg c]) (Ev.now _)) (if_neg c).symm

end Go.Proofs.Ytoildabjnioafaa.PA
