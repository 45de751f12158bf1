/- total lengths -/
import Derived.Test.YtebjpafnfmmjeaaLibI
import Derived.Test.YtebjpafnfmmjeaaPAx1
namespace Go.Proofs.Ytebjpafnfmmjeaa.PA
open Go.RowKit Go.Proofs.YtebjpafnfmmjeaaW.PrintWords Go.Proofs.YtebjpafnfmmjeaaW.PrintLast Go.Proofs.YtebjpafnfmmjeaaW.PrintMore
set_option linter.unusedVariables false
set_option linter.unusedSimpArgs false

/-! the size of a slice of slices -/
def totlen : List (List Int) → Nat
  | [] => 0
  | r :: l => r.length + totlen l
theorem mem_totlen {l : List (List Int)} {r : List Int} (h : r ∈ l) : r.length ≤ totlen l := by
  induction l with
  | nil => cases h
  | cons x l ih =>
    simp only [totlen]
    rcases List.mem_cons.1 h with rfl | h
    · omega
    · have := ih h
      omega
theorem totlen_le (B : Nat) : ∀ (l : List (List Int)), (∀ r ∈ l, r.length ≤ B) → totlen l ≤ l.length * B := by
  intro l
  induction l with
  | nil => intro _; simp [totlen]
  | cons x l ih =>
    intro h
    have h1 := ih (fun r hr => h r (List.mem_cons_of_mem _ hr))
    have h2 := h x List.mem_cons_self
    simp only [totlen, List.length_cons, Nat.succ_mul]
    omega
theorem szTot_l (l : List (List Int)) (hl : l.length ≤ 1048576) (hr : ∀ r ∈ l, r.length ≤ 9223372036854775807) : ∀ (d i : Nat) (x : Int), i + d = l.length → 0 ≤ x → x ≤ 1048576 →
    ∃ r : Int, Ev (fun k => laws_szIntSS.l0 k l x (i : Int)) r ∧ (r < 0 ∨ (0 ≤ r ∧ r + totlen (l.drop i) ≤ x)) := by
  intro d
  induction d with
  | zero =>
    intro i x hi h0 h1
    refine ⟨x, Ev.step (f := fun _ => some x) (fun k => ?_) (Ev.now _), .inr ⟨h0, ?_⟩⟩
    · simp only [laws_szIntSS.l0]
      rw [if_neg (by omega)]
    · rw [List.drop_of_length_le (by omega)]
      simp [totlen]
  | succ d ih =>
    intro i x hi h0 h1
    have hlt : i < l.length := by omega
    have hrow := hr l[i] (List.getElem_mem hlt)
    by_cases c : x - (l[i].length : Int) < 0
    · refine ⟨-1, Ev.step (f := fun _ => some (-1)) (fun k => ?_) (Ev.now _), .inl (by omega)⟩
      simp only [laws_szIntSS.l0]
      rw [if_pos (by omega), if_pos (by omega), rdL_get hlt]
      unfold laws_szIntS.f
      rw [w64 (by omega) (by omega), if_pos c]
      rfl
    · obtain ⟨r, he, hd⟩ := ih (i + 1) (x - (l[i].length : Int)) (by omega) (by omega) (by omega)
      refine ⟨r, Ev.step (f := fun k => laws_szIntSS.l0 k l (x - (l[i].length : Int)) ((i + 1 : Nat) : Int)) (fun k => ?_) he, ?_⟩
      · simp only [laws_szIntSS.l0]
        rw [if_pos (by omega), if_pos (by omega), rdL_get hlt]
        unfold laws_szIntS.f
        rw [w64 (x := x - (l[i].length : Int)) (by omega) (by omega), if_neg c]
        simp only [Option.bind_some]
        rw [if_neg c, w64 (by omega) (by omega)]
        rfl
      · rcases hd with hd | ⟨hd, h3⟩
        · exact .inl hd
        · refine .inr ⟨hd, ?_⟩
          rw [List.drop_eq_getElem_cons hlt]
          simp only [totlen]
          omega
theorem szTot_ev (l : List (List Int)) (x : Int) (h0 : 0 ≤ x) (h1 : x ≤ 1048576) (hl : l.length ≤ 9223372036854775807) (hr : ∀ r ∈ l, r.length ≤ 9223372036854775807) :
    ∃ r : Int, Ev (fun k => laws_szIntSS.f k l x) r ∧ (r < 0 ∨ (0 ≤ r ∧ r + l.length + totlen l ≤ x)) := by
  by_cases c : x - (l.length : Int) < 0
  · refine ⟨-1, (Ev.now (-1)).congr (fun k => ?_), .inl (by omega)⟩
    unfold laws_szIntSS.f
    rw [w64 (by omega) (by omega), if_pos c]
  · obtain ⟨r, he, hd⟩ := szTot_l l (by omega) hr l.length 0 (x - (l.length : Int)) (by omega) (by omega) (by omega)
    refine ⟨r, he.congr (fun k => ?_), ?_⟩
    · unfold laws_szIntSS.f
      rw [w64 (by omega) (by omega), if_neg c]
      rfl
    · rcases hd with hd | ⟨hd, h3⟩
      · exact .inl hd
      · exact .inr ⟨hd, by rw [List.drop_zero] at h3; omega⟩

end Go.Proofs.Ytebjpafnfmmjeaa.PA
