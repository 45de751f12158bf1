/- BestMarker: the markers in order. -/
import Derived.Test.YtghnaclpjdhilaaLibP
import Derived.Test.YtghnaclpjdhilaaLibM
import Derived.Test.YtghnaclpjdhilaaPAx0
import Derived.Test.YtghnaclpjdhilaaPAx18
namespace Go.Proofs.Ytghnaclpjdhilaa.PA
open Go.RowKit Go.Proofs.YtghnaclpjdhilaaW.PrintWords Go.Proofs.YtghnaclpjdhilaaW.PrintLast Go.Proofs.YtghnaclpjdhilaaW.PrintMore
set_option linter.unusedVariables false
set_option linter.unusedSimpArgs false

/-! BestMarker -/
theorem rdL_get {l : List (List Int)} {i : Nat} (h : i < l.length) : rd_L1 l (i : Int) = l[i] := by simp [rd_L1, List.getD_eq_getElem?_getD, h]
/-- All markers of d sizes with at most r pieces, in the order of the text. -/
def mks : Nat → Nat → List (List Int)
  | 0, _ => [[]]
  | d + 1, r => (List.range (r + 1)).flatMap fun j => (mks d (r - j)).map fun t => (j : Int) :: t
theorem mks_len : ∀ (d r : Nat), r ≤ 8 → (mks d r).length ≤ 9 ^ d := by
  intro d
  induction d with
  | zero => intro r _; simp [mks]
  | succ d ih =>
    intro r hr
    simp only [mks]
    have go : ∀ l : List Nat, (l.flatMap fun j => (mks d (r - j)).map fun t => (j : Int) :: t).length ≤ l.length * 9 ^ d := by
      intro l
      induction l with
      | nil => simp
      | cons j l ihl =>
        rw [List.flatMap_cons, List.length_append, List.length_map, List.length_cons, Nat.succ_mul]
        have := ih (r - j) (by omega)
        omega
    have h := go (List.range (r + 1))
    rw [List.length_range] at h
    have h2 : (r + 1) * 9 ^ d ≤ 9 * 9 ^ d := Nat.mul_le_mul_right _ (by omega)
    rw [Nat.pow_succ, Nat.mul_comm]
    omega
theorem mks_row : ∀ (d r : Nat) (t : List Int), t ∈ mks d r → t.length = d ∧ (∀ x ∈ t, 0 ≤ x ∧ x ≤ (r : Int)) ∧ 0 ≤ t.sum ∧ t.sum ≤ (r : Int) := by
  intro d
  induction d with
  | zero => intro r t h; simp [mks] at h; subst h; simp
  | succ d ih =>
    intro r t h
    simp only [mks] at h
    obtain ⟨j, hj, h⟩ := List.mem_flatMap.1 h
    obtain ⟨u, hu, rfl⟩ := List.mem_map.1 h
    have hj' := List.mem_range.1 hj
    obtain ⟨h1, h2, h3, h4⟩ := ih (r - j) u hu
    refine ⟨by simp [h1], fun x hx => ?_, ?_, ?_⟩
    · rcases List.mem_cons.1 hx with rfl | hx
      · omega
      · have := h2 x hx; omega
    · rw [List.sum_cons]; omega
    · rw [List.sum_cons]; omega
theorem spec_mks : ∀ d : Nat, d ≤ 5 → ∀ r : Nat, r ≤ 8 → Ev (fun k => spec_l19Markers.f k (d : Int) (r : Int)) (mks d r) := by
  intro d
  induction d with
  | zero =>
    intro _ r _
    refine Ev.step (f := fun _ => some [[]]) (fun k => ?_) (Ev.now _)
    rw [spec_l19Markers.f, if_pos (by omega)]
  | succ d ih =>
    intro hd r hr
    have h9 : 9 ^ d ≤ 9 ^ 4 := Nat.pow_le_pow_right (by omega) (by omega)
    have rows : ∀ (j : Nat) (T : List (List Int)) (R : List (List Int)), j ≤ 8 → (∀ t ∈ T, t.length = d) → T.length ≤ 10000 → ∀ (c i : Nat) (acc : List (List Int)), i + c = T.length → acc.length + c ≤ 200000 →
        Ev (fun k => spec_l19Markers.l0 k ((d + 1 : Nat) : Int) (r : Int) (acc ++ (T.drop i).map fun t => (j : Int) :: t) ((j + 1 : Nat) : Int)) R →
        Ev (fun k => spec_l19Markers.l1 k ((d + 1 : Nat) : Int) (r : Int) acc (j : Int) T (T.length : Int) (i : Int)) R := by
      intro j T R hj hT hTl c
      induction c with
      | zero =>
        intro i acc hi ha hR
        rw [List.drop_of_length_le (by omega), List.map_nil, List.append_nil] at hR
        refine Ev.step (fun k => ?_) hR
        rw [spec_l19Markers.l1, if_neg (by omega), w64 (by omega) (by omega)]
        rfl
      | succ c ihc =>
        intro i acc hi ha hR
        have hlt : i < T.length := by omega
        have hl := hT _ (List.getElem_mem hlt)
        rw [List.drop_eq_getElem_cons hlt, List.map_cons] at hR
        have h1 : ([(j : Int)] : List Int).length + (T[i]).length < 17592186044416 := by
          rw [List.length_singleton]; omega
        have h2 : acc.length < 5864062014805 := by omega
        refine Ev.step (fun k => ?_) (ihc (i + 1) (acc ++ [(j : Int) :: T[i]]) (by omega) (by simp; omega) (by simpa using hR))
        rw [spec_l19Markers.l1, if_pos (by omega), if_pos (by omega), if_pos (by omega), Option.bind_some, rdL_get hlt, if_pos h1, if_pos h2, w64 (by omega) (by omega)]
        rfl
    have go : ∀ (c j : Nat) (acc : List (List Int)), j + c = r + 1 → acc.length ≤ 9 ^ 4 * j → Ev (fun k => spec_l19Markers.l0 k ((d + 1 : Nat) : Int) (r : Int) acc (j : Int)) (acc ++ (List.range' j c).flatMap fun j => (mks d (r - j)).map fun t => (j : Int) :: t) := by
      intro c
      induction c with
      | zero =>
        intro j acc hj _
        refine Ev.step (f := fun _ => some acc) (fun k => ?_) (ev_eq (Ev.now _) (by simp))
        rw [spec_l19Markers.l0, if_neg (by omega)]
      | succ c ihc =>
        intro j acc hj ha
        have hl := mks_len d (r - j) (by omega)
        have e := ihc (j + 1) (acc ++ (mks d (r - j)).map fun t => (j : Int) :: t) (by omega) (by simp; omega)
        rw [List.range'_succ, List.flatMap_cons, ← List.append_assoc]
        have e2 := rows j (mks d (r - j)) _ (by omega) (fun t ht => (mks_row d (r - j) t ht).1) (by omega) (mks d (r - j)).length 0 acc (by omega) (by omega) (by rw [List.drop_zero]; exact e)
        refine Ev.step (f := fun k => (spec_l19Markers.f k (d : Int) ((r - j : Nat) : Int)).bind fun t => spec_l19Markers.l1 k ((d + 1 : Nat) : Int) (r : Int) acc (j : Int) t (t.length : Int) 0) (fun k => ?_) (Ev.bind (ih (by omega) (r - j) (by omega)) e2)
        rw [spec_l19Markers.l0, if_pos (by omega), w64 (x := ((d + 1 : Nat) : Int) - 1) (by omega) (by omega), w64 (x := (r : Int) - j) (by omega) (by omega), show ((d + 1 : Nat) : Int) - 1 = (d : Int) by omega, show (r : Int) - (j : Int) = ((r - j : Nat) : Int) by omega]
    have e := go (r + 1) 0 [] (by omega) (by simp)
    simp only [mks]
    rw [List.range_eq_range']
    refine Ev.step (f := fun k => spec_l19Markers.l0 k ((d + 1 : Nat) : Int) (r : Int) [] 0) (fun k => ?_) (ev_eq e (by simp))
    rw [spec_l19Markers.f, if_neg (by omega)]

end Go.Proofs.Ytghnaclpjdhilaa.PA
