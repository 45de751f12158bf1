/- The program's MarkFlaw returns what the reference's returns, for all arguments; no condition. -/
import Derived.Test.YtoildabjnioafaaPAx5
import Derived.Test.YtoildabjnioafaaLibAs
namespace Go.Proofs.Ytoildabjnioafaa.Pure
open Go.RowKit Go.Proofs.Ytoildabjnioafaa.PA Go.Proofs.YtoildabjnioafaaW.PrintWords Go.Proofs.YtoildabjnioafaaW.PrintLast Go.Proofs.YtoildabjnioafaaW.PrintMore

theorem mark_spec (w h m x y : Int) (c : shapeOk w h m = true) (cx : 0 ≤ x ∧ x ≤ w - 1) (cy : 0 ≤ y ∧ y ≤ h - 1) (n e : Nat) (hm : m = n) (he : y * w + x = e) (hb : 0 ≤ y * w ∧ y * w ≤ 30) (he36 : e < 36) (hn : n < 2 ^ 36) :
    spec_MarkFlaw.f w h m x y = some (if n.testBit e then (0, false) else (((n + 2 ^ e : Nat) : Int), true)) ∧ impl_MarkFlaw.f w h m x y = some (if n.testBit e then (0, false) else (((n + 2 ^ e : Nat) : Int), true)) := by
  obtain ⟨h1, h2, h3, h4, h5, h6, h7, h8⟩ := shapeOk_facts c
  subst hm
  have hp : (2 : Nat) ^ e < 2 ^ 62 := Nat.pow_lt_pow_right (by omega) (by omega)
  have hp0 : (0 : Int) ≤ ((2 ^ e : Nat) : Int) := Int.natCast_nonneg _
  have hpi : ((2 ^ e : Nat) : Int) < 4611686018427387904 := by
    have : ((2 ^ e : Nat) : Int) < ((2 ^ 62 : Nat) : Int) := Int.ofNat_lt.2 hp
    rwa [show ((2 ^ 62 : Nat) : Int) = 4611686018427387904 from rfl] at this
  constructor
  · unfold spec_MarkFlaw.f
    rw [spec_ShapeOk_eq]
    simp only [Option.bind_some, l01In_eq]
    rw [if_pos c, w64 (x := w - 1) (by omega) (by omega), w64 (x := h - 1) (by omega) (by omega), if_pos (by simpa using cx), if_pos (by simpa using cy)]
    rw [w64 (x := y * w) (by omega) (by omega), w64 (x := y * w + x) (by omega) (by omega), he, if_pos (by omega)]
    rw [bit_nat n e (by omega) (by omega), shl_one e (by omega), w64 (by omega) (by omega)]
    cases ht : n.testBit e <;> simp
  · unfold impl_MarkFlaw.f
    rw [impl_ShapeOk_eq]
    simp only [Option.bind_some, within_eq]
    rw [if_pos c, w64 (x := w - 1) (by omega) (by omega), w64 (x := h - 1) (by omega) (by omega), if_pos (by simpa using cx), if_pos (by simpa using cy)]
    rw [w64 (x := y * w) (by omega) (by omega), w64 (x := y * w + x) (by omega) (by omega), he]
    unfold impl_has.f
    rw [if_pos (by omega)]
    simp only [Option.bind_some]
    rw [bit_nat n e (by omega) (by omega), shl_one e (by omega), or_nat n (2 ^ e) (by omega) (by omega)]
    cases ht : n.testBit e with
    | true => simp
    | false =>
      rw [or_add n e ht]
      simp
theorem FnExactMarkFlaw : laws_FnExactMarkFlaw.Pure := by
  intro w h m x y _ _ _ _ _
  unfold laws_FnExactMarkFlaw.f
  have key : ∃ r, spec_MarkFlaw.f w h m x y = some r ∧ impl_MarkFlaw.f w h m x y = some r := by
    by_cases c : shapeOk w h m = true
    · obtain ⟨h1, h2, h3, h4, h5, h6, h7, h8⟩ := shapeOk_facts c
      by_cases cx : 0 ≤ x ∧ x ≤ w - 1
      · by_cases cy : 0 ≤ y ∧ y ≤ h - 1
        · have p1 : 0 ≤ y * w := Int.mul_nonneg (by omega) (by omega)
          have p2 : y * w ≤ 5 * 6 := Int.mul_le_mul (by omega) (by omega) (by omega) (by omega)
          obtain ⟨e, he⟩ := Int.eq_ofNat_of_zero_le (a := y * w + x) (by omega)
          obtain ⟨n, hn⟩ := Int.eq_ofNat_of_zero_le h5
          exact ⟨_, mark_spec w h m x y c cx cy n e hn he ⟨p1, p2⟩ (by omega) (h8 n hn)⟩
        · refine ⟨(0, false), ?_, ?_⟩
          · unfold spec_MarkFlaw.f
            rw [spec_ShapeOk_eq]
            simp only [Option.bind_some, l01In_eq]
            rw [if_pos c, w64 (x := w - 1) (by omega) (by omega), w64 (x := h - 1) (by omega) (by omega), if_pos (by simpa using cx), if_neg (by simpa using cy)]
          · unfold impl_MarkFlaw.f
            rw [impl_ShapeOk_eq]
            simp only [Option.bind_some, within_eq]
            rw [if_pos c, w64 (x := w - 1) (by omega) (by omega), w64 (x := h - 1) (by omega) (by omega), if_pos (by simpa using cx), if_neg (by simpa using cy)]
      · refine ⟨(0, false), ?_, ?_⟩
        · unfold spec_MarkFlaw.f
          rw [spec_ShapeOk_eq]
          simp only [Option.bind_some, l01In_eq]
          rw [if_pos c, w64 (x := w - 1) (by omega) (by omega), if_neg (by simpa using cx)]
        · unfold impl_MarkFlaw.f
          rw [impl_ShapeOk_eq]
          simp only [Option.bind_some, within_eq]
          rw [if_pos c, w64 (x := w - 1) (by omega) (by omega), if_neg (by simpa using cx)]
    · refine ⟨(0, false), ?_, ?_⟩
      · unfold spec_MarkFlaw.f
        rw [spec_ShapeOk_eq]
        simp only [Option.bind_some]
        rw [if_neg c]
      · unfold impl_MarkFlaw.f
        rw [impl_ShapeOk_eq]
        simp only [Option.bind_some]
        rw [if_neg c]
  obtain ⟨r, h1, h2⟩ := key
  rw [h1, h2]
  simp

end Go.Proofs.Ytoildabjnioafaa.Pure
