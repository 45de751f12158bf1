-- Written for this claim by a program of this session's (ownprint.py), by way of the kit's print and hand-proved texts. Lean checks it.
import Derived.Test.YtjjdahnjindgaaaGreatDoorPAx0
namespace Go.Proofs.YtjjdahnjindgaaaGreatDoor.PA
open Go.RowKit Go.Proofs.YtjjdahnjindgaaaGreatDoorW.PrintWords Go.Proofs.YtjjdahnjindgaaaGreatDoorW.PrintLast Go.Proofs.YtjjdahnjindgaaaGreatDoorW.PrintMore
attribute [local go_sem] max2_int min2_int max_two min_two max_three min_three max_four min_four   -- for this text's walks alone
set_option linter.unusedVariables false
set_option linter.unusedSimpArgs false

/-! ### impl_isLaying: function 22 (by hand) -/
def layOk (s : ByteArray) : Bool := s.data.toList.all fun b => b == 114 || b == 108
theorem dw_nil {α : Type} (p : α → Bool) : ∀ l : List α, l.dropWhile p = [] ↔ ∀ x ∈ l, p x = true := by
  intro l
  induction l with
  | nil => simp
  | cons y l ih =>
    rw [List.dropWhile_cons]
    by_cases c : p y = true
    · rw [if_pos c, ih]
      simp [c]
    · rw [if_neg c]
      simp [c]
theorem dw_head {α : Type} (p : α → Bool) : ∀ (l t : List α) (y : α), l.dropWhile p = y :: t → p y = false := by
  intro l
  induction l with
  | nil => intro t y h; simp at h
  | cons x l ih =>
    intro t y h
    rw [List.dropWhile_cons] at h
    by_cases c : p x = true
    · rw [if_pos c] at h; exact ih t y h
    · rw [if_neg c] at h
      injection h with h1 h2
      subst h1
      simpa using c
theorem trim_nil (l cs : List UInt8) : Lib.trimS l cs = [] ↔ ∀ x ∈ l, cs.contains x = true := by
  unfold Lib.trimS Lib.trimLeftS Lib.trimRightS
  rw [dw_nil]
  cases h : l.reverse.dropWhile (cs.contains ·) with
  | nil =>
    rw [dw_nil] at h
    simp only [List.reverse_nil, List.not_mem_nil, false_implies, implies_true, true_iff]
    intro x hx
    exact h x (List.mem_reverse.2 hx)
  | cons y t =>
    have hy := dw_head _ _ _ _ h
    constructor
    · intro z
      have := z y (by simp)
      rw [show cs.contains y = false from hy] at this
      cases this
    · intro z
      have hm : y ∈ l := by
        have h1 : y ∈ l.reverse.dropWhile (cs.contains ·) := by rw [h]; simp
        exact List.mem_reverse.1 ((List.dropWhile_sublist _).mem h1)
      have := z y hm
      rw [show cs.contains y = false from hy] at this
      cases this
theorem trim_layOk (s : ByteArray) : Lib.trimS s.data.toList [114, 108] = [] ↔ layOk s = true := by
  rw [trim_nil]
  unfold layOk
  rw [List.all_eq_true]
  constructor
  · intro h x hx
    have := h x hx
    simpa using this
  · intro h x hx
    have := h x hx
    simpa using this
def impl_isLaying.f (s0 : ByteArray) : Option (Bool) := if s0.size < 1048577 then some (layOk s0) else none
set_option maxHeartbeats 1000000 in
theorem impl_isLaying.calls (s0 : ByteArray) (r : Bool) (w : World) (h : impl_isLaying.f s0 = some r) :
    Calls Tryz.prog 22 #[.string s0] w fun e w' => e = .returned (.bool r) ∧ Below w.heap.size w w' := by
  unfold impl_isLaying.f at h
  by_cases c : s0.size < 1048577
  case neg => rw [if_neg c] at h; cases h
  rw [if_pos c] at h
  have hcon := Go.Proofs.Any.strings_Trim_laid Tryz.trimL (by kernel_rfl) s0 ⟨#[114, 108]⟩ w (by omega) (by decide) (Go.Proofs.ascii_of_all (by decide))
  change Calls Tryz.prog 38 _ _ (fun e w' => e = .returned (.string ⟨(Lib.trimS s0.data.toList [114, 108]).toArray⟩) ∧ Below w.heap.size w w') at hcon
  have hr := Option.some.inj h
  have ht := trim_layOk s0
  rw [hr] at ht
  obtain ⟨q, hq⟩ : ∃ q : ByteArray, q = ⟨(Lib.trimS s0.data.toList [114, 108]).toArray⟩ := ⟨_, rfl⟩
  rw [← hq] at hcon
  have hb : q.toList.isEmpty = r := by
    rw [Lib.toList_data, hq, Bool.eq_iff_iff, ← ht]
    simp
  clear hr ht hq h c
  go_enter Tryz.func22, Tryz.ntmps22
  go_wp2_with (go_at_call 38; refine hcon.mono ?_; rintro e w' ⟨rfl, hB⟩)
  go_ret
  exact ⟨by rw [← hb]; rfl, hB⟩

end Go.Proofs.YtjjdahnjindgaaaGreatDoor.PA
