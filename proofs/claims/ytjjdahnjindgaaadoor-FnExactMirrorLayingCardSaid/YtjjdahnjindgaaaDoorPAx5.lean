-- Written for this claim by a program of this session's (ownprint.py), by way of the kit's print and hand-proved texts. Lean checks it.
import Derived.Test.YtjjdahnjindgaaaDoorPAx0
import Derived.Test.YtjjdahnjindgaaaDoorPAx4
namespace Go.Proofs.YtjjdahnjindgaaaDoor.PA
open Go.RowKit Go.Proofs.YtjjdahnjindgaaaDoorW.PrintWords Go.Proofs.YtjjdahnjindgaaaDoorW.PrintLast Go.Proofs.YtjjdahnjindgaaaDoorW.PrintMore
attribute [local go_sem] max2_int min2_int max_two min_two max_three min_three max_four min_four   -- for this text's walks alone
set_option linter.unusedVariables false
set_option linter.unusedSimpArgs false

/-! ### impl_RulerOk: function 22 -/
def impl_RulerOk.f (l0 : List Int) : Option (Bool) := if (l0.length : Int) ≥ 1 then (if (l0.length : Int) ≤ 10 then ((impl_areWithin.f l0 1 50).bind fun t124 => (some t124)) else (some false)) else (some false)
set_option maxHeartbeats 8000000 in
set_option maxRecDepth 100000 in
theorem impl_RulerOk.calls (A0 : Option Addr) (c0 : Nat) (l0 : List Int) (r : Bool) (w : World) (hr0 : Kd.C (Kd.int .i64) w A0 l0.length l0) (hc0 : l0.length ≤ c0) (h : impl_RulerOk.f l0 = some r) :
    Calls Tryd.prog 22 #[.slice A0 l0.length c0] w fun e w' => e = .returned (.bool r) ∧ Below w.heap.size w w' := by
  have HR0 := Aside0.mk hr0
  have HC0 := Aside0.mk hc0
  clear hr0 hc0
  have HB := Aside0.mk (Below.refl w.heap.size w)
  have H : (if (l0.length : Int) ≥ 1 then (if (l0.length : Int) ≤ 10 then ((impl_areWithin.f l0 1 50).bind fun t124 => (some t124)) else (some false)) else (some false)) = some r := h
  clear h
  by_cases c2 : (l0.length : Int) ≥ 1
  · rw [if_pos c2] at H
    have c2b0 : decide (1 ≤ (l0.length : Int)) = true := decide_eq_true c2
    have c2b1 : decide (1 ≤ l0.length) = true := decide_eq_true (by omega)
    clear c2
    by_cases c3 : (l0.length : Int) ≤ 10
    · rw [if_pos c3] at H
      have c3b0 : decide ((l0.length : Int) ≤ 10) = true := decide_eq_true c3
      have c3b1 : decide (l0.length ≤ 10) = true := decide_eq_true (by omega)
      clear c3
      replace H := Option.bind_eq_some_iff.mp H
      obtain ⟨t124, A40, H⟩ := H
      replace H : (some t124) = some r := H
      have A4 := Aside0.mk A40
      clear A40
      obtain rfl := Option.some.inj H
      go_enter Tryd.func22, Tryd.ntmps22
      go_wp2_with (first | (go_at_call 33; (with_reducible refine (impl_areWithin.calls _ _ l0 1 50 t124 _ ?side1 ?side2 A4.out).mono ?_); (case side1 => repeat (first | exact HR0.out | (with_reducible refine Kd.C_alloc ?_ _) | (with_reducible refine Kd.C_drewN ?_ _) | (with_reducible refine Kd.C_drew ?_))); (case side2 => exact HC0.out); rintro e w5 ⟨rfl, hb⟩; have n0_ := Aside0.mk (below_step (by repeat (first | (with_reducible first | exact HB.out | apply below_alloc | apply pw_below_drewN | apply below_drew1) | exact HB.out)) hb); clear HB; have HB := n0_; clear n0_; (try clear hb); (try clear hb2); (try clear hk); (try clear hi)))
      go_ret
      exact ⟨by first | rfl | (simp [errW_none, errW_some] <;> rfl) | (simp [*, errW_none, errW_some] <;> rfl), by repeat (first | (with_reducible first | exact HB.out | apply below_alloc | apply pw_below_drewN | apply below_drew1) | exact HB.out)⟩
    · rw [if_neg c3] at H
      have c3b0 : decide ((l0.length : Int) ≤ 10) = false := decide_eq_false c3
      have c3b1 : decide (l0.length ≤ 10) = false := decide_eq_false (by omega)
      clear c3
      obtain rfl := Option.some.inj H
      go_enter Tryd.func22, Tryd.ntmps22
      go_wp2
      go_ret
      exact ⟨by first | rfl | (simp [errW_none, errW_some] <;> rfl) | (simp [*, errW_none, errW_some] <;> rfl), by repeat (first | (with_reducible first | exact HB.out | apply below_alloc | apply pw_below_drewN | apply below_drew1) | exact HB.out)⟩
  · rw [if_neg c2] at H
    have c2b0 : decide (1 ≤ (l0.length : Int)) = false := decide_eq_false c2
    have c2b1 : decide (1 ≤ l0.length) = false := decide_eq_false (by omega)
    clear c2
    obtain rfl := Option.some.inj H
    go_enter Tryd.func22, Tryd.ntmps22
    go_wp2
    go_ret
    exact ⟨by first | rfl | (simp [errW_none, errW_some] <;> rfl) | (simp [*, errW_none, errW_some] <;> rfl), by repeat (first | (with_reducible first | exact HB.out | apply below_alloc | apply pw_below_drewN | apply below_drew1) | exact HB.out)⟩

/-! ### impl_isLaying: function 23 (by hand) -/
def layOk (s : ByteArray) : Bool := s.data.toList.all fun b => b == 114 || b == 108
theorem dw_nil {α : Type} (p : α → Bool) : ∀ l : List α, l.dropWhile p = [] ↔ ∀ x ∈ l, p x = true := by
  intro l
  induction l with
  | nil => simp
  | cons y l ih =>
    rw [List.dropWhile_cons]
    by_cases c : p y = true
    · rw [if_pos c, ih]
      simp [c]
    · rw [if_neg c]
      simp [c]
theorem dw_head {α : Type} (p : α → Bool) : ∀ (l t : List α) (y : α), l.dropWhile p = y :: t → p y = false := by
  intro l
  induction l with
  | nil => intro t y h; simp at h
  | cons x l ih =>
    intro t y h
    rw [List.dropWhile_cons] at h
    by_cases c : p x = true
    · rw [if_pos c] at h; exact ih t y h
    · rw [if_neg c] at h
      injection h with h1 h2
      subst h1
      simpa using c
theorem trim_nil (l cs : List UInt8) : Lib.trimS l cs = [] ↔ ∀ x ∈ l, cs.contains x = true := by
  unfold Lib.trimS Lib.trimLeftS Lib.trimRightS
  rw [dw_nil]
  cases h : l.reverse.dropWhile (cs.contains ·) with
  | nil =>
    rw [dw_nil] at h
    simp only [List.reverse_nil, List.not_mem_nil, false_implies, implies_true, true_iff]
    intro x hx
    exact h x (List.mem_reverse.2 hx)
  | cons y t =>
    have hy := dw_head _ _ _ _ h
    constructor
    · intro z
      have := z y (by simp)
      rw [show cs.contains y = false from hy] at this
      cases this
    · intro z
      have hm : y ∈ l := by
        have h1 : y ∈ l.reverse.dropWhile (cs.contains ·) := by rw [h]; simp
        exact List.mem_reverse.1 ((List.dropWhile_sublist _).mem h1)
      have := z y hm
      rw [show cs.contains y = false from hy] at this
      cases this
theorem trim_layOk (s : ByteArray) : Lib.trimS s.data.toList [114, 108] = [] ↔ layOk s = true := by
  rw [trim_nil]
  unfold layOk
  rw [List.all_eq_true]
  constructor
  · intro h x hx
    have := h x hx
    simpa using this
  · intro h x hx
    have := h x hx
    simpa using this
def impl_isLaying.f (s0 : ByteArray) : Option (Bool) := if s0.size < 1048577 then some (layOk s0) else none
set_option maxHeartbeats 1000000 in
theorem impl_isLaying.calls (s0 : ByteArray) (r : Bool) (w : World) (h : impl_isLaying.f s0 = some r) :
    Calls Tryd.prog 23 #[.string s0] w fun e w' => e = .returned (.bool r) ∧ Below w.heap.size w w' := by
  unfold impl_isLaying.f at h
  by_cases c : s0.size < 1048577
  case neg => rw [if_neg c] at h; cases h
  rw [if_pos c] at h
  have hcon := Go.Proofs.Any.strings_Trim_laid Tryd.trimL (by kernel_rfl) s0 ⟨#[114, 108]⟩ w (by omega) (by decide) (Go.Proofs.ascii_of_all (by decide))
  change Calls Tryd.prog 34 _ _ (fun e w' => e = .returned (.string ⟨(Lib.trimS s0.data.toList [114, 108]).toArray⟩) ∧ Below w.heap.size w w') at hcon
  have hr := Option.some.inj h
  have ht := trim_layOk s0
  rw [hr] at ht
  obtain ⟨q, hq⟩ : ∃ q : ByteArray, q = ⟨(Lib.trimS s0.data.toList [114, 108]).toArray⟩ := ⟨_, rfl⟩
  rw [← hq] at hcon
  have hb : q.toList.isEmpty = r := by
    rw [Lib.toList_data, hq, Bool.eq_iff_iff, ← ht]
    simp
  clear hr ht hq h c
  go_enter Tryd.func23, Tryd.ntmps23
  go_wp2_with (go_at_call 34; refine hcon.mono ?_; rintro e w' ⟨rfl, hB⟩)
  go_ret
  exact ⟨by rw [← hb]; rfl, hB⟩

end Go.Proofs.YtjjdahnjindgaaaDoor.PA
