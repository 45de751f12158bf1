/- Texts of this claim put together in build order (FnPlies). -/
import Derived.Test.YtghnaclpjdhilaaProg
import Derived.Below
import Derived.Deep.Draws
import Derived.Deep.AppendLies
import Derived.Maps.AppendAt
import Derived.OwnWalk
import Derived.Laws.BytesArg
import Derived.Laws.MakeOwn
import Derived.Laws.OwnMore
import Derived.Deep.OwnRows
import Derived.Tactics
import Derived.Lib.ConvBytes
import Derived.Laws.Slices
import Derived.WalkKit
import Derived.KernelRfl
import Derived.RowKit3
import Derived.Deep.LoopGhost
import Derived.Deep.QuietTactic
import Derived.BigQuiet
import Derived.WideLaws
import Derived.Deep.DeepCutAuto
import Derived.Deep.CutBlock
import Derived.Deep.RegionHeld3
import Derived.Laws.Rows
import Derived.Lib.AppendStr
import Derived.ArgAppend
import Derived.Laws.IdiomCopy
import Derived.OrdersHeld
import Derived.Laws.BitsLemmas
import Derived.RowKit
import Derived.Shelf.Abstract
import Derived.Lib.LazyBuf
import Derived.Test.YtghnaclpjdhilaaWWords
import Derived.Test.YtghnaclpjdhilaaWLast
import Derived.Test.YtghnaclpjdhilaaWTab
import Derived.Test.YtghnaclpjdhilaaWFour
import Derived.Test.YtghnaclpjdhilaaWQPut
import Derived.Test.YtghnaclpjdhilaaWApart
import Derived.Test.YtghnaclpjdhilaaWArr
import Derived.Test.YtghnaclpjdhilaaWZeros
import Derived.Test.YtghnaclpjdhilaaWFoot
import Derived.Test.YtghnaclpjdhilaaWKept
import Derived.Test.YtghnaclpjdhilaaWShare
import Derived.Test.YtghnaclpjdhilaaWN
import Derived.Test.YtghnaclpjdhilaaWFootNe
import Derived.Test.YtghnaclpjdhilaaWAt
import Derived.Test.YtghnaclpjdhilaaWEqStruct
import Derived.Test.YtghnaclpjdhilaaWRepsOne
import Derived.Test.YtghnaclpjdhilaaWInv
import Derived.Test.YtghnaclpjdhilaaWInvWords
import Derived.Test.YtghnaclpjdhilaaWGuard
import Derived.Test.YtghnaclpjdhilaaWNEv
import Derived.Test.YtghnaclpjdhilaaWMore
-- Written for this claim by a program of this session's (ownprint.py), by way of the kit's print and hand-proved texts. Lean checks it.
namespace Go.Proofs.Ytghnaclpjdhilaa.PA
open Go.RowKit Go.Proofs.YtghnaclpjdhilaaW.PrintWords Go.Proofs.YtghnaclpjdhilaaW.PrintLast Go.Proofs.YtghnaclpjdhilaaW.PrintMore
attribute [local go_sem] max2_int min2_int max_two min_two max_three min_three max_four min_four   -- for this text's walks alone
set_option linter.unusedVariables false
set_option linter.unusedSimpArgs false
def errW : Option Int → Value
  | none => .nilIface
  | some c => .iface 0 (.int .i64 c)
theorem errW_none : errW none = .nilIface := rfl
theorem errW_some (c : Int) : errW (some c) = .iface 0 (.int .i64 c) := rfl
theorem info3 : (Try.prog.info? 3).map (fun i => (i.zero, i.size, i.bytes)) = some (some (.int .i64 0), 1, 8) := by kernel_rfl
-- the values' own types
end Go.Proofs.Ytghnaclpjdhilaa.PA
-- Written for this claim by a program of this session's (ownprint.py), by way of the kit's print and hand-proved texts. Lean checks it.
namespace Go.Proofs.Ytghnaclpjdhilaa.PA
open Go.RowKit Go.Proofs.YtghnaclpjdhilaaW.PrintWords Go.Proofs.YtghnaclpjdhilaaW.PrintLast Go.Proofs.YtghnaclpjdhilaaW.PrintMore
attribute [local go_sem] max2_int min2_int max_two min_two max_three min_three max_four min_four   -- for this text's walks alone
set_option linter.unusedVariables false
set_option linter.unusedSimpArgs false
set_option maxHeartbeats 1000000 in
/-- slices.IndexFunc at []int: whether an index is found, for a function value that only computes. -/
theorem slices_IndexFunc_int.calls (p : Int → Bool) (g : Nat) (lb : Array Value) (eg : ∀ args w, (callFunc g args).run Try.prog w = .ok (.enter g args) w) (A : Option Addr) (c : Nat) (l : List Int) (w : World)
    (hp : ∀ (q : Nat) (x : Int), Calls Try.prog g (#[.int .i64 x] ++ lb) (w.drewN q) fun e w' => e = .returned (.bool (p x)) ∧ ∃ q', w' = (w.drewN q).drewN q')
    (hr : Kd.C (Kd.int .i64) w A l.length l) :
    Calls Try.prog 44 #[.slice A l.length c, .func (.func g) #[] lb] w fun e w' => ∃ i : Int, e = .returned (.int .i64 i) ∧ decide (0 ≤ i) = l.any p ∧ ∃ q, w' = w.drewN q := by
  have hlen : l.length ≤ 9223372036854775807 := hr.2.1
  have HR : Aside0 (Kd.C (Kd.int .i64) w A l.length l) := ⟨hr⟩
  clear hr
  go_enter Try.func44, Try.ntmps44
  go_wp2
  go_loopg [5, 8] l.length (fun gg _ s8 wr => ∃ kk q : Nat, kk ≤ l.length ∧ l.length - kk ≤ gg ∧ s8 = .int .i64 kk ∧ wr = w.drewN q ∧ Aside0 (∀ j, j < kk → p (l.getD j 0) = false))
  case atStart => exact ⟨0, 0, Nat.zero_le _, by omega, rfl, rfl, ⟨fun j hj => absurd hj (Nat.not_lt_zero _)⟩⟩
  case round =>
    obtain ⟨kk, q, hkk, hg, rfl, rfl, AA⟩ := hrel
    by_cases hlt : kk < l.length
    · have hltz : (kk : Int) < (l.length : Int) := by omega
      obtain ⟨ad, rfl, hcell⟩ := ReadsOf.at_ (Kd.reads_of_C (d := (0 : Int)) (h1 := fun _ => rfl) HR.out) kk (by omega) hltz
      rw [Int.toNat_natCast] at hcell
      generalize hy : rdOf 0 l kk = y at hcell
      have B : Aside0 (l.getD kk 0 = y) := ⟨by rw [← hy]; simp [rdOf]⟩
      clear hy
      have hcall := hp q y
      cases hq : p y with
      | true =>
        have Q : Aside0 (p y = true) := ⟨hq⟩
        rw [hq] at hcall
        clear hq
        go_wp2_with (go_at_fn g; refine hcall.mono ?_; rintro e w' ⟨rfl, q', rfl⟩)
        go_ret
        refine ⟨_, rfl, ?_, _, rfl⟩
        have h1 : l.any p = true := List.any_eq_true.2 ⟨l.getD kk 0, by rw [List.getD_eq_getElem?_getD, List.getElem?_eq_getElem hlt]; exact List.getElem_mem _, by rw [B.out]; exact Q.out⟩
        rw [h1]
        simp
      | false =>
        have Q : Aside0 (p y = false) := ⟨hq⟩
        rw [hq] at hcall
        clear hq
        go_wp2_with (go_at_fn g; refine hcall.mono ?_; rintro e w' ⟨rfl, q', rfl⟩)
        go_roundg (l.length - (kk + 1))
        case measure => omega
        case rel =>
          refine ⟨kk + 1, _, by omega, by omega, by go_num, rfl, ⟨fun j hj => ?_⟩⟩
          by_cases e : j = kk
          · subst e
            rw [B.out]; exact Q.out
          · exact AA.out j (by omega)
    · have hltz : ¬ (kk : Int) < (l.length : Int) := by omega
      have he : l.any p = false := by
        rw [List.any_eq_false]
        intro x hx
        obtain ⟨j, hj, rfl⟩ := List.getElem_of_mem hx
        have := AA.out j (by omega)
        rw [List.getD_eq_getElem?_getD, List.getElem?_eq_getElem hj] at this
        simpa using this
      have HE : Aside0 (l.any p = false) := ⟨he⟩
      clear he
      go_wp2
      go_ret
      refine ⟨_, rfl, ?_, q, rfl⟩
      rw [HE.out]
      rfl
set_option maxHeartbeats 1000000 in
theorem slices_ContainsFunc_int.calls (p : Int → Bool) (g : Nat) (lb : Array Value) (eg : ∀ args w, (callFunc g args).run Try.prog w = .ok (.enter g args) w) (A : Option Addr) (c : Nat) (l : List Int) (w : World)
    (hp : ∀ (q : Nat) (x : Int), Calls Try.prog g (#[.int .i64 x] ++ lb) (w.drewN q) fun e w' => e = .returned (.bool (p x)) ∧ ∃ q', w' = (w.drewN q).drewN q')
    (hr : Kd.C (Kd.int .i64) w A l.length l) :
    Calls Try.prog 42 #[.slice A l.length c, .func (.func g) #[] lb] w fun e w' => e = .returned (.bool (l.any p)) ∧ ∃ q, w' = w.drewN q := by
  have hc := slices_IndexFunc_int.calls p g lb eg A c l w hp hr
  generalize l.any p = r at hc ⊢
  clear hp hr eg
  go_enter Try.func42, Try.ntmps42
  go_wp2_with (go_at_call 44; refine hc.mono ?_; rintro e w' ⟨i, rfl, hi, q, rfl⟩)
  go_ret
  exact ⟨rfl, _, rfl⟩
def impl_areWithin.f (l0 : List Int) (a1 : Int) (a2 : Int) : Option (Bool) := some (l0.all fun n => decide (a1 ≤ n) && decide (n ≤ a2))
set_option maxHeartbeats 1000000 in
theorem impl_areWithin_1.calls (x lo hi : Int) (b1 b2 : Nat) (W : World) (h1 : W.cell? ⟨b1, 0, none⟩ = some (.int .i64 lo)) (h2 : W.cell? ⟨b2, 0, none⟩ = some (.int .i64 hi)) :
    Calls Try.prog 43 #[.int .i64 x, .pointer (some ⟨b1, 0, none⟩), .pointer (some ⟨b2, 0, none⟩)] W fun e w' => e = .returned (.bool !(decide (lo ≤ x) && decide (x ≤ hi))) ∧ ∃ q', w' = W.drewN q' := by
  by_cases c1 : lo ≤ x
  · by_cases c2 : x ≤ hi
    · go_enter Try.func43, Try.ntmps43
      go_wp2
      go_ret
      exact ⟨by simp [c1, c2], 0, rfl⟩
    · go_enter Try.func43, Try.ntmps43
      go_wp2
      go_ret
      exact ⟨by simp [c1, c2], 0, rfl⟩
  · go_enter Try.func43, Try.ntmps43
    go_wp2
    go_ret
    exact ⟨by simp [c1], 0, rfl⟩
set_option maxHeartbeats 1000000 in
theorem impl_areWithin.calls (A0 : Option Addr) (c0 : Nat) (l0 : List Int) (a1 : Int) (a2 : Int) (r : Bool) (w : World) (hr0 : Kd.C (Kd.int .i64) w A0 l0.length l0) (hc0 : l0.length ≤ c0) (h : impl_areWithin.f l0 a1 a2 = some r) :
    Calls Try.prog 39 #[.slice A0 l0.length c0, .int .i64 a1, .int .i64 a2] w fun e w' => e = .returned (.bool r) ∧ Below w.heap.size w w' := by
  have eg : ∀ args w, (callFunc 43 args).run Try.prog w = .ok (.enter 43 args) w := enters_of Try.func43 (by kernel_rfl) rfl
  have hb0 : Below w.heap.size w ((w.alloc (.cells #[.int .i64 a1] 3)).alloc (.cells #[.int .i64 a2] 3)) := (((Below.refl _ _).alloc (Nat.le_refl _) _).alloc (by simp) _)
  have hc := slices_ContainsFunc_int.calls (fun x => !(decide (a1 ≤ x) && decide (x ≤ a2))) 43 #[.pointer (some ⟨w.heap.size, 0, none⟩), .pointer (some ⟨w.heap.size + 1, 0, none⟩)] eg A0 c0 l0 ((w.alloc (.cells #[.int .i64 a1] 3)).alloc (.cells #[.int .i64 a2] 3))
    (fun q x => impl_areWithin_1.calls x a1 a2 w.heap.size (w.heap.size + 1) _ (by simp) (by simp)) (Kd.C_below hr0 hb0)
  have hh : l0.any (fun x => !(decide (a1 ≤ x) && decide (x ≤ a2))) = !r := by
    have : (l0.all fun n => decide (a1 ≤ n) && decide (n ≤ a2)) = r := by simpa [impl_areWithin.f] using h
    rw [← this]
    simp [List.all_eq_not_any_not]
  rw [hh] at hc
  clear hh h hr0
  go_enter Try.func39, Try.ntmps39
  go_wp2_with (go_at_call 42; refine hc.mono ?_; rintro e w' ⟨rfl, q, rfl⟩)
  go_ret
  exact ⟨by simp, pw_below_drewN hb0 q⟩
end Go.Proofs.Ytghnaclpjdhilaa.PA
-- Written for this claim by a program of this session's (ownprint.py), by way of the kit's print and hand-proved texts. Lean checks it.
namespace Go.Proofs.Ytghnaclpjdhilaa.PA
open Go.RowKit Go.Proofs.YtghnaclpjdhilaaW.PrintWords Go.Proofs.YtghnaclpjdhilaaW.PrintLast Go.Proofs.YtghnaclpjdhilaaW.PrintMore
attribute [local go_sem] max2_int min2_int max_two min_two max_three min_three max_four min_four   -- for this text's walks alone
set_option linter.unusedVariables false
set_option linter.unusedSimpArgs false
def impl_WantedOk.f (l0 : List Int) : Option (Bool) := if (l0.length : Int) ≥ 1 then (if (l0.length : Int) ≤ 5 then ((impl_areWithin.f l0 0 100).bind fun t121 => (some t121)) else (some false)) else (some false)
set_option maxHeartbeats 8000000 in
set_option maxRecDepth 100000 in
theorem impl_WantedOk.calls (A0 : Option Addr) (c0 : Nat) (l0 : List Int) (r : Bool) (w : World) (hr0 : Kd.C (Kd.int .i64) w A0 l0.length l0) (hc0 : l0.length ≤ c0) (h : impl_WantedOk.f l0 = some r) :
    Calls Try.prog 22 #[.slice A0 l0.length c0] w fun e w' => e = .returned (.bool r) ∧ Below w.heap.size w w' := by
  have HR0 := Aside0.mk hr0
  have HC0 := Aside0.mk hc0
  clear hr0 hc0
  have HB := Aside0.mk (Below.refl w.heap.size w)
  have H : (if (l0.length : Int) ≥ 1 then (if (l0.length : Int) ≤ 5 then ((impl_areWithin.f l0 0 100).bind fun t121 => (some t121)) else (some false)) else (some false)) = some r := h
  clear h
  by_cases c2 : (l0.length : Int) ≥ 1
  · rw [if_pos c2] at H
    have c2b0 : decide (1 ≤ (l0.length : Int)) = true := decide_eq_true c2
    have c2b1 : decide (1 ≤ l0.length) = true := decide_eq_true (by omega)
    clear c2
    by_cases c3 : (l0.length : Int) ≤ 5
    · rw [if_pos c3] at H
      have c3b0 : decide ((l0.length : Int) ≤ 5) = true := decide_eq_true c3
      have c3b1 : decide (l0.length ≤ 5) = true := decide_eq_true (by omega)
      clear c3
      replace H := Option.bind_eq_some_iff.mp H
      obtain ⟨t121, A40, H⟩ := H
      replace H : (some t121) = some r := H
      have A4 := Aside0.mk A40
      clear A40
      obtain rfl := Option.some.inj H
      go_enter Try.func22, Try.ntmps22
      go_wp2_with (first | (go_at_call 39; (with_reducible refine (impl_areWithin.calls _ _ l0 0 100 t121 _ ?side1 ?side2 A4.out).mono ?_); (case side1 => repeat (first | exact HR0.out | (with_reducible refine Kd.C_alloc ?_ _) | (with_reducible refine Kd.C_drewN ?_ _) | (with_reducible refine Kd.C_drew ?_))); (case side2 => exact HC0.out); rintro e w5 ⟨rfl, hb⟩; have n0_ := Aside0.mk (below_step (by repeat (first | (with_reducible first | exact HB.out | apply below_alloc | apply pw_below_drewN | apply below_drew1) | exact HB.out)) hb); clear HB; have HB := n0_; clear n0_; (try clear hb); (try clear hb2); (try clear hk); (try clear hi)))
      go_ret
      exact ⟨by first | rfl | (simp [errW_none, errW_some] <;> rfl) | (simp [*, errW_none, errW_some] <;> rfl), by repeat (first | (with_reducible first | exact HB.out | apply below_alloc | apply pw_below_drewN | apply below_drew1) | exact HB.out)⟩
    · rw [if_neg c3] at H
      have c3b0 : decide ((l0.length : Int) ≤ 5) = false := decide_eq_false c3
      have c3b1 : decide (l0.length ≤ 5) = false := decide_eq_false (by omega)
      clear c3
      obtain rfl := Option.some.inj H
      go_enter Try.func22, Try.ntmps22
      go_wp2
      go_ret
      exact ⟨by first | rfl | (simp [errW_none, errW_some] <;> rfl) | (simp [*, errW_none, errW_some] <;> rfl), by repeat (first | (with_reducible first | exact HB.out | apply below_alloc | apply pw_below_drewN | apply below_drew1) | exact HB.out)⟩
  · rw [if_neg c2] at H
    have c2b0 : decide (1 ≤ (l0.length : Int)) = false := decide_eq_false c2
    have c2b1 : decide (1 ≤ l0.length) = false := decide_eq_false (by omega)
    clear c2
    obtain rfl := Option.some.inj H
    go_enter Try.func22, Try.ntmps22
    go_wp2
    go_ret
    exact ⟨by first | rfl | (simp [errW_none, errW_some] <;> rfl) | (simp [*, errW_none, errW_some] <;> rfl), by repeat (first | (with_reducible first | exact HB.out | apply below_alloc | apply pw_below_drewN | apply below_drew1) | exact HB.out)⟩
def impl_within.f (a0 : Int) (a1 : Int) (a2 : Int) : Option (Bool) := if a0 ≥ a1 then (some (decide (a0 ≤ a2))) else (some false)
set_option maxHeartbeats 8000000 in
set_option maxRecDepth 100000 in
theorem impl_within.calls (a0 : Int) (a1 : Int) (a2 : Int) (r : Bool) (w : World) (h : impl_within.f a0 a1 a2 = some r) :
    Calls Try.prog 29 #[.int .i64 a0, .int .i64 a1, .int .i64 a2] w fun e w' => e = .returned (.bool r) ∧ Drawn0 w w' := by
  have H : (if a0 ≥ a1 then (some (decide (a0 ≤ a2))) else (some false)) = some r := h
  clear h
  by_cases c4 : a0 ≥ a1
  · rw [if_pos c4] at H
    have c4b0 : decide (a1 ≤ a0) = true := decide_eq_true c4
    clear c4
    obtain rfl := Option.some.inj H
    go_enter Try.func29, Try.ntmps29
    go_wp2
    go_ret
    exact ⟨by first | rfl | (simp; done) | (simp [*]; done), by repeat (first | exact Drawn0.refl _ | apply Drawn0.step)⟩
  · rw [if_neg c4] at H
    have c4b0 : decide (a1 ≤ a0) = false := decide_eq_false c4
    clear c4
    obtain rfl := Option.some.inj H
    go_enter Try.func29, Try.ntmps29
    go_wp2
    go_ret
    exact ⟨by first | rfl | (simp; done) | (simp [*]; done), by repeat (first | exact Drawn0.refl _ | apply Drawn0.step)⟩
def impl_sumOf.l0 : Nat → Int → List Int → Int → Int → Option (Int)
  | 0, _, _, _, _ => none
  | k + 1, x3, x6, x7, x8 => if x8 < x7 then (if 0 ≤ x8 then (if x8 < (x6.length : Int) then (impl_sumOf.l0 k (wrap64 (x3 + (rd x6 x8))) x6 x7 (wrap64 (x8 + 1))) else (none)) else (none)) else (some x3)
def impl_sumOf.f (k : Nat) (l0 : List Int) : Option (Int) := impl_sumOf.l0 k 0 l0 (l0.length : Int) 0
set_option maxHeartbeats 8000000 in
set_option maxRecDepth 100000 in
theorem impl_sumOf.calls (k : Nat) (A0 : Option Addr) (c0 : Nat) (l0 : List Int) (r : Int) (w : World) (hr0 : Kd.C (Kd.int .i64) w A0 l0.length l0) (hc0 : l0.length ≤ c0) (h : impl_sumOf.f k l0 = some r) :
    Calls Try.prog 33 #[.slice A0 l0.length c0] w fun e w' => e = .returned (.int .i64 r) ∧ Drawn0 w w' := by
  have HR0 := Aside0.mk hr0
  have HC0 := Aside0.mk hc0
  clear hr0 hc0
  have H : (impl_sumOf.l0 k 0 l0 (l0.length : Int) 0) = some r := h
  clear h
  have H' := Aside0.mk H
  clear H
  go_enter Try.func33, Try.ntmps33
  go_wp2
  go_loopg [3, 8] k (fun kq v3 v8 w' => ∃ (x3_1 : Int) (x8_1 : Int), v3 = .int .i64 x3_1 ∧ v8 = .int .i64 x8_1 ∧ Aside0 (impl_sumOf.l0 kq x3_1 l0 (l0.length : Int) x8_1 = some r) ∧ Aside0 (kq ≤ k) ∧ Drawn0 w w')
  case atStart => exact ⟨(0), (0), (by first | rfl | (simp; done) | (simp [*]; done)), (by first | rfl | (simp; done) | (simp [*]; done)), H', ⟨Nat.le_refl _⟩, by repeat (first | exact Drawn0.refl _ | apply Drawn0.step)⟩
  case round =>
    clear H'
    obtain ⟨x3_1, x8_1, rfl, rfl, HA, HK1, ⟨m1, rfl⟩⟩ := hrel
    cases gk with
    | zero => exact absurd HA.out (by simp [impl_sumOf.l0])
    | succ k1 =>
      have H := HA.out
      clear HA
      simp only [impl_sumOf.l0] at H
      by_cases c2 : x8_1 < (l0.length : Int)
      · rw [if_pos c2] at H
        have c2b0 : decide (x8_1 < (l0.length : Int)) = true := decide_eq_true c2
        clear c2
        by_cases c3 : 0 ≤ x8_1
        · rw [if_pos c3] at H
          have c3b0 : decide (0 ≤ x8_1) = true := decide_eq_true c3
          clear c3
          by_cases c4 : x8_1 < (l0.length : Int)
          · rw [if_pos c4] at H
            have c4b0 : decide (x8_1 < (l0.length : Int)) = true := decide_eq_true c4
            clear c4
            have H' := Aside0.mk H
            clear H
            have p122 : 0 ≤ (x8_1 : Int) := of_decide_eq_true (by first | (with_reducible assumption) | assumption)
            have q122 : x8_1 < (l0.length : Int) := of_decide_eq_true (by first | (with_reducible assumption) | assumption)
            obtain ⟨ad122, e122, hx122_0⟩ := Kd.at_int HR0.out x8_1 p122 q122
            cases e122
            replace p122 := eq_true p122
            replace q122 := eq_true q122
            go_wp2
            go_roundg k1
            case measure => have := HK1.out; omega
            case rel => exact ⟨(wrap64 (x3_1 + (rd l0 x8_1))), (wrap64 (x8_1 + 1)), (by first | rfl | (simp; done) | (simp [*]; done)), (by first | rfl | (simp; done) | (simp [*]; done)), H', ⟨by have := HK1.out; omega⟩, by repeat (first | exact Drawn0.refl _ | apply Drawn0.step)⟩
          · rw [if_neg c4] at H
            exact absurd H (by simp)
        · rw [if_neg c3] at H
          exact absurd H (by simp)
      · rw [if_neg c2] at H
        have c2b0 : decide (x8_1 < (l0.length : Int)) = false := decide_eq_false c2
        clear c2
        obtain rfl := Option.some.inj H
        go_wp2
        go_ret
        exact ⟨by first | rfl | (simp; done) | (simp [*]; done), by repeat (first | exact Drawn0.refl _ | apply Drawn0.step)⟩
end Go.Proofs.Ytghnaclpjdhilaa.PA
-- Written for this claim by a program of this session's (ownprint.py), by way of the kit's print and hand-proved texts. Lean checks it.
namespace Go.Proofs.Ytghnaclpjdhilaa.PA
open Go.RowKit Go.Proofs.YtghnaclpjdhilaaW.PrintWords Go.Proofs.YtghnaclpjdhilaaW.PrintLast Go.Proofs.YtghnaclpjdhilaaW.PrintMore
attribute [local go_sem] max2_int min2_int max_two min_two max_three min_three max_four min_four   -- for this text's walks alone
set_option linter.unusedVariables false
set_option linter.unusedSimpArgs false
def impl_MarkerOk.f (k : Nat) (l0 : List Int) (l1 : List Int) : Option (Bool) := (impl_WantedOk.f l0).bind fun t123 => (if t123 = true then (if (l1.length : Int) = (l0.length : Int) then ((impl_areWithin.f l1 0 8).bind fun t124 => (if t124 = true then ((impl_sumOf.f k l1).bind fun t125 => ((impl_within.f t125 1 8).bind fun t126 => (some t126))) else (some false))) else (some false)) else (some false))
set_option maxHeartbeats 8000000 in
set_option maxRecDepth 100000 in
theorem impl_MarkerOk.calls (k : Nat) (A0 : Option Addr) (c0 : Nat) (l0 : List Int) (A1 : Option Addr) (c1 : Nat) (l1 : List Int) (r : Bool) (w : World) (hr0 : Kd.C (Kd.int .i64) w A0 l0.length l0) (hc0 : l0.length ≤ c0) (hr1 : Kd.C (Kd.int .i64) w A1 l1.length l1) (hc1 : l1.length ≤ c1) (h : impl_MarkerOk.f k l0 l1 = some r) :
    Calls Try.prog 25 #[.slice A0 l0.length c0, .slice A1 l1.length c1] w fun e w' => e = .returned (.bool r) ∧ Below w.heap.size w w' := by
  have HR0 := Aside0.mk hr0
  have HC0 := Aside0.mk hc0
  clear hr0 hc0
  have HR1 := Aside0.mk hr1
  have HC1 := Aside0.mk hc1
  clear hr1 hc1
  have HB := Aside0.mk (Below.refl w.heap.size w)
  have H : ((impl_WantedOk.f l0).bind fun t123 => (if t123 = true then (if (l1.length : Int) = (l0.length : Int) then ((impl_areWithin.f l1 0 8).bind fun t124 => (if t124 = true then ((impl_sumOf.f k l1).bind fun t125 => ((impl_within.f t125 1 8).bind fun t126 => (some t126))) else (some false))) else (some false)) else (some false))) = some r := h
  clear h
  replace H := Option.bind_eq_some_iff.mp H
  obtain ⟨t123, A30, H⟩ := H
  replace H : (if t123 = true then (if (l1.length : Int) = (l0.length : Int) then ((impl_areWithin.f l1 0 8).bind fun t124 => (if t124 = true then ((impl_sumOf.f k l1).bind fun t125 => ((impl_within.f t125 1 8).bind fun t126 => (some t126))) else (some false))) else (some false)) else (some false)) = some r := H
  have A3 := Aside0.mk A30
  clear A30
  by_cases c4 : t123 = true
  · subst c4
    have H1 : (if (l1.length : Int) = (l0.length : Int) then ((impl_areWithin.f l1 0 8).bind fun t124 => (if t124 = true then ((impl_sumOf.f k l1).bind fun t125 => ((impl_within.f t125 1 8).bind fun t126 => (some t126))) else (some false))) else (some false)) = some r := by rw [if_pos rfl] at H; exact H
    clear H
    have H := H1
    clear H1
    by_cases c5 : (l1.length : Int) = (l0.length : Int)
    · rw [if_pos c5] at H
      have c5b0 : ((l1.length : Int) == (l0.length : Int)) = true := beq_iff_eq.mpr c5
      have c5b1 : ((l1.length : Int) != (l0.length : Int)) = false := bne_eq_false_iff_eq.mpr c5
      have c5b2 : (l1.length == l0.length) = true := by first | simpa using c5 | (simp at c5 ⊢; omega)
      clear c5
      replace H := Option.bind_eq_some_iff.mp H
      obtain ⟨t124, A60, H⟩ := H
      replace H : (if t124 = true then ((impl_sumOf.f k l1).bind fun t125 => ((impl_within.f t125 1 8).bind fun t126 => (some t126))) else (some false)) = some r := H
      have A6 := Aside0.mk A60
      clear A60
      by_cases c7 : t124 = true
      · subst c7
        have H1 : ((impl_sumOf.f k l1).bind fun t125 => ((impl_within.f t125 1 8).bind fun t126 => (some t126))) = some r := by rw [if_pos rfl] at H; exact H
        clear H
        have H := H1
        clear H1
        replace H := Option.bind_eq_some_iff.mp H
        obtain ⟨t125, A80, H⟩ := H
        replace H : ((impl_within.f t125 1 8).bind fun t126 => (some t126)) = some r := H
        have A8 := Aside0.mk A80
        clear A80
        replace H := Option.bind_eq_some_iff.mp H
        obtain ⟨t126, A90, H⟩ := H
        replace H : (some t126) = some r := H
        have A9 := Aside0.mk A90
        clear A90
        obtain rfl := Option.some.inj H
        go_enter Try.func25, Try.ntmps25
        go_wp2_with (first | ((with_reducible refine gate_callee (f := 22) rfl ?_); refine goesL_ (some 6) rfl rfl Try.func22 (by kernel_rfl) rfl #[.slice A0 l0.length c0] rfl (by (try simp only [List.map_toArray, List.map_cons, List.map_nil]); first | done | rfl | (simp only [List.length_drop, List.length_take]; rfl)) ?_; (with_reducible refine (impl_WantedOk.calls _ _ l0 true _ ?side1 ?side2 A3.out).mono ?_); (case side1 => repeat (first | exact HR0.out | (with_reducible refine Kd.C_alloc ?_ _) | (with_reducible refine Kd.C_drewN ?_ _) | (with_reducible refine Kd.C_drew ?_))); (case side2 => exact HC0.out); rintro e w10 ⟨rfl, hb⟩; refine ⟨_, rfl, ?_⟩; have n0_ := Aside0.mk (below_step (by repeat (first | (with_reducible first | exact HB.out | apply below_alloc | apply pw_below_drewN | apply below_drew1) | exact HB.out)) hb); clear HB; have HB := n0_; clear n0_; (try clear hb); (try clear hb2); (try clear hk); (try clear hi)) | (go_at_call 39; (with_reducible refine (impl_areWithin.calls _ _ l1 0 8 true _ ?side1 ?side2 A6.out).mono ?_); (case side1 => repeat (first | exact (Kd.C_below HR1.out HB.out) | (with_reducible refine Kd.C_alloc ?_ _) | (with_reducible refine Kd.C_drewN ?_ _) | (with_reducible refine Kd.C_drew ?_))); (case side2 => exact HC1.out); rintro e w11 ⟨rfl, hb⟩; have n0_ := Aside0.mk (below_step (by repeat (first | (with_reducible first | exact HB.out | apply below_alloc | apply pw_below_drewN | apply below_drew1) | exact HB.out)) hb); clear HB; have HB := n0_; clear n0_; (try clear hb); (try clear hb2); (try clear hk); (try clear hi)) | (go_at_call 33; (with_reducible refine (impl_sumOf.calls k _ _ l1 t125 _ ?side1 ?side2 A8.out).mono ?_); (case side1 => repeat (first | exact (Kd.C_below HR1.out HB.out) | (with_reducible refine Kd.C_alloc ?_ _) | (with_reducible refine Kd.C_drewN ?_ _) | (with_reducible refine Kd.C_drew ?_))); (case side2 => exact HC1.out); rintro e w' ⟨rfl, ⟨nd, rfl⟩⟩) | (go_at_call 29; (with_reducible refine (impl_within.calls t125 1 8 t126 _ A9.out).mono ?_); rintro e w' ⟨rfl, ⟨nd, rfl⟩⟩))
        go_ret
        exact ⟨by first | rfl | (simp [errW_none, errW_some] <;> rfl) | (simp [*, errW_none, errW_some] <;> rfl), by repeat (first | (with_reducible first | exact HB.out | apply below_alloc | apply pw_below_drewN | apply below_drew1) | exact HB.out)⟩
      · replace c7 := Bool.eq_false_iff.mpr c7
        subst c7
        have H1 : (some false) = some r := by rw [if_neg (show ¬ (false = true) by decide)] at H; exact H
        clear H
        have H := H1
        clear H1
        obtain rfl := Option.some.inj H
        go_enter Try.func25, Try.ntmps25
        go_wp2_with (first | ((with_reducible refine gate_callee (f := 22) rfl ?_); refine goesL_ (some 6) rfl rfl Try.func22 (by kernel_rfl) rfl #[.slice A0 l0.length c0] rfl (by (try simp only [List.map_toArray, List.map_cons, List.map_nil]); first | done | rfl | (simp only [List.length_drop, List.length_take]; rfl)) ?_; (with_reducible refine (impl_WantedOk.calls _ _ l0 true _ ?side1 ?side2 A3.out).mono ?_); (case side1 => repeat (first | exact HR0.out | (with_reducible refine Kd.C_alloc ?_ _) | (with_reducible refine Kd.C_drewN ?_ _) | (with_reducible refine Kd.C_drew ?_))); (case side2 => exact HC0.out); rintro e w12 ⟨rfl, hb⟩; refine ⟨_, rfl, ?_⟩; have n0_ := Aside0.mk (below_step (by repeat (first | (with_reducible first | exact HB.out | apply below_alloc | apply pw_below_drewN | apply below_drew1) | exact HB.out)) hb); clear HB; have HB := n0_; clear n0_; (try clear hb); (try clear hb2); (try clear hk); (try clear hi)) | (go_at_call 39; (with_reducible refine (impl_areWithin.calls _ _ l1 0 8 false _ ?side1 ?side2 A6.out).mono ?_); (case side1 => repeat (first | exact (Kd.C_below HR1.out HB.out) | (with_reducible refine Kd.C_alloc ?_ _) | (with_reducible refine Kd.C_drewN ?_ _) | (with_reducible refine Kd.C_drew ?_))); (case side2 => exact HC1.out); rintro e w13 ⟨rfl, hb⟩; have n0_ := Aside0.mk (below_step (by repeat (first | (with_reducible first | exact HB.out | apply below_alloc | apply pw_below_drewN | apply below_drew1) | exact HB.out)) hb); clear HB; have HB := n0_; clear n0_; (try clear hb); (try clear hb2); (try clear hk); (try clear hi)))
        go_ret
        exact ⟨by first | rfl | (simp [errW_none, errW_some] <;> rfl) | (simp [*, errW_none, errW_some] <;> rfl), by repeat (first | (with_reducible first | exact HB.out | apply below_alloc | apply pw_below_drewN | apply below_drew1) | exact HB.out)⟩
    · rw [if_neg c5] at H
      have c5b0 : ((l1.length : Int) == (l0.length : Int)) = false := beq_eq_false_iff_ne.mpr c5
      have c5b1 : ((l1.length : Int) != (l0.length : Int)) = true := bne_iff_ne.mpr c5
      have c5b2 : (l1.length == l0.length) = false := by first | simpa using c5 | (simp at c5 ⊢; omega)
      obtain rfl := Option.some.inj H
      go_enter Try.func25, Try.ntmps25
      go_wp2_with (first | ((with_reducible refine gate_callee (f := 22) rfl ?_); refine goesL_ (some 6) rfl rfl Try.func22 (by kernel_rfl) rfl #[.slice A0 l0.length c0] rfl (by (try simp only [List.map_toArray, List.map_cons, List.map_nil]); first | done | rfl | (simp only [List.length_drop, List.length_take]; rfl)) ?_; (with_reducible refine (impl_WantedOk.calls _ _ l0 true _ ?side1 ?side2 A3.out).mono ?_); (case side1 => repeat (first | exact HR0.out | (with_reducible refine Kd.C_alloc ?_ _) | (with_reducible refine Kd.C_drewN ?_ _) | (with_reducible refine Kd.C_drew ?_))); (case side2 => exact HC0.out); rintro e w14 ⟨rfl, hb⟩; refine ⟨_, rfl, ?_⟩; have n0_ := Aside0.mk (below_step (by repeat (first | (with_reducible first | exact HB.out | apply below_alloc | apply pw_below_drewN | apply below_drew1) | exact HB.out)) hb); clear HB; have HB := n0_; clear n0_; (try clear hb); (try clear hb2); (try clear hk); (try clear hi)))
      go_ret
      exact ⟨by first | rfl | (simp [errW_none, errW_some] <;> rfl) | (simp [*, errW_none, errW_some] <;> rfl), by repeat (first | (with_reducible first | exact HB.out | apply below_alloc | apply pw_below_drewN | apply below_drew1) | exact HB.out)⟩
  · replace c4 := Bool.eq_false_iff.mpr c4
    subst c4
    have H1 : (some false) = some r := by rw [if_neg (show ¬ (false = true) by decide)] at H; exact H
    clear H
    have H := H1
    clear H1
    obtain rfl := Option.some.inj H
    go_enter Try.func25, Try.ntmps25
    go_wp2_with (first | ((with_reducible refine gate_callee (f := 22) rfl ?_); refine goesL_ (some 6) rfl rfl Try.func22 (by kernel_rfl) rfl #[.slice A0 l0.length c0] rfl (by (try simp only [List.map_toArray, List.map_cons, List.map_nil]); first | done | rfl | (simp only [List.length_drop, List.length_take]; rfl)) ?_; (with_reducible refine (impl_WantedOk.calls _ _ l0 false _ ?side1 ?side2 A3.out).mono ?_); (case side1 => repeat (first | exact HR0.out | (with_reducible refine Kd.C_alloc ?_ _) | (with_reducible refine Kd.C_drewN ?_ _) | (with_reducible refine Kd.C_drew ?_))); (case side2 => exact HC0.out); rintro e w15 ⟨rfl, hb⟩; refine ⟨_, rfl, ?_⟩; have n0_ := Aside0.mk (below_step (by repeat (first | (with_reducible first | exact HB.out | apply below_alloc | apply pw_below_drewN | apply below_drew1) | exact HB.out)) hb); clear HB; have HB := n0_; clear n0_; (try clear hb); (try clear hb2); (try clear hk); (try clear hi)))
    go_ret
    exact ⟨by first | rfl | (simp [errW_none, errW_some] <;> rfl) | (simp [*, errW_none, errW_some] <;> rfl), by repeat (first | (with_reducible first | exact HB.out | apply below_alloc | apply pw_below_drewN | apply below_drew1) | exact HB.out)⟩
end Go.Proofs.Ytghnaclpjdhilaa.PA
-- Written for this claim by a program of this session's (ownprint.py), by way of the kit's print and hand-proved texts. Lean checks it.
namespace Go.Proofs.Ytghnaclpjdhilaa.PA
open Go.RowKit Go.Proofs.YtghnaclpjdhilaaW.PrintWords Go.Proofs.YtghnaclpjdhilaaW.PrintLast Go.Proofs.YtghnaclpjdhilaaW.PrintMore
attribute [local go_sem] max2_int min2_int max_two min_two max_three min_three max_four min_four   -- for this text's walks alone
set_option linter.unusedVariables false
set_option linter.unusedSimpArgs false
def impl_LayersFor.l0 : Nat → List Int → Int → List Int → Int → Int → Option (Int)
  | 0, _, _, _, _, _ => none
  | k + 1, x1, x5, x12, x13, x14 => if x14 < x13 then (if 0 ≤ x14 then (if x14 < (x12.length : Int) then (if (rd x12 x14) = 0 then (impl_LayersFor.l0 k x1 x5 x12 x13 (wrap64 (x14 + 1))) else (if x14 < (x1.length : Int) then (if (rd x1 x14) = 0 then (some (-1)) else (impl_LayersFor.l0 k x1 (mx x5 (wrap64 (Int.tdiv (wrap64 ((wrap64 ((rd x12 x14) + (rd x1 x14))) - 1)) (rd x1 x14)))) x12 x13 (wrap64 (x14 + 1)))) else (none))) else (none)) else (none)) else (some x5)
def impl_LayersFor.f (k : Nat) (l0 : List Int) (l1 : List Int) : Option (Int) := (impl_MarkerOk.f k l0 l1).bind fun t127 => (if t127 = true then (impl_LayersFor.l0 k l1 0 l0 (l0.length : Int) 0) else (some (-1)))
set_option maxHeartbeats 8000000 in
set_option maxRecDepth 100000 in
theorem impl_LayersFor.calls (k : Nat) (A0 : Option Addr) (c0 : Nat) (l0 : List Int) (A1 : Option Addr) (c1 : Nat) (l1 : List Int) (r : Int) (w : World) (hr0 : Kd.C (Kd.int .i64) w A0 l0.length l0) (hc0 : l0.length ≤ c0) (hr1 : Kd.C (Kd.int .i64) w A1 l1.length l1) (hc1 : l1.length ≤ c1) (h : impl_LayersFor.f k l0 l1 = some r) :
    Calls Try.prog 10 #[.slice A0 l0.length c0, .slice A1 l1.length c1] w fun e w' => e = .returned (.int .i64 r) ∧ Below w.heap.size w w' := by
  have HR0 := Aside0.mk hr0
  have HC0 := Aside0.mk hc0
  clear hr0 hc0
  have HR1 := Aside0.mk hr1
  have HC1 := Aside0.mk hc1
  clear hr1 hc1
  have HB := Aside0.mk (Below.refl w.heap.size w)
  have H : ((impl_MarkerOk.f k l0 l1).bind fun t127 => (if t127 = true then (impl_LayersFor.l0 k l1 0 l0 (l0.length : Int) 0) else (some (-1)))) = some r := h
  clear h
  replace H := Option.bind_eq_some_iff.mp H
  obtain ⟨t127, A30, H⟩ := H
  replace H : (if t127 = true then (impl_LayersFor.l0 k l1 0 l0 (l0.length : Int) 0) else (some (-1))) = some r := H
  have A3 := Aside0.mk A30
  clear A30
  by_cases c4 : t127 = true
  · subst c4
    have H1 : (impl_LayersFor.l0 k l1 0 l0 (l0.length : Int) 0) = some r := by rw [if_pos rfl] at H; exact H
    clear H
    have H := H1
    clear H1
    have H' := Aside0.mk H
    clear H
    go_enter Try.func10, Try.ntmps10
    go_wp2_with (first | (go_at_call 25; (with_reducible refine (impl_MarkerOk.calls k _ _ l0 _ _ l1 true _ ?side1 ?side2 ?side3 ?side4 A3.out).mono ?_); (case side1 => repeat (first | exact HR0.out | (with_reducible refine Kd.C_alloc ?_ _) | (with_reducible refine Kd.C_drewN ?_ _) | (with_reducible refine Kd.C_drew ?_))); (case side2 => exact HC0.out); (case side3 => repeat (first | exact HR1.out | (with_reducible refine Kd.C_alloc ?_ _) | (with_reducible refine Kd.C_drewN ?_ _) | (with_reducible refine Kd.C_drew ?_))); (case side4 => exact HC1.out); rintro e w5 ⟨rfl, hb⟩; have n0_ := Aside0.mk (below_step (by repeat (first | (with_reducible first | exact HB.out | apply below_alloc | apply pw_below_drewN | apply below_drew1) | exact HB.out)) hb); clear HB; have HB := n0_; clear n0_; (try clear hb); (try clear hb2); (try clear hk); (try clear hi)))
    repeat (go_quiet (first | (go_at_call 25; (with_reducible refine (impl_MarkerOk.calls k _ _ l0 _ _ l1 true _ ?side1 ?side2 ?side3 ?side4 A3.out).mono ?_); (case side1 => repeat (first | exact HR0.out | (with_reducible refine Kd.C_alloc ?_ _) | (with_reducible refine Kd.C_drewN ?_ _) | (with_reducible refine Kd.C_drew ?_))); (case side2 => exact HC0.out); (case side3 => repeat (first | exact HR1.out | (with_reducible refine Kd.C_alloc ?_ _) | (with_reducible refine Kd.C_drewN ?_ _) | (with_reducible refine Kd.C_drew ?_))); (case side4 => exact HC1.out); rintro e w5 ⟨rfl, hb⟩; have n0_ := Aside0.mk (below_step (by repeat (first | (with_reducible first | exact HB.out | apply below_alloc | apply pw_below_drewN | apply below_drew1) | exact HB.out)) hb); clear HB; have HB := n0_; clear n0_; (try clear hb); (try clear hb2); (try clear hk); (try clear hi))); try go_wp2_with (first | (go_at_call 25; (with_reducible refine (impl_MarkerOk.calls k _ _ l0 _ _ l1 true _ ?side1 ?side2 ?side3 ?side4 A3.out).mono ?_); (case side1 => repeat (first | exact HR0.out | (with_reducible refine Kd.C_alloc ?_ _) | (with_reducible refine Kd.C_drewN ?_ _) | (with_reducible refine Kd.C_drew ?_))); (case side2 => exact HC0.out); (case side3 => repeat (first | exact HR1.out | (with_reducible refine Kd.C_alloc ?_ _) | (with_reducible refine Kd.C_drewN ?_ _) | (with_reducible refine Kd.C_drew ?_))); (case side4 => exact HC1.out); rintro e w5 ⟨rfl, hb⟩; have n0_ := Aside0.mk (below_step (by repeat (first | (with_reducible first | exact HB.out | apply below_alloc | apply pw_below_drewN | apply below_drew1) | exact HB.out)) hb); clear HB; have HB := n0_; clear n0_; (try clear hb); (try clear hb2); (try clear hk); (try clear hi))))
    go_loopg [5, 14] k (fun kq v5 v14 w' => ∃ (x5_1 : Int) (x14_1 : Int), v5 = .int .i64 x5_1 ∧ v14 = .int .i64 x14_1 ∧ Aside0 (impl_LayersFor.l0 kq l1 x5_1 l0 (l0.length : Int) x14_1 = some r) ∧ Aside0 (kq ≤ k) ∧ Aside0 (Below w.heap.size w w'))
    case atStart => exact ⟨(0), (0), (by first | rfl | (simp; done) | (simp [*]; done)), (by first | rfl | (simp; done) | (simp [*]; done)), H', ⟨Nat.le_refl _⟩, ⟨by repeat (first | (with_reducible first | exact HB.out | apply below_alloc | apply pw_below_drewN | apply below_drew1) | exact HB.out)⟩⟩
    case round =>
      clear H'
      try clear c1
      try clear p2
      try clear c4
      obtain ⟨x5_1, x14_1, rfl, rfl, HA, HK1, HB⟩ := hrel
      cases gk with
      | zero => exact absurd HA.out (by simp [impl_LayersFor.l0])
      | succ k1 =>
        have H := HA.out
        clear HA
        simp only [impl_LayersFor.l0] at H
        by_cases c6 : x14_1 < (l0.length : Int)
        · rw [if_pos c6] at H
          have c6b0 : decide (x14_1 < (l0.length : Int)) = true := decide_eq_true c6
          clear c6
          by_cases c7 : 0 ≤ x14_1
          · rw [if_pos c7] at H
            have c7b0 : decide (0 ≤ x14_1) = true := decide_eq_true c7
            clear c7
            by_cases c8 : x14_1 < (l0.length : Int)
            · rw [if_pos c8] at H
              have c8b0 : decide (x14_1 < (l0.length : Int)) = true := decide_eq_true c8
              clear c8
              by_cases c9 : (rd l0 x14_1) = 0
              · rw [if_pos c9] at H
                have c9b0 : ((rd l0 x14_1) == 0) = true := beq_iff_eq.mpr c9
                have c9b1 : ((rd l0 x14_1) != 0) = false := bne_eq_false_iff_eq.mpr c9
                clear c9
                have H' := Aside0.mk H
                clear H
                have p128 : 0 ≤ (x14_1 : Int) := of_decide_eq_true (by first | (with_reducible assumption) | assumption)
                have q128 : x14_1 < (l0.length : Int) := of_decide_eq_true (by first | (with_reducible assumption) | assumption)
                obtain ⟨ad128, e128, hx128_0⟩ := Kd.at_int HR0.out x14_1 p128 q128
                cases e128
                replace hx128_0 := (HB.out.cell (World.block_lt_of_cell? w _ hx128_0)).trans hx128_0
                replace p128 := eq_true p128
                replace q128 := eq_true q128
                go_wp2
                repeat (go_quiet (fail); try go_wp2)
                go_roundg k1
                case measure => have := HK1.out; omega
                case rel => exact ⟨(x5_1), (wrap64 (x14_1 + 1)), (by first | rfl | (simp; done) | (simp [*]; done)), (by first | rfl | (simp; done) | (simp [*]; done)), H', ⟨by have := HK1.out; omega⟩, ⟨by repeat (first | (with_reducible first | exact HB.out | apply below_alloc | apply pw_below_drewN | apply below_drew1) | exact HB.out)⟩⟩
              · rw [if_neg c9] at H
                have c9b0 : ((rd l0 x14_1) == 0) = false := beq_eq_false_iff_ne.mpr c9
                have c9b1 : ((rd l0 x14_1) != 0) = true := bne_iff_ne.mpr c9
                by_cases c10 : x14_1 < (l1.length : Int)
                · rw [if_pos c10] at H
                  have c10b0 : decide (x14_1 < (l1.length : Int)) = true := decide_eq_true c10
                  clear c10
                  by_cases c11 : (rd l1 x14_1) = 0
                  · rw [if_pos c11] at H
                    have c11b0 : ((rd l1 x14_1) == 0) = true := beq_iff_eq.mpr c11
                    have c11b1 : ((rd l1 x14_1) != 0) = false := bne_eq_false_iff_eq.mpr c11
                    clear c11
                    obtain rfl := Option.some.inj H
                    have p128 : 0 ≤ (x14_1 : Int) := of_decide_eq_true (by first | (with_reducible assumption) | assumption)
                    have q128 : x14_1 < (l0.length : Int) := of_decide_eq_true (by first | (with_reducible assumption) | assumption)
                    obtain ⟨ad128, e128, hx128_0⟩ := Kd.at_int HR0.out x14_1 p128 q128
                    cases e128
                    replace hx128_0 := (HB.out.cell (World.block_lt_of_cell? w _ hx128_0)).trans hx128_0
                    replace p128 := eq_true p128
                    replace q128 := eq_true q128
                    have p129 : 0 ≤ (x14_1 : Int) := of_decide_eq_true (by first | (with_reducible assumption) | assumption)
                    have q129 : x14_1 < (l1.length : Int) := of_decide_eq_true (by first | (with_reducible assumption) | assumption)
                    obtain ⟨ad129, e129, hx129_0⟩ := Kd.at_int HR1.out x14_1 p129 q129
                    cases e129
                    replace hx129_0 := (HB.out.cell (World.block_lt_of_cell? w _ hx129_0)).trans hx129_0
                    replace p129 := eq_true p129
                    replace q129 := eq_true q129
                    go_wp2
                    repeat (go_quiet (fail); try go_wp2)
                    go_ret
                    exact ⟨by first | rfl | (simp [errW_none, errW_some] <;> rfl) | (simp [*, errW_none, errW_some] <;> rfl), by repeat (first | (with_reducible first | exact HB.out | apply below_alloc | apply pw_below_drewN | apply below_drew1) | exact HB.out)⟩
                  · rw [if_neg c11] at H
                    have c11b0 : ((rd l1 x14_1) == 0) = false := beq_eq_false_iff_ne.mpr c11
                    have c11b1 : ((rd l1 x14_1) != 0) = true := bne_iff_ne.mpr c11
                    obtain ⟨ji12, hji12⟩ : ∃ j_ : Int, (mx x5_1 (wrap64 (Int.tdiv (wrap64 ((wrap64 ((rd l0 x14_1) + (rd l1 x14_1))) - 1)) (rd l1 x14_1)))) = j_ := ⟨_, rfl⟩
                    replace H : (impl_LayersFor.l0 k1 l1 ji12 l0 (l0.length : Int) (wrap64 (x14_1 + 1))) = some r := by first | (rw [hji12] at H; exact H) | (simp only [hji12] at H ⊢; exact H)
                    have hji12_ : (if x5_1 < (wrap64 (Int.tdiv (wrap64 ((wrap64 ((rd l0 x14_1) + (rd l1 x14_1))) - 1)) (rd l1 x14_1))) then (wrap64 (Int.tdiv (wrap64 ((wrap64 ((rd l0 x14_1) + (rd l1 x14_1))) - 1)) (rd l1 x14_1))) else x5_1) = ji12 := hji12
                    have H' := Aside0.mk H
                    clear H
                    have p128 : 0 ≤ (x14_1 : Int) := of_decide_eq_true (by first | (with_reducible assumption) | assumption)
                    have q128 : x14_1 < (l0.length : Int) := of_decide_eq_true (by first | (with_reducible assumption) | assumption)
                    obtain ⟨ad128, e128, hx128_0⟩ := Kd.at_int HR0.out x14_1 p128 q128
                    cases e128
                    replace hx128_0 := (HB.out.cell (World.block_lt_of_cell? w _ hx128_0)).trans hx128_0
                    replace p128 := eq_true p128
                    replace q128 := eq_true q128
                    have p129 : 0 ≤ (x14_1 : Int) := of_decide_eq_true (by first | (with_reducible assumption) | assumption)
                    have q129 : x14_1 < (l1.length : Int) := of_decide_eq_true (by first | (with_reducible assumption) | assumption)
                    obtain ⟨ad129, e129, hx129_0⟩ := Kd.at_int HR1.out x14_1 p129 q129
                    cases e129
                    replace hx129_0 := (HB.out.cell (World.block_lt_of_cell? w _ hx129_0)).trans hx129_0
                    replace p129 := eq_true p129
                    replace q129 := eq_true q129
                    have p130 : 0 ≤ (x14_1 : Int) := of_decide_eq_true (by first | (with_reducible assumption) | assumption)
                    have q130 : x14_1 < (l1.length : Int) := of_decide_eq_true (by first | (with_reducible assumption) | assumption)
                    obtain ⟨ad130, e130, hx130_0⟩ := Kd.at_int HR1.out x14_1 p130 q130
                    obtain rfl : ad129 = ad130 := (by injection e130)
                    replace hx130_0 := (HB.out.cell (World.block_lt_of_cell? w _ hx130_0)).trans hx130_0
                    replace p130 := eq_true p130
                    replace q130 := eq_true q130
                    have p131 : 0 ≤ (x14_1 : Int) := of_decide_eq_true (by first | (with_reducible assumption) | assumption)
                    have q131 : x14_1 < (l1.length : Int) := of_decide_eq_true (by first | (with_reducible assumption) | assumption)
                    obtain ⟨ad131, e131, hx131_0⟩ := Kd.at_int HR1.out x14_1 p131 q131
                    obtain rfl : ad129 = ad131 := (by injection e131)
                    replace hx131_0 := (HB.out.cell (World.block_lt_of_cell? w _ hx131_0)).trans hx131_0
                    replace p131 := eq_true p131
                    replace q131 := eq_true q131
                    go_wp2
                    repeat (go_quiet (fail); try go_wp2)
                    go_roundg k1
                    case measure => have := HK1.out; omega
                    case rel => exact ⟨(ji12), (wrap64 (x14_1 + 1)), (by first | rfl | (simp; done) | (simp only [← hji12] <;> (first | rfl | simp)) | (simp [*]; done)), (by first | rfl | (simp; done) | (simp [*]; done)), H', ⟨by have := HK1.out; omega⟩, ⟨by repeat (first | (with_reducible first | exact HB.out | apply below_alloc | apply pw_below_drewN | apply below_drew1) | exact HB.out)⟩⟩
                · rw [if_neg c10] at H
                  exact absurd H (by simp)
            · rw [if_neg c8] at H
              exact absurd H (by simp)
          · rw [if_neg c7] at H
            exact absurd H (by simp)
        · rw [if_neg c6] at H
          have c6b0 : decide (x14_1 < (l0.length : Int)) = false := decide_eq_false c6
          clear c6
          obtain rfl := Option.some.inj H
          go_wp2
          repeat (go_quiet (fail); try go_wp2)
          go_ret
          exact ⟨by first | rfl | (simp [errW_none, errW_some] <;> rfl) | (simp [*, errW_none, errW_some] <;> rfl), by repeat (first | (with_reducible first | exact HB.out | apply below_alloc | apply pw_below_drewN | apply below_drew1) | exact HB.out)⟩
  · replace c4 := Bool.eq_false_iff.mpr c4
    subst c4
    have H1 : (some (-1)) = some r := by rw [if_neg (show ¬ (false = true) by decide)] at H; exact H
    clear H
    have H := H1
    clear H1
    obtain rfl := Option.some.inj H
    go_enter Try.func10, Try.ntmps10
    go_wp2_with (first | (go_at_call 25; (with_reducible refine (impl_MarkerOk.calls k _ _ l0 _ _ l1 false _ ?side1 ?side2 ?side3 ?side4 A3.out).mono ?_); (case side1 => repeat (first | exact HR0.out | (with_reducible refine Kd.C_alloc ?_ _) | (with_reducible refine Kd.C_drewN ?_ _) | (with_reducible refine Kd.C_drew ?_))); (case side2 => exact HC0.out); (case side3 => repeat (first | exact HR1.out | (with_reducible refine Kd.C_alloc ?_ _) | (with_reducible refine Kd.C_drewN ?_ _) | (with_reducible refine Kd.C_drew ?_))); (case side4 => exact HC1.out); rintro e w13 ⟨rfl, hb⟩; have n0_ := Aside0.mk (below_step (by repeat (first | (with_reducible first | exact HB.out | apply below_alloc | apply pw_below_drewN | apply below_drew1) | exact HB.out)) hb); clear HB; have HB := n0_; clear n0_; (try clear hb); (try clear hb2); (try clear hk); (try clear hi)))
    repeat (go_quiet (first | (go_at_call 25; (with_reducible refine (impl_MarkerOk.calls k _ _ l0 _ _ l1 false _ ?side1 ?side2 ?side3 ?side4 A3.out).mono ?_); (case side1 => repeat (first | exact HR0.out | (with_reducible refine Kd.C_alloc ?_ _) | (with_reducible refine Kd.C_drewN ?_ _) | (with_reducible refine Kd.C_drew ?_))); (case side2 => exact HC0.out); (case side3 => repeat (first | exact HR1.out | (with_reducible refine Kd.C_alloc ?_ _) | (with_reducible refine Kd.C_drewN ?_ _) | (with_reducible refine Kd.C_drew ?_))); (case side4 => exact HC1.out); rintro e w13 ⟨rfl, hb⟩; have n0_ := Aside0.mk (below_step (by repeat (first | (with_reducible first | exact HB.out | apply below_alloc | apply pw_below_drewN | apply below_drew1) | exact HB.out)) hb); clear HB; have HB := n0_; clear n0_; (try clear hb); (try clear hb2); (try clear hk); (try clear hi))); try go_wp2_with (first | (go_at_call 25; (with_reducible refine (impl_MarkerOk.calls k _ _ l0 _ _ l1 false _ ?side1 ?side2 ?side3 ?side4 A3.out).mono ?_); (case side1 => repeat (first | exact HR0.out | (with_reducible refine Kd.C_alloc ?_ _) | (with_reducible refine Kd.C_drewN ?_ _) | (with_reducible refine Kd.C_drew ?_))); (case side2 => exact HC0.out); (case side3 => repeat (first | exact HR1.out | (with_reducible refine Kd.C_alloc ?_ _) | (with_reducible refine Kd.C_drewN ?_ _) | (with_reducible refine Kd.C_drew ?_))); (case side4 => exact HC1.out); rintro e w13 ⟨rfl, hb⟩; have n0_ := Aside0.mk (below_step (by repeat (first | (with_reducible first | exact HB.out | apply below_alloc | apply pw_below_drewN | apply below_drew1) | exact HB.out)) hb); clear HB; have HB := n0_; clear n0_; (try clear hb); (try clear hb2); (try clear hk); (try clear hi))))
    go_ret
    exact ⟨by first | rfl | (simp [errW_none, errW_some] <;> rfl) | (simp [*, errW_none, errW_some] <;> rfl), by repeat (first | (with_reducible first | exact HB.out | apply below_alloc | apply pw_below_drewN | apply below_drew1) | exact HB.out)⟩
end Go.Proofs.Ytghnaclpjdhilaa.PA
-- Written for this claim by a program of this session's (ownprint.py), by way of the kit's print and hand-proved texts. Lean checks it.
namespace Go.Proofs.Ytghnaclpjdhilaa.PA
open Go.RowKit Go.Proofs.YtghnaclpjdhilaaW.PrintWords Go.Proofs.YtghnaclpjdhilaaW.PrintLast Go.Proofs.YtghnaclpjdhilaaW.PrintMore
attribute [local go_sem] max2_int min2_int max_two min_two max_three min_three max_four min_four   -- for this text's walks alone
set_option linter.unusedVariables false
set_option linter.unusedSimpArgs false
mutual
def impl_ExtraOf.j0 : Nat → List Int → List Int → Int → Bool → Option (List Int)
  | 0, _, _, _, _ => none
  | k + 1, x0, x1, x2, x18 => if x18 = true then (some ([] : List Int)) else (impl_ExtraOf.l0 k x1 x2 (([] : List Int)) x0 (x0.length : Int) 0)
def impl_ExtraOf.l0 : Nat → List Int → Int → List Int → List Int → Int → Int → Option (List Int)
  | 0, _, _, _, _, _, _ => none
  | k + 1, x1, x2, x7, x20, x21, x22 => if x22 < x21 then (if 0 ≤ x22 then (if x22 < (x20.length : Int) then (if x22 < (x1.length : Int) then (if x7.length < 17592186044416 then (impl_ExtraOf.l0 k x1 x2 (x7 ++ [wrap64 ((wrap64 (x2 * (rd x1 x22))) - (rd x20 x22))]) x20 x21 (wrap64 (x22 + 1))) else (none)) else (none)) else (none)) else (none)) else (some x7)
end
def impl_ExtraOf.f (k : Nat) (l0 : List Int) (l1 : List Int) (a2 : Int) : Option (List Int) := (impl_MarkerOk.f k l0 l1).bind fun t166 => (if t166 = true then ((impl_within.f a2 0 1000).bind fun t167 => (impl_ExtraOf.j0 k l0 l1 a2 (!t167))) else (impl_ExtraOf.j0 k l0 l1 a2 true))
set_option maxHeartbeats 8000000 in
set_option maxRecDepth 100000 in
theorem impl_ExtraOf.calls (k : Nat) (A0 : Option Addr) (c0 : Nat) (l0 : List Int) (A1 : Option Addr) (c1 : Nat) (l1 : List Int) (a2 : Int) (r : List Int) (w : World) (hr0 : Kd.C (Kd.int .i64) w A0 l0.length l0) (hc0 : l0.length ≤ c0) (hr1 : Kd.C (Kd.int .i64) w A1 l1.length l1) (hc1 : l1.length ≤ c1) (h : impl_ExtraOf.f k l0 l1 a2 = some r) :
    Calls Try.prog 13 #[.slice A0 l0.length c0, .slice A1 l1.length c1, .int .i64 a2] w fun e w' => ∃ v0_ : Value, e = .returned (v0_) ∧ Kd.R (Kd.int .i64) 3 w' w.heap.size (fun _ => True) v0_ r ∧ Below w.heap.size w w' := by
  have HR0 := Aside0.mk hr0
  have HC0 := Aside0.mk hc0
  clear hr0 hc0
  have HR1 := Aside0.mk hr1
  have HC1 := Aside0.mk hc1
  clear hr1 hc1
  have HB := Aside0.mk (Below.refl w.heap.size w)
  have H : ((impl_MarkerOk.f k l0 l1).bind fun t166 => (if t166 = true then ((impl_within.f a2 0 1000).bind fun t167 => (impl_ExtraOf.j0 k l0 l1 a2 (!t167))) else (impl_ExtraOf.j0 k l0 l1 a2 true))) = some r := h
  clear h
  have HC4 := Aside0.mk H
  clear H
  go_enter Try.func13, Try.ntmps13
  go_upto_region 1 with (fail)
  go_cut [18] (fun v18 wc => ∃ (kq : Nat) (x18_3 : Bool), v18 = .bool x18_3 ∧ Aside0 (impl_ExtraOf.j0 kq l0 l1 a2 x18_3 = some r) ∧ Aside0 (kq ≤ k) ∧ Aside0 (Below w.heap.size w wc))
  case first =>
    have H := HC4.out
    clear HC4
    replace H := Option.bind_eq_some_iff.mp H
    obtain ⟨t166, A50, H⟩ := H
    replace H : (if t166 = true then ((impl_within.f a2 0 1000).bind fun t167 => (impl_ExtraOf.j0 k l0 l1 a2 (!t167))) else (impl_ExtraOf.j0 k l0 l1 a2 true)) = some r := H
    have A5 := Aside0.mk A50
    clear A50
    by_cases c6 : t166 = true
    · subst c6
      have H1 : ((impl_within.f a2 0 1000).bind fun t167 => (impl_ExtraOf.j0 k l0 l1 a2 (!t167))) = some r := by rw [if_pos rfl] at H; exact H
      clear H
      have H := H1
      clear H1
      replace H := Option.bind_eq_some_iff.mp H
      obtain ⟨t167, A70, H⟩ := H
      replace H : (impl_ExtraOf.j0 k l0 l1 a2 (!t167)) = some r := H
      have A7 := Aside0.mk A70
      clear A70
      have H' := Aside0.mk H
      clear H
      go_wp2_with (first | ((with_reducible refine gate_callee (f := 25) rfl ?_); refine goesL_ (some 12) rfl rfl Try.func25 (by kernel_rfl) rfl #[.slice A0 l0.length c0, .slice A1 l1.length c1] rfl (by (try simp only [List.map_toArray, List.map_cons, List.map_nil]); first | done | rfl | (simp only [List.length_drop, List.length_take]; rfl)) ?_; (with_reducible refine (impl_MarkerOk.calls k _ _ l0 _ _ l1 true _ ?side1 ?side2 ?side3 ?side4 A5.out).mono ?_); (case side1 => repeat (first | exact (Kd.C_below HR0.out HB.out) | (with_reducible refine Kd.C_alloc ?_ _) | (with_reducible refine Kd.C_drewN ?_ _) | (with_reducible refine Kd.C_drew ?_))); (case side2 => exact HC0.out); (case side3 => repeat (first | exact (Kd.C_below HR1.out HB.out) | (with_reducible refine Kd.C_alloc ?_ _) | (with_reducible refine Kd.C_drewN ?_ _) | (with_reducible refine Kd.C_drew ?_))); (case side4 => exact HC1.out); rintro e w8 ⟨rfl, hb⟩; refine ⟨_, rfl, ?_⟩; have n0_ := Aside0.mk (below_step (by repeat (first | (with_reducible first | exact HB.out | apply below_alloc | apply pw_below_drewN | apply below_drew1) | exact HB.out)) hb); clear HB; have HB := n0_; clear n0_; (try clear hb); (try clear hb2); (try clear hk); (try clear hi)) | (go_at_call 29; (with_reducible refine (impl_within.calls a2 0 1000 t167 _ A7.out).mono ?_); rintro e w' ⟨rfl, ⟨nd, rfl⟩⟩))
      go_meet
      case rel => exact ⟨_, (!t167), (by first | rfl | (simp; done) | (simp [*]; done)), H', ⟨by first | omega | exact Nat.le_refl _⟩, ⟨by repeat (first | (with_reducible first | exact HB.out | apply below_alloc | apply pw_below_drewN | apply below_drew1) | exact HB.out)⟩⟩
    · replace c6 := Bool.eq_false_iff.mpr c6
      subst c6
      have H1 : (impl_ExtraOf.j0 k l0 l1 a2 true) = some r := by rw [if_neg (show ¬ (false = true) by decide)] at H; exact H
      clear H
      have H := H1
      clear H1
      have H' := Aside0.mk H
      clear H
      go_wp2_with (first | ((with_reducible refine gate_callee (f := 25) rfl ?_); refine goesL_ (some 12) rfl rfl Try.func25 (by kernel_rfl) rfl #[.slice A0 l0.length c0, .slice A1 l1.length c1] rfl (by (try simp only [List.map_toArray, List.map_cons, List.map_nil]); first | done | rfl | (simp only [List.length_drop, List.length_take]; rfl)) ?_; (with_reducible refine (impl_MarkerOk.calls k _ _ l0 _ _ l1 false _ ?side1 ?side2 ?side3 ?side4 A5.out).mono ?_); (case side1 => repeat (first | exact (Kd.C_below HR0.out HB.out) | (with_reducible refine Kd.C_alloc ?_ _) | (with_reducible refine Kd.C_drewN ?_ _) | (with_reducible refine Kd.C_drew ?_))); (case side2 => exact HC0.out); (case side3 => repeat (first | exact (Kd.C_below HR1.out HB.out) | (with_reducible refine Kd.C_alloc ?_ _) | (with_reducible refine Kd.C_drewN ?_ _) | (with_reducible refine Kd.C_drew ?_))); (case side4 => exact HC1.out); rintro e w9 ⟨rfl, hb⟩; refine ⟨_, rfl, ?_⟩; have n0_ := Aside0.mk (below_step (by repeat (first | (with_reducible first | exact HB.out | apply below_alloc | apply pw_below_drewN | apply below_drew1) | exact HB.out)) hb); clear HB; have HB := n0_; clear n0_; (try clear hb); (try clear hb2); (try clear hk); (try clear hi)))
      go_meet
      case rel => exact ⟨_, (true), (by first | rfl | (simp; done) | (simp [*]; done)), H', ⟨by first | omega | exact Nat.le_refl _⟩, ⟨by repeat (first | (with_reducible first | exact HB.out | apply below_alloc | apply pw_below_drewN | apply below_drew1) | exact HB.out)⟩⟩
  case rest =>
    clear HC4
    try clear c1
    try clear c2
    try clear p2
    try clear c6
    obtain ⟨kq, x18_3, rfl, HA, HJ3, HB⟩ := hcut
    cases kq with
    | zero => exact absurd HA.out (by simp [impl_ExtraOf.j0])
    | succ kj3 =>
      have H := HA.out
      clear HA
      simp only [impl_ExtraOf.j0] at H
      by_cases c10 : x18_3 = true
      · subst c10
        have H1 : (some ([] : List Int)) = some r := by rw [if_pos rfl] at H; exact H
        clear H
        have H := H1
        clear H1
        obtain rfl := Option.some.inj H
        go_wp2
        go_ret
        exact ⟨_, by first | rfl | (simp [errW_none, errW_some] <;> rfl) | (simp [*, errW_none, errW_some] <;> rfl), by first | exact Kd.R_nil _ _ _ _ _ | exact Kd.N_nil _ _ _ _ _ | exact Kd.V_nil _ _ _ _ _ | exact Kd.Q_nil _ _ _ _ _ | exact Kd.S_nil _ _ _ _ _, by repeat (first | (with_reducible first | exact HB.out | apply below_alloc | apply pw_below_drewN | apply below_drew1) | exact HB.out)⟩
      · replace c10 := Bool.eq_false_iff.mpr c10
        subst c10
        have H1 : (impl_ExtraOf.l0 kj3 l1 a2 (([] : List Int)) l0 (l0.length : Int) 0) = some r := by rw [if_neg (show ¬ (false = true) by decide)] at H; exact H
        clear H
        have H := H1
        clear H1
        obtain ⟨y168, hy168⟩ : ∃ y_ : List Int, y_ = (([] : List Int)) := ⟨_, rfl⟩
        replace H : (impl_ExtraOf.l0 kj3 l1 a2 y168 l0 (l0.length : Int) 0) = some r := by first | (rw [hy168]; with_reducible exact H) | (have H2_ := (Option.bind_some _ _).symm.trans H; rw [hy168]; with_reducible exact H2_) | (have H2_ := (Option.bind_some _ _).symm.trans H; with_reducible exact H2_) | with_reducible exact H | (rw [hy168]; exact H) | exact H
        have Ny168 := Aside0.mk hy168
        clear hy168
        have H' := Aside0.mk H
        clear H
        go_wp2_with (first | ((with_reducible refine gate_dst (N := 19) rfl ?_); refine Kd.R_lit (Kd.int .i64) _ 3 ?hg (N := 19) ?hd (xs := ([] : List Int)) (inner := []) (ok := fun _ => True) (okp := fun _ => True) ?hr ?hp (fun _ hk => hk) trivial (Below.refl _ _) (Nat.le_refl _) (by simp) ?_; (case hd => rfl); (case hg => rfl); (case hr => first | (go_simp; done) | (go_simp; rfl)); (case hp => exact (Reps.none _ _)); intro v169 w11 ho12 hb hg_ hnew_; clear hg_ hnew_; (first | rw [← Ny168.out] at ho12 | (simp only [Int.reduceToNat] at ho12; rw [← Ny168.out] at ho12)); have n0_ := Aside0.mk (Kd.R_lower ho12 (below_size (by repeat (first | (with_reducible first | exact HB.out | apply below_alloc | apply pw_below_drewN | apply below_drew1) | exact HB.out)))); have n1_ := Aside0.mk (below_step (by repeat (first | (with_reducible first | exact HB.out | apply below_alloc | apply pw_below_drewN | apply below_drew1) | exact HB.out)) hb); clear HB; have HO170 := n0_; have HB := n1_; clear n0_ n1_; clear hb ho12))
        go_loopg [7, 22] kj3 (fun kq v7 v22 w' => ∃ (x7_2 : List Int) (x22_2 : Int), v22 = .int .i64 x22_2 ∧ Aside0 (impl_ExtraOf.l0 kq l1 a2 x7_2 l0 (l0.length : Int) x22_2 = some r) ∧ Aside0 (kq ≤ kj3) ∧ Aside0 (Kd.R (Kd.int .i64) 3 w' w.heap.size (fun _ => True) v7 x7_2) ∧ Aside0 (Below w.heap.size w w'))
        case atStart => exact ⟨(y168), (0), (by first | rfl | (simp; done) | (simp [*]; done)), H', ⟨Nat.le_refl _⟩, ⟨by (with_reducible repeat (first | apply Kd.R_alloc | apply Kd.R_drewN | apply Kd.R_drew)); exact HO170.out⟩, ⟨by repeat (first | (with_reducible first | exact HB.out | apply below_alloc | apply pw_below_drewN | apply below_drew1) | exact HB.out)⟩⟩
        case round =>
          clear H'
          try clear c1
          try clear c2
          try clear p2
          try clear c6
          try clear c10
          try clear p2
          obtain ⟨x7_2, x22_2, rfl, HA, HK2, HO_7, HB⟩ := hrel
          cases gk with
          | zero => exact absurd HA.out (by simp [impl_ExtraOf.l0])
          | succ k2 =>
            have H := HA.out
            clear HA
            simp only [impl_ExtraOf.l0] at H
            by_cases c13 : x22_2 < (l0.length : Int)
            · rw [if_pos c13] at H
              have c13b0 : decide (x22_2 < (l0.length : Int)) = true := decide_eq_true c13
              clear c13
              by_cases c14 : 0 ≤ x22_2
              · rw [if_pos c14] at H
                have c14b0 : decide (0 ≤ x22_2) = true := decide_eq_true c14
                clear c14
                by_cases c15 : x22_2 < (l0.length : Int)
                · rw [if_pos c15] at H
                  have c15b0 : decide (x22_2 < (l0.length : Int)) = true := decide_eq_true c15
                  clear c15
                  by_cases c16 : x22_2 < (l1.length : Int)
                  · rw [if_pos c16] at H
                    have c16b0 : decide (x22_2 < (l1.length : Int)) = true := decide_eq_true c16
                    clear c16
                    by_cases c17 : x7_2.length < 17592186044416
                    · rw [if_pos c17] at H
                      have LMc17 := Aside0.mk c17
                      clear c17
                      obtain ⟨y173, hy173⟩ : ∃ y_ : List Int, y_ = (x7_2 ++ [wrap64 ((wrap64 (a2 * (rd l1 x22_2))) - (rd l0 x22_2))]) := ⟨_, rfl⟩
                      replace H : (impl_ExtraOf.l0 k2 l1 a2 y173 l0 (l0.length : Int) (wrap64 (x22_2 + 1))) = some r := by first | (rw [hy173]; with_reducible exact H) | (have H2_ := (Option.bind_some _ _).symm.trans H; rw [hy173]; with_reducible exact H2_) | (have H2_ := (Option.bind_some _ _).symm.trans H; with_reducible exact H2_) | with_reducible exact H | (rw [hy173]; exact H) | exact H
                      have Ny173 := Aside0.mk hy173
                      clear hy173
                      have H' := Aside0.mk H
                      clear H
                      have p171 : 0 ≤ (x22_2 : Int) := of_decide_eq_true (by first | (with_reducible assumption) | assumption)
                      have q171 : x22_2 < (l0.length : Int) := of_decide_eq_true (by first | (with_reducible assumption) | assumption)
                      obtain ⟨ad171, e171, hx171_0⟩ := Kd.at_int HR0.out x22_2 p171 q171
                      cases e171
                      replace hx171_0 := (HB.out.cell (World.block_lt_of_cell? w _ hx171_0)).trans hx171_0
                      replace p171 := eq_true p171
                      replace q171 := eq_true q171
                      have p172 : 0 ≤ (x22_2 : Int) := of_decide_eq_true (by first | (with_reducible assumption) | assumption)
                      have q172 : x22_2 < (l1.length : Int) := of_decide_eq_true (by first | (with_reducible assumption) | assumption)
                      obtain ⟨ad172, e172, hx172_0⟩ := Kd.at_int HR1.out x22_2 p172 q172
                      cases e172
                      replace hx172_0 := (HB.out.cell (World.block_lt_of_cell? w _ hx172_0)).trans hx172_0
                      replace p172 := eq_true p172
                      replace q172 := eq_true q172
                      go_wp2_with (first | ((with_reducible refine gate_builtin (b := .append) (xs := #[.tmp 27, .tmp 36]) rfl ?_); at_builtin; refine Kd.R_append (Kd.int .i64) (w0 := w) w.heap.size rfl (.tmp 27) (.tmp 36) 22 3 (.int .i64 0) 8 rfl Try.underlying22 info3 rfl (by decide) (by omega) u7 x7_2 (wrap64 ((wrap64 (a2 * (rd l1 x22_2))) - (rd l0 x22_2))) [.int .i64 (wrap64 ((wrap64 (a2 * (rd l1 x22_2))) - (rd l0 x22_2)))] (fun _ => True) (fun _ => False) rfl rfl ?aP (fun _ hk => hk.elim) ?aF ?aO ?aB ?aS ?aL ?_; (case aP => exact rfl); (case aB => exact (by repeat (first | (with_reducible first | exact HB.out | apply below_alloc | apply pw_below_drewN | apply below_drew1) | exact HB.out))); (case aF => exact (fun _ _ => trivial)); (case aO => exact (by (with_reducible repeat (first | apply Kd.R_alloc | apply Kd.R_drewN | apply Kd.R_drew)); exact HO_7.out)); (case aS => exact (below_size (by repeat (first | (with_reducible first | exact HB.out | apply below_alloc | apply pw_below_drewN | apply below_drew1) | exact HB.out)))); (case aL => have := LMc17.out; omega); intro v174 w18 ho hb hg hat; rw [← Ny173.out] at ho; have n0_ := Aside0.mk (hb); have n1_ := Aside0.mk (ho); clear HB; clear HO_7; have HB := n0_; have HO175 := n1_; clear n0_ n1_; clear ho hb hg hat))
                      go_roundg k2
                      case measure => have := HJ3.out; have := HK2.out; omega
                      case rel => exact ⟨(y173), (wrap64 (x22_2 + 1)), (by first | rfl | (simp; done) | (simp [*]; done)), H', ⟨by have := HJ3.out; have := HK2.out; omega⟩, ⟨by (with_reducible repeat (first | apply Kd.R_alloc | apply Kd.R_drewN | apply Kd.R_drew)); exact HO175.out⟩, ⟨by repeat (first | (with_reducible first | exact HB.out | apply below_alloc | apply pw_below_drewN | apply below_drew1) | exact HB.out)⟩⟩
                    · rw [if_neg c17] at H
                      exact absurd H (by simp)
                  · rw [if_neg c16] at H
                    exact absurd H (by simp)
                · rw [if_neg c15] at H
                  exact absurd H (by simp)
              · rw [if_neg c14] at H
                exact absurd H (by simp)
            · rw [if_neg c13] at H
              have c13b0 : decide (x22_2 < (l0.length : Int)) = false := decide_eq_false c13
              clear c13
              obtain rfl := Option.some.inj H
              go_wp2
              go_ret
              exact ⟨_, by first | rfl | (simp [errW_none, errW_some] <;> rfl) | (simp [*, errW_none, errW_some] <;> rfl), by (with_reducible repeat (first | apply Kd.R_alloc | apply Kd.R_drewN | apply Kd.R_drew)); exact HO_7.out, by repeat (first | (with_reducible first | exact HB.out | apply below_alloc | apply pw_below_drewN | apply below_drew1) | exact HB.out)⟩
end Go.Proofs.Ytghnaclpjdhilaa.PA
-- Written for this claim by a program of this session's (ownprint.py), by way of the kit's print and hand-proved texts. Lean checks it.
namespace Go.Proofs.Ytghnaclpjdhilaa.PA
open Go.RowKit Go.Proofs.YtghnaclpjdhilaaW.PrintWords Go.Proofs.YtghnaclpjdhilaaW.PrintLast Go.Proofs.YtghnaclpjdhilaaW.PrintMore
attribute [local go_sem] max2_int min2_int max_two min_two max_three min_three max_four min_four   -- for this text's walks alone
set_option linter.unusedVariables false
set_option linter.unusedSimpArgs false
/-- The loop that turns the extra layers into those that stay, in the row itself. -/
def impl_AfterLayers.l0 : Nat → List Int → Int → Int → Option (List Int)
  | 0, _, _, _ => none
  | k + 1, x8, x18, x19 => if x19 < x18 then (if 0 ≤ x19 then (if x19 < (x8.length : Int) then (impl_AfterLayers.l0 k (x8.set (x19 : Int).toNat (mx 0 (wrap64 (-(rd x8 x19))))) x18 (wrap64 (x19 + 1))) else (none)) else (none)) else (some x8)
def impl_AfterLayers.f (k : Nat) (l0 : List Int) (l1 : List Int) (a2 : Int) : Option (List Int × Bool) := (impl_MarkerOk.f k l0 l1).bind fun m => (if m = true then ((impl_within.f a2 0 1000).bind fun t => (if t = true then ((impl_ExtraOf.f k l0 l1 a2).bind fun e => (if 0 < e.length then ((impl_AfterLayers.l0 k e (e.length : Int) 0).bind fun r => (some (r, true))) else (none))) else (some (([] : List Int), false)))) else (some (([] : List Int), false)))
theorem afterLayers_nil (w : World) : (binOp .eql 22 (.slice none 0 0) (.slice none 0 0)).run Try.prog w = .ok (.bool true) w := run_eql_slice_nil w 22 3 none 0 0 (by kernel_rfl)
theorem afterLayers_some (w : World) (a : Addr) (n c : Nat) : (binOp .eql 22 (.slice (some a) n c) (.slice none 0 0)).run Try.prog w = .ok (.bool false) w := run_eql_slice_nil w 22 3 (some a) n c (by kernel_rfl)
attribute [local go_sem] afterLayers_nil afterLayers_some
set_option maxHeartbeats 8000000 in
set_option maxRecDepth 100000 in
theorem impl_AfterLayers.calls (k : Nat) (A0 : Option Addr) (c0 : Nat) (l0 : List Int) (A1 : Option Addr) (c1 : Nat) (l1 : List Int) (a2 : Int) (r1 : List Int) (r2 : Bool) (w : World) (hr0 : Kd.C (Kd.int .i64) w A0 l0.length l0) (hc0 : l0.length ≤ c0) (hr1 : Kd.C (Kd.int .i64) w A1 l1.length l1) (hc1 : l1.length ≤ c1) (h : impl_AfterLayers.f k l0 l1 a2 = some (r1, r2)) :
    Calls Try.prog 17 #[.slice A0 l0.length c0, .slice A1 l1.length c1, .int .i64 a2] w fun e w' => ∃ v0_ : Value, e = .returned (.tuple #[v0_, .bool r2]) ∧ Kd.R (Kd.int .i64) 3 w' w.heap.size (fun _ => True) v0_ r1 ∧ Below w.heap.size w w' := by
  have HR0 := Aside0.mk hr0
  have HC0 := Aside0.mk hc0
  have HR1 := Aside0.mk hr1
  have HC1 := Aside0.mk hc1
  clear hr0 hc0 hr1 hc1
  unfold impl_AfterLayers.f at h
  obtain ⟨m, hm, h⟩ := Option.bind_eq_some_iff.1 h
  have HM := Aside0.mk hm
  clear hm
  by_cases cm : m = true
  case neg =>
    rw [if_neg cm] at h
    obtain rfl : m = false := by simpa using cm
    clear cm
    simp only [Option.some.injEq, Prod.mk.injEq] at h
    obtain ⟨rfl, rfl⟩ := h
    go_enter Try.func17, Try.ntmps17
    go_wp2_with (first | (go_at_call 25; refine (impl_MarkerOk.calls k A0 c0 l0 A1 c1 l1 false _ HR0.out HC0.out HR1.out HC1.out HM.out).mono ?_; rintro e w1 ⟨rfl, hb⟩; have HB := Aside0.mk hb; clear hb) | (go_at_call 13; go_in))
    go_ret2
    exact ⟨_, rfl, Kd.R_nil _ _ _ _ _, HB.out⟩
  rw [if_pos cm] at h
  subst cm
  obtain ⟨t, ht, h⟩ := Option.bind_eq_some_iff.1 h
  have HT := Aside0.mk ht
  clear ht
  by_cases ct : t = true
  case neg =>
    rw [if_neg ct] at h
    obtain rfl : t = false := by simpa using ct
    clear ct
    simp only [Option.some.injEq, Prod.mk.injEq] at h
    obtain ⟨rfl, rfl⟩ := h
    go_enter Try.func17, Try.ntmps17
    go_wp2_with (first | (go_at_call 25; refine (impl_MarkerOk.calls k A0 c0 l0 A1 c1 l1 true _ HR0.out HC0.out HR1.out HC1.out HM.out).mono ?_; rintro e w1 ⟨rfl, hb⟩; have HB := Aside0.mk hb; clear hb) | (go_at_call 29; refine (impl_within.calls a2 0 1000 false _ HT.out).mono ?_; rintro e w2 ⟨rfl, hd⟩; have HB2 := Aside0.mk (below_then HB.out HB.out.size hd.below); clear hd) | (go_at_call 13; go_in))
    go_ret2
    exact ⟨_, rfl, Kd.R_nil _ _ _ _ _, HB2.out⟩
  rw [if_pos ct] at h
  subst ct
  clear HM HT
  obtain ⟨x, hx, h⟩ := Option.bind_eq_some_iff.1 h
  have HX := Aside0.mk hx
  clear hx
  by_cases cx : 0 < x.length
  case neg => rw [if_neg cx] at h; cases h
  rw [if_pos cx] at h
  obtain ⟨r, hr, h⟩ := Option.bind_eq_some_iff.1 h
  simp only [Option.some.injEq, Prod.mk.injEq] at h
  obtain ⟨rfl, rfl⟩ := h
  have H' := Aside0.mk hr
  have CX := Aside0.mk cx
  clear hr cx
  go_enter Try.func17, Try.ntmps17
  go_wp2_with fail
  refine (impl_ExtraOf.calls k A0 c0 l0 A1 c1 l1 a2 x _ HR0.out HC0.out HR1.out HC1.out HX.out).mono ?_
  rintro e w1 ⟨v0, rfl, ho, hb⟩
  have HO := Aside0.mk ho
  have HB := Aside0.mk hb
  clear ho hb
  obtain ⟨g, cap, rfl, hg0, hg1, hg2⟩ := Kd.R_form HO.out CX.out
  have HG0 := Aside0.mk hg0
  clear hg0 hg1 hg2
  have EL : Aside0 (x.length = x.length) := ⟨rfl⟩
  generalize hn : x.length = n at *
  have HN : Aside0 (x.length = n) := ⟨hn⟩
  clear hn EL
  go_wp2
  go_loopg [19] k (fun kq v19 w' => ∃ (x8 : List Int) (i : Int), v19 = .int .i64 i ∧ x8.length = n ∧ Aside0 (impl_AfterLayers.l0 kq x8 (n : Int) i = some r) ∧ Aside0 (kq ≤ k) ∧ Aside0 (Kd.R (Kd.int .i64) 3 w' w.heap.size (fun _ => True) (.slice (some ⟨g, 0, none⟩) n cap) x8) ∧ Aside0 (Below w.heap.size w w'))
  case atStart => exact ⟨x, 0, rfl, HN.out, H', ⟨Nat.le_refl _⟩, HO, HB⟩
  case round =>
    clear H' HO HB
    obtain ⟨x8, i, rfl, hl8, HA, HK1, HO, HB⟩ := hrel
    cases gk with
    | zero => exact absurd HA.out (by simp [impl_AfterLayers.l0])
    | succ k1 =>
      have H := HA.out
      clear HA
      simp only [impl_AfterLayers.l0] at H
      by_cases c3 : i < (n : Int)
      · rw [if_pos c3] at H
        by_cases c4 : 0 ≤ i
        · rw [if_pos c4, if_pos (by omega)] at H
          have H' := Aside0.mk H
          clear H
          have HL8 := Aside0.mk hl8
          obtain ⟨hcell, hfr⟩ := Kd.R_celln 0 HO.out i c4 c3
          have HP7 := Kd.R_putg HO.out i (mx 0 (wrap64 (-(rd x8 i))))
          obtain ⟨y, hy⟩ : ∃ y, y = rd x8 i := ⟨_, rfl⟩
          replace hcell : wr.cell? ⟨g, i.toNat, none⟩ = some (.int .i64 y) := by rw [hy]; simpa [Kd.int, rdOf, rd] using hcell
          rw [← hy] at HP7 H'
          replace hfr : wr.frozen? ⟨g, i.toNat, none⟩ = false := by simpa using hfr
          have HY := Aside0.mk hy
          clear hy
          obtain ⟨x9, hx9⟩ : ∃ z, z = x8.set i.toNat (mx 0 (wrap64 (-y))) := ⟨_, rfl⟩
          have HL9 : Aside0 (x9.length = n) := ⟨by rw [hx9, List.length_set]; exact HL8.out⟩
          rw [← hx9] at HP7 H'
          have HP := Aside0.mk HP7
          clear HP7 hx9 hl8
          have d3 : decide (i < (n : Int)) = true := decide_eq_true c3
          have d4 : decide (0 ≤ i) = true := decide_eq_true c4
          replace c3 := eq_true c3
          replace c4 := eq_true c4
          go_wp2_with (first | ((with_reducible refine gate_store (t := 3) (p := 29) rfl ?_); refine store_event (t := 3) (p := 29) (v := ?vo) (w1 := (wr.setCell ⟨g, i.toNat, none⟩ (.int .i64 (mx 0 (wrap64 (-y)))))) ?hg ?ho ?hn ?hr ?_; (case ho => rfl); (case hg => rfl); (case hn => rfl); (case hr => first | (go_simp; done) | (go_simp; rfl)); intro w8 hw; have hp : Aside0 (Kd.R (Kd.int .i64) 3 w8 w.heap.size (fun _ => True) (.slice (some ⟨g, 0, none⟩) n cap) x9) := ⟨by rw [hw]; exact HP.out.1⟩; have hq : Aside0 (Below w.heap.size w w8) := ⟨by rw [hw]; exact below_set HB.out HG0.out⟩; clear HO HB HP; have HO := hp; have HB := hq; clear hp hq hw))
          all_goals
            go_roundg k1
            case measure => have := HK1.out; omega
            case rel => exact ⟨x9, wrap64 (i + 1), (by first | rfl | (simp; done) | (simp [*]; done)), HL9.out, H', ⟨by have := HK1.out; omega⟩, HO, HB⟩
        · rw [if_neg c4] at H
          cases H
      · rw [if_neg c3] at H
        obtain rfl := Option.some.inj H
        clear H
        go_wp2
        go_ret2
        exact ⟨_, rfl, HO.out, HB.out⟩
end Go.Proofs.Ytghnaclpjdhilaa.PA
-- Written for this claim by a program of this session's (ownprint.py), by way of the kit's print and hand-proved texts. Lean checks it.
namespace Go.Proofs.Ytghnaclpjdhilaa.PA
open Go.RowKit Go.Proofs.YtghnaclpjdhilaaW.PrintWords Go.Proofs.YtghnaclpjdhilaaW.PrintLast Go.Proofs.YtghnaclpjdhilaaW.PrintMore
attribute [local go_sem] max2_int min2_int max_two min_two max_three min_three max_four min_four   -- for this text's walks alone
set_option linter.unusedVariables false
set_option linter.unusedSimpArgs false
/-- A copy of a slice: the same list, in a row of its own. -/
def slices_Clone_int_int.f (l0 : List Int) : Option (List Int) := if l0.length < 17592186044416 then some l0 else none
theorem clone_nil (w : World) (n c : Nat) : (binOp .eql 22 (.slice none n c) (.slice none 0 0)).run Try.prog w = .ok (.bool true) w := run_eql_slice_nil w 22 3 none n c (by kernel_rfl)
theorem clone_some (w : World) (a : Addr) (n c : Nat) : (binOp .eql 22 (.slice (some a) n c) (.slice none 0 0)).run Try.prog w = .ok (.bool false) w := run_eql_slice_nil w 22 3 (some a) n c (by kernel_rfl)
attribute [local go_sem] clone_nil clone_some
set_option maxHeartbeats 8000000 in
set_option maxRecDepth 100000 in
theorem slices_Clone_int_int.calls (A0 : Option Addr) (c0 : Nat) (l0 : List Int) (r : List Int) (w : World) (hr0 : Kd.C (Kd.int .i64) w A0 l0.length l0) (hc0 : l0.length ≤ c0) (h : slices_Clone_int_int.f l0 = some r) :
    Calls Try.prog 35 #[.slice A0 l0.length c0] w fun e w' => ∃ v0_ : Value, e = .returned (v0_) ∧ Kd.R (Kd.int .i64) 3 w' w.heap.size (fun _ => True) v0_ r ∧ Below w.heap.size w w' := by
  unfold slices_Clone_int_int.f at h
  by_cases hl : l0.length < 17592186044416
  case neg => rw [if_neg hl] at h; cases h
  rw [if_pos hl] at h
  obtain rfl := Option.some.inj h
  clear h
  cases A0 with
  | none =>
    have h0 : l0 = [] := by
      by_cases hp : 0 < l0.length
      · obtain ⟨ad, he, _⟩ := hr0.2.2 hp
        cases he
      · exact List.eq_nil_of_length_eq_zero (by omega)
    subst h0
    clear hr0
    go_enter Try.func35, Try.ntmps35
    go_wp2
    go_ret
    exact ⟨_, rfl, Kd.R_nil _ _ _ _ _, Below.refl _ _⟩
  | some ad =>
    have HR := Aside0.mk hr0
    have HL := Aside0.mk hl
    clear hr0 hl
    go_enter Try.func35, Try.ntmps35
    go_wp2_with (first | ((with_reducible refine gate_dst (N := 5) rfl ?_); refine Kd.R_lit (Kd.int .i64) _ 3 ?hg (N := 5) ?hd (xs := ([] : List Int)) (inner := []) (ok := fun _ => True) (okp := fun _ => True) ?hr ?hp (fun _ hk => hk) trivial (Below.refl _ _) (Nat.le_refl _) (by simp) ?_; (case hd => rfl); (case hg => rfl); (case hr => first | (go_simp; done) | (go_simp; rfl)); (case hp => exact (Reps.none _ _)); intro v1 w1 ho1 hb1 hg_ hnew_; clear hg_ hnew_; have HO1 := Aside0.mk ho1; have HB1 := Aside0.mk hb1; clear ho1 hb1) | ((with_reducible refine gate_builtin (b := .append) (xs := #[.tmp 5, .tmp 6]) rfl ?_); at_builtin; refine Kd.R_append_rows (Kd.int .i64) (w0 := w) w.heap.size rfl (.tmp 5) (.tmp 6) 22 3 (.int .i64 0) 8 rfl Try.underlying22 info3 rfl (by decide) (by omega) v1 ([] : List Int) l0 _ _ _ (fun _ => True) (fun _ => False) rfl rfl ?aO ?aR (fun _ _ h => h) (fun _ h => h.elim) ?aF ?aB ?aS ?aL ?_; (case aR => exact (Kd.C_below HR.out HB1.out)); (case aB => exact HB1.out); (case aF => exact (fun _ _ => trivial)); (case aO => exact HO1.out); (case aS => exact below_size HB1.out); (case aL => have := HL.out; simp; omega); intro v2 w2 ho hb hg hat; have HO2 := Aside0.mk ho; have HB2 := Aside0.mk hb; clear ho hb hg hat HO1 HB1))
    go_ret
    exact ⟨_, rfl, HO2.out, HB2.out⟩
end Go.Proofs.Ytghnaclpjdhilaa.PA
-- Written for this claim by a program of this session's (ownprint.py), by way of the kit's print and hand-proved texts. Lean checks it.
namespace Go.Proofs.Ytghnaclpjdhilaa.PA
open Go.RowKit Go.Proofs.YtghnaclpjdhilaaW.PrintWords Go.Proofs.YtghnaclpjdhilaaW.PrintLast Go.Proofs.YtghnaclpjdhilaaW.PrintMore
attribute [local go_sem] max2_int min2_int max_two min_two max_three min_three max_four min_four   -- for this text's walks alone
set_option linter.unusedVariables false
set_option linter.unusedSimpArgs false
mutual
def impl_BestMarker.g : Nat → List Int → List Int → Int → List Int → Bool → Int → Option (List Int × Bool × Int)
  | 0, _, _, _, _, _, _ => none
  | k + 1, x0, m, left, b, nl, ls => if m.length = x0.length then ((impl_LayersFor.f k x0 m).bind fun n => if 0 ≤ n ∧ (nl = true ∨ n < ls) then (if 0 < m.length ∧ m.length < 17592186044416 then some (m, false, n) else none) else some (b, nl, ls)) else (if m.length < 1000 then impl_BestMarker.l k x0 m left b nl ls 0 else none)
def impl_BestMarker.l : Nat → List Int → List Int → Int → List Int → Bool → Int → Int → Option (List Int × Bool × Int)
  | 0, _, _, _, _, _, _, _ => none
  | k + 1, x0, m, left, b, nl, ls, x8 => if x8 ≤ left then ((impl_BestMarker.g k x0 (m ++ [x8]) (wrap64 (left - x8)) b nl ls).bind fun t => impl_BestMarker.l k x0 m left t.1 t.2.1 t.2.2 (wrap64 (x8 + 1))) else some (b, nl, ls)
end
def impl_BestMarker.f (k : Nat) (l0 : List Int) (a1 : Int) : Option (List Int × Bool) := (impl_WantedOk.f l0).bind fun t => if t = true then ((impl_sumOf.f k l0).bind fun s => if s = 0 then some ([], false) else ((impl_within.f a1 1 8).bind fun t2 => if t2 = true then ((impl_BestMarker.g k l0 [] a1 [] true 0).bind fun t3 => some (t3.1, !t3.2.1)) else some ([], false))) else some ([], false)
/-- The five cells that the closure holds. -/
structure Cells5 (w0 : World) (bM bW bB bL bG : Nat) : Prop where
  mw : bM ≠ bW
  mb : bM ≠ bB
  ml : bM ≠ bL
  mg : bM ≠ bG
  wb : bW ≠ bB
  wl : bW ≠ bL
  wg : bW ≠ bG
  bl : bB ≠ bL
  bg : bB ≠ bG
  lg : bL ≠ bG
  m0 : w0.heap.size ≤ bM
  b0 : w0.heap.size ≤ bB
  l0 : w0.heap.size ≤ bL
def cel (bM bW bB bL bG k : Nat) : Prop := k = bM ∨ k = bW ∨ k = bB ∨ k = bL ∨ k = bG
def growFn (bM bW bB bL bG : Nat) : Value := .func (.func 34) #[] #[.pointer (some ⟨bM, 0, none⟩), .pointer (some ⟨bW, 0, none⟩), .pointer (some ⟨bB, 0, none⟩), .pointer (some ⟨bL, 0, none⟩), .pointer (some ⟨bG, 0, none⟩)]
structure GInv (w0 : World) (bM bW bB bL bG : Nat) (A : Option Addr) (c : Nat) (l0 m b : List Int) (nl : Bool) (ls : Int) (vm vb : Value) (w : World) : Prop where
  hM : w.heap[bM]? = some (.cells #[vm] 22 (0, 0))
  hW : w.heap[bW]? = some (.cells #[.slice A l0.length c] 22 (0, 0))
  hB : w.heap[bB]? = some (.cells #[vb] 22 (0, 0))
  hL : w.heap[bL]? = some (.cells #[.int .i64 ls] 3 (0, 0))
  hG : w.heap[bG]? = some (.cells #[growFn bM bW bB bL bG] 42 (0, 0))
  rM : Kd.R (Kd.int .i64) 3 w w0.heap.size (fun k => ¬ cel bM bW bB bL bG k ∧ some k ≠ vb.ownBlock) vm m
  rB : Kd.R (Kd.int .i64) 3 w w0.heap.size (fun k => ¬ cel bM bW bB bL bG k ∧ some k ≠ vm.ownBlock) vb b
  nil : (nl = true ∧ vb = .slice none 0 0) ∨ (nl = false ∧ ∃ ad n cc, vb = .slice (some ad) n cc)
  below : Below w0.heap.size w0 w
section
variable {w0 w w1 : World} {bM bW bB bL bG : Nat} {A : Option Addr} {c : Nat} {l0 m b : List Int} {nl : Bool} {ls : Int} {vm vb : Value}
theorem GInv.step (h : GInv w0 bM bW bB bL bG A c l0 m b nl ls vm vb w) (hb : Below w.heap.size w w1) : GInv w0 bM bW bB bL bG A c l0 m b nl ls vm vb w1 :=
  ⟨(hb.block _ (blk_lt h.hM)).trans h.hM, (hb.block _ (blk_lt h.hW)).trans h.hW, (hb.block _ (blk_lt h.hB)).trans h.hB, (hb.block _ (blk_lt h.hL)).trans h.hL, (hb.block _ (blk_lt h.hG)).trans h.hG, Kd.R_below h.rM hb, Kd.R_below h.rB hb, h.nil, below_then h.below h.below.size hb⟩
theorem GInv.app (h : GInv w0 bM bW bB bL bG A c l0 m b nl ls vm vb w) (D : Cells5 w0 bM bW bB bL bG) {v' : Value} {m' : List Int} (ho : Kd.R (Kd.int .i64) 3 w1 w0.heap.size (fun k => ¬ cel bM bW bB bL bG k ∧ some k ≠ vb.ownBlock) v' m') (hg : w.grownBy w1 vm.ownBlock) (hat : v'.ownBlock = vm.ownBlock ∨ ∃ q, v'.ownBlock = some q ∧ w.heap.size ≤ q) (hb : Below w0.heap.size w0 w1) :
    GInv w0 bM bW bB bL bG A c l0 m' b nl ls v' vb (w1.setCell ⟨bM, 0, none⟩ v') := by
  have hne : ∀ k, cel bM bW bB bL bG k → some k ≠ vm.ownBlock := fun k hk e => (h.rM.1 k e.symm).1 hk
  have eM := (hg.block _ (blk_lt h.hM) (hne _ (.inl rfl))).trans h.hM
  have eW := (hg.block _ (blk_lt h.hW) (hne _ (.inr (.inl rfl)))).trans h.hW
  have eB := (hg.block _ (blk_lt h.hB) (hne _ (.inr (.inr (.inl rfl))))).trans h.hB
  have eL := (hg.block _ (blk_lt h.hL) (hne _ (.inr (.inr (.inr (.inl rfl)))))).trans h.hL
  have eG := (hg.block _ (blk_lt h.hG) (hne _ (.inr (.inr (.inr (.inr rfl)))))).trans h.hG
  refine ⟨by simpa using blk_set eM 0 v', blk_far eW D.mw.symm _, blk_far eB D.mb.symm _, blk_far eL D.ml.symm _, blk_far eG D.mg.symm _, Kd.R_far ho (fun k hk e => hk.1 (.inl e)) _, Kd.R_far (Kd.R_after h.rB hg hat) (fun k hk e => hk.1 (.inl e)) _, h.nil, below_set hb D.m0⟩
theorem GInv.cut (D : Cells5 w0 bM bW bB bL bG) {A1 : Option Addr} {n cc j : Nat} (h : GInv w0 bM bW bB bL bG A c l0 m b nl ls (.slice A1 n cc) vb w) (hj : j ≤ m.length) :
    GInv w0 bM bW bB bL bG A c l0 (m.take j) b nl ls (.slice A1 j cc) vb (w.setCell ⟨bM, 0, none⟩ (.slice A1 j cc)) := by
  have eo : (Value.slice A1 j cc).ownBlock = (Value.slice A1 n cc).ownBlock := by cases A1 <;> rfl
  refine ⟨by simpa using blk_set h.hM 0 (.slice A1 j cc), blk_far h.hW D.mw.symm _, blk_far h.hB D.mb.symm _, blk_far h.hL D.ml.symm _, blk_far h.hG D.mg.symm _, Kd.R_far (Kd.R_take h.rM hj) (fun k hk e => hk.1 (.inl e)) _, ?_, h.nil, below_set h.below D.m0⟩
  rw [eo]
  exact Kd.R_far h.rB (fun k hk e => hk.1 (.inl e)) _
theorem GInv.best (h : GInv w0 bM bW bB bL bG A c l0 m b nl ls vm vb w) (D : Cells5 w0 bM bW bB bL bG) {ad : Addr} {n cc : Nat} (ho : Kd.R (Kd.int .i64) 3 w1 w.heap.size (fun _ => True) (.slice (some ad) n cc) m) (hb : Below w.heap.size w w1) (ls' : Int) :
    GInv w0 bM bW bB bL bG A c l0 m m false ls' vm (.slice (some ad) n cc) ((w1.setCell ⟨bB, 0, none⟩ (.slice (some ad) n cc)).setCell ⟨bL, 0, none⟩ (.int .i64 ls')) := by
  have eM := (hb.block _ (blk_lt h.hM)).trans h.hM
  have eW := (hb.block _ (blk_lt h.hW)).trans h.hW
  have eB := (hb.block _ (blk_lt h.hB)).trans h.hB
  have eL := (hb.block _ (blk_lt h.hL)).trans h.hL
  have eG := (hb.block _ (blk_lt h.hG)).trans h.hG
  have hcel : ∀ k, cel bM bW bB bL bG k → k < w.heap.size := by
    rintro k (rfl | rfl | rfl | rfl | rfl)
    · exact blk_lt h.hM
    · exact blk_lt h.hW
    · exact blk_lt h.hB
    · exact blk_lt h.hL
    · exact blk_lt h.hG
  have r1 : Kd.R (Kd.int .i64) 3 w1 w0.heap.size (fun k => ¬ cel bM bW bB bL bG k ∧ some k ≠ vm.ownBlock) (.slice (some ad) n cc) m :=
    Kd.R_lower (Kd.R_mono (Kd.R_bound ho) (fun k hk => ⟨fun z => by have := hcel k z; have := hk.2.1; omega, fun z => by have := Kd.R_lt h.rM k z.symm; have := hk.2.1; omega⟩)) h.below.size
  have r2 : Kd.R (Kd.int .i64) 3 w1 w0.heap.size (fun k => ¬ cel bM bW bB bL bG k ∧ some k ≠ (Value.slice (some ad) n cc).ownBlock) vm m :=
    Kd.R_mono (Kd.R_elder h.rM ho hb) (fun k hk => ⟨hk.1.1, hk.2⟩)
  have e2 : (w1.setCell ⟨bB, 0, none⟩ (.slice (some ad) n cc)).heap[bB]? = some (.cells #[.slice (some ad) n cc] 22 (0, 0)) := by simpa using blk_set eB 0 (.slice (some ad) n cc)
  have e3 : (w1.setCell ⟨bB, 0, none⟩ (.slice (some ad) n cc)).heap[bL]? = some (.cells #[.int .i64 ls] 3 (0, 0)) := blk_far eL D.bl.symm _
  refine ⟨blk_far (blk_far eM D.mb _) D.ml _, blk_far (blk_far eW D.wb _) D.wl _, blk_far e2 D.bl _, by simpa using blk_set e3 0 (.int .i64 ls'), blk_far (blk_far eG D.bg.symm _) D.lg.symm _, ?_, ?_, .inr ⟨rfl, ad, n, cc, rfl⟩, below_set (below_set (below_then h.below h.below.size hb) D.b0) D.l0⟩
  · exact Kd.R_far (Kd.R_far r2 (fun k hk e => hk.1 (.inr (.inr (.inl e)))) _) (fun k hk e => hk.1 (.inr (.inr (.inr (.inl e))))) _
  · exact Kd.R_far (Kd.R_far r1 (fun k hk e => hk.1 (.inr (.inr (.inl e)))) _) (fun k hk e => hk.1 (.inr (.inr (.inr (.inl e))))) _
end
theorem GInv.keepM {w0 w w1 : World} {bM bW bB bL bG : Nat} {A : Option Addr} {c : Nat} {l0 m b : List Int} {nl : Bool} {ls : Int} {vm vb : Value} (h : GInv w0 bM bW bB bL bG A c l0 m b nl ls vm vb w) (hg : w.grownBy w1 vm.ownBlock) : w1.heap[bM]? = some (.cells #[vm] 22 (0, 0)) :=
  (hg.block _ (blk_lt h.hM) (fun e => (h.rM.1 _ e.symm).1 (.inl rfl))).trans h.hM
theorem GInv.fresh {w0 w : World} {bM bW bB bL bG : Nat} {A : Option Addr} {c : Nat} {l0 m b : List Int} {nl : Bool} {ls : Int} {vm vb : Value} (h : GInv w0 bM bW bB bL bG A c l0 m b nl ls vm vb w) : ∀ k, w.heap.size ≤ k → ¬ cel bM bW bB bL bG k ∧ some k ≠ vb.ownBlock := by
  intro k hk
  refine ⟨?_, fun z => by have := Kd.R_lt h.rB k z.symm; omega⟩
  rintro (rfl | rfl | rfl | rfl | rfl)
  · have := blk_lt h.hM; omega
  · have := blk_lt h.hW; omega
  · have := blk_lt h.hB; omega
  · have := blk_lt h.hL; omega
  · have := blk_lt h.hG; omega
theorem cell_of_1 {w : World} {g t : Nat} {v : Value} (h : w.heap[g]? = some (.cells #[v] t (0, 0))) : w.cell? ⟨g, 0, none⟩ = some v ∧ w.frozen? ⟨g, 0, none⟩ = false := by
  constructor
  · simp [World.cell?, h]
  · simp [World.frozen?, h]
theorem best_nil (w : World) (n c : Nat) : (binOp .eql 22 (.slice none n c) (.slice none 0 0)).run Try.prog w = .ok (.bool true) w := run_eql_slice_nil w 22 3 none n c (by kernel_rfl)
theorem best_some (w : World) (a : Addr) (n c : Nat) : (binOp .eql 22 (.slice (some a) n c) (.slice none 0 0)).run Try.prog w = .ok (.bool false) w := run_eql_slice_nil w 22 3 (some a) n c (by kernel_rfl)
attribute [local go_sem] best_nil best_some
set_option maxHeartbeats 4000000 in
set_option maxRecDepth 100000 in
theorem impl_BestMarker_1.calls (w0 : World) (bM bW bB bL bG : Nat) (A : Option Addr) (c : Nat) (l0 : List Int) (D : Cells5 w0 bM bW bB bL bG) (hr0 : Kd.C (Kd.int .i64) w0 A l0.length l0) (hc0 : l0.length ≤ c) (eg : ∀ args w, (callFunc 34 args).run Try.prog w = .ok (.enter 34 args) w) (k : Nat) :
    ∀ (m b : List Int) (left : Int) (nl : Bool) (ls : Int) (vm vb : Value) (w : World) (r : List Int × Bool × Int), impl_BestMarker.g k l0 m left b nl ls = some r → GInv w0 bM bW bB bL bG A c l0 m b nl ls vm vb w →
    Calls Try.prog 34 #[.int .i64 left, .pointer (some ⟨bM, 0, none⟩), .pointer (some ⟨bW, 0, none⟩), .pointer (some ⟨bB, 0, none⟩), .pointer (some ⟨bL, 0, none⟩), .pointer (some ⟨bG, 0, none⟩)] w fun e w' => e = .returned (.tuple #[]) ∧ ∃ vm' vb', GInv w0 bM bW bB bL bG A c l0 m r.1 r.2.1 r.2.2 vm' vb' w' := by
  induction k using Nat.strongRecOn with
  | _ k ih =>
  intro m b left nl ls vm vb w r h hI
  cases k with
  | zero => simp [impl_BestMarker.g] at h
  | succ k =>
  rw [impl_BestMarker.g] at h
  obtain ⟨Am, cm, rfl⟩ := Kd.R_slice hI.rM
  have cM := (cell_of_1 hI.hM).1
  have cW := (cell_of_1 hI.hW).1
  have hci := Kd.C_below hr0 hI.below
  by_cases c1 : m.length = l0.length
  · rw [if_pos c1] at h
    obtain ⟨n, hn, h⟩ := Option.bind_eq_some_iff.1 h
    have c1z : (m.length : Int) = (l0.length : Int) := by omega
    have cB := (cell_of_1 hI.hB).1
    have cL := (cell_of_1 hI.hL).1
    have HI := Aside0.mk hI
    have H := Aside0.mk h
    have HN := Aside0.mk hn
    have HR := Aside0.mk hci
    have HR0 := Aside0.mk hr0
    have HC := Aside0.mk hc0
    have HM := Aside0.mk (Kd.R_reads' hI.rM)
    clear hI h hn hci hr0 hc0 ih
    go_enter Try.func34, Try.ntmps34
    go_wp2_with fail
    have hl := impl_LayersFor.calls k A c l0 Am cm m n w HR.out HC.out HM.out.2.2 HM.out.2.1 HN.out
    rw [c1] at hl
    refine hl.mono ?_
    rintro e1 w1 ⟨rfl, hb⟩
    have HI1 := Aside0.mk (HI.out.step hb)
    have HM1 := Aside0.mk (Kd.R_reads' HI1.out.rM)
    clear hl hb cM cW cB cL HI HM HR
    have cM := (cell_of_1 HI1.out.hM).1
    have cB := (cell_of_1 HI1.out.hB).1
    have cL := (cell_of_1 HI1.out.hL).1
    by_cases q0 : 0 ≤ n
    · rcases HI1.out.nil with ⟨rfl, rfl⟩ | ⟨rfl, ad, nn, cc, rfl⟩
      · have HU : Aside0 ((0 < m.length ∧ m.length < 17592186044416) ∧ (m, false, n) = r) := ⟨by
          have h1 := H.out
          rw [if_pos ⟨q0, .inl rfl⟩] at h1
          by_cases z : 0 < m.length ∧ m.length < 17592186044416
          · rw [if_pos z] at h1; exact ⟨z, Option.some.inj h1⟩
          · rw [if_neg z] at h1; cases h1⟩
        go_wp2_with fail
        have hC := slices_Clone_int_int.calls Am cm m m w1 HM1.out.2.2 HM1.out.2.1 (by unfold slices_Clone_int_int.f; rw [if_pos HU.out.1.2])
        rw [c1] at hC
        refine hC.mono ?_
        rintro e2 w2 ⟨v, rfl, ho, hb⟩
        obtain ⟨g, cap, rfl, hg0, hg1, hg2⟩ := Kd.R_form ho HU.out.1.1
        have fB := (cell_of_1 ((hb.block _ (blk_lt HI1.out.hB)).trans HI1.out.hB)).2
        have cB2 := (cell_of_1 ((hb.block _ (blk_lt HI1.out.hB)).trans HI1.out.hB)).1
        have eL0 := blk_far ((hb.block _ (blk_lt HI1.out.hL)).trans HI1.out.hL) (p := ⟨bB, 0, none⟩) D.bl.symm (.slice (some ⟨g, 0, none⟩) m.length cap)
        rw [c1] at eL0
        have fL := (cell_of_1 eL0).2
        have cL2 := (cell_of_1 eL0).1
        have hf := GInv.best HI1.out D ho hb n
        rw [c1] at hf
        have HF := Aside0.mk hf
        clear eL0 hf ho hb hg0 hg1 hg2 hC
        go_wp2
        first | go_end0 | ((try simp only [Exit.inBlock, Exit.then]); refine bodyPost_ret (results_none rfl _ _ _) rfl ?_)
        exact ⟨rfl, _, _, by rw [← HU.out.2]; exact HF.out⟩
      · by_cases q1 : n < ls
        · have HU : Aside0 ((0 < m.length ∧ m.length < 17592186044416) ∧ (m, false, n) = r) := ⟨by
            have h1 := H.out
            rw [if_pos ⟨q0, .inr q1⟩] at h1
            by_cases z : 0 < m.length ∧ m.length < 17592186044416
            · rw [if_pos z] at h1; exact ⟨z, Option.some.inj h1⟩
            · rw [if_neg z] at h1; cases h1⟩
          go_wp2_with fail
          have hC := slices_Clone_int_int.calls Am cm m m w1 HM1.out.2.2 HM1.out.2.1 (by unfold slices_Clone_int_int.f; rw [if_pos HU.out.1.2])
          rw [c1] at hC
          refine hC.mono ?_
          rintro e2 w2 ⟨v, rfl, ho, hb⟩
          obtain ⟨g, cap, rfl, hg0, hg1, hg2⟩ := Kd.R_form ho HU.out.1.1
          have fB := (cell_of_1 ((hb.block _ (blk_lt HI1.out.hB)).trans HI1.out.hB)).2
          have cB2 := (cell_of_1 ((hb.block _ (blk_lt HI1.out.hB)).trans HI1.out.hB)).1
          have eL0 := blk_far ((hb.block _ (blk_lt HI1.out.hL)).trans HI1.out.hL) (p := ⟨bB, 0, none⟩) D.bl.symm (.slice (some ⟨g, 0, none⟩) m.length cap)
          rw [c1] at eL0
          have fL := (cell_of_1 eL0).2
          have cL2 := (cell_of_1 eL0).1
          have hf := GInv.best HI1.out D ho hb n
          rw [c1] at hf
          have HF := Aside0.mk hf
          clear eL0 hf ho hb hg0 hg1 hg2 hC
          go_wp2
          first | go_end0 | ((try simp only [Exit.inBlock, Exit.then]); refine bodyPost_ret (results_none rfl _ _ _) rfl ?_)
          exact ⟨rfl, _, _, by rw [← HU.out.2]; exact HF.out⟩
        · have HS : Aside0 ((b, false, ls) = r) := ⟨by
            have h1 := H.out
            rw [if_neg (fun z => z.2.elim (fun y => by cases y) q1)] at h1
            exact Option.some.inj h1⟩
          go_wp2
          first | go_end0 | ((try simp only [Exit.inBlock, Exit.then]); refine bodyPost_ret (results_none rfl _ _ _) rfl ?_)
          exact ⟨rfl, _, _, by rw [← HS.out]; exact HI1.out⟩
    · have HS : Aside0 ((b, nl, ls) = r) := ⟨by
        have h1 := H.out
        rw [if_neg (fun z => q0 z.1)] at h1
        exact Option.some.inj h1⟩
      go_wp2
      first | go_end0 | ((try simp only [Exit.inBlock, Exit.then]); refine bodyPost_ret (results_none rfl _ _ _) rfl ?_)
      exact ⟨rfl, _, _, by rw [← HS.out]; exact HI1.out⟩
  · rw [if_neg c1] at h
    by_cases c2 : m.length < 1000
    case neg => rw [if_neg c2] at h; cases h
    rw [if_pos c2] at h
    have c1b : ((m.length : Int) == (l0.length : Int)) = false := beq_eq_false_iff_ne.2 (by omega)
    have HI := Aside0.mk hI
    have H := Aside0.mk h
    have IH := Aside0.mk ih
    have HL0 := Aside0.mk hc0
    clear hI h hci hr0 hc0 ih
    go_enter Try.func34, Try.ntmps34
    go_wp2
    clear cM cW
    go_loopg [8] k (fun kq v8 wr => ∃ (x8 : Int) (b2 : List Int) (nl2 : Bool) (ls2 : Int) (vm2 vb2 : Value), v8 = .int .i64 x8 ∧ Aside0 (impl_BestMarker.l kq l0 m left b2 nl2 ls2 x8 = some r) ∧ Aside0 (kq ≤ k) ∧ Aside0 (GInv w0 bM bW bB bL bG A c l0 m b2 nl2 ls2 vm2 vb2 wr))
    case atStart => exact ⟨0, b, nl, ls, _, vb, rfl, H, ⟨Nat.le_refl _⟩, HI⟩
    case round =>
      clear HI H
      obtain ⟨x8, b2, nl2, ls2, vm2, vb2, rfl, HA, HK, HI⟩ := hrel
      cases gk with
      | zero => exact absurd HA.out (by simp [impl_BestMarker.l])
      | succ k3 =>
        have h := HA.out
        clear HA
        rw [impl_BestMarker.l] at h
        by_cases c3 : x8 ≤ left
        · rw [if_pos c3] at h
          obtain ⟨t, ht, h⟩ := Option.bind_eq_some_iff.1 h
          have H := Aside0.mk h
          have HT := Aside0.mk ht
          clear h ht
          obtain ⟨wo, rfl⟩ : ∃ x, x = wr := ⟨_, rfl⟩
          have cM := (cell_of_1 HI.out.hM).1
          go_wp2_with (first | ((with_reducible refine gate_builtin (b := .append) (xs := #[.tmp 36, .tmp 38]) rfl ?_); at_builtin; refine Kd.R_append (Kd.int .i64) (w0 := w0) w0.heap.size rfl (.tmp 36) (.tmp 38) 22 3 (.int .i64 0) 8 rfl Try.underlying22 info3 rfl (by decide) (by omega) vm2 m x8 [.int .i64 x8] (fun k => ¬ cel bM bW bB bL bG k ∧ some k ≠ vb2.ownBlock) (fun _ => False) rfl rfl ?aP (fun _ hk => hk.elim) ?aF ?aO ?aB ?aS ?aL ?_; (case aP => exact rfl); (case aF => exact HI.out.fresh); (case aO => exact HI.out.rM); (case aB => exact HI.out.below); (case aS => exact HI.out.below.size); (case aL => omega); intro v1 w1 ho hb hg hat; obtain ⟨Av, cv, rfl⟩ := Kd.R_slice ho; rw [show (m ++ [x8]).length = m.length + 1 by simp] at ho hat; have fM := (cell_of_1 (HI.out.keepM hg)).2; have cM1 := (cell_of_1 (HI.out.keepM hg)).1; have HF := Aside0.mk (HI.out.app D ho hg hat hb); have cG := (cell_of_1 HF.out.hG).1; unfold growFn at cG; clear ho hb hg hat) | (go_at_fn 34; refine (IH.out k3 (by have := HK.out; omega) (m ++ [x8]) b2 (wrap64 (left - x8)) nl2 ls2 _ vb2 _ t HT.out HF.out).mono ?_; rintro e w3 ⟨rfl, vm3, vb3, hI3⟩; obtain ⟨A3, c3', rfl⟩ := Kd.R_slice hI3.rM; rw [show (m ++ [x8]).length = m.length + 1 by simp] at hI3; have cM3 := (cell_of_1 hI3.hM).1; have fM3 := (cell_of_1 hI3.hM).2; have hcc := (Kd.R_reads' hI3.rM).2.1; obtain ⟨i0, hi0, _, hsz, _⟩ := info_parts info3; have hcut := cut_to (P := Try.prog) 22 3 .i64 Try.underlying22 hi0 A3 (m.length + 1) c3' (m.length : Int) (by omega) (by omega) hcc; have hw3 : wrap64 (((m.length + 1 : Nat) : Int) - 1) = (m.length : Int) := (by unfold wrap64; omega); have HI3 := Aside0.mk hI3; clear hI3 hi0 hsz hcc))
          have HC3 := Aside0.mk (GInv.cut D HI3.out (j := m.length) (by simp))
          rw [show (m ++ [x8]).take m.length = m by simp] at HC3
          clear hcut hw3 cM3 fM3 cM cM1 fM cG
          go_roundg k3
          case measure => have := HK.out; omega
          case rel => exact ⟨wrap64 (x8 + 1), t.1, t.2.1, t.2.2, _, _, rfl, H, ⟨by have := HK.out; omega⟩, HC3⟩
        · rw [if_neg c3] at h
          have HS := Aside0.mk (Option.some.inj h)
          clear h
          go_wp2
          first | go_end0 | ((try simp only [Exit.inBlock, Exit.then]); refine bodyPost_ret (results_none rfl _ _ _) rfl ?_)
          exact ⟨rfl, _, _, by rw [← HS.out]; exact HI.out⟩
theorem two_cells (w : World) (v0 v1 : Value) (t0 t1 : Nat) : ((w.alloc (.cells #[v0] t0)).alloc (.cells #[v1] t1)).heap[w.heap.size]? = some (.cells #[v0] t0 (0, 0)) ∧ ((w.alloc (.cells #[v0] t0)).alloc (.cells #[v1] t1)).heap[w.heap.size + 1]? = some (.cells #[v1] t1 (0, 0)) := by
  have n : ∀ (W : World) (o : Obj) (k : Nat), W.heap.size = k → (W.alloc o).heap[k]? = some o := fun W o k hk => by subst hk; simpa using heap_alloc_new W o
  exact ⟨blk_alloc (n w _ _ rfl) _, n _ _ _ (by simp)⟩
theorem five_blks (w : World) (o0 o1 o2 o3 o4 : Obj) : Below w.heap.size w (((((w.alloc o0).alloc o1).alloc o2).alloc o3).alloc o4) ∧ (((((w.alloc o0).alloc o1).alloc o2).alloc o3).alloc o4).heap[w.heap.size]? = some o0 ∧ (((((w.alloc o0).alloc o1).alloc o2).alloc o3).alloc o4).heap[w.heap.size + 1]? = some o1 ∧ (((((w.alloc o0).alloc o1).alloc o2).alloc o3).alloc o4).heap[w.heap.size + 1 + 1]? = some o2 ∧ (((((w.alloc o0).alloc o1).alloc o2).alloc o3).alloc o4).heap[w.heap.size + 1 + 1 + 1]? = some o3 ∧ (((((w.alloc o0).alloc o1).alloc o2).alloc o3).alloc o4).heap[w.heap.size + 1 + 1 + 1 + 1]? = some o4 := by
  have n : ∀ (W : World) (o : Obj) (k : Nat), W.heap.size = k → (W.alloc o).heap[k]? = some o := fun W o k hk => by subst hk; simpa using heap_alloc_new W o
  have s1 : (w.alloc o0).heap.size = w.heap.size + 1 := by simp
  have s2 : ((w.alloc o0).alloc o1).heap.size = w.heap.size + 1 + 1 := by simp
  have s3 : (((w.alloc o0).alloc o1).alloc o2).heap.size = w.heap.size + 1 + 1 + 1 := by simp
  have s4 : ((((w.alloc o0).alloc o1).alloc o2).alloc o3).heap.size = w.heap.size + 1 + 1 + 1 + 1 := by simp
  have a : ∀ {W : World} {k : Nat} {o : Obj} (q : Obj), W.heap[k]? = some o → (W.alloc q).heap[k]? = some o := fun {W k o} q hk => ((below_alloc (Below.refl W.heap.size W) q).block k (Array.getElem?_eq_some_iff.1 hk).1).trans hk
  exact ⟨below_alloc (below_alloc (below_alloc (below_alloc (below_alloc (Below.refl _ _) _) _) _) _) _, a _ (a _ (a _ (a _ (n w o0 _ rfl)))), a _ (a _ (a _ (n _ o1 _ s1))), a _ (a _ (n _ o2 _ s2)), a _ (n _ o3 _ s3), n _ o4 _ s4⟩
theorem row_of_blk {W : World} {base g : Nat} {xs : List Int} (hb : W.heap[g]? = some (.cells (xs.map (Value.int .i64)).toArray 3 (0, 0))) (hg : base ≤ g) (hl : xs.length ≤ 9223372036854775807) : Kd.R (Kd.int .i64) 3 W base (fun k_ => k_ = g) (.slice (some ⟨g, 0, none⟩) xs.length xs.length) xs :=
  ⟨fun k hk => by simp [Value.ownBlock] at hk; exact hk.symm, xs.map (Value.int .i64), ⟨by simp [Kd.int, Kd.scalar], .inr ⟨g, xs.length, _, rfl, hg, hb, Nat.le_refl _, hl, by simp [Kd.int, Kd.scalar], by simp [Kd.int, Kd.scalar, List.take_of_length_le]⟩⟩, Kd.reps_scalar _⟩
theorem GInv.start {w w4 : World} {A0 : Option Addr} {c0 : Nat} {l0 : List Int} (hb : Below w.heap.size w w4) (hW : w4.heap[w.heap.size]? = some (.cells #[.slice A0 l0.length c0] 22 (0, 0))) :
    GInv w (w4.heap.size + 1 + 1 + 1) w.heap.size w4.heap.size (w4.heap.size + 1) (w4.heap.size + 1 + 1 + 1 + 1) A0 c0 l0 [] [] true 0 (.slice (some ⟨w4.heap.size + 1 + 1, 0, none⟩) 0 0) (.slice none 0 0)
      (((((w4.alloc (.cells #[.slice none 0 0] 22)).alloc (.cells #[.int .i64 0] 3)).alloc (.cells #[] 3)).alloc (.cells #[.slice (some ⟨w4.heap.size + 1 + 1, 0, none⟩) 0 0] 22)).alloc (.cells #[growFn (w4.heap.size + 1 + 1 + 1) w.heap.size w4.heap.size (w4.heap.size + 1) (w4.heap.size + 1 + 1 + 1 + 1)] 42)) ∧
    Cells5 w (w4.heap.size + 1 + 1 + 1) w.heap.size w4.heap.size (w4.heap.size + 1) (w4.heap.size + 1 + 1 + 1 + 1) := by
  have hlt := blk_lt hW
  have hle := hb.size
  obtain ⟨b5, e0, e1, e2, e3, e4⟩ := five_blks w4 (.cells #[.slice none 0 0] 22) (.cells #[.int .i64 0] 3) (.cells #[] 3) (.cells #[.slice (some ⟨w4.heap.size + 1 + 1, 0, none⟩) 0 0] 22) (.cells #[growFn (w4.heap.size + 1 + 1 + 1) w.heap.size w4.heap.size (w4.heap.size + 1) (w4.heap.size + 1 + 1 + 1 + 1)] 42)
  have eW := (b5.block _ hlt).trans hW
  have hB := below_then hb hle b5
  generalize (((((w4.alloc (.cells #[.slice none 0 0] 22)).alloc (.cells #[.int .i64 0] 3)).alloc (.cells #[] 3)).alloc (.cells #[.slice (some ⟨w4.heap.size + 1 + 1, 0, none⟩) 0 0] 22)).alloc (.cells #[growFn (w4.heap.size + 1 + 1 + 1) w.heap.size w4.heap.size (w4.heap.size + 1) (w4.heap.size + 1 + 1 + 1 + 1)] 42)) = W at *
  have e2' : W.heap[w4.heap.size + 1 + 1]? = some (.cells (([] : List Int).map (Value.int .i64)).toArray 3 (0, 0)) := e2
  refine ⟨⟨e3, eW, e0, e1, e4, ?_, Kd.R_nil _ _ _ _ _, .inl ⟨rfl, rfl⟩, hB⟩, ⟨by omega, by omega, by omega, by omega, by omega, by omega, by omega, by omega, by omega, by omega, by omega, by omega, by omega⟩⟩
  refine Kd.R_mono (row_of_blk (base := w.heap.size) e2' (by omega) (by simp)) (fun k hk => ⟨?_, by simp [Value.ownBlock]⟩)
  subst hk
  rintro (z | z | z | z | z) <;> omega
theorem best_neq_nil (w : World) (n c : Nat) : (binOp .neq 22 (.slice none n c) (.slice none 0 0)).run Try.prog w = .ok (.bool false) w := run_neq_slice_nil w 22 3 none n c (by kernel_rfl)
theorem best_neq_some (w : World) (a : Addr) (n c : Nat) : (binOp .neq 22 (.slice (some a) n c) (.slice none 0 0)).run Try.prog w = .ok (.bool true) w := run_neq_slice_nil w 22 3 (some a) n c (by kernel_rfl)
theorem best_store_func (w : World) (a : Addr) (m : Mode) (fn : Fn) (first captured : Array Value) : (store a (.func fn first captured) m).run Try.prog w = stored Try.prog w a (.func fn first captured) m := run_store Try.prog w a _ m rfl
attribute [local go_sem] best_neq_nil best_neq_some best_store_func
set_option maxHeartbeats 4000000 in
set_option maxRecDepth 100000 in
theorem impl_BestMarker.calls (k : Nat) (A0 : Option Addr) (c0 : Nat) (l0 : List Int) (a1 : Int) (r1 : List Int) (r2 : Bool) (w : World) (hr0 : Kd.C (Kd.int .i64) w A0 l0.length l0) (hc0 : l0.length ≤ c0) (h : impl_BestMarker.f k l0 a1 = some (r1, r2)) :
    Calls Try.prog 19 #[.slice A0 l0.length c0, .int .i64 a1] w fun e w' => ∃ v0_ : Value, e = .returned (.tuple #[v0_, .bool r2]) ∧ Kd.R (Kd.int .i64) 3 w' w.heap.size (fun _ => True) v0_ r1 ∧ Below w.heap.size w w' := by
  have eg : ∀ args w, (callFunc 34 args).run Try.prog w = .ok (.enter 34 args) w := enters_of Try.func34 (by kernel_rfl) rfl
  unfold impl_BestMarker.f at h
  obtain ⟨t, ht, h⟩ := Option.bind_eq_some_iff.1 h
  have HT := Aside0.mk ht
  have HR := Aside0.mk hr0
  have HC := Aside0.mk hc0
  have H := Aside0.mk h
  have hb0 : Below w.heap.size w (w.alloc (.cells #[.slice A0 l0.length c0] 22)) := below_alloc (Below.refl _ _) _
  have HB0 := Aside0.mk hb0
  clear ht hr0 hc0 h hb0
  go_enter Try.func19, Try.ntmps19
  go_wp2_with fail
  refine (impl_WantedOk.calls A0 c0 l0 t _ (Kd.C_below HR.out HB0.out) HC.out HT.out).mono ?_
  rintro e w2 ⟨rfl, hb⟩
  have hW2 : w2.heap[w.heap.size]? = some (.cells #[.slice A0 l0.length c0] 22 (0, 0)) := (hb.block _ (by simp)).trans (by simpa using heap_alloc_new w (.cells #[.slice A0 l0.length c0] 22))
  have HB2 := Aside0.mk (below_then HB0.out HB0.out.size hb)
  have HW2 := Aside0.mk hW2
  have cW2 := (cell_of_1 hW2).1
  have HR2 := Aside0.mk (Kd.C_below HR.out HB2.out)
  clear hW2 hb HB0
  have h := H.out
  clear H
  by_cases c1 : t = true
  · subst c1
    rw [if_pos rfl] at h
    obtain ⟨s, hs, h⟩ := Option.bind_eq_some_iff.1 h
    have HS := Aside0.mk hs
    have H := Aside0.mk h
    clear hs h
    go_wp2_with fail
    refine (impl_sumOf.calls k A0 c0 l0 s _ HR2.out HC.out HS.out).mono ?_
    rintro e w3 ⟨rfl, hd3⟩
    have HB3 : Aside0 (Below w2.heap.size w2 w3) := ⟨by obtain ⟨nd, rfl⟩ := hd3; exact pw_below_drewN (Below.refl _ _) _⟩
    clear hd3
    have h := H.out
    clear H
    by_cases c2 : s = 0
    · subst c2
      rw [if_pos rfl] at h
      have HE := Aside0.mk (Option.some.inj h)
      clear h
      go_wp2
      go_ret2
      have hE1 : r1 = [] := (congrArg Prod.fst HE.out).symm
      have hE2 : r2 = false := (congrArg Prod.snd HE.out).symm
      subst hE1 hE2
      exact ⟨.slice none 0 0, rfl, Kd.R_nil _ _ _ _ _, below_then HB2.out HB2.out.size HB3.out⟩
    · rw [if_neg c2] at h
      have c2b : (s == 0) = false := beq_eq_false_iff_ne.2 c2
      obtain ⟨t2, ht2, h⟩ := Option.bind_eq_some_iff.1 h
      have HT2 := Aside0.mk ht2
      have H := Aside0.mk h
      clear ht2 h c2
      go_wp2_with fail
      refine (impl_within.calls a1 1 8 t2 _ HT2.out).mono ?_
      rintro e w4 ⟨rfl, hd4⟩
      have HB4 : Aside0 (Below w2.heap.size w2 w4) := ⟨by obtain ⟨nd, rfl⟩ := hd4; exact pw_below_drewN HB3.out _⟩
      clear hd4
      have h := H.out
      clear H
      by_cases c3 : t2 = true
      · subst c3
        rw [if_pos rfl] at h
        have H := Aside0.mk h
        clear h cW2
        obtain ⟨e6, e7⟩ := two_cells w4 (.slice none 0 0) (.int .i64 0) 22 3
        have c6 := (cell_of_1 e6).1
        have f6 := (cell_of_1 e6).2
        have e7b := blk_far e7 (p := ⟨w4.heap.size, 0, none⟩) (by simp) (.slice none 0 0)
        have c7 := (cell_of_1 e7b).1
        have f7 := (cell_of_1 e7b).2
        clear e6 e7 e7b
        have hst := GInv.start (A0 := A0) (c0 := c0) (l0 := l0) (w := w) (w4 := w4) (below_then HB2.out HB2.out.size HB4.out) ((HB4.out.block _ (blk_lt HW2.out)).trans HW2.out)
        have HST := Aside0.mk hst
        have e10 := (five_blks w4 (.cells #[.slice none 0 0] 22) (.cells #[.int .i64 0] 3) (.cells #[] 3) (.cells #[.slice (some ⟨w4.heap.size + 1 + 1, 0, none⟩) 0 0] 22) (.cells #[.nilFunc] 42)).2.2.2.2.2
        have c10 := (cell_of_1 e10).1
        have f10 := (cell_of_1 e10).2
        have c11 := (cell_of_1 hst.1.hG).1
        unfold growFn at c11
        obtain ⟨t3, ht3, h3⟩ := Option.bind_eq_some_iff.1 H.out
        have HT3 := Aside0.mk ht3
        have H3 := Aside0.mk (Option.some.inj h3)
        clear hst e10 ht3 h3 H
        go_wp2_with (go_at_fn 34; refine (impl_BestMarker_1.calls w _ _ _ _ _ A0 c0 l0 HST.out.2 HR.out HC.out eg k [] [] a1 true 0 _ _ _ t3 HT3.out HST.out.1).mono ?_; rintro e w7 ⟨rfl, vm7, vb7, hI7⟩; have HI7 := Aside0.mk hI7; have cB7 := (cell_of_1 hI7.hB).1; clear hI7)
        have hn7 := HI7.out.nil
        have hr7 := HI7.out.rB
        have hB7 := HI7.out.below
        have hE1 : t3.1 = r1 := congrArg Prod.fst H3.out
        have hE2 : (!t3.2.1) = r2 := congrArg Prod.snd H3.out
        rcases hn7 with ⟨e1, e2⟩ | ⟨e1, ad, nn, cc, e2⟩
        · rw [e2] at cB7 hr7
          rw [e1] at hE2
          subst hE1 hE2
          have HR7 := Aside0.mk hr7
          have HB7 := Aside0.mk hB7
          clear e1 e2 hr7 hB7 HI7 H3 c10 f10 c11 c6 f6 c7 f7
          go_wp2
          go_quiet (fail)
          all_goals (try go_wp2)
          go_ret2
          exact ⟨.slice none 0 0, rfl, Kd.R_drewN (Kd.R_mono HR7.out (fun _ _ => trivial)) _, pw_below_drewN HB7.out _⟩
        · rw [e2] at cB7 hr7
          rw [e1] at hE2
          subst hE1 hE2
          have HR7 := Aside0.mk hr7
          have HB7 := Aside0.mk hB7
          clear e1 e2 hr7 hB7 HI7 H3 c10 f10 c11 c6 f6 c7 f7
          go_wp2
          go_quiet (fail)
          all_goals (try go_wp2)
          go_ret2
          exact ⟨.slice (some ad) nn cc, rfl, Kd.R_drewN (Kd.R_mono HR7.out (fun _ _ => trivial)) _, pw_below_drewN HB7.out _⟩
      · rw [if_neg c3] at h
        obtain rfl : t2 = false := by simpa using c3
        have HE := Aside0.mk (Option.some.inj h)
        clear h c3
        go_wp2
        go_ret2
        have hE1 : r1 = [] := (congrArg Prod.fst HE.out).symm
        have hE2 : r2 = false := (congrArg Prod.snd HE.out).symm
        subst hE1 hE2
        exact ⟨.slice none 0 0, rfl, Kd.R_nil _ _ _ _ _, below_then HB2.out HB2.out.size HB4.out⟩
  · rw [if_neg c1] at h
    obtain rfl : t = false := by simpa using c1
    have HE := Aside0.mk (Option.some.inj h)
    clear h c1
    go_wp2
    go_ret2
    have hE1 : r1 = [] := (congrArg Prod.fst HE.out).symm
    have hE2 : r2 = false := (congrArg Prod.snd HE.out).symm
    subst hE1 hE2
    exact ⟨.slice none 0 0, rfl, Kd.R_nil _ _ _ _ _, HB2.out⟩
end Go.Proofs.Ytghnaclpjdhilaa.PA
