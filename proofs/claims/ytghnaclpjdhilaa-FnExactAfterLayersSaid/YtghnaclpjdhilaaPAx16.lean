-- Written for this claim by a program of this session's (ownprint.py), by way of the kit's print and hand-proved texts. Lean checks it.
import Derived.Test.YtghnaclpjdhilaaPAx0
import Derived.Test.YtghnaclpjdhilaaPAx6
import Derived.Test.YtghnaclpjdhilaaPAx7
import Derived.Test.YtghnaclpjdhilaaPAx12
namespace Go.Proofs.Ytghnaclpjdhilaa.PA
open Go.RowKit Go.Proofs.YtghnaclpjdhilaaW.PrintWords Go.Proofs.YtghnaclpjdhilaaW.PrintLast Go.Proofs.YtghnaclpjdhilaaW.PrintMore
attribute [local go_sem] max2_int min2_int max_two min_two max_three min_three max_four min_four   -- for this text's walks alone
set_option linter.unusedVariables false
set_option linter.unusedSimpArgs false

/-! ### impl_AfterLayers: function 17 (by hand) -/
/-- The loop that turns the extra layers into those that stay, in the row itself. -/
def impl_AfterLayers.l0 : Nat → List Int → Int → Int → Option (List Int)
  | 0, _, _, _ => none
  | k + 1, x8, x18, x19 => if x19 < x18 then (if 0 ≤ x19 then (if x19 < (x8.length : Int) then (impl_AfterLayers.l0 k (x8.set (x19 : Int).toNat (mx 0 (wrap64 (-(rd x8 x19))))) x18 (wrap64 (x19 + 1))) else (none)) else (none)) else (some x8)
def impl_AfterLayers.f (k : Nat) (l0 : List Int) (l1 : List Int) (a2 : Int) : Option (List Int × Bool) := (impl_MarkerOk.f k l0 l1).bind fun m => (if m = true then ((impl_within.f a2 0 1000).bind fun t => (if t = true then ((impl_ExtraOf.f k l0 l1 a2).bind fun e => (if 0 < e.length then ((impl_AfterLayers.l0 k e (e.length : Int) 0).bind fun r => (some (r, true))) else (none))) else (some (([] : List Int), false)))) else (some (([] : List Int), false)))
theorem impl_AfterLayers.mono_l : ∀ k, (∀ y0 y1 y2, LeO (impl_AfterLayers.l0 k y0 y1 y2) (impl_AfterLayers.l0 (k + 1) y0 y1 y2))
  | 0 => fun _ _ _ r h => by simp [impl_AfterLayers.l0] at h
  | k + 1 => by
    have ih0 := impl_AfterLayers.mono_l k
    intro y0 y1 y2
    unfold impl_AfterLayers.l0
    repeat' first
      | (with_reducible exact ih0 _ _ _)
      | (with_reducible exact LeO.refl _)
      | (with_reducible exact LeO.none _)
      | (with_reducible refine LeO.ite ?_ ?_)
      | (with_reducible refine LeO.bind ?_ (fun _ => ?_))
theorem impl_AfterLayers.mono : ∀ a0 a1 a2 k, LeO (impl_AfterLayers.f k a0 a1 a2) (impl_AfterLayers.f (k + 1) a0 a1 a2) := by
  intro a0 a1 a2 k
  unfold impl_AfterLayers.f
  repeat' first
      | (with_reducible exact impl_AfterLayers.mono_l _ _ _ _)
      | (with_reducible exact impl_ExtraOf.mono _ _ _ _)
      | (with_reducible exact impl_MarkerOk.mono _ _ _)
      | (with_reducible exact LeO.refl _)
      | (with_reducible exact LeO.none _)
      | (with_reducible refine LeO.ite ?_ ?_)
      | (with_reducible refine LeO.bind ?_ (fun _ => ?_))
theorem afterLayers_nil (w : World) : (binOp .eql 22 (.slice none 0 0) (.slice none 0 0)).run Try.prog w = .ok (.bool true) w := run_eql_slice_nil w 22 3 none 0 0 (by kernel_rfl)
theorem afterLayers_some (w : World) (a : Addr) (n c : Nat) : (binOp .eql 22 (.slice (some a) n c) (.slice none 0 0)).run Try.prog w = .ok (.bool false) w := run_eql_slice_nil w 22 3 (some a) n c (by kernel_rfl)
attribute [local go_sem] afterLayers_nil afterLayers_some
set_option maxHeartbeats 8000000 in
set_option maxRecDepth 100000 in
theorem impl_AfterLayers.calls (k : Nat) (A0 : Option Addr) (c0 : Nat) (l0 : List Int) (A1 : Option Addr) (c1 : Nat) (l1 : List Int) (a2 : Int) (r1 : List Int) (r2 : Bool) (w : World) (hr0 : Kd.C (Kd.int .i64) w A0 l0.length l0) (hc0 : l0.length ≤ c0) (hr1 : Kd.C (Kd.int .i64) w A1 l1.length l1) (hc1 : l1.length ≤ c1) (h : impl_AfterLayers.f k l0 l1 a2 = some (r1, r2)) :
    Calls Try.prog 17 #[.slice A0 l0.length c0, .slice A1 l1.length c1, .int .i64 a2] w fun e w' => ∃ v0_ : Value, e = .returned (.tuple #[v0_, .bool r2]) ∧ Kd.R (Kd.int .i64) 3 w' w.heap.size (fun _ => True) v0_ r1 ∧ Below w.heap.size w w' := by
  have HR0 := Aside0.mk hr0
  have HC0 := Aside0.mk hc0
  have HR1 := Aside0.mk hr1
  have HC1 := Aside0.mk hc1
  clear hr0 hc0 hr1 hc1
  unfold impl_AfterLayers.f at h
  obtain ⟨m, hm, h⟩ := Option.bind_eq_some_iff.1 h
  have HM := Aside0.mk hm
  clear hm
  by_cases cm : m = true
  case neg =>
    rw [if_neg cm] at h
    obtain rfl : m = false := by simpa using cm
    clear cm
    simp only [Option.some.injEq, Prod.mk.injEq] at h
    obtain ⟨rfl, rfl⟩ := h
    go_enter Try.func17, Try.ntmps17
    go_wp2_with (first | (go_at_call 25; refine (impl_MarkerOk.calls k A0 c0 l0 A1 c1 l1 false _ HR0.out HC0.out HR1.out HC1.out HM.out).mono ?_; rintro e w1 ⟨rfl, hb⟩; have HB := Aside0.mk hb; clear hb) | (go_at_call 13; go_in))
    go_ret2
    exact ⟨_, rfl, Kd.R_nil _ _ _ _ _, HB.out⟩
  rw [if_pos cm] at h
  subst cm
  obtain ⟨t, ht, h⟩ := Option.bind_eq_some_iff.1 h
  have HT := Aside0.mk ht
  clear ht
  by_cases ct : t = true
  case neg =>
    rw [if_neg ct] at h
    obtain rfl : t = false := by simpa using ct
    clear ct
    simp only [Option.some.injEq, Prod.mk.injEq] at h
    obtain ⟨rfl, rfl⟩ := h
    go_enter Try.func17, Try.ntmps17
    go_wp2_with (first | (go_at_call 25; refine (impl_MarkerOk.calls k A0 c0 l0 A1 c1 l1 true _ HR0.out HC0.out HR1.out HC1.out HM.out).mono ?_; rintro e w1 ⟨rfl, hb⟩; have HB := Aside0.mk hb; clear hb) | (go_at_call 29; refine (impl_within.calls a2 0 1000 false _ HT.out).mono ?_; rintro e w2 ⟨rfl, hd⟩; have HB2 := Aside0.mk (below_then HB.out HB.out.size hd.below); clear hd) | (go_at_call 13; go_in))
    go_ret2
    exact ⟨_, rfl, Kd.R_nil _ _ _ _ _, HB2.out⟩
  rw [if_pos ct] at h
  subst ct
  clear HM HT
  obtain ⟨x, hx, h⟩ := Option.bind_eq_some_iff.1 h
  have HX := Aside0.mk hx
  clear hx
  by_cases cx : 0 < x.length
  case neg => rw [if_neg cx] at h; cases h
  rw [if_pos cx] at h
  obtain ⟨r, hr, h⟩ := Option.bind_eq_some_iff.1 h
  simp only [Option.some.injEq, Prod.mk.injEq] at h
  obtain ⟨rfl, rfl⟩ := h
  have H' := Aside0.mk hr
  have CX := Aside0.mk cx
  clear hr cx
  go_enter Try.func17, Try.ntmps17
  go_wp2_with fail
  refine (impl_ExtraOf.calls k A0 c0 l0 A1 c1 l1 a2 x _ HR0.out HC0.out HR1.out HC1.out HX.out).mono ?_
  rintro e w1 ⟨v0, rfl, ho, hb⟩
  have HO := Aside0.mk ho
  have HB := Aside0.mk hb
  clear ho hb
  obtain ⟨g, cap, rfl, hg0, hg1, hg2⟩ := Kd.R_form HO.out CX.out
  have HG0 := Aside0.mk hg0
  clear hg0 hg1 hg2
  have EL : Aside0 (x.length = x.length) := ⟨rfl⟩
  generalize hn : x.length = n at *
  have HN : Aside0 (x.length = n) := ⟨hn⟩
  clear hn EL
  go_wp2
  go_loopg [19] k (fun kq v19 w' => ∃ (x8 : List Int) (i : Int), v19 = .int .i64 i ∧ x8.length = n ∧ Aside0 (impl_AfterLayers.l0 kq x8 (n : Int) i = some r) ∧ Aside0 (kq ≤ k) ∧ Aside0 (Kd.R (Kd.int .i64) 3 w' w.heap.size (fun _ => True) (.slice (some ⟨g, 0, none⟩) n cap) x8) ∧ Aside0 (Below w.heap.size w w'))
  case atStart => exact ⟨x, 0, rfl, HN.out, H', ⟨Nat.le_refl _⟩, HO, HB⟩
  case round =>
    clear H' HO HB
    obtain ⟨x8, i, rfl, hl8, HA, HK1, HO, HB⟩ := hrel
    cases gk with
    | zero => exact absurd HA.out (by simp [impl_AfterLayers.l0])
    | succ k1 =>
      have H := HA.out
      clear HA
      simp only [impl_AfterLayers.l0] at H
      by_cases c3 : i < (n : Int)
      · rw [if_pos c3] at H
        by_cases c4 : 0 ≤ i
        · rw [if_pos c4, if_pos (by omega)] at H
          have H' := Aside0.mk H
          clear H
          have HL8 := Aside0.mk hl8
          obtain ⟨hcell, hfr⟩ := Kd.R_celln 0 HO.out i c4 c3
          have HP7 := Kd.R_putg HO.out i (mx 0 (wrap64 (-(rd x8 i))))
          obtain ⟨y, hy⟩ : ∃ y, y = rd x8 i := ⟨_, rfl⟩
          replace hcell : wr.cell? ⟨g, i.toNat, none⟩ = some (.int .i64 y) := by rw [hy]; simpa [Kd.int, rdOf, rd] using hcell
          rw [← hy] at HP7 H'
          replace hfr : wr.frozen? ⟨g, i.toNat, none⟩ = false := by simpa using hfr
          have HY := Aside0.mk hy
          clear hy
          obtain ⟨x9, hx9⟩ : ∃ z, z = x8.set i.toNat (mx 0 (wrap64 (-y))) := ⟨_, rfl⟩
          have HL9 : Aside0 (x9.length = n) := ⟨by rw [hx9, List.length_set]; exact HL8.out⟩
          rw [← hx9] at HP7 H'
          have HP := Aside0.mk HP7
          clear HP7 hx9 hl8
          have d3 : decide (i < (n : Int)) = true := decide_eq_true c3
          have d4 : decide (0 ≤ i) = true := decide_eq_true c4
          replace c3 := eq_true c3
          replace c4 := eq_true c4
          go_wp2_with (first | ((with_reducible refine gate_store (t := 3) (p := 29) rfl ?_); refine store_event (t := 3) (p := 29) (v := ?vo) (w1 := (wr.setCell ⟨g, i.toNat, none⟩ (.int .i64 (mx 0 (wrap64 (-y)))))) ?hg ?ho ?hn ?hr ?_; (case ho => rfl); (case hg => rfl); (case hn => rfl); (case hr => first | (go_simp; done) | (go_simp; rfl)); intro w8 hw; have hp : Aside0 (Kd.R (Kd.int .i64) 3 w8 w.heap.size (fun _ => True) (.slice (some ⟨g, 0, none⟩) n cap) x9) := ⟨by rw [hw]; exact HP.out.1⟩; have hq : Aside0 (Below w.heap.size w w8) := ⟨by rw [hw]; exact below_set HB.out HG0.out⟩; clear HO HB HP; have HO := hp; have HB := hq; clear hp hq hw))
          all_goals
            go_roundg k1
            case measure => have := HK1.out; omega
            case rel => exact ⟨x9, wrap64 (i + 1), (by first | rfl | (simp; done) | (simp [*]; done)), HL9.out, H', ⟨by have := HK1.out; omega⟩, HO, HB⟩
        · rw [if_neg c4] at H
          cases H
      · rw [if_neg c3] at H
        obtain rfl := Option.some.inj H
        clear H
        go_wp2
        go_ret2
        exact ⟨_, rfl, HO.out, HB.out⟩

end Go.Proofs.Ytghnaclpjdhilaa.PA
