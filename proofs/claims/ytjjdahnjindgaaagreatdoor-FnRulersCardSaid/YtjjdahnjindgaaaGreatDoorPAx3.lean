-- Written for this claim by a program of this session's (ownprint.py), by way of the kit's print and hand-proved texts. Lean checks it.
import Derived.Test.YtjjdahnjindgaaaGreatDoorPAx0
import Derived.Test.YtjjdahnjindgaaaGreatDoorPAx1
import Derived.Test.YtjjdahnjindgaaaGreatDoorPAx2
namespace Go.Proofs.YtjjdahnjindgaaaGreatDoor.PA
open Go.RowKit Go.Proofs.YtjjdahnjindgaaaGreatDoorW.PrintWords Go.Proofs.YtjjdahnjindgaaaGreatDoorW.PrintLast Go.Proofs.YtjjdahnjindgaaaGreatDoorW.PrintMore
attribute [local go_sem] max2_int min2_int max_two min_two max_three min_three max_four min_four   -- for this text's walks alone
set_option linter.unusedVariables false
set_option linter.unusedSimpArgs false

/-! ### spec_l31New: function 18 (by hand) -/
/-- The reader of draws, n draws on. -/
def spec_l31New.l0 : Nat → List Int → Int → Int → Int → Int → Option (List Int × Int × Int)
  | 0, _, _, _, _, _ => none
  | k + 1, s0, s1, s2, n, i => if i < n then ((spec_l01Byte.f s0 s1 s2).bind fun t => (spec_l31New.l0 k s0 t.2.1 t.2.2 n (wrap64 (i + 1)))) else (some (s0, s1, s2))
def spec_l31New.f (k : Nat) (l0 : List Int) (a1 : Int) : Option (List Int × Int × Int) := (spec_l01New.f k l0).bind fun t => (spec_l31New.l0 k t.1 t.2.1 t.2.2 a1 0)
theorem spec_l31New.mono_l : ∀ k, (∀ y0 y1 y2 y3 y4, LeO (spec_l31New.l0 k y0 y1 y2 y3 y4) (spec_l31New.l0 (k + 1) y0 y1 y2 y3 y4))
  | 0 => fun _ _ _ _ _ r h => by simp [spec_l31New.l0] at h
  | k + 1 => by
    have ih0 := spec_l31New.mono_l k
    · intro y0 y1 y2 y3 y4
      unfold spec_l31New.l0
      repeat' first
      | (with_reducible exact ih0 _ _ _ _ _)
      | (with_reducible exact LeO.refl _)
      | (with_reducible exact LeO.none _)
      | (with_reducible refine LeO.ite ?_ ?_)
      | (with_reducible refine LeO.bind ?_ (fun _ => ?_))
theorem spec_l31New.mono : ∀ a0 a1 k, LeO (spec_l31New.f k a0 a1) (spec_l31New.f (k + 1) a0 a1) := by
  intro a0 a1 k
  have ih0 := spec_l31New.mono_l k
  unfold spec_l31New.f
  exact LeO.bind (spec_l01New.mono _ _) (fun _ => ih0 _ _ _ _ _)
set_option maxHeartbeats 8000000 in
set_option maxRecDepth 100000 in
theorem spec_l31New.calls (k : Nat) (A0 : Option Addr) (c0 : Nat) (l0 : List Int) (a1 : Int) (r1 : List Int) (r2 : Int) (r3 : Int) (w0 w : World) (hB : Below w0.heap.size w0 w) (hr0 : Kd.C (Kd.int .u8) w0 A0 l0.length l0) (hc0 : l0.length ≤ c0) (h : spec_l31New.f k l0 a1 = some (r1, r2, r3)) :
    Calls Tryz.prog 18 #[.slice A0 l0.length c0, .int .i64 a1] w fun e w' => ∃ g_ : Nat, e = .returned (.pointer (some ⟨g_, 0, none⟩)) ∧ IsS77 w0 w' g_ r1 r2 r3 ∧ Below w0.heap.size w0 w' ∧ Below w.heap.size w w' := by
  unfold spec_l31New.f at h
  obtain ⟨⟨t1, t2, t3⟩, ht, h⟩ := Option.bind_eq_some_iff.1 h
  dsimp only at h
  have HC := Aside0.mk (spec_l01New.calls' k A0 c0 l0 t1 t2 t3 w0 w hB hr0 hc0 ht)
  have HB0 := Aside0.mk hB
  have H' := Aside0.mk h
  clear hB hr0 hc0 h ht
  go_enter Tryz.func18, Tryz.ntmps18
  go_wp2_with fail
  refine HC.out.mono ?_
  rintro e w1 ⟨g, rfl, hI, hB1, hW1, hg⟩
  have HG := Aside0.mk hg
  clear hg
  have HI := Aside0.mk hI
  have HB := Aside0.mk hB1
  have HW := Aside0.mk hW1
  clear hI hB1 hW1 HC
  go_wp2
  go_loopg [6] k (fun kq v6 w' => ∃ (s1 s2 i : Int), v6 = .int .i64 i ∧ Aside0 (spec_l31New.l0 kq t1 s1 s2 a1 i = some (r1, r2, r3)) ∧ Aside0 (kq ≤ k) ∧ Aside0 (IsS77 w0 w' g t1 s1 s2) ∧ Aside0 (Below w0.heap.size w0 w') ∧ Aside0 (Below w.heap.size w w'))
  case atStart => exact ⟨t2, t3, 0, (by first | rfl | (simp; done) | (simp [*]; done)), H', ⟨Nat.le_refl _⟩, HI, HB, HW⟩
  case round =>
    clear H' HI HB HW
    obtain ⟨s1, s2, i, rfl, HA, HK1, HI, HB, HW⟩ := hrel
    cases gk with
    | zero => exact absurd HA.out (by simp [spec_l31New.l0])
    | succ k1 =>
      have H := HA.out
      clear HA
      simp only [spec_l31New.l0] at H
      by_cases c2 : i < a1
      · rw [if_pos c2] at H
        have c2b0 : decide (i < a1) = true := decide_eq_true c2
        clear c2
        obtain ⟨⟨u1, u2, u3⟩, hu, H⟩ := Option.bind_eq_some_iff.1 H
        dsimp only at H
        have H' := Aside0.mk H
        have HU := Aside0.mk hu
        clear H hu
        go_wp2_with fail
        refine (spec_l01Byte.calls g t1 s1 s2 u1 u2 u3 w0 _ HI.out HB.out HU.out).mono ?_
        rintro e w2 ⟨rfl, hI2, hB2, hK2⟩
        have HK2 := Aside0.mk hK2
        have HI2 := Aside0.mk hI2
        have HB2 := Aside0.mk hB2
        clear hI2 hB2 hK2
        go_wp2
        go_roundg k1
        case measure => have := HK1.out; omega
        case rel => exact ⟨u2, u3, wrap64 (i + 1), (by first | rfl | (simp; done) | (simp [*]; done)), H', ⟨by have := HK1.out; omega⟩, HI2, HB2, ⟨⟨HB2.out.os.trans (HB.out.os.symm.trans HW.out.os), HB2.out.tape.trans (HB.out.tape.symm.trans HW.out.tape), HB2.out.output.trans (HB.out.output.symm.trans HW.out.output), Nat.le_trans HW.out.size HK2.out.1, fun k_ hk_ => (HK2.out.2 k_ (Nat.lt_of_lt_of_le hk_ HW.out.size) (by have := HG.out; omega) (by simp)).trans (HW.out.block k_ hk_)⟩⟩⟩
      · rw [if_neg c2] at H
        have c2b0 : decide (i < a1) = false := decide_eq_false c2
        clear c2
        simp only [Option.some.injEq, Prod.mk.injEq] at H
        obtain ⟨rfl, rfl, rfl⟩ := H
        go_wp2
        go_ret
        exact ⟨_, rfl, HI.out, HB.out, HW.out⟩

/-! ### spec_MakeRuler: function 4 -/
def spec_MakeRuler.f (k : Nat) (l0 : List Int) (a1 : Int) : Option (List Int) := (spec_l31New.f k l0 a1).bind fun bt132 => ((spec_l22Draw.f k bt132.1 bt132.2.1 bt132.2.2).bind fun bt136 => (some bt136.1))
theorem spec_MakeRuler.mono : ∀ a0 a1 k, LeO (spec_MakeRuler.f k a0 a1) (spec_MakeRuler.f (k + 1) a0 a1) := by
  intro a0 a1 k
  unfold spec_MakeRuler.f
  repeat' first
      | (with_reducible exact spec_l22Draw.mono _ _ _ _)
      | (with_reducible exact spec_l31New.mono _ _ _)
      | (with_reducible exact LeO.refl _)
      | (with_reducible exact LeO.none _)
      | (with_reducible refine LeO.ite ?_ ?_)
      | (with_reducible refine LeO.bind ?_ (fun _ => ?_))
      | exact spec_l22Draw.mono _ _ _ _
      | exact spec_l31New.mono _ _ _
      | exact LeO.none _
      | refine LeO.ite ?_ ?_
      | refine LeO.bind ?_ (fun _ => ?_)
set_option maxHeartbeats 8000000 in
set_option maxRecDepth 100000 in
theorem spec_MakeRuler.calls (k : Nat) (A0 : Option Addr) (c0 : Nat) (l0 : List Int) (a1 : Int) (r : List Int) (w : World) (hr0 : Kd.C (Kd.int .u8) w A0 l0.length l0) (hc0 : l0.length ≤ c0) (h : spec_MakeRuler.f k l0 a1 = some r) :
    Calls Tryz.prog 4 #[.slice A0 l0.length c0, .int .i64 a1] w fun e w' => ∃ v0_ : Value, e = .returned (v0_) ∧ Kd.R (Kd.int .i64) 3 w' w.heap.size (fun _ => True) v0_ r ∧ Below w.heap.size w w' := by
  have HR0 := Aside0.mk hr0
  have HC0 := Aside0.mk hc0
  clear hr0 hc0
  have HB := Aside0.mk (Below.refl w.heap.size w)
  have H : ((spec_l31New.f k l0 a1).bind fun bt132 => ((spec_l22Draw.f k bt132.1 bt132.2.1 bt132.2.2).bind fun bt136 => (some bt136.1))) = some r := h
  clear h
  replace H := Option.bind_eq_some_iff.mp H
  obtain ⟨⟨t132, t133, t134⟩, A30, H⟩ := H
  replace H : ((spec_l22Draw.f k t132 t133 t134).bind fun bt136 => (some bt136.1)) = some r := H
  have A3 := Aside0.mk A30
  clear A30
  replace H := Option.bind_eq_some_iff.mp H
  obtain ⟨⟨t136, t139, t140⟩, A40, H⟩ := H
  replace H : (some t136) = some r := H
  have A4 := Aside0.mk A40
  clear A40
  obtain rfl := Option.some.inj H
  go_enter Tryz.func4, Tryz.ntmps4
  go_wp2_with (first | ((with_reducible refine gate_callee (f := 18) rfl ?_); refine goesL_ (some 7) rfl rfl Tryz.func18 (by kernel_rfl) rfl #[.slice A0 l0.length c0, .int .i64 a1] rfl (by (try simp only [List.map_toArray, List.map_cons, List.map_nil]); first | done | rfl | (simp only [List.length_drop, List.length_take]; rfl)) ?_; (with_reducible refine (spec_l31New.calls k _ _ l0 a1 t132 t133 t134 w _ ?side1 ?side2 ?side3 A3.out).mono ?_); (case side1 => repeat (first | (with_reducible first | exact HB.out | apply below_alloc | apply pw_below_drewN | apply below_drew1) | exact HB.out)); (case side2 => exact HR0.out); (case side3 => exact HC0.out); rintro e w5 ⟨g135, rfl, hi, hb, hb2⟩; refine ⟨_, rfl, ?_⟩; have n0_ := Aside0.mk (hb); have n1_ := Aside0.mk (hi); clear HB; have HB := n0_; have HI135 := n1_; clear n0_ n1_; (try clear hb); (try clear hb2); (try clear hk); (try clear hi)) | ((with_reducible refine gate_callee (f := 17) rfl ?_); refine goesL_ (some 8) rfl rfl Tryz.func17 (by kernel_rfl) rfl #[.pointer (some ⟨g135, 0, none⟩)] rfl (by (try simp only [List.map_toArray, List.map_cons, List.map_nil]); first | done | rfl | (simp only [List.length_drop, List.length_take]; rfl)) ?_; (with_reducible refine (spec_l22Draw.calls k g135 t132 t133 t134 t136 t139 t140 w _ ?side1 ?side2 A4.out).mono ?_); (case side1 => repeat (first | (with_reducible first | exact HI135.out | apply IsS77.alloc | apply IsS77.drewN | apply IsS77.drew | apply IsS77.set_1 | apply IsS77.set_2) | exact HI135.out)); (case side2 => repeat (first | (with_reducible first | exact HB.out | apply below_alloc | apply pw_below_drewN | apply below_drew1 | refine below_set ?_ (IsS77.ge HI135.out)) | exact HB.out)); rintro e w6 ⟨v137, rfl, ho0, hi, hb, hk⟩; refine ⟨_, rfl, ?_⟩; have n0_ := Aside0.mk (Kd.R_lower ho0 (below_size (by repeat (first | (with_reducible first | exact HB.out | apply below_alloc | apply pw_below_drewN | apply below_drew1 | refine below_set ?_ (IsS77.ge HI135.out)) | exact HB.out)))); have n1_ := Aside0.mk (hb); have n2_ := Aside0.mk (hi); clear HB; clear HI135; have HO138 := n0_; have HB := n1_; have HI135 := n2_; clear n0_ n1_ n2_; (try clear hb); (try clear hb2); (try clear hk); (try clear hi); (try clear ho0)))
  go_ret
  exact ⟨_, by first | rfl | (simp [errW_none, errW_some] <;> rfl) | (simp [*, errW_none, errW_some] <;> rfl), by (with_reducible repeat (first | apply Kd.R_alloc | apply Kd.R_drewN | apply Kd.R_drew)); exact HO138.out, by repeat (first | (with_reducible first | exact HB.out | apply below_alloc | apply pw_below_drewN | apply below_drew1 | refine below_set ?_ (IsS77.ge HI135.out)) | exact HB.out)⟩

/-! ### impl_areWithin: function 25 (by hand) -/
set_option maxHeartbeats 1000000 in
/-- slices.IndexFunc at []int: whether an index is found, for a function value that only computes. -/
theorem slices_IndexFunc_int.calls (p : Int → Bool) (g : Nat) (lb : Array Value) (eg : ∀ args w, (callFunc g args).run Tryz.prog w = .ok (.enter g args) w) (A : Option Addr) (c : Nat) (l : List Int) (w : World)
    (hp : ∀ (q : Nat) (x : Int), Calls Tryz.prog g (#[.int .i64 x] ++ lb) (w.drewN q) fun e w' => e = .returned (.bool (p x)) ∧ ∃ q', w' = (w.drewN q).drewN q')
    (hr : Kd.C (Kd.int .i64) w A l.length l) :
    Calls Tryz.prog 56 #[.slice A l.length c, .func (.func g) #[] lb] w fun e w' => ∃ i : Int, e = .returned (.int .i64 i) ∧ decide (0 ≤ i) = l.any p ∧ ∃ q, w' = w.drewN q := by
  have hlen : l.length ≤ 9223372036854775807 := hr.2.1
  have HR : Aside0 (Kd.C (Kd.int .i64) w A l.length l) := ⟨hr⟩
  clear hr
  go_enter Tryz.func56, Tryz.ntmps56
  go_wp2
  go_loopg [5, 8] l.length (fun gg _ s8 wr => ∃ kk q : Nat, kk ≤ l.length ∧ l.length - kk ≤ gg ∧ s8 = .int .i64 kk ∧ wr = w.drewN q ∧ Aside0 (∀ j, j < kk → p (l.getD j 0) = false))
  case atStart => exact ⟨0, 0, Nat.zero_le _, by omega, rfl, rfl, ⟨fun j hj => absurd hj (Nat.not_lt_zero _)⟩⟩
  case round =>
    obtain ⟨kk, q, hkk, hg, rfl, rfl, AA⟩ := hrel
    by_cases hlt : kk < l.length
    · have hltz : (kk : Int) < (l.length : Int) := by omega
      obtain ⟨ad, rfl, hcell⟩ := ReadsOf.at_ (Kd.reads_of_C (d := (0 : Int)) (h1 := fun _ => rfl) HR.out) kk (by omega) hltz
      rw [Int.toNat_natCast] at hcell
      generalize hy : rdOf 0 l kk = y at hcell
      have B : Aside0 (l.getD kk 0 = y) := ⟨by rw [← hy]; simp [rdOf]⟩
      clear hy
      have hcall := hp q y
      cases hq : p y with
      | true =>
        have Q : Aside0 (p y = true) := ⟨hq⟩
        rw [hq] at hcall
        clear hq
        go_wp2_with (go_at_fn g; refine hcall.mono ?_; rintro e w' ⟨rfl, q', rfl⟩)
        go_ret
        refine ⟨_, rfl, ?_, _, rfl⟩
        have h1 : l.any p = true := List.any_eq_true.2 ⟨l.getD kk 0, by rw [List.getD_eq_getElem?_getD, List.getElem?_eq_getElem hlt]; exact List.getElem_mem _, by rw [B.out]; exact Q.out⟩
        rw [h1]
        simp
      | false =>
        have Q : Aside0 (p y = false) := ⟨hq⟩
        rw [hq] at hcall
        clear hq
        go_wp2_with (go_at_fn g; refine hcall.mono ?_; rintro e w' ⟨rfl, q', rfl⟩)
        go_roundg (l.length - (kk + 1))
        case measure => omega
        case rel =>
          refine ⟨kk + 1, _, by omega, by omega, by go_num, rfl, ⟨fun j hj => ?_⟩⟩
          by_cases e : j = kk
          · subst e
            rw [B.out]; exact Q.out
          · exact AA.out j (by omega)
    · have hltz : ¬ (kk : Int) < (l.length : Int) := by omega
      have he : l.any p = false := by
        rw [List.any_eq_false]
        intro x hx
        obtain ⟨j, hj, rfl⟩ := List.getElem_of_mem hx
        have := AA.out j (by omega)
        rw [List.getD_eq_getElem?_getD, List.getElem?_eq_getElem hj] at this
        simpa using this
      have HE : Aside0 (l.any p = false) := ⟨he⟩
      clear he
      go_wp2
      go_ret
      refine ⟨_, rfl, ?_, q, rfl⟩
      rw [HE.out]
      rfl

set_option maxHeartbeats 1000000 in
theorem slices_ContainsFunc_int.calls (p : Int → Bool) (g : Nat) (lb : Array Value) (eg : ∀ args w, (callFunc g args).run Tryz.prog w = .ok (.enter g args) w) (A : Option Addr) (c : Nat) (l : List Int) (w : World)
    (hp : ∀ (q : Nat) (x : Int), Calls Tryz.prog g (#[.int .i64 x] ++ lb) (w.drewN q) fun e w' => e = .returned (.bool (p x)) ∧ ∃ q', w' = (w.drewN q).drewN q')
    (hr : Kd.C (Kd.int .i64) w A l.length l) :
    Calls Tryz.prog 41 #[.slice A l.length c, .func (.func g) #[] lb] w fun e w' => e = .returned (.bool (l.any p)) ∧ ∃ q, w' = w.drewN q := by
  have hc := slices_IndexFunc_int.calls p g lb eg A c l w hp hr
  generalize l.any p = r at hc ⊢
  clear hp hr eg
  go_enter Tryz.func41, Tryz.ntmps41
  go_wp2_with (go_at_call 56; refine hc.mono ?_; rintro e w' ⟨i, rfl, hi, q, rfl⟩)
  go_ret
  exact ⟨rfl, _, rfl⟩

def impl_areWithin.f (l0 : List Int) (a1 : Int) (a2 : Int) : Option (Bool) := some (l0.all fun n => decide (a1 ≤ n) && decide (n ≤ a2))

set_option maxHeartbeats 1000000 in
theorem impl_areWithin_1.calls (x lo hi : Int) (b1 b2 : Nat) (W : World) (h1 : W.cell? ⟨b1, 0, none⟩ = some (.int .i64 lo)) (h2 : W.cell? ⟨b2, 0, none⟩ = some (.int .i64 hi)) :
    Calls Tryz.prog 42 #[.int .i64 x, .pointer (some ⟨b1, 0, none⟩), .pointer (some ⟨b2, 0, none⟩)] W fun e w' => e = .returned (.bool !(decide (lo ≤ x) && decide (x ≤ hi))) ∧ ∃ q', w' = W.drewN q' := by
  by_cases c1 : lo ≤ x
  · by_cases c2 : x ≤ hi
    · go_enter Tryz.func42, Tryz.ntmps42
      go_wp2
      go_ret
      exact ⟨by simp [c1, c2], 0, rfl⟩
    · go_enter Tryz.func42, Tryz.ntmps42
      go_wp2
      go_ret
      exact ⟨by simp [c1, c2], 0, rfl⟩
  · go_enter Tryz.func42, Tryz.ntmps42
    go_wp2
    go_ret
    exact ⟨by simp [c1], 0, rfl⟩

set_option maxHeartbeats 1000000 in
theorem impl_areWithin.calls (A0 : Option Addr) (c0 : Nat) (l0 : List Int) (a1 : Int) (a2 : Int) (r : Bool) (w : World) (hr0 : Kd.C (Kd.int .i64) w A0 l0.length l0) (hc0 : l0.length ≤ c0) (h : impl_areWithin.f l0 a1 a2 = some r) :
    Calls Tryz.prog 25 #[.slice A0 l0.length c0, .int .i64 a1, .int .i64 a2] w fun e w' => e = .returned (.bool r) ∧ Below w.heap.size w w' := by
  have eg : ∀ args w, (callFunc 42 args).run Tryz.prog w = .ok (.enter 42 args) w := enters_of Tryz.func42 (by kernel_rfl) rfl
  have hb0 : Below w.heap.size w ((w.alloc (.cells #[.int .i64 a1] 3)).alloc (.cells #[.int .i64 a2] 3)) := (((Below.refl _ _).alloc (Nat.le_refl _) _).alloc (by simp) _)
  have hc := slices_ContainsFunc_int.calls (fun x => !(decide (a1 ≤ x) && decide (x ≤ a2))) 42 #[.pointer (some ⟨w.heap.size, 0, none⟩), .pointer (some ⟨w.heap.size + 1, 0, none⟩)] eg A0 c0 l0 ((w.alloc (.cells #[.int .i64 a1] 3)).alloc (.cells #[.int .i64 a2] 3))
    (fun q x => impl_areWithin_1.calls x a1 a2 w.heap.size (w.heap.size + 1) _ (by simp) (by simp)) (Kd.C_below hr0 hb0)
  have hh : l0.any (fun x => !(decide (a1 ≤ x) && decide (x ≤ a2))) = !r := by
    have : (l0.all fun n => decide (a1 ≤ n) && decide (n ≤ a2)) = r := by simpa [impl_areWithin.f] using h
    rw [← this]
    simp [List.all_eq_not_any_not]
  rw [hh] at hc
  clear hh h hr0
  go_enter Tryz.func25, Tryz.ntmps25
  go_wp2_with (go_at_call 41; refine hc.mono ?_; rintro e w' ⟨rfl, q, rfl⟩)
  go_ret
  exact ⟨by simp, pw_below_drewN hb0 q⟩

end Go.Proofs.YtjjdahnjindgaaaGreatDoor.PA
