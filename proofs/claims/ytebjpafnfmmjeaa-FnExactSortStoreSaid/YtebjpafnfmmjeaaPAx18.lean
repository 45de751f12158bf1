-- Written for this claim by a program of this session's (ownprint.py), by way of the kit's print and hand-proved texts. Lean checks it.
import Derived.Test.YtebjpafnfmmjeaaPAx0
import Derived.Test.YtebjpafnfmmjeaaPAx17
namespace Go.Proofs.Ytebjpafnfmmjeaa.PA
open Go.RowKit Go.Proofs.YtebjpafnfmmjeaaW.PrintWords Go.Proofs.YtebjpafnfmmjeaaW.PrintLast Go.Proofs.YtebjpafnfmmjeaaW.PrintMore
attribute [local go_sem] max2_int min2_int max_two min_two max_three min_three max_four min_four   -- for this text's walks alone
set_option linter.unusedVariables false
set_option linter.unusedSimpArgs false

/-! ### laws_markIntSS: function 25 (by hand) -/
def laws_markIntSS.f (k : Nat) : List (List Int) → Int → Option (Int × List (List Int))
  | [], a => some (a, [])
  | r :: l, a => (laws_markIntS.f k r a).bind fun b => (laws_markIntSS.f k l b.1).bind fun c => some (c.1, b.2 :: c.2)
theorem setL_mid (pre suf : List (List Int)) (x y : List Int) : (pre ++ x :: suf).set pre.length y = (pre ++ [y]) ++ suf := by
  simp [List.set_append]
theorem Kept_trans {w w1 w2 : World} {S : Nat → Prop} (h : Kept w w1 S) (h' : Kept w1 w2 S) : Kept w w2 S :=
  ⟨Nat.le_trans h.1 h'.1, fun i hi hs => (h'.2 i (Nat.lt_of_lt_of_le hi h.1) hs).trans (h.2 i hi hs)⟩
theorem Kept_mono {w w1 : World} {S S' : Nat → Prop} (h : Kept w w1 S) (hs : ∀ i, S i → S' i) : Kept w w1 S' :=
  ⟨h.1, fun i hi hn => h.2 i hi (fun z => hn (hs i z))⟩

set_option maxHeartbeats 2000000 in
set_option maxRecDepth 100000 in
/-- Every cell of every row is written, and nothing else. -/
theorem laws_markIntSS.calls (k : Nat) (lo hi : Nat) (v : Value) (l0 : List (List Int)) (a1 : Int) (r1 : Int) (r2 : List (List Int)) (w0 w : World) (hB : Below w0.heap.size w0 w) (hlo : w0.heap.size ≤ lo)
    (ho : Kd.S (Kd.slice 3 (Kd.int .i64)) 40 w w0.heap.size (fun k_ => lo ≤ k_ ∧ k_ < hi) v l0) (h : laws_markIntSS.f k l0 a1 = some (r1, r2)) :
    Calls Try.prog 25 #[v, .int .i64 a1] w fun e w' => e = .returned (.int .i64 r1) ∧ Kd.S (Kd.slice 3 (Kd.int .i64)) 40 w' w0.heap.size (fun k_ => lo ≤ k_ ∧ k_ < hi) v r2 ∧ Below w0.heap.size w0 w' ∧ Kept w w' (fun k_ => lo ≤ k_ ∧ k_ < hi) := by
  obtain ⟨A, c, rfl, hlc, hC⟩ := Kd.S_reads ho
  have hlen : l0.length ≤ 9223372036854775807 := hC.2.1
  have HO : Aside0 (Kd.S (Kd.slice 3 (Kd.int .i64)) 40 w w0.heap.size (fun k_ => lo ≤ k_ ∧ k_ < hi) (.slice A l0.length c) l0) := ⟨ho⟩
  have HB : Aside0 (Below w0.heap.size w0 w) := ⟨hB⟩
  have HH : Aside0 (laws_markIntSS.f k l0 a1 = some (r1, r2)) := ⟨h⟩
  clear ho hB h hC hlc
  go_enter Try.func25, Try.ntmps25
  go_wp2
  go_loopg [1, 5] l0.length (fun gg v1 v5 wr => ∃ (pre rest rest' : List (List Int)) (a : Int), v1 = .int .i64 a ∧ v5 = .int .i64 pre.length ∧ rest.length ≤ gg ∧ Aside0 (pre.length + rest.length = l0.length) ∧ Aside0 (laws_markIntSS.f k rest a = some (r1, rest')) ∧ Aside0 (pre ++ rest' = r2) ∧
    Aside0 (Kd.S (Kd.slice 3 (Kd.int .i64)) 40 wr w0.heap.size (fun k_ => lo ≤ k_ ∧ k_ < hi) (.slice A l0.length c) (pre ++ rest)) ∧ Aside0 (Below w0.heap.size w0 wr) ∧ Aside0 (Kept w wr (fun k_ => lo ≤ k_ ∧ k_ < hi)))
  case atStart => exact ⟨[], l0, r2, a1, rfl, rfl, Nat.le_refl _, ⟨by simp⟩, HH, ⟨rfl⟩, HO, HB, ⟨Kept.refl w _⟩⟩
  case round =>
    clear HO HB HH
    obtain ⟨pre, rest, rest', a, rfl, rfl, hgg, HL, HA, HP, HO, HB, HK⟩ := hrel
    cases rest with
    | nil =>
      have hn : ¬ (pre.length : Int) < (l0.length : Int) := by have := HL.out; simp at this; omega
      have hp := HA.out
      simp only [laws_markIntSS.f, Option.some.injEq, Prod.mk.injEq] at hp
      obtain ⟨rfl, rfl⟩ := hp
      have he := HP.out
      rw [List.append_nil] at he
      subst he
      have HO2 : Aside0 (Kd.S (Kd.slice 3 (Kd.int .i64)) 40 wr w0.heap.size (fun k_ => lo ≤ k_ ∧ k_ < hi) (.slice A l0.length c) pre) := ⟨by have := HO.out; rwa [List.append_nil] at this⟩
      clear HO HA HP HL
      go_wp2
      go_ret
      exact ⟨rfl, HO2.out, HB.out, HK.out⟩
    | cons x rest =>
      have hl : pre.length + (rest.length + 1) = l0.length := by have := HL.out; simpa using this
      have hlt : (pre.length : Int) < (l0.length : Int) := by omega
      have hp := HA.out
      simp only [laws_markIntSS.f] at hp
      obtain ⟨b, hb1, hp⟩ := Option.bind_eq_some_iff.1 hp
      obtain ⟨cc, hc1, hp⟩ := Option.bind_eq_some_iff.1 hp
      simp only [Option.some.injEq, Prod.mk.injEq] at hp
      obtain ⟨rfl, rfl⟩ := hp
      obtain ⟨b1, b2⟩ := b
      obtain ⟨c1, c2⟩ := cc
      have HA1 : Aside0 (laws_markIntS.f k x a = some (b1, b2)) := ⟨hb1⟩
      have HA2 : Aside0 (laws_markIntSS.f k rest b1 = some (c1, c2)) := ⟨hc1⟩
      clear HA hb1 hc1
      obtain ⟨g, cap, eA, _⟩ := Kd.S_form HO.out (by simp; omega)
      injection eA with eA eL eC
      subst eA
      obtain ⟨oki, ce, hcl, hM, hcc, hfr, hoki, hH⟩ := Kd.S_elem HO.out [] (pre.length : Int) (by omega) hlt
      obtain ⟨ve, rfl, hR⟩ := hM
      have hx : (pre ++ x :: rest).getD ((pre.length : Int)).toNat [] = x := by simp [List.getD_eq_getElem?_getD]
      rw [hx] at hR
      have hcell : wr.cell? ⟨g, pre.length, none⟩ = some ve := by
        have := hcc 0 ve rfl
        simpa [Kd.slice] using this
      have HH1 := Aside0.mk hH
      have HR := Aside0.mk hR
      have HOK : Aside0 (∀ k, oki k → (lo ≤ k ∧ k < hi) ∧ k ≠ g) := ⟨hoki⟩
      clear hH hR hoki hcc hfr hcl hx HO eL eC HL
      go_wp2_with (go_at_call 47; refine (laws_markIntS.calls k oki ve x a b1 b2 w0 wr HB.out HR.out HA1.out).mono ?_; rintro e w2 ⟨rfl, hR2, hB2, hK2⟩)
      go_roundg rest.length
      case measure => simp at hgg; omega
      case rel =>
        have hS := Kd.H_back (x' := b2) (okp := oki) (Kd.H_step HH1.out (fun k _ hn hs => hK2.2 k hs hn)) ⟨ve, rfl, Kd.R_mono (Kd.R_tight rfl hR2) (fun k hk => HR.out.1 k hk.symm)⟩ (fun k hk => hk)
        rw [Int.toNat_natCast, setL_mid] at hS
        refine ⟨pre ++ [b2], rest, c2, b1, rfl, by simp, Nat.le_refl _, ⟨by simp; omega⟩, HA2, ⟨by rw [List.append_assoc]; exact HP.out⟩, ⟨hS⟩, ⟨hB2⟩, ⟨Kept_trans HK.out (Kept_mono hK2 (fun i hi => (HOK.out i hi).1))⟩⟩

/-! ### laws_heldIntS: function 48 -/
def laws_heldIntS.l0 : Nat → List Int → Int → Int → Option (Int)
  | 0, _, _, _ => none
  | k + 1, x0, x1, x5 => if x5 < (x0.length : Int) then (if 0 ≤ x5 then (if (rd x0 x5) = x1 then (laws_heldIntS.l0 k x0 (wrap64 (x1 + 1)) (wrap64 (x5 + 1))) else (some (-1))) else (none)) else (some x1)
def laws_heldIntS.f (k : Nat) (l0 : List Int) (a1 : Int) : Option (Int) := laws_heldIntS.l0 k l0 a1 0
theorem laws_heldIntS.mono_l : ∀ k, (∀ y0 y1 y2, LeO (laws_heldIntS.l0 k y0 y1 y2) (laws_heldIntS.l0 (k + 1) y0 y1 y2))
  | 0 => fun _ _ _ r h => by simp [laws_heldIntS.l0] at h
  | k + 1 => by
    have ih0 := laws_heldIntS.mono_l k
    · intro y0 y1 y2
      unfold laws_heldIntS.l0
      repeat' first
      | (with_reducible exact ih0 _ _ _)
      | (with_reducible exact LeO.refl _)
      | (with_reducible exact LeO.none _)
      | (with_reducible refine LeO.ite ?_ ?_)
      | (with_reducible refine LeO.bind ?_ (fun _ => ?_))
      | exact ih0 _ _ _
      | exact LeO.none _
      | refine LeO.ite ?_ ?_
      | refine LeO.bind ?_ (fun _ => ?_)
theorem laws_heldIntS.mono : ∀ a0 a1 k, LeO (laws_heldIntS.f k a0 a1) (laws_heldIntS.f (k + 1) a0 a1) := by
  intro a0 a1 k
  have ih0 := laws_heldIntS.mono_l k
  unfold laws_heldIntS.f
  repeat' first
      | (with_reducible exact ih0 _ _ _)
      | (with_reducible exact LeO.refl _)
      | (with_reducible exact LeO.none _)
      | (with_reducible refine LeO.ite ?_ ?_)
      | (with_reducible refine LeO.bind ?_ (fun _ => ?_))
      | exact ih0 _ _ _
      | exact LeO.none _
      | refine LeO.ite ?_ ?_
      | refine LeO.bind ?_ (fun _ => ?_)
set_option maxHeartbeats 8000000 in
set_option maxRecDepth 100000 in
theorem laws_heldIntS.calls (k : Nat) (A0 : Option Addr) (c0 : Nat) (l0 : List Int) (a1 : Int) (r : Int) (w : World) (hr0 : Kd.C (Kd.int .i64) w A0 l0.length l0) (hc0 : l0.length ≤ c0) (h : laws_heldIntS.f k l0 a1 = some r) :
    Calls Try.prog 48 #[.slice A0 l0.length c0, .int .i64 a1] w fun e w' => e = .returned (.int .i64 r) ∧ Drawn0 w w' := by
  have HR0 := Aside0.mk hr0
  have HC0 := Aside0.mk hc0
  clear hr0 hc0
  have H : (laws_heldIntS.l0 k l0 a1 0) = some r := h
  clear h
  have H' := Aside0.mk H
  clear H
  go_enter Try.func48, Try.ntmps48
  go_wp2
  go_loopg [1, 5] k (fun kq v1 v5 w' => ∃ (x1_1 : Int) (x5_1 : Int), v1 = .int .i64 x1_1 ∧ v5 = .int .i64 x5_1 ∧ Aside0 (laws_heldIntS.l0 kq l0 x1_1 x5_1 = some r) ∧ Aside0 (kq ≤ k) ∧ Drawn0 w w')
  case atStart => exact ⟨(a1), (0), (by first | rfl | (simp; done) | (simp [*]; done)), (by first | rfl | (simp; done) | (simp [*]; done)), H', ⟨Nat.le_refl _⟩, by repeat (first | exact Drawn0.refl _ | apply Drawn0.step)⟩
  case round =>
    clear H'
    try clear p2
    obtain ⟨x1_1, x5_1, rfl, rfl, HA, HK1, ⟨m1, rfl⟩⟩ := hrel
    cases gk with
    | zero => exact absurd HA.out (by simp [laws_heldIntS.l0])
    | succ k1 =>
      have H := HA.out
      clear HA
      simp only [laws_heldIntS.l0] at H
      by_cases c3 : x5_1 < (l0.length : Int)
      · rw [if_pos c3] at H
        have c3b0 : decide (x5_1 < (l0.length : Int)) = true := decide_eq_true c3
        clear c3
        by_cases c4 : 0 ≤ x5_1
        · rw [if_pos c4] at H
          have c4b0 : decide (0 ≤ x5_1) = true := decide_eq_true c4
          clear c4
          by_cases c5 : (rd l0 x5_1) = x1_1
          · rw [if_pos c5] at H
            have c5b0 : ((rd l0 x5_1) == x1_1) = true := beq_iff_eq.mpr c5
            have c5b1 : ((rd l0 x5_1) != x1_1) = false := bne_eq_false_iff_eq.mpr c5
            clear c5
            have H' := Aside0.mk H
            clear H
            have p268 : 0 ≤ (x5_1 : Int) := of_decide_eq_true (by first | (with_reducible assumption) | assumption)
            have q268 : x5_1 < (l0.length : Int) := of_decide_eq_true (by first | (with_reducible assumption) | assumption)
            obtain ⟨ad268, e268, hx268_0⟩ := Kd.at_int HR0.out x5_1 p268 q268
            cases e268
            replace p268 := eq_true p268
            replace q268 := eq_true q268
            go_wp2
            go_roundg k1
            case measure => have := HK1.out; omega
            case rel => exact ⟨(wrap64 (x1_1 + 1)), (wrap64 (x5_1 + 1)), (by first | rfl | (simp; done) | (simp [*]; done)), (by first | rfl | (simp; done) | (simp [*]; done)), H', ⟨by have := HK1.out; omega⟩, by repeat (first | exact Drawn0.refl _ | apply Drawn0.step)⟩
          · rw [if_neg c5] at H
            have c5b0 : ((rd l0 x5_1) == x1_1) = false := beq_eq_false_iff_ne.mpr c5
            have c5b1 : ((rd l0 x5_1) != x1_1) = true := bne_iff_ne.mpr c5
            obtain rfl := Option.some.inj H
            have p268 : 0 ≤ (x5_1 : Int) := of_decide_eq_true (by first | (with_reducible assumption) | assumption)
            have q268 : x5_1 < (l0.length : Int) := of_decide_eq_true (by first | (with_reducible assumption) | assumption)
            obtain ⟨ad268, e268, hx268_0⟩ := Kd.at_int HR0.out x5_1 p268 q268
            cases e268
            replace p268 := eq_true p268
            replace q268 := eq_true q268
            go_wp2
            go_ret
            exact ⟨by first | rfl | (simp; done) | (simp [*]; done), by repeat (first | exact Drawn0.refl _ | apply Drawn0.step)⟩
        · rw [if_neg c4] at H
          exact absurd H (by simp)
      · rw [if_neg c3] at H
        have c3b0 : decide (x5_1 < (l0.length : Int)) = false := decide_eq_false c3
        clear c3
        obtain rfl := Option.some.inj H
        go_wp2
        go_ret
        exact ⟨by first | rfl | (simp; done) | (simp [*]; done), by repeat (first | exact Drawn0.refl _ | apply Drawn0.step)⟩

end Go.Proofs.Ytebjpafnfmmjeaa.PA
