/- Texts of this claim put together in build order (FnExactCanTrace). -/
import Derived.Test.YtcdajmbnijmdfaaMCanTrace0
import Derived.Test.YtcdajmbnijmdfaaMCanTrace3
import Derived.Test.YtcdajmbnijmdfaaMCanTrace2
import Derived.Test.YtcdajmbnijmdfaaMCanTrace1
-- Written for this claim by a program of this session's (ownprint.py), by way of the kit's print and hand-proved texts. Lean checks it.
namespace Go.Proofs.Ytcdajmbnijmdfaa.PA
open Go.RowKit Go.Proofs.YtcdajmbnijmdfaaW.PrintWords Go.Proofs.YtcdajmbnijmdfaaW.PrintLast Go.Proofs.YtcdajmbnijmdfaaW.PrintMore
attribute [local go_sem] max2_int min2_int max_two min_two max_three min_three max_four min_four   -- for this text's walks alone
set_option linter.unusedVariables false
set_option linter.unusedSimpArgs false
def impl_has.f (a0 : Int) (a1 : Int) : Option (Bool) := if 0 ≤ a1 then (some ((Go.bits .and .i64 (shr .i64 a0 a1) 1) == 1)) else (none)
set_option maxHeartbeats 8000000 in
set_option maxRecDepth 100000 in
theorem impl_has.calls (a0 : Int) (a1 : Int) (r : Bool) (w : World) (h : impl_has.f a0 a1 = some r) :
    Calls Try.prog 46 #[.int .i64 a0, .int .i64 a1] w fun e w' => e = .returned (.bool r) ∧ Drawn0 w w' := by
  have H : (if 0 ≤ a1 then (some ((Go.bits .and .i64 (shr .i64 a0 a1) 1) == 1)) else (none)) = some r := h
  clear h
  by_cases c3 : 0 ≤ a1
  · rw [if_pos c3] at H
    have c3b0 := eq_true c3
    have c3b1 : decide (0 ≤ a1) = true := decide_eq_true c3
    clear c3
    obtain ⟨ji4, hji4⟩ : ∃ j_ : Int, (shr .i64 a0 a1) = j_ := ⟨_, rfl⟩
    replace H : (some ((Go.bits .and .i64 (ji4) 1) == 1)) = some r := by first | (rw [hji4] at H; exact H) | (simp only [hji4] at H ⊢; exact H)
    have hji4_ : (a0 / 2 ^ min a1.toNat 64) = ji4 := hji4
    have hji4z : a1 ≤ 64 → (a0 / 2 ^ a1.toNat) = ji4 := shr_small hji4
    obtain rfl := Option.some.inj H
    go_enter Try.func46, Try.ntmps46
    go_wp2
    go_ret
    exact ⟨by first | rfl | (simp; done) | (simp only [← hji4] <;> (first | rfl | simp)) | (simp [*]; done), by repeat (first | exact Drawn0.refl _ | apply Drawn0.step)⟩
  · rw [if_neg c3] at H
    exact absurd H (by simp)
def impl_along.f (l0 : List Int) (a1 : Int) : Option (Int × Bool) := if 0 < (l0.length : Int) then (if a1 = (rd l0 0) then (if 1 < (l0.length : Int) then (some (rd l0 1, true)) else (none)) else (if 1 < (l0.length : Int) then (if a1 = (rd l0 1) then (some (rd l0 0, true)) else (some (0, false))) else (none))) else (none)
set_option maxHeartbeats 8000000 in
set_option maxRecDepth 100000 in
theorem impl_along.calls (A0 : Option Addr) (c0 : Nat) (l0 : List Int) (a1 : Int) (r1 : Int) (r2 : Bool) (w : World) (hr0 : Kd.C (Kd.int .i64) w A0 l0.length l0) (hc0 : l0.length ≤ c0) (h : impl_along.f l0 a1 = some (r1, r2)) :
    Calls Try.prog 47 #[.slice A0 l0.length c0, .int .i64 a1] w fun e w' => e = .returned (.tuple #[.int .i64 r1, .bool r2]) ∧ Drawn0 w w' := by
  have HR0 := Aside0.mk hr0
  have HC0 := Aside0.mk hc0
  clear hr0 hc0
  have H : (if 0 < (l0.length : Int) then (if a1 = (rd l0 0) then (if 1 < (l0.length : Int) then (some (rd l0 1, true)) else (none)) else (if 1 < (l0.length : Int) then (if a1 = (rd l0 1) then (some (rd l0 0, true)) else (some (0, false))) else (none))) else (none)) = some (r1, r2) := h
  clear h
  by_cases c3 : 0 < (l0.length : Int)
  · rw [if_pos c3] at H
    have c3b0 : decide (0 < (l0.length : Int)) = true := decide_eq_true c3
    have c3b1 : decide (0 < l0.length) = true := decide_eq_true (by omega)
    clear c3
    by_cases c4 : a1 = (rd l0 0)
    · rw [if_pos c4] at H
      have c4b0 : (a1 == (rd l0 0)) = true := beq_iff_eq.mpr c4
      have c4b1 : (a1 != (rd l0 0)) = false := bne_eq_false_iff_eq.mpr c4
      clear c4
      by_cases c5 : 1 < (l0.length : Int)
      · rw [if_pos c5] at H
        have c5b0 : decide (1 < (l0.length : Int)) = true := decide_eq_true c5
        have c5b1 : decide (1 < l0.length) = true := decide_eq_true (by omega)
        clear c5
        simp only [Option.some.injEq, Prod.mk.injEq] at H
        obtain ⟨rfl, rfl⟩ := H
        have p162 : 0 ≤ (0 : Int) := (by omega)
        have q162 : 0 < (l0.length : Int) := of_decide_eq_true (by first | (with_reducible assumption) | assumption)
        obtain ⟨ad162, e162, hx162_0⟩ := Kd.at_int HR0.out 0 p162 q162
        cases e162
        have qi162 : (0 < l0.length) = True := eq_true (by omega)
        (try rw [show ((0 : Int)).toNat = 0 from rfl] at hx162_0)
        (try rw [Addr.add_zero'] at hx162_0)
        replace p162 := eq_true p162
        replace q162 := eq_true q162
        have p163 : 0 ≤ (1 : Int) := (by omega)
        have q163 : 1 < (l0.length : Int) := of_decide_eq_true (by first | (with_reducible assumption) | assumption)
        obtain ⟨ad163, e163, hx163_0⟩ := Kd.at_int HR0.out 1 p163 q163
        obtain rfl : ad162 = ad163 := (by injection e163)
        (try simp only [show (1 : Int).toNat = 1 from rfl, Nat.reduceMul, Nat.reduceEqDiff, Go.Addr.add, ↓reduceIte] at hx163_0)
        have qi163 : (1 < l0.length) = True := eq_true (by omega)
        (try rw [show ((1 : Int)).toNat = 1 from rfl] at hx163_0)
        replace p163 := eq_true p163
        replace q163 := eq_true q163
        go_enter Try.func47, Try.ntmps47
        go_wp2
        go_ret2
        exact ⟨by first | rfl | (simp; done) | (simp [*]; done), by repeat (first | exact Drawn0.refl _ | apply Drawn0.step)⟩
      · rw [if_neg c5] at H
        exact absurd H (by simp)
    · rw [if_neg c4] at H
      have c4b0 : (a1 == (rd l0 0)) = false := beq_eq_false_iff_ne.mpr c4
      have c4b1 : (a1 != (rd l0 0)) = true := bne_iff_ne.mpr c4
      by_cases c6 : 1 < (l0.length : Int)
      · rw [if_pos c6] at H
        have c6b0 : decide (1 < (l0.length : Int)) = true := decide_eq_true c6
        have c6b1 : decide (1 < l0.length) = true := decide_eq_true (by omega)
        clear c6
        by_cases c7 : a1 = (rd l0 1)
        · rw [if_pos c7] at H
          have c7b0 : (a1 == (rd l0 1)) = true := beq_iff_eq.mpr c7
          have c7b1 : (a1 != (rd l0 1)) = false := bne_eq_false_iff_eq.mpr c7
          clear c7
          simp only [Option.some.injEq, Prod.mk.injEq] at H
          obtain ⟨rfl, rfl⟩ := H
          have p162 : 0 ≤ (0 : Int) := (by omega)
          have q162 : 0 < (l0.length : Int) := of_decide_eq_true (by first | (with_reducible assumption) | assumption)
          obtain ⟨ad162, e162, hx162_0⟩ := Kd.at_int HR0.out 0 p162 q162
          cases e162
          have qi162 : (0 < l0.length) = True := eq_true (by omega)
          (try rw [show ((0 : Int)).toNat = 0 from rfl] at hx162_0)
          (try rw [Addr.add_zero'] at hx162_0)
          replace p162 := eq_true p162
          replace q162 := eq_true q162
          have p164 : 0 ≤ (1 : Int) := (by omega)
          have q164 : 1 < (l0.length : Int) := of_decide_eq_true (by first | (with_reducible assumption) | assumption)
          obtain ⟨ad164, e164, hx164_0⟩ := Kd.at_int HR0.out 1 p164 q164
          obtain rfl : ad162 = ad164 := (by injection e164)
          (try simp only [show (1 : Int).toNat = 1 from rfl, Nat.reduceMul, Nat.reduceEqDiff, Go.Addr.add, ↓reduceIte] at hx164_0)
          have qi164 : (1 < l0.length) = True := eq_true (by omega)
          (try rw [show ((1 : Int)).toNat = 1 from rfl] at hx164_0)
          replace p164 := eq_true p164
          replace q164 := eq_true q164
          have p165 : 0 ≤ (0 : Int) := (by omega)
          have q165 : 0 < (l0.length : Int) := of_decide_eq_true (by first | (with_reducible assumption) | assumption)
          obtain ⟨ad165, e165, hx165_0⟩ := Kd.at_int HR0.out 0 p165 q165
          obtain rfl : ad162 = ad165 := (by injection e165)
          have qi165 : (0 < l0.length) = True := eq_true (by omega)
          (try rw [show ((0 : Int)).toNat = 0 from rfl] at hx165_0)
          (try rw [Addr.add_zero'] at hx165_0)
          replace p165 := eq_true p165
          replace q165 := eq_true q165
          go_enter Try.func47, Try.ntmps47
          go_wp2
          go_ret2
          exact ⟨by first | rfl | (simp; done) | (simp [*]; done), by repeat (first | exact Drawn0.refl _ | apply Drawn0.step)⟩
        · rw [if_neg c7] at H
          have c7b0 : (a1 == (rd l0 1)) = false := beq_eq_false_iff_ne.mpr c7
          have c7b1 : (a1 != (rd l0 1)) = true := bne_iff_ne.mpr c7
          simp only [Option.some.injEq, Prod.mk.injEq] at H
          obtain ⟨rfl, rfl⟩ := H
          have p162 : 0 ≤ (0 : Int) := (by omega)
          have q162 : 0 < (l0.length : Int) := of_decide_eq_true (by first | (with_reducible assumption) | assumption)
          obtain ⟨ad162, e162, hx162_0⟩ := Kd.at_int HR0.out 0 p162 q162
          cases e162
          have qi162 : (0 < l0.length) = True := eq_true (by omega)
          (try rw [show ((0 : Int)).toNat = 0 from rfl] at hx162_0)
          (try rw [Addr.add_zero'] at hx162_0)
          replace p162 := eq_true p162
          replace q162 := eq_true q162
          have p164 : 0 ≤ (1 : Int) := (by omega)
          have q164 : 1 < (l0.length : Int) := of_decide_eq_true (by first | (with_reducible assumption) | assumption)
          obtain ⟨ad164, e164, hx164_0⟩ := Kd.at_int HR0.out 1 p164 q164
          obtain rfl : ad162 = ad164 := (by injection e164)
          (try simp only [show (1 : Int).toNat = 1 from rfl, Nat.reduceMul, Nat.reduceEqDiff, Go.Addr.add, ↓reduceIte] at hx164_0)
          have qi164 : (1 < l0.length) = True := eq_true (by omega)
          (try rw [show ((1 : Int)).toNat = 1 from rfl] at hx164_0)
          replace p164 := eq_true p164
          replace q164 := eq_true q164
          go_enter Try.func47, Try.ntmps47
          go_wp2
          go_ret2
          exact ⟨by first | rfl | (simp; done) | (simp [*]; done), by repeat (first | exact Drawn0.refl _ | apply Drawn0.step)⟩
      · rw [if_neg c6] at H
        exact absurd H (by simp)
  · rw [if_neg c3] at H
    exact absurd H (by simp)
end Go.Proofs.Ytcdajmbnijmdfaa.PA
-- Written for this claim by a program of this session's (ownprint.py), by way of the kit's print and hand-proved texts. Lean checks it.
namespace Go.Proofs.Ytcdajmbnijmdfaa.PA
open Go.RowKit Go.Proofs.YtcdajmbnijmdfaaW.PrintWords Go.Proofs.YtcdajmbnijmdfaaW.PrintLast Go.Proofs.YtcdajmbnijmdfaaW.PrintMore
attribute [local go_sem] max2_int min2_int max_two min_two max_three min_three max_four min_four   -- for this text's walks alone
set_option linter.unusedVariables false
set_option linter.unusedSimpArgs false
section
open Go.Maps (Keyed IsMap)
variable {P : Program} {K e : TypeId} {w : World} {b n : Nat} {D : DataW Unit}
theorem plainElem_bool_inv {H : Type} {P : Program} {e : TypeId} (he : P.underlying e = some .bool) {v : Value} {z : DataW H × List MemPlace} (h : plainElem P e v = some z) : ∃ x, v = .bool x ∧ z = (.lit (.bool x), []) := by
  unfold plainElem at h
  rw [he] at h
  cases v <;> simp at h
  exact ⟨_, rfl, h.symm⟩
/-- Block b is a map from pairs of numbers to truth values, of at most n entries, that reads as F. -/
structure PairMap (P : Program) (K e : TypeId) (w : World) (b n : Nat) (F : Int → Int → Bool) : Prop where
  ex : ∃ D : DataW Unit, w.ownsMap P K (plainElem P e) b n D ∧ ∀ (u a : Int) (l : Lit), keyOf P K (.agg #[.int .i64 u, .int .i64 a]) = some l → D.atKey l (.lit (.bool false)) = .lit (.bool (F u a))
def upd (F : Int → Int → Bool) (u a : Int) : Int → Int → Bool := fun u' a' => if u' = u ∧ a' = a then true else F u' a'
theorem PairMap.made (w : World) : PairMap P K e (w.alloc (.map #[] 0)) w.heap.size 0 (fun _ _ => false) :=
  ⟨.map [], World.ownsMap_made w P K _, fun u a l _ => rfl⟩
theorem PairMap.kept {F : Int → Int → Bool} {w' : World} {row : Option Nat} (h : PairMap P K e w b n F) (hg : w.grownBy w' row) (hne : some b ≠ row) : PairMap P K e w' b n F := by
  obtain ⟨D, h1, h2⟩ := h.ex
  exact ⟨D, h1.kept hg hne, h2⟩
theorem PairMap.mono {F : Int → Int → Bool} (h : PairMap P K e w b n F) {n' : Nat} (hn : n ≤ n') : PairMap P K e w b n' F := by
  obtain ⟨D, h1, h2⟩ := h.ex
  exact ⟨D, h1.mono hn, h2⟩
theorem PairMap.look {F : Int → Int → Bool} (h : PairMap P K e w b n F) (hK : Keyed P K) {t : TypeId} (ht : P.underlying t = some (.map K e)) (he : P.underlying e = some .bool) (hz : (zeroValue e).run P w = .ok (.bool false) w) (u a : Int) (hk : ∃ l, keyOf P K (.agg #[.int .i64 u, .int .i64 a]) = some l) :
    (Instr.lookup t (.map (some b)) (.agg #[.int .i64 u, .int .i64 a]) false).run P w = .ok (.bool (F u a)) w := by
  obtain ⟨D, h1, h2⟩ := h.ex
  obtain ⟨l, hl⟩ := hk
  obtain ⟨v, ps, hrun, hv⟩ := h1.lookup hK ht hz (plainElem_bool he false) hl
  obtain ⟨x, rfl, hx⟩ := plainElem_bool_inv he hv
  rw [h2 u a l hl] at hx
  simp only [Prod.mk.injEq] at hx
  have : F u a = x := by simpa using hx.1
  rw [this]
  exact hrun
theorem PairMap.store {F : Int → Int → Bool} (h : PairMap P K e w b n F) (hK : Keyed P K) {t : TypeId} (ht : P.underlying t = some (.map K e)) (he : P.underlying e = some .bool) (hn : n < maxLen) (u a : Int) (hk : ∃ l, keyOf P K (.agg #[.int .i64 u, .int .i64 a]) = some l) :
    ∃ w', (Instr.mapUpdate t (.map (some b)) (.agg #[.int .i64 u, .int .i64 a]) (.bool true)).run P w = .ok () w' ∧ PairMap P K e w' b (n + 1) (upd F u a) ∧ w.grownBy w' (some b) := by
  obtain ⟨D, h1, h2⟩ := h.ex
  obtain ⟨l, hl⟩ := hk
  have hm := h1.isMap
  obtain ⟨w', hrun, g1, g2⟩ := h1.update hK ht hn hl (plainElem_bool he true)
  refine ⟨w', hrun, ⟨_, g1, fun u' a' l' hl' => ?_⟩, g2⟩
  unfold upd
  by_cases c : u' = u ∧ a' = a
  · obtain ⟨rfl, rfl⟩ := c
    rw [if_pos ⟨rfl, rfl⟩]
    rw [hl] at hl'
    cases hl'
    exact Go.Maps.atKey_put_same hm (hK.key hl) _ _
  · rw [if_neg c]
    have hne : l' ≠ l := by
      rintro rfl
      have := hK.inj hl hl'
      simp at this
      exact c ⟨this.1.symm, this.2.symm⟩
    rw [Go.Maps.atKey_put_other hne]
    exact h2 u' a' l' hl'
theorem wpList_look_pair {F : Int → Int → Bool} {ops : Array Oper} {rest : List Oper} {o : Oper} {a : Act} {Q : Exit → Act → World → Prop}
    (hg : o.guard = none) (m x : Operand) (t : TypeId) (hop : o.op = Op.lookup t m x false) (hK : Keyed P K) (ht : P.underlying t = some (.map K e)) (he : P.underlying e = some .bool) (hz : (zeroValue e).run P w = .ok (.bool false) w)
    (hm : a.eval m = .map (some b)) (h : PairMap P K e w b n F) (u v : Int) (hx : a.eval x = .agg #[.int .i64 u, .int .i64 v]) (hk : ∃ l, keyOf P K (.agg #[.int .i64 u, .int .i64 v]) = some l)
    (hN : wpList P ops Q rest (a.put o.dst (.bool (F u v))) w) : wpList P ops Q (o :: rest) a w := by
  refine wpList_plain hg fun K' hK' => ?_
  have hrun := h.look hK ht he hz u v hk
  unfold Oper.wp
  simp [execOp, hop, hm, hx, hrun, Result.andThen]
  exact hK' _ _ hN
theorem wpList_store_pair {F : Int → Int → Bool} {ops : Array Oper} {rest : List Oper} {o : Oper} {a : Act} {Q : Exit → Act → World → Prop}
    (hg : o.guard = none) (m x y : Operand) (t : TypeId) (hop : o.op = Op.mapUpdate t m x y) (hK : Keyed P K) (ht : P.underlying t = some (.map K e)) (he : P.underlying e = some .bool)
    (hm : a.eval m = .map (some b)) (h : PairMap P K e w b n F) (hn : n < maxLen) (u v : Int) (hx : a.eval x = .agg #[.int .i64 u, .int .i64 v]) (hy : a.eval y = .bool true) (hk : ∃ l, keyOf P K (.agg #[.int .i64 u, .int .i64 v]) = some l)
    (hN : ∀ w', PairMap P K e w' b (n + 1) (upd F u v) → w.grownBy w' (some b) → wpList P ops Q rest (a.put o.dst undef) w') : wpList P ops Q (o :: rest) a w := by
  refine wpList_plain hg fun K' hK' => ?_
  obtain ⟨w', hrun, r1, r2⟩ := h.store hK ht he hn u v hk
  unfold Oper.wp
  simp [execOp, hop, hm, hx, hy, hrun, Result.andThen]
  exact hK' _ _ (hN w' r1 r2)
end
theorem fs_laid : laidOutB Try.prog = true := by kernel_rfl
theorem fs_wide : (match Try.prog.underlying 53 with | some (.array _ _) | some (.struct _) => true | _ => false) = true := by rw [Try.underlying53]
theorem fs_keyed : Go.Maps.Keyed Try.prog 53 := Go.Maps.Keyed.of_law (deep_law_laid fs_laid (m := 2) (by omega) (of_decide_eq_true (by kernel_rfl)) (by kernel_rfl) fs_wide)
theorem fs_cells : Try.prog.cellsOf 53 = 2 := by kernel_rfl
theorem fs_cells1 : Try.prog.cellsOf 3 = 1 := by kernel_rfl
theorem fs_kt : Try.prog.keyType 53 = true := by kernel_rfl
theorem fs_zero (w : World) : (zeroValue 4).run Try.prog w = .ok (.bool false) w := by kernel_rfl
theorem fs_size : ∃ m, Try.prog.types.size = m + 1 := ⟨Try.prog.types.size - 1, by
  have : 0 < Try.prog.types.size := of_decide_eq_true (by kernel_rfl)
  omega⟩
theorem fs_key (u a : Int) (hu : 0 ≤ u ∧ u < 65536) (ha : 0 ≤ a ∧ a < 65536) : ∃ l, keyOf Try.prog 53 (.agg #[.int .i64 u, .int .i64 a]) = some l := by
  have h1 : (Lit.int .i64 u).wf = true := WalkArith.wf_i64 (by omega)
  have h2 : (Lit.int .i64 a).wf = true := WalkArith.wf_i64 (by omega)
  obtain ⟨m, hm⟩ := fs_size
  unfold keyOf
  rw [Try.underlying53, fs_kt]
  simp only [hm]
  refine ⟨.string (keyBytes [.int .i64 u, .int .i64 a]), ?_⟩
  simp [Value.formed, Value.cells, Program.keyLits, Try.underlying53, Try.underlying3, fs_cells, fs_cells1, h1, h2, List.range_succ]
mutual
def impl_FirstStroke.g : Nat → List (List Int) → Int → Int → (Int → Int → Bool) → Nat → List Int → Option (Bool × (Int → Int → Bool) × Nat × List Int)
  | 0, _, _, _, _, _, _ => none
  | k + 1, ls, u, a, F, n, st => if u = wrap64 ((shl .i64 1 (ls.length : Int)) - 1) then some (true, F, n, st) else (if (0 ≤ u ∧ u < 65536) ∧ (0 ≤ a ∧ a < 65536) then (if F u a = true then some (false, F, n, st) else impl_FirstStroke.l k ls u a F n st 0) else none)
def impl_FirstStroke.l : Nat → List (List Int) → Int → Int → (Int → Int → Bool) → Nat → List Int → Int → Option (Bool × (Int → Int → Bool) × Nat × List Int)
  | 0, _, _, _, _, _, _, _ => none
  | k + 1, ls, u, a, F, n, st, x => if x < (ls.length : Int) then (if 0 ≤ x then ((impl_along.f (rd_L1 ls x) a).bind fun t => if t.2 = true then ((impl_has.f u x).bind fun hh => if hh = true then impl_FirstStroke.l k ls u a F n st (wrap64 (x + 1)) else (if st.length < 1000 then ((impl_FirstStroke.g k ls (Go.bits .or .i64 u (shl .i64 1 x)) t.1 F n (st ++ [x])).bind fun r => if r.1 = true then some r else (if 0 < r.2.2.2.length ∧ r.2.2.2.length < 1000 then impl_FirstStroke.l k ls u a r.2.1 r.2.2.1 (r.2.2.2.take (r.2.2.2.length - 1)) (wrap64 (x + 1)) else none)) else none)) else impl_FirstStroke.l k ls u a F n st (wrap64 (x + 1))) else none) else (if n < 1000000000000000000 then some (false, upd F u a, n + 1, st) else none)
end
def impl_FirstStroke.f (k : Nat) (a0 : Int) (l0 : List (List Int)) (a2 : Int) : Option (List Int × Bool) := (impl_IsDrawing.f k a0 l0).bind fun t => if t = true then ((impl_within.f a2 0 (wrap64 (a0 - 1))).bind fun t2 => if t2 = true then ((impl_FirstStroke.g k l0 0 a2 (fun _ _ => false) 0 []).bind fun r => if r.1 = true then some (r.2.2.2, true) else some ([], false)) else some ([], false)) else some ([], false)
/-- The four cells and the map that the closure holds. -/
structure FsB (w0 : World) (bA bF bS bG bm : Nat) : Prop where
  af : bA ≠ bF
  as_ : bA ≠ bS
  ag : bA ≠ bG
  am : bA ≠ bm
  fs : bF ≠ bS
  fg : bF ≠ bG
  fm : bF ≠ bm
  sg : bS ≠ bG
  sm : bS ≠ bm
  gm : bG ≠ bm
  s0 : w0.heap.size ≤ bS
  m0 : w0.heap.size ≤ bm
def fsBlk (bA bF bS bG bm k : Nat) : Prop := k = bA ∨ k = bF ∨ k = bS ∨ k = bG ∨ k = bm
def fsFn (bA bF bS bG : Nat) : Value := .func (.func 52) #[] #[.pointer (some ⟨bA, 0, none⟩), .pointer (some ⟨bF, 0, none⟩), .pointer (some ⟨bS, 0, none⟩), .pointer (some ⟨bG, 0, none⟩)]
structure FsInv (w0 : World) (bA bF bS bG bm : Nat) (A : Option Addr) (c : Nat) (ls : List (List Int)) (F : Int → Int → Bool) (n : Nat) (st : List Int) (vs : Value) (w : World) : Prop where
  hA : w.heap[bA]? = some (.cells #[.slice A ls.length c] 22 (0, 0))
  hF : w.heap[bF]? = some (.cells #[.map (some bm)] 52 (0, 0))
  hS : w.heap[bS]? = some (.cells #[vs] 27 (0, 0))
  hG : w.heap[bG]? = some (.cells #[fsFn bA bF bS bG] 47 (0, 0))
  map : PairMap Try.prog 53 4 w bm n F
  rS : Kd.R (Kd.int .i64) 3 w w0.heap.size (fun k => ¬ fsBlk bA bF bS bG bm k) vs st
  below : Below w0.heap.size w0 w
theorem PairMap.lt {P : Program} {K e : TypeId} {w : World} {b n : Nat} {F : Int → Int → Bool} (h : PairMap P K e w b n F) : b < w.heap.size := by
  obtain ⟨D, h1, _⟩ := h.ex
  exact h1.lt
theorem grown_set (w : World) (g i : Nat) (u : Value) : w.grownBy (w.setCell ⟨g, i, none⟩ u) (some g) := by
  refine ⟨?_, ?_, ?_, ?_, fun k _ hk => Below.heap_setCell w ⟨g, i, none⟩ u k (fun e => hk (by rw [e]))⟩
  all_goals (unfold World.setCell; split <;> first | rfl | simp)
section
variable {w0 w w1 : World} {bA bF bS bG bm : Nat} {A : Option Addr} {c : Nat} {ls : List (List Int)} {F : Int → Int → Bool} {n : Nat} {st : List Int} {vs : Value}
theorem FsInv.step (h : FsInv w0 bA bF bS bG bm A c ls F n st vs w) (hb : Below w.heap.size w w1) : FsInv w0 bA bF bS bG bm A c ls F n st vs w1 :=
  ⟨(hb.block _ (blk_lt h.hA)).trans h.hA, (hb.block _ (blk_lt h.hF)).trans h.hF, (hb.block _ (blk_lt h.hS)).trans h.hS, (hb.block _ (blk_lt h.hG)).trans h.hG, h.map.kept (grown_of_below hb none) (by simp), Kd.R_below h.rS hb, below_then h.below h.below.size hb⟩
theorem FsInv.app (h : FsInv w0 bA bF bS bG bm A c ls F n st vs w) (D : FsB w0 bA bF bS bG bm) {v' : Value} {st' : List Int} (ho : Kd.R (Kd.int .i64) 3 w1 w0.heap.size (fun k => ¬ fsBlk bA bF bS bG bm k) v' st') (hg : w.grownBy w1 vs.ownBlock) (hb : Below w0.heap.size w0 w1) :
    FsInv w0 bA bF bS bG bm A c ls F n st' v' (w1.setCell ⟨bS, 0, none⟩ v') := by
  have hne : ∀ k, fsBlk bA bF bS bG bm k → some k ≠ vs.ownBlock := fun k hk e => (h.rS.1 k e.symm) hk
  have eA := (hg.block _ (blk_lt h.hA) (hne _ (.inl rfl))).trans h.hA
  have eF := (hg.block _ (blk_lt h.hF) (hne _ (.inr (.inl rfl)))).trans h.hF
  have eS := (hg.block _ (blk_lt h.hS) (hne _ (.inr (.inr (.inl rfl))))).trans h.hS
  have eG := (hg.block _ (blk_lt h.hG) (hne _ (.inr (.inr (.inr (.inl rfl)))))).trans h.hG
  have eM := h.map.kept hg (hne _ (.inr (.inr (.inr (.inr rfl)))))
  exact ⟨blk_far eA D.as_ _, blk_far eF D.fs _, by simpa using blk_set eS 0 v', blk_far eG D.sg.symm _, eM.kept (grown_set _ _ _ _) (by simpa using D.sm.symm), Kd.R_far ho (fun k hk e => hk (.inr (.inr (.inl e)))) _, below_set hb D.s0⟩
theorem FsInv.cut (D : FsB w0 bA bF bS bG bm) {A1 : Option Addr} {m cc j : Nat} (h : FsInv w0 bA bF bS bG bm A c ls F n st (.slice A1 m cc) w) (hj : j ≤ st.length) :
    FsInv w0 bA bF bS bG bm A c ls F n (st.take j) (.slice A1 j cc) (w.setCell ⟨bS, 0, none⟩ (.slice A1 j cc)) :=
  ⟨blk_far h.hA D.as_ _, blk_far h.hF D.fs _, by simpa using blk_set h.hS 0 (.slice A1 j cc), blk_far h.hG D.sg.symm _, h.map.kept (grown_set _ _ _ _) (by simpa using D.sm.symm), Kd.R_far (Kd.R_take h.rS hj) (fun k hk e => hk (.inr (.inr (.inl e)))) _, below_set h.below D.s0⟩
theorem FsInv.put (h : FsInv w0 bA bF bS bG bm A c ls F n st vs w) (D : FsB w0 bA bF bS bG bm) {F' : Int → Int → Bool} {n' : Nat} (hm : PairMap Try.prog 53 4 w1 bm n' F') (hg : w.grownBy w1 (some bm)) :
    FsInv w0 bA bF bS bG bm A c ls F' n' st vs w1 :=
  ⟨(hg.block _ (blk_lt h.hA) (by simpa using D.am)).trans h.hA, (hg.block _ (blk_lt h.hF) (by simpa using D.fm)).trans h.hF, (hg.block _ (blk_lt h.hS) (by simpa using D.sm)).trans h.hS, (hg.block _ (blk_lt h.hG) (by simpa using D.gm)).trans h.hG, hm, Kd.R_grown h.rS hg (fun k hk e => hk (.inr (.inr (.inr (.inr (by simpa using e)))))), pw_below_grown h.below _ h.below.size hg (fun k e => by cases e; exact D.m0)⟩
theorem FsInv.fresh (h : FsInv w0 bA bF bS bG bm A c ls F n st vs w) : ∀ k, w.heap.size ≤ k → ¬ fsBlk bA bF bS bG bm k := by
  intro k hk
  rintro (rfl | rfl | rfl | rfl | rfl)
  · have := blk_lt h.hA; omega
  · have := blk_lt h.hF; omega
  · have := blk_lt h.hS; omega
  · have := blk_lt h.hG; omega
  · have := h.map.lt; omega
theorem FsInv.keepS (h : FsInv w0 bA bF bS bG bm A c ls F n st vs w) (hg : w.grownBy w1 vs.ownBlock) : w1.heap[bS]? = some (.cells #[vs] 27 (0, 0)) :=
  (hg.block _ (blk_lt h.hS) (fun e => (h.rS.1 _ e.symm) (.inr (.inr (.inl rfl))))).trans h.hS
end
theorem fs_cell {w : World} {g t : Nat} {v : Value} (h : w.heap[g]? = some (.cells #[v] t (0, 0))) : w.cell? ⟨g, 0, none⟩ = some v ∧ w.frozen? ⟨g, 0, none⟩ = false := by
  constructor
  · simp [World.cell?, h]
  · simp [World.frozen?, h]
theorem fs_shl1 (x : Int) : shl .i64 1 x = wrap64 (2 ^ min x.toNat 64) := by
  unfold shl
  rw [IntKind.wrap_i64]
  simp [IntKind.bits, wrap64]
theorem fs_shl (n : Nat) : shl .i64 1 (n : Int) = wrap64 (2 ^ min n 64) := by
  unfold shl
  rw [Int.toNat_natCast, IntKind.wrap_i64]
  simp [IntKind.bits, wrap64]
set_option maxHeartbeats 4000000 in
set_option maxRecDepth 100000 in
theorem impl_FirstStroke_1.calls (w0 : World) (bA bF bS bG bm : Nat) (A : Option Addr) (c : Nat) (ls : List (List Int)) (D : FsB w0 bA bF bS bG bm) (hr0 : Kd.C (Kd.slice 3 (Kd.int .i64)) w0 A ls.length ls) (eg : ∀ args w, (callFunc 52 args).run Try.prog w = .ok (.enter 52 args) w) (k : Nat) :
    ∀ (u a : Int) (F : Int → Int → Bool) (n : Nat) (st : List Int) (vs : Value) (w : World) (r : Bool × (Int → Int → Bool) × Nat × List Int), impl_FirstStroke.g k ls u a F n st = some r → FsInv w0 bA bF bS bG bm A c ls F n st vs w →
    Calls Try.prog 52 #[.int .i64 u, .int .i64 a, .pointer (some ⟨bA, 0, none⟩), .pointer (some ⟨bF, 0, none⟩), .pointer (some ⟨bS, 0, none⟩), .pointer (some ⟨bG, 0, none⟩)] w fun e w' => e = .returned (.bool r.1) ∧ ∃ vs', FsInv w0 bA bF bS bG bm A c ls r.2.1 r.2.2.1 r.2.2.2 vs' w' := by
  induction k using Nat.strongRecOn with
  | _ k ih =>
  intro u a F n st vs w r h hI
  cases k with
  | zero => simp [impl_FirstStroke.g] at h
  | succ k =>
  rw [impl_FirstStroke.g] at h
  have cA := (fs_cell hI.hA).1
  have HR0 := Aside0.mk hr0
  clear hr0
  by_cases c1 : u = wrap64 ((shl .i64 1 (ls.length : Int)) - 1)
  · rw [if_pos c1] at h
    have c1b : (u == wrap64 (wrap64 (2 ^ min ls.length 64) - 1)) = true := by rw [fs_shl]at c1; exact beq_iff_eq.2 c1
    have HS := Aside0.mk (Option.some.inj h)
    have HI := Aside0.mk hI
    clear hI h ih c1
    go_enter Try.func52, Try.ntmps52
    go_wp2
    go_ret
    rw [← HS.out]
    exact ⟨rfl, _, HI.out⟩
  · rw [if_neg c1] at h
    have c1b : (u == wrap64 (wrap64 (2 ^ min ls.length 64) - 1)) = false := by rw [fs_shl] at c1; exact beq_eq_false_iff_ne.2 c1
    clear c1
    by_cases c2 : (0 ≤ u ∧ u < 65536) ∧ (0 ≤ a ∧ a < 65536)
    case neg => rw [if_neg c2] at h; cases h
    rw [if_pos c2] at h
    have cF := (fs_cell hI.hF).1
    have HK := Aside0.mk (fs_key u a c2.1 c2.2)
    clear c2
    by_cases c3 : F u a = true
    · rw [if_pos c3] at h
      have HS := Aside0.mk (Option.some.inj h)
      have HI := Aside0.mk hI
      clear hI h ih
      go_enter Try.func52, Try.ntmps52
      go_wp2_with (at_lookup; refine wpList_look_pair rfl _ _ 52 rfl fs_keyed Try.underlying52 Try.underlying4 (fs_zero _) rfl HI.out.map u a rfl HK.out ?_; rw [c3])
      go_ret
      rw [← HS.out]
      exact ⟨rfl, _, HI.out⟩
    · rw [if_neg c3] at h
      replace c3 := Bool.eq_false_iff.mpr c3
      have H := Aside0.mk h
      have HI := Aside0.mk hI
      have IH := Aside0.mk ih
      clear hI h ih
      go_enter Try.func52, Try.ntmps52
      go_wp2_with (at_lookup; refine wpList_look_pair rfl _ _ 52 rfl fs_keyed Try.underlying52 Try.underlying4 (fs_zero _) rfl HI.out.map u a rfl HK.out ?_; rw [c3])
      clear cA cF c3 c1b
      go_loopg [26] k (fun kq v26 wr => ∃ (x : Int) (F2 : Int → Int → Bool) (n2 : Nat) (st2 : List Int) (vs2 : Value), v26 = .int .i64 x ∧ Aside0 (impl_FirstStroke.l kq ls u a F2 n2 st2 x = some r) ∧ Aside0 (kq ≤ k) ∧ Aside0 (FsInv w0 bA bF bS bG bm A c ls F2 n2 st2 vs2 wr))
      case atStart => exact ⟨0, F, n, st, vs, rfl, H, ⟨Nat.le_refl _⟩, HI⟩
      case round =>
        clear HI H
        obtain ⟨x, F2, n2, st2, vs2, rfl, HA, HKQ, HI⟩ := hrel
        cases gk with
        | zero => exact absurd HA.out (by simp [impl_FirstStroke.l])
        | succ k3 =>
          have h := HA.out
          clear HA
          rw [impl_FirstStroke.l] at h
          obtain ⟨wo, rfl⟩ : ∃ x, x = wr := ⟨_, rfl⟩
          by_cases c4 : x < (ls.length : Int)
          · rw [if_pos c4] at h
            by_cases c5 : 0 ≤ x
            case neg => rw [if_neg c5] at h; cases h
            rw [if_pos c5] at h
            obtain ⟨t, ht, h⟩ := Option.bind_eq_some_iff.1 h
            obtain ⟨p, ok⟩ := t
            have HT := Aside0.mk ht
            have H := Aside0.mk h
            clear ht h
            obtain ⟨ad, Ar, cr, e, hx, hl, hi⟩ := at_L1 HR0.out x c5 c4
            cases e
            replace hx := (HI.out.below.cell (World.block_lt_of_cell? w0 _ hx)).trans hx
            have HRW := Aside0.mk (Kd.C_below hi HI.out.below)
            have HLW := Aside0.mk hl
            clear hi hl
            replace c5 := eq_true c5
            go_wp2_with fail
            refine (impl_along.calls Ar cr _ a p ok _ HRW.out HLW.out HT.out).mono ?_
            rintro e w1 ⟨rfl, hd⟩
            have HI1 := Aside0.mk (HI.out.step hd.below)
            clear HI hd hx HRW
            cases ok with
            | false =>
              have h := H.out
              rw [if_neg (by simp)] at h
              have H1 := Aside0.mk h
              clear h H
              go_wp2
              go_roundg k3
              case measure => have := HKQ.out; omega
              case rel => exact ⟨wrap64 (x + 1), F2, n2, st2, vs2, rfl, H1, ⟨by have := HKQ.out; omega⟩, HI1⟩
            | true =>
              have h := H.out
              rw [if_pos rfl] at h
              obtain ⟨hh, hh1, h⟩ := Option.bind_eq_some_iff.1 h
              have HH := Aside0.mk hh1
              have H1 := Aside0.mk h
              clear h H hh1
              go_wp2_with fail
              refine (impl_has.calls u x hh _ HH.out).mono ?_
              rintro e w2 ⟨rfl, hd⟩
              have HI2 := Aside0.mk (HI1.out.step hd.below)
              clear HI1 hd
              cases hh with
              | true =>
                have h := H1.out
                rw [if_pos rfl] at h
                have H2 := Aside0.mk h
                clear h H1
                go_wp2
                go_roundg k3
                case measure => have := HKQ.out; omega
                case rel => exact ⟨wrap64 (x + 1), F2, n2, st2, vs2, rfl, H2, ⟨by have := HKQ.out; omega⟩, HI2⟩
              | false =>
                have h := H1.out
                rw [if_neg (by simp)] at h
                by_cases c6 : st2.length < 1000
                case neg => rw [if_neg c6] at h; cases h
                rw [if_pos c6] at h
                obtain ⟨t2, ht2, h⟩ := Option.bind_eq_some_iff.1 h
                obtain ⟨ok2, F3, n3, st3⟩ := t2
                rw [fs_shl1] at ht2
                have HT2 := Aside0.mk ht2
                have H2 := Aside0.mk h
                clear ht2 h H1
                have cS := (fs_cell HI2.out.hS).1
                go_wp2_with (first | ((with_reducible refine gate_builtin (b := .append) (xs := #[.tmp 44, .tmp 46]) rfl ?_); at_builtin; refine Kd.R_append (Kd.int .i64) (w0 := w0) w0.heap.size rfl (.tmp 44) (.tmp 46) 27 3 (.int .i64 0) 8 rfl Try.underlying27 info3 rfl (by decide) (by omega) vs2 st2 x [.int .i64 x] (fun k => ¬ fsBlk bA bF bS bG bm k) (fun _ => False) rfl rfl ?aP (fun _ hk => hk.elim) ?aF ?aO ?aB ?aS ?aL ?_; (case aP => exact rfl); (case aF => exact HI2.out.fresh); (case aO => exact HI2.out.rS); (case aB => exact HI2.out.below); (case aS => exact HI2.out.below.size); (case aL => omega); intro v1 w3 ho hb hg hat; obtain ⟨Av, cv, rfl⟩ := Kd.R_slice ho; rw [show (st2 ++ [x]).length = st2.length + 1 by simp] at ho hat; have fS := (fs_cell (HI2.out.keepS hg)).2; have cS1 := (fs_cell (HI2.out.keepS hg)).1; have HF := Aside0.mk (HI2.out.app D ho hg hb); have cG := (fs_cell HF.out.hG).1; unfold fsFn at cG; clear ho hb hg hat))
                generalize (w3.setCell ⟨bS, 0, none⟩ (.slice Av (st2.length + 1) cv)) = w4 at HF cG
                have HF5 := Aside0.mk (HF.out.step (below_drew (Below.refl w4.heap.size w4)))
                clear HF cG fS cS1 cS
                refine wp_region_still_tail 6 (by kernel_rfl) (by kernel_rfl) ?_
                change wpStill _ _ w4.drew (fun a' => wpList _ _ _ _ a' w4.drew) _ _
                generalize w4.drew = w5 at HF5
                have cG := (fs_cell HF5.out.hG).1
                unfold fsFn at cG
                simp only [List.take_succ_cons, List.take_zero, List.drop_succ_cons, List.drop_zero]
                repeat still_step
                refine wpStill_nil ?_
                cases ok2 with
                | true =>
                  have h := H2.out
                  rw [if_pos rfl] at h
                  have H3 := Aside0.mk (Option.some.inj h)
                  clear h H2
                  go_wp2_with (go_at_fn 52; refine (IH.out k3 (by have := HKQ.out; omega) _ p F2 n2 (st2 ++ [x]) _ w5 _ HT2.out HF5.out).mono ?_; rintro e w6 ⟨rfl, vs3, hI3⟩; have HI3 := Aside0.mk hI3; clear hI3)
                  go_ret
                  rw [← H3.out]
                  exact ⟨rfl, _, HI3.out⟩
                | false =>
                  have h := H2.out
                  rw [if_neg (by simp)] at h
                  by_cases c7 : 0 < st3.length ∧ st3.length < 1000
                  case neg => rw [if_neg c7] at h; cases h
                  rw [if_pos c7] at h
                  obtain ⟨q, hq⟩ : ∃ q, st3.length = q + 1 := ⟨st3.length - 1, by omega⟩
                  rw [hq, Nat.add_sub_cancel] at h
                  have H3 := Aside0.mk h
                  have HQ := Aside0.mk hq
                  have c7b : q < 1000 := by omega
                  clear h H2 c7 hq
                  go_wp2_with (go_at_fn 52; refine (IH.out k3 (by have := HKQ.out; omega) _ p F2 n2 (st2 ++ [x]) _ w5 _ HT2.out HF5.out).mono ?_; rintro e w6 ⟨rfl, vs3, hI3⟩; obtain ⟨A3, c3', rfl⟩ := Kd.R_slice hI3.rS; have hcc := (Kd.R_reads' hI3.rS).2.1; dsimp only at hI3 hcc ⊢; rw [HQ.out] at hI3 hcc; have cS3 := (fs_cell hI3.hS).1; have fS3 := (fs_cell hI3.hS).2; obtain ⟨i0, hi0, _, hsz, _⟩ := info_parts info3; have hcut := cut_to (P := Try.prog) 27 3 .i64 Try.underlying27 hi0 A3 (q + 1) c3' (q : Int) (by omega) (by omega) hcc; have hw3 : wrap64 (((q + 1 : Nat) : Int) - 1) = (q : Int) := (by unfold wrap64; omega); have HI3 := Aside0.mk hI3; clear hI3 hi0 hsz hcc)
                  have HC3 := Aside0.mk (FsInv.cut D HI3.out (j := q) (by have := HQ.out; omega))
                  go_roundg k3
                  case measure => have := HKQ.out; omega
                  case rel => exact ⟨wrap64 (x + 1), F3, n3, _, _, rfl, H3, ⟨by have := HKQ.out; omega⟩, HC3⟩
          · rw [if_neg c4] at h
            by_cases c5 : n2 < 1000000000000000000
            case neg => rw [if_neg c5] at h; cases h
            rw [if_pos c5] at h
            have H1 := Aside0.mk (Option.some.inj h)
            have HN := Aside0.mk c5
            clear h c5
            have cF := (fs_cell HI.out.hF).1
            go_wp2_with (at_mapUpdate; refine wpList_store_pair rfl _ _ _ 52 rfl fs_keyed Try.underlying52 Try.underlying4 rfl HI.out.map (by have := HN.out; unfold maxLen; omega) u a rfl rfl HK.out ?_; intro w2 hm hg; have HI2 := Aside0.mk (HI.out.put D hm hg); clear hm hg)
            go_ret
            rw [← H1.out]
            exact ⟨rfl, _, HI2.out⟩
theorem fs_store_func (w : World) (a : Addr) (m : Mode) (fn : Fn) (first captured : Array Value) : (store a (.func fn first captured) m).run Try.prog w = stored Try.prog w a (.func fn first captured) m := run_store Try.prog w a _ m rfl
attribute [local go_sem] fs_store_func
theorem fs_blks (w : World) (o0 o1 o2 o3 o4 : Obj) : Below w.heap.size w (((((w.alloc o0).alloc o1).alloc o2).alloc o3).alloc o4) ∧ (((((w.alloc o0).alloc o1).alloc o2).alloc o3).alloc o4).heap[w.heap.size]? = some o0 ∧ (((((w.alloc o0).alloc o1).alloc o2).alloc o3).alloc o4).heap[w.heap.size + 1]? = some o1 ∧ (((((w.alloc o0).alloc o1).alloc o2).alloc o3).alloc o4).heap[w.heap.size + 1 + 1]? = some o2 ∧ (((((w.alloc o0).alloc o1).alloc o2).alloc o3).alloc o4).heap[w.heap.size + 1 + 1 + 1]? = some o3 ∧ (((((w.alloc o0).alloc o1).alloc o2).alloc o3).alloc o4).heap[w.heap.size + 1 + 1 + 1 + 1]? = some o4 := by
  have n : ∀ (W : World) (o : Obj) (k : Nat), W.heap.size = k → (W.alloc o).heap[k]? = some o := fun W o k hk => by subst hk; simpa using heap_alloc_new W o
  have s1 : (w.alloc o0).heap.size = w.heap.size + 1 := by simp
  have s2 : ((w.alloc o0).alloc o1).heap.size = w.heap.size + 1 + 1 := by simp
  have s3 : (((w.alloc o0).alloc o1).alloc o2).heap.size = w.heap.size + 1 + 1 + 1 := by simp
  have s4 : ((((w.alloc o0).alloc o1).alloc o2).alloc o3).heap.size = w.heap.size + 1 + 1 + 1 + 1 := by simp
  have a : ∀ {W : World} {k : Nat} {o : Obj} (q : Obj), W.heap[k]? = some o → (W.alloc q).heap[k]? = some o := fun {W k o} q hk => ((below_alloc (Below.refl W.heap.size W) q).block k (Array.getElem?_eq_some_iff.1 hk).1).trans hk
  exact ⟨below_alloc (below_alloc (below_alloc (below_alloc (below_alloc (Below.refl _ _) _) _) _) _) _, a _ (a _ (a _ (a _ (n w o0 _ rfl)))), a _ (a _ (a _ (n _ o1 _ s1))), a _ (a _ (n _ o2 _ s2)), a _ (n _ o3 _ s3), n _ o4 _ s4⟩
theorem fs_row {W : World} {base g : Nat} {xs : List Int} (hb : W.heap[g]? = some (.cells (xs.map (Value.int .i64)).toArray 3 (0, 0))) (hg : base ≤ g) (hl : xs.length ≤ 9223372036854775807) : Kd.R (Kd.int .i64) 3 W base (fun k_ => k_ = g) (.slice (some ⟨g, 0, none⟩) xs.length xs.length) xs :=
  ⟨fun k hk => by simp [Value.ownBlock] at hk; exact hk.symm, xs.map (Value.int .i64), ⟨by simp [Kd.int, Kd.scalar], .inr ⟨g, xs.length, _, rfl, hg, hb, Nat.le_refl _, hl, by simp [Kd.int, Kd.scalar], by simp [Kd.int, Kd.scalar, List.take_of_length_le]⟩⟩, Kd.reps_scalar _⟩
theorem FsInv.start {w w4 : World} {A0 : Option Addr} {c0 : Nat} {ls : List (List Int)} (hb : Below w.heap.size w w4) (hW : w4.heap[w.heap.size]? = some (.cells #[.slice A0 ls.length c0] 22 (0, 0))) :
    FsInv w w.heap.size (w4.heap.size + 1 + 1) (w4.heap.size + 1 + 1 + 1) (w4.heap.size + 1 + 1 + 1 + 1) w4.heap.size A0 c0 ls (fun _ _ => false) 0 [] (.slice (some ⟨w4.heap.size + 1, 0, none⟩) 0 0)
      (((((w4.alloc (.map #[] 0)).alloc (.cells #[] 3)).alloc (.cells #[.map (some w4.heap.size)] 52)).alloc (.cells #[.slice (some ⟨w4.heap.size + 1, 0, none⟩) 0 0] 27)).alloc (.cells #[fsFn w.heap.size (w4.heap.size + 1 + 1) (w4.heap.size + 1 + 1 + 1) (w4.heap.size + 1 + 1 + 1 + 1)] 47)) ∧
    FsB w w.heap.size (w4.heap.size + 1 + 1) (w4.heap.size + 1 + 1 + 1) (w4.heap.size + 1 + 1 + 1 + 1) w4.heap.size := by
  have hlt := blk_lt hW
  have hle := hb.size
  obtain ⟨b5, e0, e1, e2, e3, e4⟩ := fs_blks w4 (.map #[] 0) (.cells #[] 3) (.cells #[.map (some w4.heap.size)] 52) (.cells #[.slice (some ⟨w4.heap.size + 1, 0, none⟩) 0 0] 27) (.cells #[fsFn w.heap.size (w4.heap.size + 1 + 1) (w4.heap.size + 1 + 1 + 1) (w4.heap.size + 1 + 1 + 1 + 1)] 47)
  have eW := (b5.block _ hlt).trans hW
  have hB := below_then hb hle b5
  have hM := (PairMap.made (P := Try.prog) (K := 53) (e := 4) w4).kept (grown_of_below (below_alloc (below_alloc (below_alloc (below_alloc (Below.refl _ _) (.cells #[] 3)) (.cells #[.map (some w4.heap.size)] 52)) (.cells #[.slice (some ⟨w4.heap.size + 1, 0, none⟩) 0 0] 27)) (.cells #[fsFn w.heap.size (w4.heap.size + 1 + 1) (w4.heap.size + 1 + 1 + 1) (w4.heap.size + 1 + 1 + 1 + 1)] 47)) none) (by simp)
  generalize (((((w4.alloc (.map #[] 0)).alloc (.cells #[] 3)).alloc (.cells #[.map (some w4.heap.size)] 52)).alloc (.cells #[.slice (some ⟨w4.heap.size + 1, 0, none⟩) 0 0] 27)).alloc (.cells #[fsFn w.heap.size (w4.heap.size + 1 + 1) (w4.heap.size + 1 + 1 + 1) (w4.heap.size + 1 + 1 + 1 + 1)] 47)) = W at *
  have e1' : W.heap[w4.heap.size + 1]? = some (.cells (([] : List Int).map (Value.int .i64)).toArray 3 (0, 0)) := e1
  refine ⟨⟨eW, e2, e3, e4, hM, ?_, hB⟩, ⟨by omega, by omega, by omega, by omega, by omega, by omega, by omega, by omega, by omega, by omega, by omega, by omega⟩⟩
  refine Kd.R_mono (fs_row (base := w.heap.size) e1' (by omega) (by simp)) (fun k hk => ?_)
  subst hk
  rintro (z | z | z | z | z) <;> omega
set_option maxHeartbeats 4000000 in
set_option maxRecDepth 100000 in
theorem impl_FirstStroke.calls (k : Nat) (a0 : Int) (A1 : Option Addr) (c1 : Nat) (l1 : List (List Int)) (a2 : Int) (r1 : List Int) (r2 : Bool) (w : World) (hr1 : Kd.C (Kd.slice 3 (Kd.int .i64)) w A1 l1.length l1) (hc1 : l1.length ≤ c1) (h : impl_FirstStroke.f k a0 l1 a2 = some (r1, r2)) :
    Calls Try.prog 35 #[.int .i64 a0, .slice A1 l1.length c1, .int .i64 a2] w fun e w' => ∃ v0_ : Value, e = .returned (.tuple #[v0_, .bool r2]) ∧ Kd.R (Kd.int .i64) 3 w' w.heap.size (fun _ => True) v0_ r1 ∧ Below w.heap.size w w' := by
  have eg : ∀ args w, (callFunc 52 args).run Try.prog w = .ok (.enter 52 args) w := enters_of Try.func52 (by kernel_rfl) rfl
  unfold impl_FirstStroke.f at h
  obtain ⟨t, ht, h⟩ := Option.bind_eq_some_iff.1 h
  have HT := Aside0.mk ht
  have HR := Aside0.mk hr1
  have HC := Aside0.mk hc1
  have H := Aside0.mk h
  have hb0 : Below w.heap.size w (w.alloc (.cells #[.slice A1 l1.length c1] 22)) := below_alloc (Below.refl _ _) _
  have HB0 := Aside0.mk hb0
  clear ht hr1 hc1 h hb0
  go_enter Try.func35, Try.ntmps35
  go_wp2_with fail
  refine (impl_IsDrawing.calls k a0 A1 c1 l1 t _ (Kd.C_below HR.out HB0.out) HC.out HT.out).mono ?_
  rintro e w2 ⟨rfl, hb⟩
  have hW2 : w2.heap[w.heap.size]? = some (.cells #[.slice A1 l1.length c1] 22 (0, 0)) := (hb.block _ (by simp)).trans (by simpa using heap_alloc_new w (.cells #[.slice A1 l1.length c1] 22))
  have HB2 := Aside0.mk (below_then HB0.out HB0.out.size hb)
  have HW2 := Aside0.mk hW2
  have cW2 := (fs_cell hW2).1
  have HR2 := Aside0.mk (Kd.C_below HR.out HB2.out)
  clear hW2 hb HB0
  have h := H.out
  clear H
  by_cases c1 : t = true
  · subst c1
    rw [if_pos rfl] at h
    obtain ⟨t2, ht2, h⟩ := Option.bind_eq_some_iff.1 h
    have HT2 := Aside0.mk ht2
    have H := Aside0.mk h
    clear ht2 h
    go_wp2_with fail
    refine (impl_within.calls a2 0 (wrap64 (a0 - 1)) t2 _ HT2.out).mono ?_
    rintro e w4 ⟨rfl, hd4⟩
    have HB4 : Aside0 (Below w2.heap.size w2 w4) := ⟨hd4.below⟩
    clear hd4
    have h := H.out
    clear H
    by_cases c3 : t2 = true
    · subst c3
      rw [if_pos rfl] at h
      have H := Aside0.mk h
      clear h cW2
      have hmm := @run_makeMap Try.prog
      have hst := FsInv.start (A0 := A1) (c0 := c1) (ls := l1) (w := w) (w4 := w4) (below_then HB2.out HB2.out.size HB4.out) ((HB4.out.block _ (blk_lt HW2.out)).trans HW2.out)
      have HST := Aside0.mk hst
      obtain ⟨r, hr, h3⟩ := Option.bind_eq_some_iff.1 H.out
      obtain ⟨ok, F3, n3, st3⟩ := r
      have HG := Aside0.mk hr
      have H3 := Aside0.mk h3
      clear hst hr h3 H
      cases ok with
      | true =>
        have HE := Aside0.mk (Option.some.inj H3.out)
        clear H3
        go_wp2_with (go_at_fn 52; refine (impl_FirstStroke_1.calls w _ _ _ _ _ A1 c1 l1 HST.out.2 HR.out eg k 0 a2 _ 0 [] _ _ _ HG.out HST.out.1).mono ?_; rintro e w7 ⟨rfl, vs7, hI7⟩; have HI7 := Aside0.mk hI7; have cS7 := (fs_cell hI7.hS).1; clear hI7)
        go_ret2
        have hE1 : st3 = r1 := congrArg Prod.fst HE.out
        have hE2 : true = r2 := congrArg Prod.snd HE.out
        subst hE1 hE2
        exact ⟨vs7, rfl, Kd.R_mono HI7.out.rS (fun _ _ => trivial), HI7.out.below⟩
      | false =>
        have HE := Aside0.mk (Option.some.inj H3.out)
        clear H3
        go_wp2_with (go_at_fn 52; refine (impl_FirstStroke_1.calls w _ _ _ _ _ A1 c1 l1 HST.out.2 HR.out eg k 0 a2 _ 0 [] _ _ _ HG.out HST.out.1).mono ?_; rintro e w7 ⟨rfl, vs7, hI7⟩; have HI7 := Aside0.mk hI7; clear hI7)
        go_ret2
        have hE1 : r1 = [] := (congrArg Prod.fst HE.out).symm
        have hE2 : r2 = false := (congrArg Prod.snd HE.out).symm
        subst hE1 hE2
        exact ⟨.slice none 0 0, rfl, Kd.R_nil _ _ _ _ _, HI7.out.below⟩
    · rw [if_neg c3] at h
      obtain rfl : t2 = false := by simpa using c3
      have HE := Aside0.mk (Option.some.inj h)
      clear h c3
      go_wp2
      go_ret2
      have hE1 : r1 = [] := (congrArg Prod.fst HE.out).symm
      have hE2 : r2 = false := (congrArg Prod.snd HE.out).symm
      subst hE1 hE2
      exact ⟨.slice none 0 0, rfl, Kd.R_nil _ _ _ _ _, below_then HB2.out HB2.out.size HB4.out⟩
  · rw [if_neg c1] at h
    obtain rfl : t = false := by simpa using c1
    have HE := Aside0.mk (Option.some.inj h)
    clear h c1
    go_wp2
    go_ret2
    have hE1 : r1 = [] := (congrArg Prod.fst HE.out).symm
    have hE2 : r2 = false := (congrArg Prod.snd HE.out).symm
    subst hE1 hE2
    exact ⟨.slice none 0 0, rfl, Kd.R_nil _ _ _ _ _, HB2.out⟩
end Go.Proofs.Ytcdajmbnijmdfaa.PA
-- Written for this claim by a program of this session's (ownprint.py), by way of the kit's print and hand-proved texts. Lean checks it.
namespace Go.Proofs.Ytcdajmbnijmdfaa.PA
open Go.RowKit Go.Proofs.YtcdajmbnijmdfaaW.PrintWords Go.Proofs.YtcdajmbnijmdfaaW.PrintLast Go.Proofs.YtcdajmbnijmdfaaW.PrintMore
attribute [local go_sem] max2_int min2_int max_two min_two max_three min_three max_four min_four   -- for this text's walks alone
set_option linter.unusedVariables false
set_option linter.unusedSimpArgs false
def impl_CanTrace.l0 : Nat → Int → List (List Int) → Int → Int → Option (Bool)
  | 0, _, _, _, _ => none
  | k + 1, x0, x1, x10, x11 => if x11 < x10 then ((impl_FirstStroke.f k x0 x1 x11).bind fun bt356 => (if bt356.2 = true then (some true) else (impl_CanTrace.l0 k x0 x1 x10 (wrap64 (x11 + 1))))) else (some false)
def impl_CanTrace.f (k : Nat) (a0 : Int) (l1 : List (List Int)) : Option (Bool) := impl_CanTrace.l0 k a0 l1 (mn (mx a0 0) 8) 0
set_option maxHeartbeats 8000000 in
set_option maxRecDepth 100000 in
theorem impl_CanTrace.calls (k : Nat) (a0 : Int) (A1 : Option Addr) (c1 : Nat) (l1 : List (List Int)) (r : Bool) (w : World) (hr1 : Kd.C (Kd.slice 3 (Kd.int .i64)) w A1 l1.length l1) (hc1 : l1.length ≤ c1) (h : impl_CanTrace.f k a0 l1 = some r) :
    Calls Try.prog 33 #[.int .i64 a0, .slice A1 l1.length c1] w fun e w' => e = .returned (.bool r) ∧ Below w.heap.size w w' := by
  have HR1 := Aside0.mk hr1
  have HC1 := Aside0.mk hc1
  clear hr1 hc1
  have HB := Aside0.mk (Below.refl w.heap.size w)
  have H : (impl_CanTrace.l0 k a0 l1 (mn (mx a0 0) 8) 0) = some r := h
  clear h
  obtain ⟨ji3, hji3⟩ : ∃ j_ : Int, (mx a0 0) = j_ := ⟨_, rfl⟩
  replace H : (impl_CanTrace.l0 k a0 l1 (mn (ji3) 8) 0) = some r := by first | (rw [hji3] at H; exact H) | (simp only [hji3] at H ⊢; exact H)
  (try (have hji3l : 0 ≤ ji3 := by (rw [← hji3]; unfold mx; (repeat' split) <;> omega)))
  (try (have hji3m : 0 ≤ ji3 := by omega))
  have hji3_ : (if a0 < 0 then 0 else a0) = ji3 := hji3
  obtain ⟨ji4, hji4⟩ : ∃ j_ : Int, (mn (ji3) 8) = j_ := ⟨_, rfl⟩
  replace H : (impl_CanTrace.l0 k a0 l1 ji4 0) = some r := by first | (rw [hji4] at H; exact H) | (simp only [hji4] at H ⊢; exact H)
  have hji4_ : (if 8 < (ji3) then 8 else (ji3)) = ji4 := hji4
  have H' := Aside0.mk H
  clear H
  go_enter Try.func33, Try.ntmps33
  go_wp2
  go_loopg [11] k (fun kq v11 w' => ∃ (x11_1 : Int), v11 = .int .i64 x11_1 ∧ Aside0 (impl_CanTrace.l0 kq a0 l1 ji4 x11_1 = some r) ∧ Aside0 (kq ≤ k) ∧ Aside0 (Below w.heap.size w w'))
  case atStart => exact ⟨(0), (by first | rfl | (simp; done) | (simp [*]; done)), H', ⟨Nat.le_refl _⟩, ⟨by repeat (first | (with_reducible first | exact HB.out | apply below_alloc | apply pw_below_drewN | apply below_drew1) | exact HB.out)⟩⟩
  case round =>
    clear H'
    try clear c1
    try clear p2
    try clear c3
    obtain ⟨x11_1, rfl, HA, HK1, HB⟩ := hrel
    cases gk with
    | zero => exact absurd HA.out (by simp [impl_CanTrace.l0])
    | succ k1 =>
      have H := HA.out
      clear HA
      simp only [impl_CanTrace.l0] at H
      by_cases c5 : x11_1 < ji4
      · rw [if_pos c5] at H
        have c5b0 : decide (x11_1 < ji4) = true := decide_eq_true c5
        clear c5
        replace H := Option.bind_eq_some_iff.mp H
        obtain ⟨⟨t356, t357⟩, A60, H⟩ := H
        replace H : (if t357 = true then (some true) else (impl_CanTrace.l0 k1 a0 l1 ji4 (wrap64 (x11_1 + 1)))) = some r := H
        have A6 := Aside0.mk A60
        clear A60
        by_cases c7 : t357 = true
        · subst c7
          have H1 : (some true) = some r := by rw [if_pos rfl] at H; exact H
          clear H
          have H := H1
          clear H1
          obtain rfl := Option.some.inj H
          go_wp2_with (first | ((with_reducible refine gate_callee (f := 35) rfl ?_); refine goesL_ (some 18) rfl rfl Try.func35 (by kernel_rfl) rfl #[.int .i64 a0, .slice A1 l1.length c1, .int .i64 x11_1] rfl (by (try simp only [List.map_toArray, List.map_cons, List.map_nil]); first | done | rfl | (simp only [List.length_drop, List.length_take]; rfl)) ?_; (with_reducible refine (impl_FirstStroke.calls k1 a0 _ _ l1 x11_1 t356 true _ ?side1 ?side2 A6.out).mono ?_); (case side1 => repeat (first | exact (Kd.C_below HR1.out HB.out) | (with_reducible refine Kd.C_alloc ?_ _) | (with_reducible refine Kd.C_drewN ?_ _) | (with_reducible refine Kd.C_drew ?_))); (case side2 => exact HC1.out); rintro e w8 ⟨v358, rfl, ho0, hb⟩; refine ⟨_, rfl, ?_⟩; have n0_ := Aside0.mk (Kd.R_lower ho0 (below_size (by repeat (first | (with_reducible first | exact HB.out | apply below_alloc | apply pw_below_drewN | apply below_drew1) | exact HB.out)))); have n1_ := Aside0.mk (below_step (by repeat (first | (with_reducible first | exact HB.out | apply below_alloc | apply pw_below_drewN | apply below_drew1) | exact HB.out)) hb); clear HB; have HO359 := n0_; have HB := n1_; clear n0_ n1_; (try clear hb); (try clear hb2); (try clear hk); (try clear hi); (try clear ho0)))
          go_ret
          exact ⟨by first | rfl | (simp [errW_none, errW_some] <;> rfl) | (simp only [← hji3, ← hji4]; first | rfl | (simp [errW_none, errW_some] <;> rfl)) | (simp [*, errW_none, errW_some] <;> rfl), by repeat (first | (with_reducible first | exact HB.out | apply below_alloc | apply pw_below_drewN | apply below_drew1) | exact HB.out)⟩
        · replace c7 := Bool.eq_false_iff.mpr c7
          subst c7
          have H1 : (impl_CanTrace.l0 k1 a0 l1 ji4 (wrap64 (x11_1 + 1))) = some r := by rw [if_neg (show ¬ (false = true) by decide)] at H; exact H
          clear H
          have H := H1
          clear H1
          have H' := Aside0.mk H
          clear H
          go_wp2_with (first | ((with_reducible refine gate_callee (f := 35) rfl ?_); refine goesL_ (some 18) rfl rfl Try.func35 (by kernel_rfl) rfl #[.int .i64 a0, .slice A1 l1.length c1, .int .i64 x11_1] rfl (by (try simp only [List.map_toArray, List.map_cons, List.map_nil]); first | done | rfl | (simp only [List.length_drop, List.length_take]; rfl)) ?_; (with_reducible refine (impl_FirstStroke.calls k1 a0 _ _ l1 x11_1 t356 false _ ?side1 ?side2 A6.out).mono ?_); (case side1 => repeat (first | exact (Kd.C_below HR1.out HB.out) | (with_reducible refine Kd.C_alloc ?_ _) | (with_reducible refine Kd.C_drewN ?_ _) | (with_reducible refine Kd.C_drew ?_))); (case side2 => exact HC1.out); rintro e w9 ⟨v358, rfl, ho0, hb⟩; refine ⟨_, rfl, ?_⟩; have n0_ := Aside0.mk (Kd.R_lower ho0 (below_size (by repeat (first | (with_reducible first | exact HB.out | apply below_alloc | apply pw_below_drewN | apply below_drew1) | exact HB.out)))); have n1_ := Aside0.mk (below_step (by repeat (first | (with_reducible first | exact HB.out | apply below_alloc | apply pw_below_drewN | apply below_drew1) | exact HB.out)) hb); clear HB; have HO359 := n0_; have HB := n1_; clear n0_ n1_; (try clear hb); (try clear hb2); (try clear hk); (try clear hi); (try clear ho0)))
          go_roundg k1
          case measure => have := HK1.out; omega
          case rel => exact ⟨(wrap64 (x11_1 + 1)), (by first | rfl | (simp; done) | (simp [*]; done)), H', ⟨by have := HK1.out; omega⟩, ⟨by repeat (first | (with_reducible first | exact HB.out | apply below_alloc | apply pw_below_drewN | apply below_drew1) | exact HB.out)⟩⟩
      · rw [if_neg c5] at H
        have c5b0 : decide (x11_1 < ji4) = false := decide_eq_false c5
        clear c5
        obtain rfl := Option.some.inj H
        go_wp2
        go_ret
        exact ⟨by first | rfl | (simp [errW_none, errW_some] <;> rfl) | (simp only [← hji3, ← hji4]; first | rfl | (simp [errW_none, errW_some] <;> rfl)) | (simp [*, errW_none, errW_some] <;> rfl), by repeat (first | (with_reducible first | exact HB.out | apply below_alloc | apply pw_below_drewN | apply below_drew1) | exact HB.out)⟩
def laws_FnExactCanTrace.f (k : Nat) (a0 : Int) (l1 : List (List Int)) : Option (Bool) := (laws_szIntSS.f k l1 1048576).bind fun t360 => (if t360 < 0 then (some true) else ((laws_toIntSS.f k l1).bind fun t361 => ((spec_CanTrace.f k a0 t361).bind fun t364 => ((laws_toIntSS.f k l1).bind fun t365 => ((impl_CanTrace.f k a0 t365).bind fun t368 => (if (t368 != t364) = true then (some false) else ((laws_toIntSS.f k l1).bind fun t369 => ((laws_eqIntSS.f k t365 t369).bind fun t372 => (if t372 = true then (some true) else (some false))))))))))
set_option maxHeartbeats 8000000 in
set_option maxRecDepth 100000 in
theorem laws_FnExactCanTrace.calls (k : Nat) (a0 : Int) (A1 : Option Addr) (c1 : Nat) (l1 : List (List Int)) (r : Bool) (w : World) (hr1 : Kd.C (Kd.slice 3 (Kd.int .i64)) w A1 l1.length l1) (hc1 : l1.length ≤ c1) (h : laws_FnExactCanTrace.f k a0 l1 = some r) :
    Calls Try.prog 8 #[.int .i64 a0, .slice A1 l1.length c1] w fun e w' => e = .returned (.bool r) ∧ Below w.heap.size w w' := by
  have HR1 := Aside0.mk hr1
  have HC1 := Aside0.mk hc1
  clear hr1 hc1
  have HB := Aside0.mk (Below.refl w.heap.size w)
  have H : ((laws_szIntSS.f k l1 1048576).bind fun t360 => (if t360 < 0 then (some true) else ((laws_toIntSS.f k l1).bind fun t361 => ((spec_CanTrace.f k a0 t361).bind fun t364 => ((laws_toIntSS.f k l1).bind fun t365 => ((impl_CanTrace.f k a0 t365).bind fun t368 => (if (t368 != t364) = true then (some false) else ((laws_toIntSS.f k l1).bind fun t369 => ((laws_eqIntSS.f k t365 t369).bind fun t372 => (if t372 = true then (some true) else (some false))))))))))) = some r := h
  clear h
  replace H := Option.bind_eq_some_iff.mp H
  obtain ⟨t360, A30, H⟩ := H
  replace H : (if t360 < 0 then (some true) else ((laws_toIntSS.f k l1).bind fun t361 => ((spec_CanTrace.f k a0 t361).bind fun t364 => ((laws_toIntSS.f k l1).bind fun t365 => ((impl_CanTrace.f k a0 t365).bind fun t368 => (if (t368 != t364) = true then (some false) else ((laws_toIntSS.f k l1).bind fun t369 => ((laws_eqIntSS.f k t365 t369).bind fun t372 => (if t372 = true then (some true) else (some false)))))))))) = some r := H
  have A3 := Aside0.mk A30
  clear A30
  by_cases c4 : t360 < 0
  · rw [if_pos c4] at H
    have c4b0 : decide (t360 < 0) = true := decide_eq_true c4
    clear c4
    obtain rfl := Option.some.inj H
    go_enter Try.func8, Try.ntmps8
    go_wp2_with (first | ((with_reducible refine gate_callee (f := 13) rfl ?_); refine goesL_ (some 11) rfl rfl Try.func13 (by kernel_rfl) rfl #[.slice A1 l1.length c1, .int .i64 1048576] rfl (by (try simp only [List.map_toArray, List.map_cons, List.map_nil]); first | done | rfl | (simp only [List.length_drop, List.length_take]; rfl)) ?_; (with_reducible refine (laws_szIntSS.calls k _ _ l1 1048576 t360 _ ?side1 ?side2 A3.out).mono ?_); (case side1 => repeat (first | exact HR1.out | (with_reducible refine Kd.C_alloc ?_ _) | (with_reducible refine Kd.C_drewN ?_ _) | (with_reducible refine Kd.C_drew ?_))); (case side2 => exact HC1.out); rintro e w' ⟨rfl, ⟨nd, rfl⟩⟩; refine ⟨_, rfl, ?_⟩))
    go_ret
    exact ⟨by first | rfl | (simp [errW_none, errW_some] <;> rfl) | (simp [*, errW_none, errW_some] <;> rfl), by repeat (first | (with_reducible first | exact HB.out | apply below_alloc | apply pw_below_drewN | apply below_drew1) | exact HB.out)⟩
  · rw [if_neg c4] at H
    have c4b0 : decide (t360 < 0) = false := decide_eq_false c4
    clear c4
    replace H := Option.bind_eq_some_iff.mp H
    obtain ⟨t361, A50, H⟩ := H
    replace H : ((spec_CanTrace.f k a0 t361).bind fun t364 => ((laws_toIntSS.f k l1).bind fun t365 => ((impl_CanTrace.f k a0 t365).bind fun t368 => (if (t368 != t364) = true then (some false) else ((laws_toIntSS.f k l1).bind fun t369 => ((laws_eqIntSS.f k t365 t369).bind fun t372 => (if t372 = true then (some true) else (some false)))))))) = some r := H
    have A5 := Aside0.mk A50
    clear A50
    replace H := Option.bind_eq_some_iff.mp H
    obtain ⟨t364, A60, H⟩ := H
    replace H : ((laws_toIntSS.f k l1).bind fun t365 => ((impl_CanTrace.f k a0 t365).bind fun t368 => (if (t368 != t364) = true then (some false) else ((laws_toIntSS.f k l1).bind fun t369 => ((laws_eqIntSS.f k t365 t369).bind fun t372 => (if t372 = true then (some true) else (some false))))))) = some r := H
    have A6 := Aside0.mk A60
    clear A60
    replace H := Option.bind_eq_some_iff.mp H
    obtain ⟨t365, A70, H⟩ := H
    replace H : ((impl_CanTrace.f k a0 t365).bind fun t368 => (if (t368 != t364) = true then (some false) else ((laws_toIntSS.f k l1).bind fun t369 => ((laws_eqIntSS.f k t365 t369).bind fun t372 => (if t372 = true then (some true) else (some false)))))) = some r := H
    have A7 := Aside0.mk A70
    clear A70
    replace H := Option.bind_eq_some_iff.mp H
    obtain ⟨t368, A80, H⟩ := H
    replace H : (if (t368 != t364) = true then (some false) else ((laws_toIntSS.f k l1).bind fun t369 => ((laws_eqIntSS.f k t365 t369).bind fun t372 => (if t372 = true then (some true) else (some false))))) = some r := H
    have A8 := Aside0.mk A80
    clear A80
    by_cases c9 : (t368 != t364) = true
    · rw [if_pos c9] at H
      have c9b0 : (t368 != t364) = true := c9
      (try (have c9b1 : decide (t368 = t364) = false := by simpa using c9))
      (try (have c9b2 : (t368 == t364) = false := by simpa using c9))
      (try (have c9b3 : ¬ (t368 = t364) := by simpa using c9))
      clear c9
      obtain rfl := Option.some.inj H
      go_enter Try.func8, Try.ntmps8
      go_wp2_with (first | ((with_reducible refine gate_callee (f := 13) rfl ?_); refine goesL_ (some 11) rfl rfl Try.func13 (by kernel_rfl) rfl #[.slice A1 l1.length c1, .int .i64 1048576] rfl (by (try simp only [List.map_toArray, List.map_cons, List.map_nil]); first | done | rfl | (simp only [List.length_drop, List.length_take]; rfl)) ?_; (with_reducible refine (laws_szIntSS.calls k _ _ l1 1048576 t360 _ ?side1 ?side2 A3.out).mono ?_); (case side1 => repeat (first | exact HR1.out | (with_reducible refine Kd.C_alloc ?_ _) | (with_reducible refine Kd.C_drewN ?_ _) | (with_reducible refine Kd.C_drew ?_))); (case side2 => exact HC1.out); rintro e w' ⟨rfl, ⟨nd, rfl⟩⟩; refine ⟨_, rfl, ?_⟩) | ((with_reducible refine gate_callee (f := 15) rfl ?_); refine goesL_ (some 16) rfl rfl Try.func15 (by kernel_rfl) rfl #[.slice A1 l1.length c1] rfl (by (try simp only [List.map_toArray, List.map_cons, List.map_nil]); first | done | rfl | (simp only [List.length_drop, List.length_take]; rfl)) ?_; (with_reducible refine (laws_toIntSS.calls k _ _ l1 t361 _ ?side1 ?side2 A5.out).mono ?_); (case side1 => repeat (first | exact HR1.out | (with_reducible refine Kd.C_alloc ?_ _) | (with_reducible refine Kd.C_drewN ?_ _) | (with_reducible refine Kd.C_drew ?_))); (case side2 => exact HC1.out); rintro e w10 ⟨v362, rfl, ho0, hb⟩; refine ⟨_, rfl, ?_⟩; have n0_ := Aside0.mk (Kd.S_lower ho0 (below_size (by repeat (first | (with_reducible first | exact HB.out | apply below_alloc | apply pw_below_drewN | apply below_drew1) | exact HB.out)))); have n1_ := Aside0.mk (below_step (by repeat (first | (with_reducible first | exact HB.out | apply below_alloc | apply pw_below_drewN | apply below_drew1) | exact HB.out)) hb); clear HB; have HO363 := n0_; have HB := n1_; clear n0_ n1_; (try clear hb); (try clear hb2); (try clear hk); (try clear hi); (try clear ho0); obtain ⟨Ao11, co11, eo11⟩ := Kd.S_slice HO363.out; subst eo11) | ((with_reducible refine gate_callee (f := 32) rfl ?_); refine goesL_ (some 17) rfl rfl Try.func32 (by kernel_rfl) rfl #[.int .i64 a0, .slice Ao11 t361.length co11] rfl (by (try simp only [List.map_toArray, List.map_cons, List.map_nil]); first | done | rfl | (simp only [List.length_drop, List.length_take]; rfl)) ?_; (with_reducible refine (spec_CanTrace.calls k a0 _ _ t361 t364 _ ?side1 ?side2 A6.out).mono ?_); (case side1 => repeat (first | exact (Kd.S_reads' HO363.out).2.2 | (with_reducible refine Kd.C_alloc ?_ _) | (with_reducible refine Kd.C_drewN ?_ _) | (with_reducible refine Kd.C_drew ?_))); (case side2 => exact (Kd.S_reads' HO363.out).2.1); rintro e w12 ⟨rfl, hb⟩; refine ⟨_, rfl, ?_⟩; have n0_ := Aside0.mk (Kd.S_below (by (with_reducible repeat (first | apply Kd.S_alloc | apply Kd.S_drewN | apply Kd.S_drew)); exact HO363.out) hb); have n1_ := Aside0.mk (below_step (by repeat (first | (with_reducible first | exact HB.out | apply below_alloc | apply pw_below_drewN | apply below_drew1) | exact HB.out)) hb); clear HO363; clear HB; have HO363 := n0_; have HB := n1_; clear n0_ n1_; (try clear hb); (try clear hb2); (try clear hk); (try clear hi)) | ((with_reducible refine gate_callee (f := 15) rfl ?_); refine goesL_ (some 19) rfl rfl Try.func15 (by kernel_rfl) rfl #[.slice A1 l1.length c1] rfl (by (try simp only [List.map_toArray, List.map_cons, List.map_nil]); first | done | rfl | (simp only [List.length_drop, List.length_take]; rfl)) ?_; (with_reducible refine (laws_toIntSS.calls k _ _ l1 t365 _ ?side1 ?side2 A7.out).mono ?_); (case side1 => repeat (first | exact (Kd.C_below HR1.out HB.out) | (with_reducible refine Kd.C_alloc ?_ _) | (with_reducible refine Kd.C_drewN ?_ _) | (with_reducible refine Kd.C_drew ?_))); (case side2 => exact HC1.out); rintro e w13 ⟨v366, rfl, ho0, hb⟩; refine ⟨_, rfl, ?_⟩; have n0_ := Aside0.mk (Kd.S_elder' (by (with_reducible repeat (first | apply Kd.S_alloc | apply Kd.S_drewN | apply Kd.S_drew)); exact HO363.out) (Kd.S_base ho0) hb); have n1_ := Aside0.mk (Kd.S_lower (Kd.S_new' ho0 (Kd.S_lt (by (with_reducible repeat (first | apply Kd.S_alloc | apply Kd.S_drewN | apply Kd.S_drew)); exact HO363.out))) (below_size (by repeat (first | (with_reducible first | exact HB.out | apply below_alloc | apply pw_below_drewN | apply below_drew1) | exact HB.out)))); have n2_ := Aside0.mk (below_step (by repeat (first | (with_reducible first | exact HB.out | apply below_alloc | apply pw_below_drewN | apply below_drew1) | exact HB.out)) hb); clear HO363; clear HB; have HO363 := n0_; have HO367 := n1_; have HB := n2_; clear n0_ n1_ n2_; (try clear hb); (try clear hb2); (try clear hk); (try clear hi); (try clear ho0); obtain ⟨Ao14, co14, eo14⟩ := Kd.S_slice HO367.out; subst eo14) | ((with_reducible refine gate_callee (f := 33) rfl ?_); refine goesL_ (some 22) rfl rfl Try.func33 (by kernel_rfl) rfl #[.int .i64 a0, .slice Ao14 t365.length co14] rfl (by (try simp only [List.map_toArray, List.map_cons, List.map_nil]); first | done | rfl | (simp only [List.length_drop, List.length_take]; rfl)) ?_; (with_reducible refine (impl_CanTrace.calls k a0 _ _ t365 t368 _ ?side1 ?side2 A8.out).mono ?_); (case side1 => repeat (first | exact (Kd.S_reads' HO367.out).2.2 | (with_reducible refine Kd.C_alloc ?_ _) | (with_reducible refine Kd.C_drewN ?_ _) | (with_reducible refine Kd.C_drew ?_))); (case side2 => exact (Kd.S_reads' HO367.out).2.1); rintro e w15 ⟨rfl, hb⟩; refine ⟨_, rfl, ?_⟩; have n0_ := Aside0.mk (Kd.S_below (by (with_reducible repeat (first | apply Kd.S_alloc | apply Kd.S_drewN | apply Kd.S_drew)); exact HO363.out) hb); have n1_ := Aside0.mk (Kd.S_below (by (with_reducible repeat (first | apply Kd.S_alloc | apply Kd.S_drewN | apply Kd.S_drew)); exact HO367.out) hb); have n2_ := Aside0.mk (below_step (by repeat (first | (with_reducible first | exact HB.out | apply below_alloc | apply pw_below_drewN | apply below_drew1) | exact HB.out)) hb); clear HO363; clear HO367; clear HB; have HO363 := n0_; have HO367 := n1_; have HB := n2_; clear n0_ n1_ n2_; (try clear hb); (try clear hb2); (try clear hk); (try clear hi)))
      go_ret
      exact ⟨by first | rfl | (simp [errW_none, errW_some] <;> rfl) | (simp [*, errW_none, errW_some] <;> rfl), by repeat (first | (with_reducible first | exact HB.out | apply below_alloc | apply pw_below_drewN | apply below_drew1) | exact HB.out)⟩
    · rw [if_neg c9] at H
      have c9b0 : (t368 != t364) = false := by simpa using c9
      (try (have c9b1 : decide (t368 = t364) = true := by simpa using c9))
      (try (have c9b2 : (t368 == t364) = true := by simpa using c9))
      clear c9
      replace H := Option.bind_eq_some_iff.mp H
      obtain ⟨t369, A160, H⟩ := H
      replace H : ((laws_eqIntSS.f k t365 t369).bind fun t372 => (if t372 = true then (some true) else (some false))) = some r := H
      have A16 := Aside0.mk A160
      clear A160
      replace H := Option.bind_eq_some_iff.mp H
      obtain ⟨t372, A170, H⟩ := H
      replace H : (if t372 = true then (some true) else (some false)) = some r := H
      have A17 := Aside0.mk A170
      clear A170
      by_cases c18 : t372 = true
      · subst c18
        have H1 : (some true) = some r := by rw [if_pos rfl] at H; exact H
        clear H
        have H := H1
        clear H1
        obtain rfl := Option.some.inj H
        go_enter Try.func8, Try.ntmps8
        go_wp2_with (first | ((with_reducible refine gate_callee (f := 13) rfl ?_); refine goesL_ (some 11) rfl rfl Try.func13 (by kernel_rfl) rfl #[.slice A1 l1.length c1, .int .i64 1048576] rfl (by (try simp only [List.map_toArray, List.map_cons, List.map_nil]); first | done | rfl | (simp only [List.length_drop, List.length_take]; rfl)) ?_; (with_reducible refine (laws_szIntSS.calls k _ _ l1 1048576 t360 _ ?side1 ?side2 A3.out).mono ?_); (case side1 => repeat (first | exact HR1.out | (with_reducible refine Kd.C_alloc ?_ _) | (with_reducible refine Kd.C_drewN ?_ _) | (with_reducible refine Kd.C_drew ?_))); (case side2 => exact HC1.out); rintro e w' ⟨rfl, ⟨nd, rfl⟩⟩; refine ⟨_, rfl, ?_⟩) | ((with_reducible refine gate_callee (f := 15) rfl ?_); refine goesL_ (some 16) rfl rfl Try.func15 (by kernel_rfl) rfl #[.slice A1 l1.length c1] rfl (by (try simp only [List.map_toArray, List.map_cons, List.map_nil]); first | done | rfl | (simp only [List.length_drop, List.length_take]; rfl)) ?_; (with_reducible refine (laws_toIntSS.calls k _ _ l1 t361 _ ?side1 ?side2 A5.out).mono ?_); (case side1 => repeat (first | exact HR1.out | (with_reducible refine Kd.C_alloc ?_ _) | (with_reducible refine Kd.C_drewN ?_ _) | (with_reducible refine Kd.C_drew ?_))); (case side2 => exact HC1.out); rintro e w19 ⟨v362, rfl, ho0, hb⟩; refine ⟨_, rfl, ?_⟩; have n0_ := Aside0.mk (Kd.S_lower ho0 (below_size (by repeat (first | (with_reducible first | exact HB.out | apply below_alloc | apply pw_below_drewN | apply below_drew1) | exact HB.out)))); have n1_ := Aside0.mk (below_step (by repeat (first | (with_reducible first | exact HB.out | apply below_alloc | apply pw_below_drewN | apply below_drew1) | exact HB.out)) hb); clear HB; have HO363 := n0_; have HB := n1_; clear n0_ n1_; (try clear hb); (try clear hb2); (try clear hk); (try clear hi); (try clear ho0); obtain ⟨Ao20, co20, eo20⟩ := Kd.S_slice HO363.out; subst eo20) | ((with_reducible refine gate_callee (f := 32) rfl ?_); refine goesL_ (some 17) rfl rfl Try.func32 (by kernel_rfl) rfl #[.int .i64 a0, .slice Ao20 t361.length co20] rfl (by (try simp only [List.map_toArray, List.map_cons, List.map_nil]); first | done | rfl | (simp only [List.length_drop, List.length_take]; rfl)) ?_; (with_reducible refine (spec_CanTrace.calls k a0 _ _ t361 t364 _ ?side1 ?side2 A6.out).mono ?_); (case side1 => repeat (first | exact (Kd.S_reads' HO363.out).2.2 | (with_reducible refine Kd.C_alloc ?_ _) | (with_reducible refine Kd.C_drewN ?_ _) | (with_reducible refine Kd.C_drew ?_))); (case side2 => exact (Kd.S_reads' HO363.out).2.1); rintro e w21 ⟨rfl, hb⟩; refine ⟨_, rfl, ?_⟩; have n0_ := Aside0.mk (Kd.S_below (by (with_reducible repeat (first | apply Kd.S_alloc | apply Kd.S_drewN | apply Kd.S_drew)); exact HO363.out) hb); have n1_ := Aside0.mk (below_step (by repeat (first | (with_reducible first | exact HB.out | apply below_alloc | apply pw_below_drewN | apply below_drew1) | exact HB.out)) hb); clear HO363; clear HB; have HO363 := n0_; have HB := n1_; clear n0_ n1_; (try clear hb); (try clear hb2); (try clear hk); (try clear hi)) | ((with_reducible refine gate_callee (f := 15) rfl ?_); refine goesL_ (some 19) rfl rfl Try.func15 (by kernel_rfl) rfl #[.slice A1 l1.length c1] rfl (by (try simp only [List.map_toArray, List.map_cons, List.map_nil]); first | done | rfl | (simp only [List.length_drop, List.length_take]; rfl)) ?_; (with_reducible refine (laws_toIntSS.calls k _ _ l1 t365 _ ?side1 ?side2 A7.out).mono ?_); (case side1 => repeat (first | exact (Kd.C_below HR1.out HB.out) | (with_reducible refine Kd.C_alloc ?_ _) | (with_reducible refine Kd.C_drewN ?_ _) | (with_reducible refine Kd.C_drew ?_))); (case side2 => exact HC1.out); rintro e w22 ⟨v366, rfl, ho0, hb⟩; refine ⟨_, rfl, ?_⟩; have n0_ := Aside0.mk (Kd.S_elder' (by (with_reducible repeat (first | apply Kd.S_alloc | apply Kd.S_drewN | apply Kd.S_drew)); exact HO363.out) (Kd.S_base ho0) hb); have n1_ := Aside0.mk (Kd.S_lower (Kd.S_new' ho0 (Kd.S_lt (by (with_reducible repeat (first | apply Kd.S_alloc | apply Kd.S_drewN | apply Kd.S_drew)); exact HO363.out))) (below_size (by repeat (first | (with_reducible first | exact HB.out | apply below_alloc | apply pw_below_drewN | apply below_drew1) | exact HB.out)))); have n2_ := Aside0.mk (below_step (by repeat (first | (with_reducible first | exact HB.out | apply below_alloc | apply pw_below_drewN | apply below_drew1) | exact HB.out)) hb); clear HO363; clear HB; have HO363 := n0_; have HO367 := n1_; have HB := n2_; clear n0_ n1_ n2_; (try clear hb); (try clear hb2); (try clear hk); (try clear hi); (try clear ho0); obtain ⟨Ao23, co23, eo23⟩ := Kd.S_slice HO367.out; subst eo23) | ((with_reducible refine gate_callee (f := 33) rfl ?_); refine goesL_ (some 22) rfl rfl Try.func33 (by kernel_rfl) rfl #[.int .i64 a0, .slice Ao23 t365.length co23] rfl (by (try simp only [List.map_toArray, List.map_cons, List.map_nil]); first | done | rfl | (simp only [List.length_drop, List.length_take]; rfl)) ?_; (with_reducible refine (impl_CanTrace.calls k a0 _ _ t365 t368 _ ?side1 ?side2 A8.out).mono ?_); (case side1 => repeat (first | exact (Kd.S_reads' HO367.out).2.2 | (with_reducible refine Kd.C_alloc ?_ _) | (with_reducible refine Kd.C_drewN ?_ _) | (with_reducible refine Kd.C_drew ?_))); (case side2 => exact (Kd.S_reads' HO367.out).2.1); rintro e w24 ⟨rfl, hb⟩; refine ⟨_, rfl, ?_⟩; have n0_ := Aside0.mk (Kd.S_below (by (with_reducible repeat (first | apply Kd.S_alloc | apply Kd.S_drewN | apply Kd.S_drew)); exact HO363.out) hb); have n1_ := Aside0.mk (Kd.S_below (by (with_reducible repeat (first | apply Kd.S_alloc | apply Kd.S_drewN | apply Kd.S_drew)); exact HO367.out) hb); have n2_ := Aside0.mk (below_step (by repeat (first | (with_reducible first | exact HB.out | apply below_alloc | apply pw_below_drewN | apply below_drew1) | exact HB.out)) hb); clear HO363; clear HO367; clear HB; have HO363 := n0_; have HO367 := n1_; have HB := n2_; clear n0_ n1_ n2_; (try clear hb); (try clear hb2); (try clear hk); (try clear hi)) | ((with_reducible refine gate_callee (f := 15) rfl ?_); refine goesL_ (some 28) rfl rfl Try.func15 (by kernel_rfl) rfl #[.slice A1 l1.length c1] rfl (by (try simp only [List.map_toArray, List.map_cons, List.map_nil]); first | done | rfl | (simp only [List.length_drop, List.length_take]; rfl)) ?_; (with_reducible refine (laws_toIntSS.calls k _ _ l1 t369 _ ?side1 ?side2 A16.out).mono ?_); (case side1 => repeat (first | exact (Kd.C_below HR1.out HB.out) | (with_reducible refine Kd.C_alloc ?_ _) | (with_reducible refine Kd.C_drewN ?_ _) | (with_reducible refine Kd.C_drew ?_))); (case side2 => exact HC1.out); rintro e w25 ⟨v370, rfl, ho0, hb⟩; refine ⟨_, rfl, ?_⟩; have n0_ := Aside0.mk (Kd.S_elder' (by (with_reducible repeat (first | apply Kd.S_alloc | apply Kd.S_drewN | apply Kd.S_drew)); exact HO363.out) (Kd.S_base ho0) hb); have n1_ := Aside0.mk (Kd.S_elder' (by (with_reducible repeat (first | apply Kd.S_alloc | apply Kd.S_drewN | apply Kd.S_drew)); exact HO367.out) (Kd.S_base ho0) hb); have n2_ := Aside0.mk (Kd.S_lower (Kd.S_new' (Kd.S_new' ho0 (Kd.S_lt (by (with_reducible repeat (first | apply Kd.S_alloc | apply Kd.S_drewN | apply Kd.S_drew)); exact HO363.out))) (Kd.S_lt (by (with_reducible repeat (first | apply Kd.S_alloc | apply Kd.S_drewN | apply Kd.S_drew)); exact HO367.out))) (below_size (by repeat (first | (with_reducible first | exact HB.out | apply below_alloc | apply pw_below_drewN | apply below_drew1) | exact HB.out)))); have n3_ := Aside0.mk (below_step (by repeat (first | (with_reducible first | exact HB.out | apply below_alloc | apply pw_below_drewN | apply below_drew1) | exact HB.out)) hb); clear HO363; clear HO367; clear HB; have HO363 := n0_; have HO367 := n1_; have HO371 := n2_; have HB := n3_; clear n0_ n1_ n2_ n3_; (try clear hb); (try clear hb2); (try clear hk); (try clear hi); (try clear ho0); obtain ⟨Ao26, co26, eo26⟩ := Kd.S_slice HO371.out; subst eo26) | ((with_reducible refine gate_callee (f := 17) rfl ?_); refine goesL_ (some 29) rfl rfl Try.func17 (by kernel_rfl) rfl #[.slice Ao23 t365.length co23, .slice Ao26 t369.length co26] rfl (by (try simp only [List.map_toArray, List.map_cons, List.map_nil]); first | done | rfl | (simp only [List.length_drop, List.length_take]; rfl)) ?_; (with_reducible refine (laws_eqIntSS.calls k _ _ t365 _ _ t369 true _ ?side1 ?side2 ?side3 ?side4 A17.out).mono ?_); (case side1 => repeat (first | exact (Kd.S_reads' HO367.out).2.2 | (with_reducible refine Kd.C_alloc ?_ _) | (with_reducible refine Kd.C_drewN ?_ _) | (with_reducible refine Kd.C_drew ?_))); (case side2 => exact (Kd.S_reads' HO367.out).2.1); (case side3 => repeat (first | exact (Kd.S_reads' HO371.out).2.2 | (with_reducible refine Kd.C_alloc ?_ _) | (with_reducible refine Kd.C_drewN ?_ _) | (with_reducible refine Kd.C_drew ?_))); (case side4 => exact (Kd.S_reads' HO371.out).2.1); rintro e w' ⟨rfl, ⟨nd, rfl⟩⟩; refine ⟨_, rfl, ?_⟩))
        go_ret
        exact ⟨by first | rfl | (simp [errW_none, errW_some] <;> rfl) | (simp [*, errW_none, errW_some] <;> rfl), by repeat (first | (with_reducible first | exact HB.out | apply below_alloc | apply pw_below_drewN | apply below_drew1) | exact HB.out)⟩
      · replace c18 := Bool.eq_false_iff.mpr c18
        subst c18
        have H1 : (some false) = some r := by rw [if_neg (show ¬ (false = true) by decide)] at H; exact H
        clear H
        have H := H1
        clear H1
        obtain rfl := Option.some.inj H
        go_enter Try.func8, Try.ntmps8
        go_wp2_with (first | ((with_reducible refine gate_callee (f := 13) rfl ?_); refine goesL_ (some 11) rfl rfl Try.func13 (by kernel_rfl) rfl #[.slice A1 l1.length c1, .int .i64 1048576] rfl (by (try simp only [List.map_toArray, List.map_cons, List.map_nil]); first | done | rfl | (simp only [List.length_drop, List.length_take]; rfl)) ?_; (with_reducible refine (laws_szIntSS.calls k _ _ l1 1048576 t360 _ ?side1 ?side2 A3.out).mono ?_); (case side1 => repeat (first | exact HR1.out | (with_reducible refine Kd.C_alloc ?_ _) | (with_reducible refine Kd.C_drewN ?_ _) | (with_reducible refine Kd.C_drew ?_))); (case side2 => exact HC1.out); rintro e w' ⟨rfl, ⟨nd, rfl⟩⟩; refine ⟨_, rfl, ?_⟩) | ((with_reducible refine gate_callee (f := 15) rfl ?_); refine goesL_ (some 16) rfl rfl Try.func15 (by kernel_rfl) rfl #[.slice A1 l1.length c1] rfl (by (try simp only [List.map_toArray, List.map_cons, List.map_nil]); first | done | rfl | (simp only [List.length_drop, List.length_take]; rfl)) ?_; (with_reducible refine (laws_toIntSS.calls k _ _ l1 t361 _ ?side1 ?side2 A5.out).mono ?_); (case side1 => repeat (first | exact HR1.out | (with_reducible refine Kd.C_alloc ?_ _) | (with_reducible refine Kd.C_drewN ?_ _) | (with_reducible refine Kd.C_drew ?_))); (case side2 => exact HC1.out); rintro e w27 ⟨v362, rfl, ho0, hb⟩; refine ⟨_, rfl, ?_⟩; have n0_ := Aside0.mk (Kd.S_lower ho0 (below_size (by repeat (first | (with_reducible first | exact HB.out | apply below_alloc | apply pw_below_drewN | apply below_drew1) | exact HB.out)))); have n1_ := Aside0.mk (below_step (by repeat (first | (with_reducible first | exact HB.out | apply below_alloc | apply pw_below_drewN | apply below_drew1) | exact HB.out)) hb); clear HB; have HO363 := n0_; have HB := n1_; clear n0_ n1_; (try clear hb); (try clear hb2); (try clear hk); (try clear hi); (try clear ho0); obtain ⟨Ao28, co28, eo28⟩ := Kd.S_slice HO363.out; subst eo28) | ((with_reducible refine gate_callee (f := 32) rfl ?_); refine goesL_ (some 17) rfl rfl Try.func32 (by kernel_rfl) rfl #[.int .i64 a0, .slice Ao28 t361.length co28] rfl (by (try simp only [List.map_toArray, List.map_cons, List.map_nil]); first | done | rfl | (simp only [List.length_drop, List.length_take]; rfl)) ?_; (with_reducible refine (spec_CanTrace.calls k a0 _ _ t361 t364 _ ?side1 ?side2 A6.out).mono ?_); (case side1 => repeat (first | exact (Kd.S_reads' HO363.out).2.2 | (with_reducible refine Kd.C_alloc ?_ _) | (with_reducible refine Kd.C_drewN ?_ _) | (with_reducible refine Kd.C_drew ?_))); (case side2 => exact (Kd.S_reads' HO363.out).2.1); rintro e w29 ⟨rfl, hb⟩; refine ⟨_, rfl, ?_⟩; have n0_ := Aside0.mk (Kd.S_below (by (with_reducible repeat (first | apply Kd.S_alloc | apply Kd.S_drewN | apply Kd.S_drew)); exact HO363.out) hb); have n1_ := Aside0.mk (below_step (by repeat (first | (with_reducible first | exact HB.out | apply below_alloc | apply pw_below_drewN | apply below_drew1) | exact HB.out)) hb); clear HO363; clear HB; have HO363 := n0_; have HB := n1_; clear n0_ n1_; (try clear hb); (try clear hb2); (try clear hk); (try clear hi)) | ((with_reducible refine gate_callee (f := 15) rfl ?_); refine goesL_ (some 19) rfl rfl Try.func15 (by kernel_rfl) rfl #[.slice A1 l1.length c1] rfl (by (try simp only [List.map_toArray, List.map_cons, List.map_nil]); first | done | rfl | (simp only [List.length_drop, List.length_take]; rfl)) ?_; (with_reducible refine (laws_toIntSS.calls k _ _ l1 t365 _ ?side1 ?side2 A7.out).mono ?_); (case side1 => repeat (first | exact (Kd.C_below HR1.out HB.out) | (with_reducible refine Kd.C_alloc ?_ _) | (with_reducible refine Kd.C_drewN ?_ _) | (with_reducible refine Kd.C_drew ?_))); (case side2 => exact HC1.out); rintro e w30 ⟨v366, rfl, ho0, hb⟩; refine ⟨_, rfl, ?_⟩; have n0_ := Aside0.mk (Kd.S_elder' (by (with_reducible repeat (first | apply Kd.S_alloc | apply Kd.S_drewN | apply Kd.S_drew)); exact HO363.out) (Kd.S_base ho0) hb); have n1_ := Aside0.mk (Kd.S_lower (Kd.S_new' ho0 (Kd.S_lt (by (with_reducible repeat (first | apply Kd.S_alloc | apply Kd.S_drewN | apply Kd.S_drew)); exact HO363.out))) (below_size (by repeat (first | (with_reducible first | exact HB.out | apply below_alloc | apply pw_below_drewN | apply below_drew1) | exact HB.out)))); have n2_ := Aside0.mk (below_step (by repeat (first | (with_reducible first | exact HB.out | apply below_alloc | apply pw_below_drewN | apply below_drew1) | exact HB.out)) hb); clear HO363; clear HB; have HO363 := n0_; have HO367 := n1_; have HB := n2_; clear n0_ n1_ n2_; (try clear hb); (try clear hb2); (try clear hk); (try clear hi); (try clear ho0); obtain ⟨Ao31, co31, eo31⟩ := Kd.S_slice HO367.out; subst eo31) | ((with_reducible refine gate_callee (f := 33) rfl ?_); refine goesL_ (some 22) rfl rfl Try.func33 (by kernel_rfl) rfl #[.int .i64 a0, .slice Ao31 t365.length co31] rfl (by (try simp only [List.map_toArray, List.map_cons, List.map_nil]); first | done | rfl | (simp only [List.length_drop, List.length_take]; rfl)) ?_; (with_reducible refine (impl_CanTrace.calls k a0 _ _ t365 t368 _ ?side1 ?side2 A8.out).mono ?_); (case side1 => repeat (first | exact (Kd.S_reads' HO367.out).2.2 | (with_reducible refine Kd.C_alloc ?_ _) | (with_reducible refine Kd.C_drewN ?_ _) | (with_reducible refine Kd.C_drew ?_))); (case side2 => exact (Kd.S_reads' HO367.out).2.1); rintro e w32 ⟨rfl, hb⟩; refine ⟨_, rfl, ?_⟩; have n0_ := Aside0.mk (Kd.S_below (by (with_reducible repeat (first | apply Kd.S_alloc | apply Kd.S_drewN | apply Kd.S_drew)); exact HO363.out) hb); have n1_ := Aside0.mk (Kd.S_below (by (with_reducible repeat (first | apply Kd.S_alloc | apply Kd.S_drewN | apply Kd.S_drew)); exact HO367.out) hb); have n2_ := Aside0.mk (below_step (by repeat (first | (with_reducible first | exact HB.out | apply below_alloc | apply pw_below_drewN | apply below_drew1) | exact HB.out)) hb); clear HO363; clear HO367; clear HB; have HO363 := n0_; have HO367 := n1_; have HB := n2_; clear n0_ n1_ n2_; (try clear hb); (try clear hb2); (try clear hk); (try clear hi)) | ((with_reducible refine gate_callee (f := 15) rfl ?_); refine goesL_ (some 28) rfl rfl Try.func15 (by kernel_rfl) rfl #[.slice A1 l1.length c1] rfl (by (try simp only [List.map_toArray, List.map_cons, List.map_nil]); first | done | rfl | (simp only [List.length_drop, List.length_take]; rfl)) ?_; (with_reducible refine (laws_toIntSS.calls k _ _ l1 t369 _ ?side1 ?side2 A16.out).mono ?_); (case side1 => repeat (first | exact (Kd.C_below HR1.out HB.out) | (with_reducible refine Kd.C_alloc ?_ _) | (with_reducible refine Kd.C_drewN ?_ _) | (with_reducible refine Kd.C_drew ?_))); (case side2 => exact HC1.out); rintro e w33 ⟨v370, rfl, ho0, hb⟩; refine ⟨_, rfl, ?_⟩; have n0_ := Aside0.mk (Kd.S_elder' (by (with_reducible repeat (first | apply Kd.S_alloc | apply Kd.S_drewN | apply Kd.S_drew)); exact HO363.out) (Kd.S_base ho0) hb); have n1_ := Aside0.mk (Kd.S_elder' (by (with_reducible repeat (first | apply Kd.S_alloc | apply Kd.S_drewN | apply Kd.S_drew)); exact HO367.out) (Kd.S_base ho0) hb); have n2_ := Aside0.mk (Kd.S_lower (Kd.S_new' (Kd.S_new' ho0 (Kd.S_lt (by (with_reducible repeat (first | apply Kd.S_alloc | apply Kd.S_drewN | apply Kd.S_drew)); exact HO363.out))) (Kd.S_lt (by (with_reducible repeat (first | apply Kd.S_alloc | apply Kd.S_drewN | apply Kd.S_drew)); exact HO367.out))) (below_size (by repeat (first | (with_reducible first | exact HB.out | apply below_alloc | apply pw_below_drewN | apply below_drew1) | exact HB.out)))); have n3_ := Aside0.mk (below_step (by repeat (first | (with_reducible first | exact HB.out | apply below_alloc | apply pw_below_drewN | apply below_drew1) | exact HB.out)) hb); clear HO363; clear HO367; clear HB; have HO363 := n0_; have HO367 := n1_; have HO371 := n2_; have HB := n3_; clear n0_ n1_ n2_ n3_; (try clear hb); (try clear hb2); (try clear hk); (try clear hi); (try clear ho0); obtain ⟨Ao34, co34, eo34⟩ := Kd.S_slice HO371.out; subst eo34) | ((with_reducible refine gate_callee (f := 17) rfl ?_); refine goesL_ (some 29) rfl rfl Try.func17 (by kernel_rfl) rfl #[.slice Ao31 t365.length co31, .slice Ao34 t369.length co34] rfl (by (try simp only [List.map_toArray, List.map_cons, List.map_nil]); first | done | rfl | (simp only [List.length_drop, List.length_take]; rfl)) ?_; (with_reducible refine (laws_eqIntSS.calls k _ _ t365 _ _ t369 false _ ?side1 ?side2 ?side3 ?side4 A17.out).mono ?_); (case side1 => repeat (first | exact (Kd.S_reads' HO367.out).2.2 | (with_reducible refine Kd.C_alloc ?_ _) | (with_reducible refine Kd.C_drewN ?_ _) | (with_reducible refine Kd.C_drew ?_))); (case side2 => exact (Kd.S_reads' HO367.out).2.1); (case side3 => repeat (first | exact (Kd.S_reads' HO371.out).2.2 | (with_reducible refine Kd.C_alloc ?_ _) | (with_reducible refine Kd.C_drewN ?_ _) | (with_reducible refine Kd.C_drew ?_))); (case side4 => exact (Kd.S_reads' HO371.out).2.1); rintro e w' ⟨rfl, ⟨nd, rfl⟩⟩; refine ⟨_, rfl, ?_⟩))
        go_ret
        exact ⟨by first | rfl | (simp [errW_none, errW_some] <;> rfl) | (simp [*, errW_none, errW_some] <;> rfl), by repeat (first | (with_reducible first | exact HB.out | apply below_alloc | apply pw_below_drewN | apply below_drew1) | exact HB.out)⟩
-- NOT PRINTED: function 9 (laws_FnExactFirstStroke)
end Go.Proofs.Ytcdajmbnijmdfaa.PA
/- ints -/
namespace Go.Proofs.Ytcdajmbnijmdfaa.PA
open Go.RowKit Go.Proofs.YtcdajmbnijmdfaaW.PrintWords Go.Proofs.YtcdajmbnijmdfaaW.PrintLast Go.Proofs.YtcdajmbnijmdfaaW.PrintMore
set_option linter.unusedVariables false
set_option linter.unusedSimpArgs false
theorem w64 {x : Int} (h0 : -9223372036854775808 ≤ x) (h1 : x < 9223372036854775808) : wrap64 x = x := by
  unfold wrap64
  omega
theorem rd_get {l : List Int} {i : Nat} (h : i < l.length) : rd l (i : Int) = l[i] := by simp [rd, List.getD_eq_getElem?_getD, h]
theorem ev_eq {α : Type} {g : Nat → Option α} {r r' : α} (h : Ev g r) (e : r = r') : Ev g r' := e ▸ h
theorem ev_const {α : Type} {a : Option α} {r : α} (h : a = some r) : Ev (fun _ => a) r := ⟨0, fun _ _ => h⟩
theorem take_step {l : List Int} {i : Nat} (h : i < l.length) : l.take (i + 1) = l.take i ++ [l[i]] := by
  rw [List.take_succ_eq_append_getElem h]
theorem toIntS_l (x0 : List Int) (hx : x0.length < 9223372036854775807) : ∀ (d i : Nat) (x3 : List Int), i + d = x0.length → x3.length = x0.length → x3.take i = x0.take i → Ev (fun k => laws_toIntS.l0 k x0 x3 (i : Int)) x0 := by
  intro d
  induction d with
  | zero =>
    intro i x3 hi hl ht
    have e : x3 = x0 := by
      have h1 : x3.take i = x3 := List.take_of_length_le (by omega)
      have h2 : x0.take i = x0 := List.take_of_length_le (by omega)
      rw [h1, h2] at ht
      exact ht
    refine Ev.step (f := fun _ => some x0) (fun k => ?_) (Ev.now _)
    simp only [laws_toIntS.l0]
    rw [if_neg (by omega), e]
  | succ d ih =>
    intro i x3 hi hl ht
    have hlt : i < x0.length := by omega
    refine Ev.step (f := fun k => laws_toIntS.l0 k x0 (x3.set i x0[i]) ((i + 1 : Nat) : Int)) (fun k => ?_) (ih (i + 1) (x3.set i x0[i]) (by omega) (by simpa using hl) ?_)
    · simp only [laws_toIntS.l0]
      rw [if_pos (by omega), if_pos (by omega), if_pos (by omega), rd_get hlt, w64 (by omega) (by omega)]
      simp
    · rw [take_step (by simpa using (by omega : i < x3.length)), take_step hlt, List.take_set_of_le (Nat.le_refl _), ht]
      simp
theorem toIntS_ev (l : List Int) (hl : l.length ≤ 1048576) : Ev (fun k => laws_toIntS.f k l) l := by
  have h := toIntS_l l (by omega) l.length 0 (List.replicate l.length 0) (by omega) (by simp) (by simp)
  refine Ev.congr (fun k => ?_) h
  unfold laws_toIntS.f
  rw [if_pos (by omega), if_pos (by simp; omega)]
  simp
theorem eqIntS_l (x0 x1 : List Int) (hx : x0.length < 9223372036854775807) (hl : x0.length = x1.length) : ∀ (d i : Nat), i + d = x0.length → x0.take i = x1.take i → Ev (fun k => laws_eqIntS.l0 k x0 x1 (i : Int)) (decide (x0 = x1)) := by
  intro d
  induction d with
  | zero =>
    intro i hi ht
    have e : x0 = x1 := by
      have h1 : x0.take i = x0 := List.take_of_length_le (by omega)
      have h2 : x1.take i = x1 := List.take_of_length_le (by omega)
      rw [h1, h2] at ht
      exact ht
    refine Ev.step (f := fun _ => some (decide (x0 = x1))) (fun k => ?_) (Ev.now _)
    simp only [laws_eqIntS.l0]
    rw [if_neg (by omega), decide_eq_true e]
  | succ d ih =>
    intro i hi ht
    have hlt : i < x0.length := by omega
    have hlt1 : i < x1.length := by omega
    by_cases he : x0[i] = x1[i]
    · refine Ev.step (f := fun k => laws_eqIntS.l0 k x0 x1 ((i + 1 : Nat) : Int)) (fun k => ?_) (ih (i + 1) (by omega) ?_)
      · simp only [laws_eqIntS.l0]
        rw [if_pos (by omega), if_pos (by omega), if_pos (by omega), rd_get hlt, rd_get hlt1, if_pos he, w64 (by omega) (by omega)]
        simp
      · rw [take_step hlt, take_step hlt1, ht, he]
    · have hne : ¬ x0 = x1 := fun e => he (by subst e; rfl)
      refine Ev.step (f := fun _ => some (decide (x0 = x1))) (fun k => ?_) (Ev.now _)
      simp only [laws_eqIntS.l0]
      rw [if_pos (by omega), if_pos (by omega), if_pos (by omega), rd_get hlt, rd_get hlt1, if_neg he, decide_eq_false hne]
theorem eqIntS_ev (l m : List Int) (hl : l.length < 9223372036854775807) : Ev (fun k => laws_eqIntS.f k l m) (decide (l = m)) := by
  by_cases h : l.length = m.length
  · refine Ev.congr (fun k => ?_) (eqIntS_l l m hl h l.length 0 (by omega) (by simp))
    unfold laws_eqIntS.f
    rw [if_pos (by omega)]
    rfl
  · have hne : ¬ l = m := fun e => h (by rw [e])
    refine ev_eq (ev_const (a := some false) rfl |>.congr (fun k => ?_)) (decide_eq_false hne).symm
    unfold laws_eqIntS.f
    rw [if_neg (by omega)]
theorem rdL_get {l : List (List Int)} {i : Nat} (h : i < l.length) : rd_L1 l (i : Int) = l[i] := by simp [rd_L1, List.getD_eq_getElem?_getD, h]
theorem takeL_step {l : List (List Int)} {i : Nat} (h : i < l.length) : l.take (i + 1) = l.take i ++ [l[i]] := by
  rw [List.take_succ_eq_append_getElem h]
theorem szIntSS_l (l : List (List Int)) (hl : l.length ≤ 1048576) (hr : ∀ r ∈ l, r.length ≤ 9223372036854775807) : ∀ (d i : Nat) (x : Int), i + d = l.length → 0 ≤ x → x ≤ 1048576 →
    ∃ r : Int, Ev (fun k => laws_szIntSS.l0 k l x (i : Int)) r ∧ (r < 0 ∨ ∀ j, i ≤ j → ∀ h : j < l.length, l[j].length ≤ 1048576) := by
  intro d
  induction d with
  | zero =>
    intro i x hi h0 h1
    refine ⟨x, Ev.step (f := fun _ => some x) (fun k => ?_) (Ev.now _), .inr (fun j h2 h3 => by omega)⟩
    simp only [laws_szIntSS.l0]
    rw [if_neg (by omega)]
  | succ d ih =>
    intro i x hi h0 h1
    have hlt : i < l.length := by omega
    have hrow := hr l[i] (List.getElem_mem hlt)
    by_cases c : x - (l[i].length : Int) < 0
    · refine ⟨-1, Ev.step (f := fun _ => some (-1)) (fun k => ?_) (Ev.now _), .inl (by omega)⟩
      simp only [laws_szIntSS.l0]
      rw [if_pos (by omega), if_pos (by omega), rdL_get hlt]
      unfold laws_szIntS.f
      rw [w64 (by omega) (by omega), if_pos c]
      rfl
    · obtain ⟨r, he, hd⟩ := ih (i + 1) (x - (l[i].length : Int)) (by omega) (by omega) (by omega)
      refine ⟨r, Ev.step (f := fun k => laws_szIntSS.l0 k l (x - (l[i].length : Int)) ((i + 1 : Nat) : Int)) (fun k => ?_) he, ?_⟩
      · simp only [laws_szIntSS.l0]
        rw [if_pos (by omega), if_pos (by omega), rdL_get hlt]
        unfold laws_szIntS.f
        rw [w64 (x := x - (l[i].length : Int)) (by omega) (by omega), if_neg c]
        simp only [Option.bind_some]
        rw [if_neg c, w64 (by omega) (by omega)]
        rfl
      · rcases hd with hd | hd
        · exact .inl hd
        · refine .inr (fun j h2 h3 => ?_)
          by_cases e : j = i
          · subst e; omega
          · exact hd j (by omega) h3
theorem szIntSS_ev (l : List (List Int)) (hl : l.length ≤ 9223372036854775807) (hr : ∀ r ∈ l, r.length ≤ 9223372036854775807) :
    ∃ r : Int, Ev (fun k => laws_szIntSS.f k l 1048576) r ∧ (r < 0 ∨ (l.length ≤ 1048576 ∧ ∀ x ∈ l, x.length ≤ 1048576)) := by
  by_cases c : (1048576 : Int) - (l.length : Int) < 0
  · refine ⟨-1, (Ev.now (-1)).congr (fun k => ?_), .inl (by omega)⟩
    unfold laws_szIntSS.f
    rw [w64 (by omega) (by omega), if_pos c]
  · obtain ⟨r, he, hd⟩ := szIntSS_l l (by omega) hr l.length 0 (1048576 - (l.length : Int)) (by omega) (by omega) (by omega)
    refine ⟨r, he.congr (fun k => ?_), ?_⟩
    · unfold laws_szIntSS.f
      rw [w64 (by omega) (by omega), if_neg c]
      rfl
    · rcases hd with hd | hd
      · exact .inl hd
      · refine .inr ⟨by omega, fun x hx => ?_⟩
        obtain ⟨j, hj, rfl⟩ := List.getElem_of_mem hx
        exact hd j (by omega) hj
theorem toIntSS_l (x0 : List (List Int)) (hx : x0.length ≤ 1048576) (hr : ∀ r ∈ x0, r.length ≤ 1048576) : ∀ (d i : Nat) (x3 : List (List Int)), i + d = x0.length → x3.length = x0.length → x3.take i = x0.take i → Ev (fun k => laws_toIntSS.l0 k x0 x3 (i : Int)) x0 := by
  intro d
  induction d with
  | zero =>
    intro i x3 hi hl ht
    have e : x3 = x0 := by
      have h1 : x3.take i = x3 := List.take_of_length_le (by omega)
      have h2 : x0.take i = x0 := List.take_of_length_le (by omega)
      rw [h1, h2] at ht
      exact ht
    refine Ev.step (f := fun _ => some x0) (fun k => ?_) (Ev.now _)
    simp only [laws_toIntSS.l0]
    rw [if_neg (by omega), e]
  | succ d ih =>
    intro i x3 hi hl ht
    have hlt : i < x0.length := by omega
    have hnext := ih (i + 1) (x3.set i x0[i]) (by omega) (by simpa using hl) (by
      rw [takeL_step (by simpa using (by omega : i < x3.length)), takeL_step hlt, List.take_set_of_le (Nat.le_refl _), ht]
      simp)
    refine Ev.step (fun k => rfl) ?_
    simp only [laws_toIntSS.l0]
    refine Ev.congr (fun k => (if_pos (by omega)).trans (if_pos (by omega))) ?_
    rw [rdL_get hlt]
    refine Ev.bind (toIntS_ev x0[i] (hr _ (List.getElem_mem hlt))) ?_
    refine Ev.congr (fun k => (if_pos (by omega)).trans ?_) hnext
    rw [w64 (by omega) (by omega)]
    simp
theorem toIntSS_ev (l : List (List Int)) (hl : l.length ≤ 1048576) (hr : ∀ r ∈ l, r.length ≤ 1048576) : Ev (fun k => laws_toIntSS.f k l) l := by
  have h := toIntSS_l l hl hr l.length 0 (List.replicate l.length []) (by omega) (by simp) (by simp)
  refine Ev.congr (fun k => ?_) h
  unfold laws_toIntSS.f
  rw [if_pos (by omega), if_pos (by simp; omega)]
  simp
theorem eqIntSS_l (x0 x1 : List (List Int)) (hx : x0.length < 9223372036854775807) (hr : ∀ r ∈ x0, r.length < 9223372036854775807) (hl : x0.length = x1.length) : ∀ (d i : Nat), i + d = x0.length → x0.take i = x1.take i → Ev (fun k => laws_eqIntSS.l0 k x0 x1 (i : Int)) (decide (x0 = x1)) := by
  intro d
  induction d with
  | zero =>
    intro i hi ht
    have e : x0 = x1 := by
      have h1 : x0.take i = x0 := List.take_of_length_le (by omega)
      have h2 : x1.take i = x1 := List.take_of_length_le (by omega)
      rw [h1, h2] at ht
      exact ht
    refine Ev.step (f := fun _ => some (decide (x0 = x1))) (fun k => ?_) (Ev.now _)
    simp only [laws_eqIntSS.l0]
    rw [if_neg (by omega), decide_eq_true e]
  | succ d ih =>
    intro i hi ht
    have hlt : i < x0.length := by omega
    have hlt1 : i < x1.length := by omega
    refine Ev.step (fun k => rfl) ?_
    simp only [laws_eqIntSS.l0]
    refine Ev.congr (fun k => (if_pos (by omega)).trans ((if_pos (by omega)).trans (if_pos (by omega)))) ?_
    rw [rdL_get hlt, rdL_get hlt1]
    refine Ev.bind (eqIntS_ev x0[i] x1[i] (hr _ (List.getElem_mem hlt))) ?_
    by_cases he : x0[i] = x1[i]
    · refine Ev.congr (fun k => (if_pos (by simpa using he)).trans ?_) (ih (i + 1) (by omega) ?_)
      · rw [w64 (by omega) (by omega)]
        rfl
      · rw [takeL_step hlt, takeL_step hlt1, ht, he]
    · have hne : ¬ x0 = x1 := fun e => he (by subst e; rfl)
      rw [decide_eq_false hne]
      exact Ev.congr (fun k => if_neg (by simpa using he)) (Ev.now _)
theorem eqIntSS_ev (l m : List (List Int)) (hl : l.length < 9223372036854775807) (hr : ∀ r ∈ l, r.length < 9223372036854775807) : Ev (fun k => laws_eqIntSS.f k l m) (decide (l = m)) := by
  by_cases h : l.length = m.length
  · refine Ev.congr (fun k => ?_) (eqIntSS_l l m hl hr h l.length 0 (by omega) (by simp))
    unfold laws_eqIntSS.f
    rw [if_pos (by omega)]
    rfl
  · have hne : ¬ l = m := fun e => h (by rw [e])
    refine ev_eq (ev_const (a := some false) rfl |>.congr (fun k => ?_)) (decide_eq_false hne).symm
    unfold laws_eqIntSS.f
    rw [if_neg (by omega)]
theorem l01In_eq (a b c : Int) : spec_l01In.f a b c = some (decide (b ≤ a ∧ a ≤ c)) := by
  unfold spec_l01In.f
  by_cases h : a ≥ b
  · rw [if_pos h]; simp [h]
  · rw [if_neg h]; simp [h]
theorem within_eq (a b c : Int) : impl_within.f a b c = some (decide (b ≤ a ∧ a ≤ c)) := l01In_eq a b c
end Go.Proofs.Ytcdajmbnijmdfaa.PA
/- drawings -/
namespace Go.Proofs.Ytcdajmbnijmdfaa.PA
open Go.RowKit Go.Proofs.YtcdajmbnijmdfaaW.PrintWords Go.Proofs.YtcdajmbnijmdfaaW.PrintLast Go.Proofs.YtcdajmbnijmdfaaW.PrintMore
set_option linter.unusedVariables false
set_option linter.unusedSimpArgs false
def lineOk (n : Int) (l : List Int) : Bool := decide (l.length = 2 ∧ 0 ≤ rd l 0 ∧ rd l 0 ≤ n - 1 ∧ 0 ≤ rd l 1 ∧ rd l 1 ≤ n - 1 ∧ ¬ rd l 0 = rd l 1)
def drawOk (n : Int) (l : List (List Int)) : Bool := decide (1 ≤ n ∧ n ≤ 8 ∧ l.length ≤ 12) && l.all (lineOk n)
theorem all_drop {α : Type} (l : List α) (p : α → Bool) (i : Nat) (h : i < l.length) : (l.drop i).all p = (p l[i] && (l.drop (i + 1)).all p) := by
  rw [List.drop_eq_getElem_cons h, List.all_cons]
theorem spec_IsDrawing_l (n : Int) (hn : 1 ≤ n ∧ n ≤ 8) (l : List (List Int)) (hl : l.length ≤ 12) : ∀ (d i : Nat), i + d = l.length → Ev (fun k => spec_IsDrawing.l0 k n l (l.length : Int) (i : Int)) ((l.drop i).all (lineOk n)) := by
  intro d
  induction d with
  | zero =>
    intro i hi
    refine Ev.step (f := fun _ => some ((l.drop i).all (lineOk n))) (fun k => ?_) (Ev.now _)
    simp only [spec_IsDrawing.l0]
    rw [if_neg (by omega), List.drop_of_length_le (by omega)]
    rfl
  | succ d ih =>
    intro i hi
    have hlt : i < l.length := by omega
    rw [all_drop l _ i hlt]
    by_cases c : lineOk n l[i] = true
    · rw [c, Bool.true_and]
      refine Ev.step (f := fun k => spec_IsDrawing.l0 k n l (l.length : Int) ((i + 1 : Nat) : Int)) (fun k => ?_) (ih (i + 1) (by omega))
      obtain ⟨c1, c2, c3, c4, c5, c6⟩ := of_decide_eq_true c
      simp only [spec_IsDrawing.l0, l01In_eq, Option.bind_some]
      rw [if_pos (by omega), if_pos (by omega), if_pos (by omega), rdL_get hlt, if_pos (by omega), if_pos (by omega), w64 (x := n - 1) (by omega) (by omega), if_pos (by simpa using ⟨c2, c3⟩), if_pos (by omega), if_pos (by simpa using ⟨c4, c5⟩), if_neg c6, w64 (by omega) (by omega)]
      rfl
    · have c' : lineOk n l[i] = false := by simpa using c
      rw [c', Bool.false_and]
      refine Ev.step (f := fun k => some false) (fun k => ?_) (Ev.now _)
      have hc := of_decide_eq_false c'
      simp only [spec_IsDrawing.l0, l01In_eq, Option.bind_some]
      rw [if_pos (by omega), if_pos (by omega), if_pos (by omega), rdL_get hlt, w64 (x := n - 1) (by omega) (by omega)]
      by_cases e1 : l[i].length = 2
      · rw [if_pos (by omega), if_pos (by omega)]
        by_cases e2 : 0 ≤ rd l[i] 0 ∧ rd l[i] 0 ≤ n - 1
        · rw [if_pos (by simpa using e2), if_pos (by omega)]
          by_cases e3 : 0 ≤ rd l[i] 1 ∧ rd l[i] 1 ≤ n - 1
          · rw [if_pos (by simpa using e3)]
            by_cases e4 : rd l[i] 0 = rd l[i] 1
            · rw [if_pos e4]
            · exact absurd ⟨e1, e2.1, e2.2, e3.1, e3.2, e4⟩ hc
          · rw [if_neg (by simpa using e3)]
        · rw [if_neg (by simpa using e2)]
      · rw [if_neg (by omega)]
theorem spec_IsDrawing_ev (n : Int) (l : List (List Int)) : Ev (fun k => spec_IsDrawing.f k n l) (drawOk n l) := by
  unfold spec_IsDrawing.f
  refine Ev.bind (ev_const (l01In_eq n 1 8)) ?_
  unfold drawOk
  by_cases c0 : 1 ≤ n ∧ n ≤ 8
  · refine Ev.congr (fun k => if_pos (by simpa using c0)) ?_
    by_cases c1 : l.length ≤ 12
    · rw [decide_eq_true (show 1 ≤ n ∧ n ≤ 8 ∧ l.length ≤ 12 from ⟨c0.1, c0.2, c1⟩), Bool.true_and, decide_eq_false (show ¬ ((l.length : Int) > 12) by omega)]
      refine Ev.step (f := fun k => spec_IsDrawing.l0 k n l (l.length : Int) ((0 : Nat) : Int)) (fun k => ?_) (spec_IsDrawing_l n c0 l c1 l.length 0 (by omega))
      simp only [spec_IsDrawing.j0]
      rw [if_neg (by simp)]
      rfl
    · rw [decide_eq_false (show ¬ (1 ≤ n ∧ n ≤ 8 ∧ l.length ≤ 12) from fun z => c1 z.2.2), Bool.false_and, decide_eq_true (show ((l.length : Int) > 12) by omega)]
      refine Ev.step (f := fun k => some false) (fun k => ?_) (Ev.now _)
      simp only [spec_IsDrawing.j0]
      rw [if_pos trivial]
  · refine Ev.congr (fun k => if_neg (by simpa using c0)) ?_
    rw [decide_eq_false (show ¬ (1 ≤ n ∧ n ≤ 8 ∧ l.length ≤ 12) from fun z => c0 ⟨z.1, z.2.1⟩), Bool.false_and]
    refine Ev.step (f := fun k => some false) (fun k => ?_) (Ev.now _)
    simp only [spec_IsDrawing.j0]
    rw [if_pos trivial]
theorem impl_IsDrawing_l (n : Int) (hn : 1 ≤ n ∧ n ≤ 8) (l : List (List Int)) (hl : l.length ≤ 12) : ∀ (d i : Nat), i + d = l.length → Ev (fun k => impl_IsDrawing.l0 k n l (l.length : Int) (i : Int)) ((l.drop i).all (lineOk n)) := by
  intro d
  induction d with
  | zero =>
    intro i hi
    refine Ev.step (f := fun _ => some ((l.drop i).all (lineOk n))) (fun k => ?_) (Ev.now _)
    simp only [impl_IsDrawing.l0]
    rw [if_neg (by omega), List.drop_of_length_le (by omega)]
    rfl
  | succ d ih =>
    intro i hi
    have hlt : i < l.length := by omega
    rw [all_drop l _ i hlt]
    by_cases c : lineOk n l[i] = true
    · rw [c, Bool.true_and]
      refine Ev.step (f := fun k => impl_IsDrawing.l0 k n l (l.length : Int) ((i + 1 : Nat) : Int)) (fun k => ?_) (ih (i + 1) (by omega))
      obtain ⟨c1, c2, c3, c4, c5, c6⟩ := of_decide_eq_true c
      simp only [impl_IsDrawing.l0, within_eq, Option.bind_some]
      rw [if_pos (by omega), if_pos (by omega), if_pos (by omega), rdL_get hlt, if_pos (by omega), if_pos (by omega), w64 (x := n - 1) (by omega) (by omega), if_pos (by simpa using ⟨c2, c3⟩), if_pos (by omega), if_pos (by simpa using ⟨c4, c5⟩), if_neg c6, w64 (by omega) (by omega)]
      rfl
    · have c' : lineOk n l[i] = false := by simpa using c
      rw [c', Bool.false_and]
      refine Ev.step (f := fun k => some false) (fun k => ?_) (Ev.now _)
      have hc := of_decide_eq_false c'
      simp only [impl_IsDrawing.l0, within_eq, Option.bind_some]
      rw [if_pos (by omega), if_pos (by omega), if_pos (by omega), rdL_get hlt, w64 (x := n - 1) (by omega) (by omega)]
      by_cases e1 : l[i].length = 2
      · rw [if_pos (by omega), if_pos (by omega)]
        by_cases e2 : 0 ≤ rd l[i] 0 ∧ rd l[i] 0 ≤ n - 1
        · rw [if_pos (by simpa using e2), if_pos (by omega)]
          by_cases e3 : 0 ≤ rd l[i] 1 ∧ rd l[i] 1 ≤ n - 1
          · rw [if_pos (by simpa using e3)]
            by_cases e4 : rd l[i] 0 = rd l[i] 1
            · rw [if_pos e4]
            · exact absurd ⟨e1, e2.1, e2.2, e3.1, e3.2, e4⟩ hc
          · rw [if_neg (by simpa using e3)]
        · rw [if_neg (by simpa using e2)]
      · rw [if_neg (by omega)]
theorem impl_IsDrawing_ev (n : Int) (l : List (List Int)) : Ev (fun k => impl_IsDrawing.f k n l) (drawOk n l) := by
  unfold impl_IsDrawing.f
  refine Ev.bind (ev_const (within_eq n 1 8)) ?_
  unfold drawOk
  by_cases c0 : 1 ≤ n ∧ n ≤ 8
  · refine Ev.congr (fun k => if_pos (by simpa using c0)) ?_
    by_cases c1 : l.length ≤ 12
    · rw [decide_eq_true (show 1 ≤ n ∧ n ≤ 8 ∧ l.length ≤ 12 from ⟨c0.1, c0.2, c1⟩), Bool.true_and, decide_eq_false (show ¬ ((l.length : Int) > 12) by omega)]
      refine Ev.step (f := fun k => impl_IsDrawing.l0 k n l (l.length : Int) ((0 : Nat) : Int)) (fun k => ?_) (impl_IsDrawing_l n c0 l c1 l.length 0 (by omega))
      simp only [impl_IsDrawing.j0]
      rw [if_neg (by simp)]
      rfl
    · rw [decide_eq_false (show ¬ (1 ≤ n ∧ n ≤ 8 ∧ l.length ≤ 12) from fun z => c1 z.2.2), Bool.false_and, decide_eq_true (show ((l.length : Int) > 12) by omega)]
      refine Ev.step (f := fun k => some false) (fun k => ?_) (Ev.now _)
      simp only [impl_IsDrawing.j0]
      rw [if_pos trivial]
  · refine Ev.congr (fun k => if_neg (by simpa using c0)) ?_
    rw [decide_eq_false (show ¬ (1 ≤ n ∧ n ≤ 8 ∧ l.length ≤ 12) from fun z => c0 ⟨z.1, z.2.1⟩), Bool.false_and]
    refine Ev.step (f := fun k => some false) (fun k => ?_) (Ev.now _)
    simp only [impl_IsDrawing.j0]
    rw [if_pos trivial]
end Go.Proofs.Ytcdajmbnijmdfaa.PA
/- strokes -/
namespace Go.Proofs.Ytcdajmbnijmdfaa.PA
open Go.RowKit Go.Proofs.YtcdajmbnijmdfaaW.PrintWords Go.Proofs.YtcdajmbnijmdfaaW.PrintLast Go.Proofs.YtcdajmbnijmdfaaW.PrintMore
set_option linter.unusedVariables false
set_option linter.unusedSimpArgs false
theorem wraps_i64n (n : Int) (h0 : 0 ≤ n) (h1 : n < 2 ^ 63) : IntKind.i64.wrap n = n := by
  rw [IntKind.wrap_i64]
  omega
theorem or_nat (a b : Nat) (ha : a < 2 ^ 63) (hb : b < 2 ^ 63) : Go.bits .or .i64 (a : Int) (b : Int) = ((a ||| b : Nat) : Int) :=
  (bits_nat .i64 63 (by decide) wraps_i64n a b ha hb).2
theorem and_nat (a b : Nat) (ha : a < 2 ^ 63) (hb : b < 2 ^ 63) : Go.bits .and .i64 (a : Int) (b : Int) = ((a &&& b : Nat) : Int) :=
  (bits_nat .i64 63 (by decide) wraps_i64n a b ha hb).1
theorem shl_one (e : Nat) (he : e < 62) : shl .i64 1 (e : Int) = ((2 ^ e : Nat) : Int) := by
  unfold shl
  rw [Int.toNat_natCast, Nat.min_eq_left (by simp [IntKind.bits]; omega)]
  have hp : (2 : Nat) ^ e < 2 ^ 62 := Nat.pow_lt_pow_right (by omega) he
  rw [wraps_i64n]
  · simp
  · simp
    exact_mod_cast Nat.zero_le _
  · simp
    have : ((2 ^ e : Nat) : Int) < ((2 ^ 62 : Nat) : Int) := Int.ofNat_lt.2 hp
    simp at this
    omega
theorem shr_nat (m e : Nat) (he : e < 64) : shr .i64 (m : Int) (e : Int) = ((m >>> e : Nat) : Int) := by
  unfold shr
  rw [Int.toNat_natCast, Nat.min_eq_left (by simp [IntKind.bits]; omega), Nat.shiftRight_eq_div_pow]
  simp
theorem bit_nat (m e : Nat) (hm : m < 2 ^ 63) (he : e < 64) : Go.bits .and .i64 (shr .i64 (m : Int) (e : Int)) 1 = if m.testBit e then 1 else 0 := by
  rw [shr_nat m e he]
  have h1 : m >>> e < 2 ^ 63 := by
    rw [Nat.shiftRight_eq_div_pow]
    exact Nat.lt_of_le_of_lt (Nat.div_le_self _ _) hm
  have := and_nat (m >>> e) 1 h1 (by decide)
  rw [show ((1 : Nat) : Int) = 1 from rfl] at this
  rw [this, Nat.testBit]
  rw [Nat.and_one_is_mod, Nat.one_and_eq_mod_two]
  rcases Nat.mod_two_eq_zero_or_one (m >>> e) with h | h <;> simp [h]
theorem or_add (m e : Nat) (h : m.testBit e = false) : m ||| 2 ^ e = m + 2 ^ e := by
  have hb : m % 2 ^ (e + 1) < 2 ^ e := by
    rw [Nat.mod_pow_succ]
    have h1 : m / 2 ^ e % 2 = 0 := by
      rw [Nat.testBit, Nat.shiftRight_eq_div_pow, Nat.one_and_eq_mod_two] at h
      simpa using h
    rw [h1]
    simpa using Nat.mod_lt m (Nat.two_pow_pos e)
  have hm := Nat.div_add_mod m (2 ^ (e + 1))
  have hp : (2 : Nat) ^ (e + 1) = 2 ^ e + 2 ^ e := by rw [Nat.pow_succ]; omega
  have e1 := Nat.two_pow_add_eq_or_of_lt (i := e + 1) (b := m % 2 ^ (e + 1)) (by omega) (m / 2 ^ (e + 1))
  have e2 := Nat.two_pow_add_eq_or_of_lt (i := e + 1) (b := m % 2 ^ (e + 1) + 2 ^ e) (by omega) (m / 2 ^ (e + 1))
  have e3 := Nat.or_two_pow_eq_add_of_lt hb
  rw [← e3] at e2
  calc m ||| 2 ^ e = (2 ^ (e + 1) * (m / 2 ^ (e + 1)) ||| m % 2 ^ (e + 1)) ||| 2 ^ e := by rw [← e1, hm]
    _ = 2 ^ (e + 1) * (m / 2 ^ (e + 1)) ||| (m % 2 ^ (e + 1) ||| 2 ^ e) := by rw [Nat.or_assoc]
    _ = m + 2 ^ e := by rw [← e2, e3]; omega
theorem drawOk_iff {n : Int} {l : List (List Int)} : drawOk n l = true ↔ (1 ≤ n ∧ n ≤ 8 ∧ l.length ≤ 12) ∧ ∀ r ∈ l, lineOk n r = true := by
  unfold drawOk
  rw [Bool.and_eq_true, decide_eq_true_iff, List.all_eq_true]
theorem pow12 {i : Nat} (h : i < 12) : (0 : Int) ≤ ((2 ^ i : Nat) : Int) ∧ ((2 ^ i : Nat) : Int) ≤ 2048 ∧ 2 ^ i ≤ 2048 := by
  have h1 : (2 : Nat) ^ i ≤ 2 ^ 11 := Nat.pow_le_pow_right (by omega) (by omega)
  have h2 : (2 : Nat) ^ 11 = 2048 := rfl
  rw [h2] at h1
  exact ⟨Int.natCast_nonneg _, by omega, h1⟩
end Go.Proofs.Ytcdajmbnijmdfaa.PA
/- degrees -/
namespace Go.Proofs.Ytcdajmbnijmdfaa.PA
open Go.RowKit Go.Proofs.YtcdajmbnijmdfaaW.PrintWords Go.Proofs.YtcdajmbnijmdfaaW.PrintLast Go.Proofs.YtcdajmbnijmdfaaW.PrintMore
set_option linter.unusedVariables false
set_option linter.unusedSimpArgs false
structure LineOk (n : Nat) (r : List Int) : Prop where
  len : r.length = 2
  a0 : 0 ≤ rd r 0
  a1 : rd r 0 < n
  b0 : 0 ≤ rd r 1
  b1 : rd r 1 < n
  ne : ¬ rd r 0 = rd r 1
theorem drawOk_lines {n : Nat} {l : List (List Int)} (c : drawOk (n : Int) l = true) : 1 ≤ n ∧ n ≤ 8 ∧ l.length ≤ 12 ∧ ∀ r ∈ l, LineOk n r := by
  obtain ⟨⟨h1, h2, h3⟩, h4⟩ := drawOk_iff.1 c
  refine ⟨by omega, by omega, h3, fun r hr => ?_⟩
  obtain ⟨a, b, c, d, e, f⟩ := of_decide_eq_true (h4 r hr)
  exact ⟨a, b, by omega, d, by omega, f⟩
end Go.Proofs.Ytcdajmbnijmdfaa.PA
/- parts that hang together -/
namespace Go.Proofs.Ytcdajmbnijmdfaa.PA
open Go.RowKit Go.Proofs.YtcdajmbnijmdfaaW.PrintWords Go.Proofs.YtcdajmbnijmdfaaW.PrintLast Go.Proofs.YtcdajmbnijmdfaaW.PrintMore
set_option linter.unusedVariables false
set_option linter.unusedSimpArgs false
theorem line_nat {n : Nat} {r : List Int} (h : LineOk n r) : ∃ a b : Nat, rd r 0 = (a : Int) ∧ rd r 1 = (b : Int) ∧ a < n ∧ b < n := by
  obtain ⟨h1, h2, h3, h4, h5, h6⟩ := h
  exact ⟨(rd r 0).toNat, (rd r 1).toNat, by omega, by omega, by omega, by omega⟩
/-- The mask of all lines. -/
theorem mask_all (m : Nat) (h : m ≤ 12) : wrap64 ((shl .i64 1 (m : Int)) - 1) = ((2 ^ m - 1 : Nat) : Int) := by
  have h1 : 2 ^ m ≤ 2 ^ 12 := Nat.pow_le_pow_right (by omega) h
  have h2 : 0 < 2 ^ m := Nat.pow_pos (by omega)
  rw [shl_one m (by omega), w64 (by omega) (by omega)]
  omega
end Go.Proofs.Ytcdajmbnijmdfaa.PA
/- StrokesNeeded, LineParts: both texts. -/
namespace Go.Proofs.Ytcdajmbnijmdfaa.PA
open Go.RowKit Go.Proofs.YtcdajmbnijmdfaaW.PrintWords Go.Proofs.YtcdajmbnijmdfaaW.PrintLast Go.Proofs.YtcdajmbnijmdfaaW.PrintMore
set_option linter.unusedVariables false
set_option linter.unusedSimpArgs false
theorem draw_nat {n : Int} {l : List (List Int)} (c : drawOk n l = true) : ∃ m : Nat, n = (m : Int) := by
  have h := drawOk_iff.1 c
  exact ⟨n.toNat, by omega⟩
end Go.Proofs.Ytcdajmbnijmdfaa.PA
