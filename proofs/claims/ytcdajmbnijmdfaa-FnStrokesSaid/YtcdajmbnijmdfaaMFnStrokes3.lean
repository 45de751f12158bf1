/- Texts of this claim put together in build order (FnStrokes). -/
import Derived.Test.YtcdajmbnijmdfaaMFnStrokes0
import Derived.Test.YtcdajmbnijmdfaaMFnStrokes1
import Derived.Test.YtcdajmbnijmdfaaMFnStrokes2
-- Written for this claim by a program of this session's (ownprint.py), by way of the kit's print and hand-proved texts. Lean checks it.
namespace Go.Proofs.Ytcdajmbnijmdfaa.PA
open Go.RowKit Go.Proofs.YtcdajmbnijmdfaaW.PrintWords Go.Proofs.YtcdajmbnijmdfaaW.PrintLast Go.Proofs.YtcdajmbnijmdfaaW.PrintMore
attribute [local go_sem] max2_int min2_int max_two min_two max_three min_three max_four min_four   -- for this text's walks alone
set_option linter.unusedVariables false
set_option linter.unusedSimpArgs false
section
open Go.Maps (Keyed IsMap)
variable {P : Program} {K e : TypeId} {w : World} {b n : Nat} {D : DataW Unit}
theorem plainElem_bool_inv {H : Type} {P : Program} {e : TypeId} (he : P.underlying e = some .bool) {v : Value} {z : DataW H × List MemPlace} (h : plainElem P e v = some z) : ∃ x, v = .bool x ∧ z = (.lit (.bool x), []) := by
  unfold plainElem at h
  rw [he] at h
  cases v <;> simp at h
  exact ⟨_, rfl, h.symm⟩
/-- Block b is a map from pairs of numbers to truth values, of at most n entries, that reads as F. -/
structure PairMap (P : Program) (K e : TypeId) (w : World) (b n : Nat) (F : Int → Int → Bool) : Prop where
  ex : ∃ D : DataW Unit, w.ownsMap P K (plainElem P e) b n D ∧ ∀ (u a : Int) (l : Lit), keyOf P K (.agg #[.int .i64 u, .int .i64 a]) = some l → D.atKey l (.lit (.bool false)) = .lit (.bool (F u a))
def upd (F : Int → Int → Bool) (u a : Int) : Int → Int → Bool := fun u' a' => if u' = u ∧ a' = a then true else F u' a'
theorem PairMap.made (w : World) : PairMap P K e (w.alloc (.map #[] 0)) w.heap.size 0 (fun _ _ => false) :=
  ⟨.map [], World.ownsMap_made w P K _, fun u a l _ => rfl⟩
theorem PairMap.kept {F : Int → Int → Bool} {w' : World} {row : Option Nat} (h : PairMap P K e w b n F) (hg : w.grownBy w' row) (hne : some b ≠ row) : PairMap P K e w' b n F := by
  obtain ⟨D, h1, h2⟩ := h.ex
  exact ⟨D, h1.kept hg hne, h2⟩
theorem PairMap.mono {F : Int → Int → Bool} (h : PairMap P K e w b n F) {n' : Nat} (hn : n ≤ n') : PairMap P K e w b n' F := by
  obtain ⟨D, h1, h2⟩ := h.ex
  exact ⟨D, h1.mono hn, h2⟩
theorem PairMap.look {F : Int → Int → Bool} (h : PairMap P K e w b n F) (hK : Keyed P K) {t : TypeId} (ht : P.underlying t = some (.map K e)) (he : P.underlying e = some .bool) (hz : (zeroValue e).run P w = .ok (.bool false) w) (u a : Int) (hk : ∃ l, keyOf P K (.agg #[.int .i64 u, .int .i64 a]) = some l) :
    (Instr.lookup t (.map (some b)) (.agg #[.int .i64 u, .int .i64 a]) false).run P w = .ok (.bool (F u a)) w := by
  obtain ⟨D, h1, h2⟩ := h.ex
  obtain ⟨l, hl⟩ := hk
  obtain ⟨v, ps, hrun, hv⟩ := h1.lookup hK ht hz (plainElem_bool he false) hl
  obtain ⟨x, rfl, hx⟩ := plainElem_bool_inv he hv
  rw [h2 u a l hl] at hx
  simp only [Prod.mk.injEq] at hx
  have : F u a = x := by simpa using hx.1
  rw [this]
  exact hrun
theorem PairMap.store {F : Int → Int → Bool} (h : PairMap P K e w b n F) (hK : Keyed P K) {t : TypeId} (ht : P.underlying t = some (.map K e)) (he : P.underlying e = some .bool) (hn : n < maxLen) (u a : Int) (hk : ∃ l, keyOf P K (.agg #[.int .i64 u, .int .i64 a]) = some l) :
    ∃ w', (Instr.mapUpdate t (.map (some b)) (.agg #[.int .i64 u, .int .i64 a]) (.bool true)).run P w = .ok () w' ∧ PairMap P K e w' b (n + 1) (upd F u a) ∧ w.grownBy w' (some b) := by
  obtain ⟨D, h1, h2⟩ := h.ex
  obtain ⟨l, hl⟩ := hk
  have hm := h1.isMap
  obtain ⟨w', hrun, g1, g2⟩ := h1.update hK ht hn hl (plainElem_bool he true)
  refine ⟨w', hrun, ⟨_, g1, fun u' a' l' hl' => ?_⟩, g2⟩
  unfold upd
  by_cases c : u' = u ∧ a' = a
  · obtain ⟨rfl, rfl⟩ := c
    rw [if_pos ⟨rfl, rfl⟩]
    rw [hl] at hl'
    cases hl'
    exact Go.Maps.atKey_put_same hm (hK.key hl) _ _
  · rw [if_neg c]
    have hne : l' ≠ l := by
      rintro rfl
      have := hK.inj hl hl'
      simp at this
      exact c ⟨this.1.symm, this.2.symm⟩
    rw [Go.Maps.atKey_put_other hne]
    exact h2 u' a' l' hl'
theorem wpList_look_pair {F : Int → Int → Bool} {ops : Array Oper} {rest : List Oper} {o : Oper} {a : Act} {Q : Exit → Act → World → Prop}
    (hg : o.guard = none) (m x : Operand) (t : TypeId) (hop : o.op = Op.lookup t m x false) (hK : Keyed P K) (ht : P.underlying t = some (.map K e)) (he : P.underlying e = some .bool) (hz : (zeroValue e).run P w = .ok (.bool false) w)
    (hm : a.eval m = .map (some b)) (h : PairMap P K e w b n F) (u v : Int) (hx : a.eval x = .agg #[.int .i64 u, .int .i64 v]) (hk : ∃ l, keyOf P K (.agg #[.int .i64 u, .int .i64 v]) = some l)
    (hN : wpList P ops Q rest (a.put o.dst (.bool (F u v))) w) : wpList P ops Q (o :: rest) a w := by
  refine wpList_plain hg fun K' hK' => ?_
  have hrun := h.look hK ht he hz u v hk
  unfold Oper.wp
  simp [execOp, hop, hm, hx, hrun, Result.andThen]
  exact hK' _ _ hN
theorem wpList_store_pair {F : Int → Int → Bool} {ops : Array Oper} {rest : List Oper} {o : Oper} {a : Act} {Q : Exit → Act → World → Prop}
    (hg : o.guard = none) (m x y : Operand) (t : TypeId) (hop : o.op = Op.mapUpdate t m x y) (hK : Keyed P K) (ht : P.underlying t = some (.map K e)) (he : P.underlying e = some .bool)
    (hm : a.eval m = .map (some b)) (h : PairMap P K e w b n F) (hn : n < maxLen) (u v : Int) (hx : a.eval x = .agg #[.int .i64 u, .int .i64 v]) (hy : a.eval y = .bool true) (hk : ∃ l, keyOf P K (.agg #[.int .i64 u, .int .i64 v]) = some l)
    (hN : ∀ w', PairMap P K e w' b (n + 1) (upd F u v) → w.grownBy w' (some b) → wpList P ops Q rest (a.put o.dst undef) w') : wpList P ops Q (o :: rest) a w := by
  refine wpList_plain hg fun K' hK' => ?_
  obtain ⟨w', hrun, r1, r2⟩ := h.store hK ht he hn u v hk
  unfold Oper.wp
  simp [execOp, hop, hm, hx, hy, hrun, Result.andThen]
  exact hK' _ _ (hN w' r1 r2)
end
theorem fs_laid : laidOutB Try.prog = true := by kernel_rfl
theorem fs_wide : (match Try.prog.underlying 53 with | some (.array _ _) | some (.struct _) => true | _ => false) = true := by rw [Try.underlying53]
theorem fs_keyed : Go.Maps.Keyed Try.prog 53 := Go.Maps.Keyed.of_law (deep_law_laid fs_laid (m := 2) (by omega) (of_decide_eq_true (by kernel_rfl)) (by kernel_rfl) fs_wide)
theorem fs_cells : Try.prog.cellsOf 53 = 2 := by kernel_rfl
theorem fs_cells1 : Try.prog.cellsOf 3 = 1 := by kernel_rfl
theorem fs_kt : Try.prog.keyType 53 = true := by kernel_rfl
theorem fs_zero (w : World) : (zeroValue 4).run Try.prog w = .ok (.bool false) w := by kernel_rfl
theorem fs_size : ∃ m, Try.prog.types.size = m + 1 := ⟨Try.prog.types.size - 1, by
  have : 0 < Try.prog.types.size := of_decide_eq_true (by kernel_rfl)
  omega⟩
theorem fs_key (u a : Int) (hu : 0 ≤ u ∧ u < 65536) (ha : 0 ≤ a ∧ a < 65536) : ∃ l, keyOf Try.prog 53 (.agg #[.int .i64 u, .int .i64 a]) = some l := by
  have h1 : (Lit.int .i64 u).wf = true := WalkArith.wf_i64 (by omega)
  have h2 : (Lit.int .i64 a).wf = true := WalkArith.wf_i64 (by omega)
  obtain ⟨m, hm⟩ := fs_size
  unfold keyOf
  rw [Try.underlying53, fs_kt]
  simp only [hm]
  refine ⟨.string (keyBytes [.int .i64 u, .int .i64 a]), ?_⟩
  simp [Value.formed, Value.cells, Program.keyLits, Try.underlying53, Try.underlying3, fs_cells, fs_cells1, h1, h2, List.range_succ]
mutual
def impl_FirstStroke.g : Nat → List (List Int) → Int → Int → (Int → Int → Bool) → Nat → List Int → Option (Bool × (Int → Int → Bool) × Nat × List Int)
  | 0, _, _, _, _, _, _ => none
  | k + 1, ls, u, a, F, n, st => if u = wrap64 ((shl .i64 1 (ls.length : Int)) - 1) then some (true, F, n, st) else (if (0 ≤ u ∧ u < 65536) ∧ (0 ≤ a ∧ a < 65536) then (if F u a = true then some (false, F, n, st) else impl_FirstStroke.l k ls u a F n st 0) else none)
def impl_FirstStroke.l : Nat → List (List Int) → Int → Int → (Int → Int → Bool) → Nat → List Int → Int → Option (Bool × (Int → Int → Bool) × Nat × List Int)
  | 0, _, _, _, _, _, _, _ => none
  | k + 1, ls, u, a, F, n, st, x => if x < (ls.length : Int) then (if 0 ≤ x then ((impl_along.f (rd_L1 ls x) a).bind fun t => if t.2 = true then ((impl_has.f u x).bind fun hh => if hh = true then impl_FirstStroke.l k ls u a F n st (wrap64 (x + 1)) else (if st.length < 1000 then ((impl_FirstStroke.g k ls (Go.bits .or .i64 u (shl .i64 1 x)) t.1 F n (st ++ [x])).bind fun r => if r.1 = true then some r else (if 0 < r.2.2.2.length ∧ r.2.2.2.length < 1000 then impl_FirstStroke.l k ls u a r.2.1 r.2.2.1 (r.2.2.2.take (r.2.2.2.length - 1)) (wrap64 (x + 1)) else none)) else none)) else impl_FirstStroke.l k ls u a F n st (wrap64 (x + 1))) else none) else (if n < 1000000000000000000 then some (false, upd F u a, n + 1, st) else none)
end
def impl_FirstStroke.f (k : Nat) (a0 : Int) (l0 : List (List Int)) (a2 : Int) : Option (List Int × Bool) := (impl_IsDrawing.f k a0 l0).bind fun t => if t = true then ((impl_within.f a2 0 (wrap64 (a0 - 1))).bind fun t2 => if t2 = true then ((impl_FirstStroke.g k l0 0 a2 (fun _ _ => false) 0 []).bind fun r => if r.1 = true then some (r.2.2.2, true) else some ([], false)) else some ([], false)) else some ([], false)
/-- The four cells and the map that the closure holds. -/
structure FsB (w0 : World) (bA bF bS bG bm : Nat) : Prop where
  af : bA ≠ bF
  as_ : bA ≠ bS
  ag : bA ≠ bG
  am : bA ≠ bm
  fs : bF ≠ bS
  fg : bF ≠ bG
  fm : bF ≠ bm
  sg : bS ≠ bG
  sm : bS ≠ bm
  gm : bG ≠ bm
  s0 : w0.heap.size ≤ bS
  m0 : w0.heap.size ≤ bm
def fsBlk (bA bF bS bG bm k : Nat) : Prop := k = bA ∨ k = bF ∨ k = bS ∨ k = bG ∨ k = bm
def fsFn (bA bF bS bG : Nat) : Value := .func (.func 52) #[] #[.pointer (some ⟨bA, 0, none⟩), .pointer (some ⟨bF, 0, none⟩), .pointer (some ⟨bS, 0, none⟩), .pointer (some ⟨bG, 0, none⟩)]
structure FsInv (w0 : World) (bA bF bS bG bm : Nat) (A : Option Addr) (c : Nat) (ls : List (List Int)) (F : Int → Int → Bool) (n : Nat) (st : List Int) (vs : Value) (w : World) : Prop where
  hA : w.heap[bA]? = some (.cells #[.slice A ls.length c] 22 (0, 0))
  hF : w.heap[bF]? = some (.cells #[.map (some bm)] 52 (0, 0))
  hS : w.heap[bS]? = some (.cells #[vs] 27 (0, 0))
  hG : w.heap[bG]? = some (.cells #[fsFn bA bF bS bG] 47 (0, 0))
  map : PairMap Try.prog 53 4 w bm n F
  rS : Kd.R (Kd.int .i64) 3 w w0.heap.size (fun k => ¬ fsBlk bA bF bS bG bm k) vs st
  below : Below w0.heap.size w0 w
theorem PairMap.lt {P : Program} {K e : TypeId} {w : World} {b n : Nat} {F : Int → Int → Bool} (h : PairMap P K e w b n F) : b < w.heap.size := by
  obtain ⟨D, h1, _⟩ := h.ex
  exact h1.lt
theorem grown_set (w : World) (g i : Nat) (u : Value) : w.grownBy (w.setCell ⟨g, i, none⟩ u) (some g) := by
  refine ⟨?_, ?_, ?_, ?_, fun k _ hk => Below.heap_setCell w ⟨g, i, none⟩ u k (fun e => hk (by rw [e]))⟩
  all_goals (unfold World.setCell; split <;> first | rfl | simp)
section
variable {w0 w w1 : World} {bA bF bS bG bm : Nat} {A : Option Addr} {c : Nat} {ls : List (List Int)} {F : Int → Int → Bool} {n : Nat} {st : List Int} {vs : Value}
theorem FsInv.step (h : FsInv w0 bA bF bS bG bm A c ls F n st vs w) (hb : Below w.heap.size w w1) : FsInv w0 bA bF bS bG bm A c ls F n st vs w1 :=
  ⟨(hb.block _ (blk_lt h.hA)).trans h.hA, (hb.block _ (blk_lt h.hF)).trans h.hF, (hb.block _ (blk_lt h.hS)).trans h.hS, (hb.block _ (blk_lt h.hG)).trans h.hG, h.map.kept (grown_of_below hb none) (by simp), Kd.R_below h.rS hb, below_then h.below h.below.size hb⟩
theorem FsInv.app (h : FsInv w0 bA bF bS bG bm A c ls F n st vs w) (D : FsB w0 bA bF bS bG bm) {v' : Value} {st' : List Int} (ho : Kd.R (Kd.int .i64) 3 w1 w0.heap.size (fun k => ¬ fsBlk bA bF bS bG bm k) v' st') (hg : w.grownBy w1 vs.ownBlock) (hb : Below w0.heap.size w0 w1) :
    FsInv w0 bA bF bS bG bm A c ls F n st' v' (w1.setCell ⟨bS, 0, none⟩ v') := by
  have hne : ∀ k, fsBlk bA bF bS bG bm k → some k ≠ vs.ownBlock := fun k hk e => (h.rS.1 k e.symm) hk
  have eA := (hg.block _ (blk_lt h.hA) (hne _ (.inl rfl))).trans h.hA
  have eF := (hg.block _ (blk_lt h.hF) (hne _ (.inr (.inl rfl)))).trans h.hF
  have eS := (hg.block _ (blk_lt h.hS) (hne _ (.inr (.inr (.inl rfl))))).trans h.hS
  have eG := (hg.block _ (blk_lt h.hG) (hne _ (.inr (.inr (.inr (.inl rfl)))))).trans h.hG
  have eM := h.map.kept hg (hne _ (.inr (.inr (.inr (.inr rfl)))))
  exact ⟨blk_far eA D.as_ _, blk_far eF D.fs _, by simpa using blk_set eS 0 v', blk_far eG D.sg.symm _, eM.kept (grown_set _ _ _ _) (by simpa using D.sm.symm), Kd.R_far ho (fun k hk e => hk (.inr (.inr (.inl e)))) _, below_set hb D.s0⟩
theorem FsInv.cut (D : FsB w0 bA bF bS bG bm) {A1 : Option Addr} {m cc j : Nat} (h : FsInv w0 bA bF bS bG bm A c ls F n st (.slice A1 m cc) w) (hj : j ≤ st.length) :
    FsInv w0 bA bF bS bG bm A c ls F n (st.take j) (.slice A1 j cc) (w.setCell ⟨bS, 0, none⟩ (.slice A1 j cc)) :=
  ⟨blk_far h.hA D.as_ _, blk_far h.hF D.fs _, by simpa using blk_set h.hS 0 (.slice A1 j cc), blk_far h.hG D.sg.symm _, h.map.kept (grown_set _ _ _ _) (by simpa using D.sm.symm), Kd.R_far (Kd.R_take h.rS hj) (fun k hk e => hk (.inr (.inr (.inl e)))) _, below_set h.below D.s0⟩
theorem FsInv.put (h : FsInv w0 bA bF bS bG bm A c ls F n st vs w) (D : FsB w0 bA bF bS bG bm) {F' : Int → Int → Bool} {n' : Nat} (hm : PairMap Try.prog 53 4 w1 bm n' F') (hg : w.grownBy w1 (some bm)) :
    FsInv w0 bA bF bS bG bm A c ls F' n' st vs w1 :=
  ⟨(hg.block _ (blk_lt h.hA) (by simpa using D.am)).trans h.hA, (hg.block _ (blk_lt h.hF) (by simpa using D.fm)).trans h.hF, (hg.block _ (blk_lt h.hS) (by simpa using D.sm)).trans h.hS, (hg.block _ (blk_lt h.hG) (by simpa using D.gm)).trans h.hG, hm, Kd.R_grown h.rS hg (fun k hk e => hk (.inr (.inr (.inr (.inr (by simpa using e)))))), pw_below_grown h.below _ h.below.size hg (fun k e => by cases e; exact D.m0)⟩
theorem FsInv.fresh (h : FsInv w0 bA bF bS bG bm A c ls F n st vs w) : ∀ k, w.heap.size ≤ k → ¬ fsBlk bA bF bS bG bm k := by
  intro k hk
  rintro (rfl | rfl | rfl | rfl | rfl)
  · have := blk_lt h.hA; omega
  · have := blk_lt h.hF; omega
  · have := blk_lt h.hS; omega
  · have := blk_lt h.hG; omega
  · have := h.map.lt; omega
theorem FsInv.keepS (h : FsInv w0 bA bF bS bG bm A c ls F n st vs w) (hg : w.grownBy w1 vs.ownBlock) : w1.heap[bS]? = some (.cells #[vs] 27 (0, 0)) :=
  (hg.block _ (blk_lt h.hS) (fun e => (h.rS.1 _ e.symm) (.inr (.inr (.inl rfl))))).trans h.hS
end
theorem fs_cell {w : World} {g t : Nat} {v : Value} (h : w.heap[g]? = some (.cells #[v] t (0, 0))) : w.cell? ⟨g, 0, none⟩ = some v ∧ w.frozen? ⟨g, 0, none⟩ = false := by
  constructor
  · simp [World.cell?, h]
  · simp [World.frozen?, h]
theorem fs_shl1 (x : Int) : shl .i64 1 x = wrap64 (2 ^ min x.toNat 64) := by
  unfold shl
  rw [IntKind.wrap_i64]
  simp [IntKind.bits, wrap64]
theorem fs_shl (n : Nat) : shl .i64 1 (n : Int) = wrap64 (2 ^ min n 64) := by
  unfold shl
  rw [Int.toNat_natCast, IntKind.wrap_i64]
  simp [IntKind.bits, wrap64]
set_option maxHeartbeats 4000000 in
set_option maxRecDepth 100000 in
theorem impl_FirstStroke_1.calls (w0 : World) (bA bF bS bG bm : Nat) (A : Option Addr) (c : Nat) (ls : List (List Int)) (D : FsB w0 bA bF bS bG bm) (hr0 : Kd.C (Kd.slice 3 (Kd.int .i64)) w0 A ls.length ls) (eg : ∀ args w, (callFunc 52 args).run Try.prog w = .ok (.enter 52 args) w) (k : Nat) :
    ∀ (u a : Int) (F : Int → Int → Bool) (n : Nat) (st : List Int) (vs : Value) (w : World) (r : Bool × (Int → Int → Bool) × Nat × List Int), impl_FirstStroke.g k ls u a F n st = some r → FsInv w0 bA bF bS bG bm A c ls F n st vs w →
    Calls Try.prog 52 #[.int .i64 u, .int .i64 a, .pointer (some ⟨bA, 0, none⟩), .pointer (some ⟨bF, 0, none⟩), .pointer (some ⟨bS, 0, none⟩), .pointer (some ⟨bG, 0, none⟩)] w fun e w' => e = .returned (.bool r.1) ∧ ∃ vs', FsInv w0 bA bF bS bG bm A c ls r.2.1 r.2.2.1 r.2.2.2 vs' w' := by
  induction k using Nat.strongRecOn with
  | _ k ih =>
  intro u a F n st vs w r h hI
  cases k with
  | zero => simp [impl_FirstStroke.g] at h
  | succ k =>
  rw [impl_FirstStroke.g] at h
  have cA := (fs_cell hI.hA).1
  have HR0 := Aside0.mk hr0
  clear hr0
  by_cases c1 : u = wrap64 ((shl .i64 1 (ls.length : Int)) - 1)
  · rw [if_pos c1] at h
    have c1b : (u == wrap64 (wrap64 (2 ^ min ls.length 64) - 1)) = true := by rw [fs_shl]at c1; exact beq_iff_eq.2 c1
    have HS := Aside0.mk (Option.some.inj h)
    have HI := Aside0.mk hI
    clear hI h ih c1
    go_enter Try.func52, Try.ntmps52
    go_wp2
    go_ret
    rw [← HS.out]
    exact ⟨rfl, _, HI.out⟩
  · rw [if_neg c1] at h
    have c1b : (u == wrap64 (wrap64 (2 ^ min ls.length 64) - 1)) = false := by rw [fs_shl] at c1; exact beq_eq_false_iff_ne.2 c1
    clear c1
    by_cases c2 : (0 ≤ u ∧ u < 65536) ∧ (0 ≤ a ∧ a < 65536)
    case neg => rw [if_neg c2] at h; cases h
    rw [if_pos c2] at h
    have cF := (fs_cell hI.hF).1
    have HK := Aside0.mk (fs_key u a c2.1 c2.2)
    clear c2
    by_cases c3 : F u a = true
    · rw [if_pos c3] at h
      have HS := Aside0.mk (Option.some.inj h)
      have HI := Aside0.mk hI
      clear hI h ih
      go_enter Try.func52, Try.ntmps52
      go_wp2_with (at_lookup; refine wpList_look_pair rfl _ _ 52 rfl fs_keyed Try.underlying52 Try.underlying4 (fs_zero _) rfl HI.out.map u a rfl HK.out ?_; rw [c3])
      go_ret
      rw [← HS.out]
      exact ⟨rfl, _, HI.out⟩
    · rw [if_neg c3] at h
      replace c3 := Bool.eq_false_iff.mpr c3
      have H := Aside0.mk h
      have HI := Aside0.mk hI
      have IH := Aside0.mk ih
      clear hI h ih
      go_enter Try.func52, Try.ntmps52
      go_wp2_with (at_lookup; refine wpList_look_pair rfl _ _ 52 rfl fs_keyed Try.underlying52 Try.underlying4 (fs_zero _) rfl HI.out.map u a rfl HK.out ?_; rw [c3])
      clear cA cF c3 c1b
      go_loopg [26] k (fun kq v26 wr => ∃ (x : Int) (F2 : Int → Int → Bool) (n2 : Nat) (st2 : List Int) (vs2 : Value), v26 = .int .i64 x ∧ Aside0 (impl_FirstStroke.l kq ls u a F2 n2 st2 x = some r) ∧ Aside0 (kq ≤ k) ∧ Aside0 (FsInv w0 bA bF bS bG bm A c ls F2 n2 st2 vs2 wr))
      case atStart => exact ⟨0, F, n, st, vs, rfl, H, ⟨Nat.le_refl _⟩, HI⟩
      case round =>
        clear HI H
        obtain ⟨x, F2, n2, st2, vs2, rfl, HA, HKQ, HI⟩ := hrel
        cases gk with
        | zero => exact absurd HA.out (by simp [impl_FirstStroke.l])
        | succ k3 =>
          have h := HA.out
          clear HA
          rw [impl_FirstStroke.l] at h
          obtain ⟨wo, rfl⟩ : ∃ x, x = wr := ⟨_, rfl⟩
          by_cases c4 : x < (ls.length : Int)
          · rw [if_pos c4] at h
            by_cases c5 : 0 ≤ x
            case neg => rw [if_neg c5] at h; cases h
            rw [if_pos c5] at h
            obtain ⟨t, ht, h⟩ := Option.bind_eq_some_iff.1 h
            obtain ⟨p, ok⟩ := t
            have HT := Aside0.mk ht
            have H := Aside0.mk h
            clear ht h
            obtain ⟨ad, Ar, cr, e, hx, hl, hi⟩ := at_L1 HR0.out x c5 c4
            cases e
            replace hx := (HI.out.below.cell (World.block_lt_of_cell? w0 _ hx)).trans hx
            have HRW := Aside0.mk (Kd.C_below hi HI.out.below)
            have HLW := Aside0.mk hl
            clear hi hl
            replace c5 := eq_true c5
            go_wp2_with fail
            refine (impl_along.calls Ar cr _ a p ok _ HRW.out HLW.out HT.out).mono ?_
            rintro e w1 ⟨rfl, hd⟩
            have HI1 := Aside0.mk (HI.out.step hd.below)
            clear HI hd hx HRW
            cases ok with
            | false =>
              have h := H.out
              rw [if_neg (by simp)] at h
              have H1 := Aside0.mk h
              clear h H
              go_wp2
              go_roundg k3
              case measure => have := HKQ.out; omega
              case rel => exact ⟨wrap64 (x + 1), F2, n2, st2, vs2, rfl, H1, ⟨by have := HKQ.out; omega⟩, HI1⟩
            | true =>
              have h := H.out
              rw [if_pos rfl] at h
              obtain ⟨hh, hh1, h⟩ := Option.bind_eq_some_iff.1 h
              have HH := Aside0.mk hh1
              have H1 := Aside0.mk h
              clear h H hh1
              go_wp2_with fail
              refine (impl_has.calls u x hh _ HH.out).mono ?_
              rintro e w2 ⟨rfl, hd⟩
              have HI2 := Aside0.mk (HI1.out.step hd.below)
              clear HI1 hd
              cases hh with
              | true =>
                have h := H1.out
                rw [if_pos rfl] at h
                have H2 := Aside0.mk h
                clear h H1
                go_wp2
                go_roundg k3
                case measure => have := HKQ.out; omega
                case rel => exact ⟨wrap64 (x + 1), F2, n2, st2, vs2, rfl, H2, ⟨by have := HKQ.out; omega⟩, HI2⟩
              | false =>
                have h := H1.out
                rw [if_neg (by simp)] at h
                by_cases c6 : st2.length < 1000
                case neg => rw [if_neg c6] at h; cases h
                rw [if_pos c6] at h
                obtain ⟨t2, ht2, h⟩ := Option.bind_eq_some_iff.1 h
                obtain ⟨ok2, F3, n3, st3⟩ := t2
                rw [fs_shl1] at ht2
                have HT2 := Aside0.mk ht2
                have H2 := Aside0.mk h
                clear ht2 h H1
                have cS := (fs_cell HI2.out.hS).1
                go_wp2_with (first | ((with_reducible refine gate_builtin (b := .append) (xs := #[.tmp 44, .tmp 46]) rfl ?_); at_builtin; refine Kd.R_append (Kd.int .i64) (w0 := w0) w0.heap.size rfl (.tmp 44) (.tmp 46) 27 3 (.int .i64 0) 8 rfl Try.underlying27 info3 rfl (by decide) (by omega) vs2 st2 x [.int .i64 x] (fun k => ¬ fsBlk bA bF bS bG bm k) (fun _ => False) rfl rfl ?aP (fun _ hk => hk.elim) ?aF ?aO ?aB ?aS ?aL ?_; (case aP => exact rfl); (case aF => exact HI2.out.fresh); (case aO => exact HI2.out.rS); (case aB => exact HI2.out.below); (case aS => exact HI2.out.below.size); (case aL => omega); intro v1 w3 ho hb hg hat; obtain ⟨Av, cv, rfl⟩ := Kd.R_slice ho; rw [show (st2 ++ [x]).length = st2.length + 1 by simp] at ho hat; have fS := (fs_cell (HI2.out.keepS hg)).2; have cS1 := (fs_cell (HI2.out.keepS hg)).1; have HF := Aside0.mk (HI2.out.app D ho hg hb); have cG := (fs_cell HF.out.hG).1; unfold fsFn at cG; clear ho hb hg hat))
                generalize (w3.setCell ⟨bS, 0, none⟩ (.slice Av (st2.length + 1) cv)) = w4 at HF cG
                have HF5 := Aside0.mk (HF.out.step (below_drew (Below.refl w4.heap.size w4)))
                clear HF cG fS cS1 cS
                refine wp_region_still_tail 6 (by kernel_rfl) (by kernel_rfl) ?_
                change wpStill _ _ w4.drew (fun a' => wpList _ _ _ _ a' w4.drew) _ _
                generalize w4.drew = w5 at HF5
                have cG := (fs_cell HF5.out.hG).1
                unfold fsFn at cG
                simp only [List.take_succ_cons, List.take_zero, List.drop_succ_cons, List.drop_zero]
                repeat still_step
                refine wpStill_nil ?_
                cases ok2 with
                | true =>
                  have h := H2.out
                  rw [if_pos rfl] at h
                  have H3 := Aside0.mk (Option.some.inj h)
                  clear h H2
                  go_wp2_with (go_at_fn 52; refine (IH.out k3 (by have := HKQ.out; omega) _ p F2 n2 (st2 ++ [x]) _ w5 _ HT2.out HF5.out).mono ?_; rintro e w6 ⟨rfl, vs3, hI3⟩; have HI3 := Aside0.mk hI3; clear hI3)
                  go_ret
                  rw [← H3.out]
                  exact ⟨rfl, _, HI3.out⟩
                | false =>
                  have h := H2.out
                  rw [if_neg (by simp)] at h
                  by_cases c7 : 0 < st3.length ∧ st3.length < 1000
                  case neg => rw [if_neg c7] at h; cases h
                  rw [if_pos c7] at h
                  obtain ⟨q, hq⟩ : ∃ q, st3.length = q + 1 := ⟨st3.length - 1, by omega⟩
                  rw [hq, Nat.add_sub_cancel] at h
                  have H3 := Aside0.mk h
                  have HQ := Aside0.mk hq
                  have c7b : q < 1000 := by omega
                  clear h H2 c7 hq
                  go_wp2_with (go_at_fn 52; refine (IH.out k3 (by have := HKQ.out; omega) _ p F2 n2 (st2 ++ [x]) _ w5 _ HT2.out HF5.out).mono ?_; rintro e w6 ⟨rfl, vs3, hI3⟩; obtain ⟨A3, c3', rfl⟩ := Kd.R_slice hI3.rS; have hcc := (Kd.R_reads' hI3.rS).2.1; dsimp only at hI3 hcc ⊢; rw [HQ.out] at hI3 hcc; have cS3 := (fs_cell hI3.hS).1; have fS3 := (fs_cell hI3.hS).2; obtain ⟨i0, hi0, _, hsz, _⟩ := info_parts info3; have hcut := cut_to (P := Try.prog) 27 3 .i64 Try.underlying27 hi0 A3 (q + 1) c3' (q : Int) (by omega) (by omega) hcc; have hw3 : wrap64 (((q + 1 : Nat) : Int) - 1) = (q : Int) := (by unfold wrap64; omega); have HI3 := Aside0.mk hI3; clear hI3 hi0 hsz hcc)
                  have HC3 := Aside0.mk (FsInv.cut D HI3.out (j := q) (by have := HQ.out; omega))
                  go_roundg k3
                  case measure => have := HKQ.out; omega
                  case rel => exact ⟨wrap64 (x + 1), F3, n3, _, _, rfl, H3, ⟨by have := HKQ.out; omega⟩, HC3⟩
          · rw [if_neg c4] at h
            by_cases c5 : n2 < 1000000000000000000
            case neg => rw [if_neg c5] at h; cases h
            rw [if_pos c5] at h
            have H1 := Aside0.mk (Option.some.inj h)
            have HN := Aside0.mk c5
            clear h c5
            have cF := (fs_cell HI.out.hF).1
            go_wp2_with (at_mapUpdate; refine wpList_store_pair rfl _ _ _ 52 rfl fs_keyed Try.underlying52 Try.underlying4 rfl HI.out.map (by have := HN.out; unfold maxLen; omega) u a rfl rfl HK.out ?_; intro w2 hm hg; have HI2 := Aside0.mk (HI.out.put D hm hg); clear hm hg)
            go_ret
            rw [← H1.out]
            exact ⟨rfl, _, HI2.out⟩
theorem fs_store_func (w : World) (a : Addr) (m : Mode) (fn : Fn) (first captured : Array Value) : (store a (.func fn first captured) m).run Try.prog w = stored Try.prog w a (.func fn first captured) m := run_store Try.prog w a _ m rfl
attribute [local go_sem] fs_store_func
theorem fs_blks (w : World) (o0 o1 o2 o3 o4 : Obj) : Below w.heap.size w (((((w.alloc o0).alloc o1).alloc o2).alloc o3).alloc o4) ∧ (((((w.alloc o0).alloc o1).alloc o2).alloc o3).alloc o4).heap[w.heap.size]? = some o0 ∧ (((((w.alloc o0).alloc o1).alloc o2).alloc o3).alloc o4).heap[w.heap.size + 1]? = some o1 ∧ (((((w.alloc o0).alloc o1).alloc o2).alloc o3).alloc o4).heap[w.heap.size + 1 + 1]? = some o2 ∧ (((((w.alloc o0).alloc o1).alloc o2).alloc o3).alloc o4).heap[w.heap.size + 1 + 1 + 1]? = some o3 ∧ (((((w.alloc o0).alloc o1).alloc o2).alloc o3).alloc o4).heap[w.heap.size + 1 + 1 + 1 + 1]? = some o4 := by
  have n : ∀ (W : World) (o : Obj) (k : Nat), W.heap.size = k → (W.alloc o).heap[k]? = some o := fun W o k hk => by subst hk; simpa using heap_alloc_new W o
  have s1 : (w.alloc o0).heap.size = w.heap.size + 1 := by simp
  have s2 : ((w.alloc o0).alloc o1).heap.size = w.heap.size + 1 + 1 := by simp
  have s3 : (((w.alloc o0).alloc o1).alloc o2).heap.size = w.heap.size + 1 + 1 + 1 := by simp
  have s4 : ((((w.alloc o0).alloc o1).alloc o2).alloc o3).heap.size = w.heap.size + 1 + 1 + 1 + 1 := by simp
  have a : ∀ {W : World} {k : Nat} {o : Obj} (q : Obj), W.heap[k]? = some o → (W.alloc q).heap[k]? = some o := fun {W k o} q hk => ((below_alloc (Below.refl W.heap.size W) q).block k (Array.getElem?_eq_some_iff.1 hk).1).trans hk
  exact ⟨below_alloc (below_alloc (below_alloc (below_alloc (below_alloc (Below.refl _ _) _) _) _) _) _, a _ (a _ (a _ (a _ (n w o0 _ rfl)))), a _ (a _ (a _ (n _ o1 _ s1))), a _ (a _ (n _ o2 _ s2)), a _ (n _ o3 _ s3), n _ o4 _ s4⟩
theorem fs_row {W : World} {base g : Nat} {xs : List Int} (hb : W.heap[g]? = some (.cells (xs.map (Value.int .i64)).toArray 3 (0, 0))) (hg : base ≤ g) (hl : xs.length ≤ 9223372036854775807) : Kd.R (Kd.int .i64) 3 W base (fun k_ => k_ = g) (.slice (some ⟨g, 0, none⟩) xs.length xs.length) xs :=
  ⟨fun k hk => by simp [Value.ownBlock] at hk; exact hk.symm, xs.map (Value.int .i64), ⟨by simp [Kd.int, Kd.scalar], .inr ⟨g, xs.length, _, rfl, hg, hb, Nat.le_refl _, hl, by simp [Kd.int, Kd.scalar], by simp [Kd.int, Kd.scalar, List.take_of_length_le]⟩⟩, Kd.reps_scalar _⟩
theorem FsInv.start {w w4 : World} {A0 : Option Addr} {c0 : Nat} {ls : List (List Int)} (hb : Below w.heap.size w w4) (hW : w4.heap[w.heap.size]? = some (.cells #[.slice A0 ls.length c0] 22 (0, 0))) :
    FsInv w w.heap.size (w4.heap.size + 1 + 1) (w4.heap.size + 1 + 1 + 1) (w4.heap.size + 1 + 1 + 1 + 1) w4.heap.size A0 c0 ls (fun _ _ => false) 0 [] (.slice (some ⟨w4.heap.size + 1, 0, none⟩) 0 0)
      (((((w4.alloc (.map #[] 0)).alloc (.cells #[] 3)).alloc (.cells #[.map (some w4.heap.size)] 52)).alloc (.cells #[.slice (some ⟨w4.heap.size + 1, 0, none⟩) 0 0] 27)).alloc (.cells #[fsFn w.heap.size (w4.heap.size + 1 + 1) (w4.heap.size + 1 + 1 + 1) (w4.heap.size + 1 + 1 + 1 + 1)] 47)) ∧
    FsB w w.heap.size (w4.heap.size + 1 + 1) (w4.heap.size + 1 + 1 + 1) (w4.heap.size + 1 + 1 + 1 + 1) w4.heap.size := by
  have hlt := blk_lt hW
  have hle := hb.size
  obtain ⟨b5, e0, e1, e2, e3, e4⟩ := fs_blks w4 (.map #[] 0) (.cells #[] 3) (.cells #[.map (some w4.heap.size)] 52) (.cells #[.slice (some ⟨w4.heap.size + 1, 0, none⟩) 0 0] 27) (.cells #[fsFn w.heap.size (w4.heap.size + 1 + 1) (w4.heap.size + 1 + 1 + 1) (w4.heap.size + 1 + 1 + 1 + 1)] 47)
  have eW := (b5.block _ hlt).trans hW
  have hB := below_then hb hle b5
  have hM := (PairMap.made (P := Try.prog) (K := 53) (e := 4) w4).kept (grown_of_below (below_alloc (below_alloc (below_alloc (below_alloc (Below.refl _ _) (.cells #[] 3)) (.cells #[.map (some w4.heap.size)] 52)) (.cells #[.slice (some ⟨w4.heap.size + 1, 0, none⟩) 0 0] 27)) (.cells #[fsFn w.heap.size (w4.heap.size + 1 + 1) (w4.heap.size + 1 + 1 + 1) (w4.heap.size + 1 + 1 + 1 + 1)] 47)) none) (by simp)
  generalize (((((w4.alloc (.map #[] 0)).alloc (.cells #[] 3)).alloc (.cells #[.map (some w4.heap.size)] 52)).alloc (.cells #[.slice (some ⟨w4.heap.size + 1, 0, none⟩) 0 0] 27)).alloc (.cells #[fsFn w.heap.size (w4.heap.size + 1 + 1) (w4.heap.size + 1 + 1 + 1) (w4.heap.size + 1 + 1 + 1 + 1)] 47)) = W at *
  have e1' : W.heap[w4.heap.size + 1]? = some (.cells (([] : List Int).map (Value.int .i64)).toArray 3 (0, 0)) := e1
  refine ⟨⟨eW, e2, e3, e4, hM, ?_, hB⟩, ⟨by omega, by omega, by omega, by omega, by omega, by omega, by omega, by omega, by omega, by omega, by omega, by omega⟩⟩
  refine Kd.R_mono (fs_row (base := w.heap.size) e1' (by omega) (by simp)) (fun k hk => ?_)
  subst hk
  rintro (z | z | z | z | z) <;> omega
set_option maxHeartbeats 4000000 in
set_option maxRecDepth 100000 in
theorem impl_FirstStroke.calls (k : Nat) (a0 : Int) (A1 : Option Addr) (c1 : Nat) (l1 : List (List Int)) (a2 : Int) (r1 : List Int) (r2 : Bool) (w : World) (hr1 : Kd.C (Kd.slice 3 (Kd.int .i64)) w A1 l1.length l1) (hc1 : l1.length ≤ c1) (h : impl_FirstStroke.f k a0 l1 a2 = some (r1, r2)) :
    Calls Try.prog 35 #[.int .i64 a0, .slice A1 l1.length c1, .int .i64 a2] w fun e w' => ∃ v0_ : Value, e = .returned (.tuple #[v0_, .bool r2]) ∧ Kd.R (Kd.int .i64) 3 w' w.heap.size (fun _ => True) v0_ r1 ∧ Below w.heap.size w w' := by
  have eg : ∀ args w, (callFunc 52 args).run Try.prog w = .ok (.enter 52 args) w := enters_of Try.func52 (by kernel_rfl) rfl
  unfold impl_FirstStroke.f at h
  obtain ⟨t, ht, h⟩ := Option.bind_eq_some_iff.1 h
  have HT := Aside0.mk ht
  have HR := Aside0.mk hr1
  have HC := Aside0.mk hc1
  have H := Aside0.mk h
  have hb0 : Below w.heap.size w (w.alloc (.cells #[.slice A1 l1.length c1] 22)) := below_alloc (Below.refl _ _) _
  have HB0 := Aside0.mk hb0
  clear ht hr1 hc1 h hb0
  go_enter Try.func35, Try.ntmps35
  go_wp2_with fail
  refine (impl_IsDrawing.calls k a0 A1 c1 l1 t _ (Kd.C_below HR.out HB0.out) HC.out HT.out).mono ?_
  rintro e w2 ⟨rfl, hb⟩
  have hW2 : w2.heap[w.heap.size]? = some (.cells #[.slice A1 l1.length c1] 22 (0, 0)) := (hb.block _ (by simp)).trans (by simpa using heap_alloc_new w (.cells #[.slice A1 l1.length c1] 22))
  have HB2 := Aside0.mk (below_then HB0.out HB0.out.size hb)
  have HW2 := Aside0.mk hW2
  have cW2 := (fs_cell hW2).1
  have HR2 := Aside0.mk (Kd.C_below HR.out HB2.out)
  clear hW2 hb HB0
  have h := H.out
  clear H
  by_cases c1 : t = true
  · subst c1
    rw [if_pos rfl] at h
    obtain ⟨t2, ht2, h⟩ := Option.bind_eq_some_iff.1 h
    have HT2 := Aside0.mk ht2
    have H := Aside0.mk h
    clear ht2 h
    go_wp2_with fail
    refine (impl_within.calls a2 0 (wrap64 (a0 - 1)) t2 _ HT2.out).mono ?_
    rintro e w4 ⟨rfl, hd4⟩
    have HB4 : Aside0 (Below w2.heap.size w2 w4) := ⟨hd4.below⟩
    clear hd4
    have h := H.out
    clear H
    by_cases c3 : t2 = true
    · subst c3
      rw [if_pos rfl] at h
      have H := Aside0.mk h
      clear h cW2
      have hmm := @run_makeMap Try.prog
      have hst := FsInv.start (A0 := A1) (c0 := c1) (ls := l1) (w := w) (w4 := w4) (below_then HB2.out HB2.out.size HB4.out) ((HB4.out.block _ (blk_lt HW2.out)).trans HW2.out)
      have HST := Aside0.mk hst
      obtain ⟨r, hr, h3⟩ := Option.bind_eq_some_iff.1 H.out
      obtain ⟨ok, F3, n3, st3⟩ := r
      have HG := Aside0.mk hr
      have H3 := Aside0.mk h3
      clear hst hr h3 H
      cases ok with
      | true =>
        have HE := Aside0.mk (Option.some.inj H3.out)
        clear H3
        go_wp2_with (go_at_fn 52; refine (impl_FirstStroke_1.calls w _ _ _ _ _ A1 c1 l1 HST.out.2 HR.out eg k 0 a2 _ 0 [] _ _ _ HG.out HST.out.1).mono ?_; rintro e w7 ⟨rfl, vs7, hI7⟩; have HI7 := Aside0.mk hI7; have cS7 := (fs_cell hI7.hS).1; clear hI7)
        go_ret2
        have hE1 : st3 = r1 := congrArg Prod.fst HE.out
        have hE2 : true = r2 := congrArg Prod.snd HE.out
        subst hE1 hE2
        exact ⟨vs7, rfl, Kd.R_mono HI7.out.rS (fun _ _ => trivial), HI7.out.below⟩
      | false =>
        have HE := Aside0.mk (Option.some.inj H3.out)
        clear H3
        go_wp2_with (go_at_fn 52; refine (impl_FirstStroke_1.calls w _ _ _ _ _ A1 c1 l1 HST.out.2 HR.out eg k 0 a2 _ 0 [] _ _ _ HG.out HST.out.1).mono ?_; rintro e w7 ⟨rfl, vs7, hI7⟩; have HI7 := Aside0.mk hI7; clear hI7)
        go_ret2
        have hE1 : r1 = [] := (congrArg Prod.fst HE.out).symm
        have hE2 : r2 = false := (congrArg Prod.snd HE.out).symm
        subst hE1 hE2
        exact ⟨.slice none 0 0, rfl, Kd.R_nil _ _ _ _ _, HI7.out.below⟩
    · rw [if_neg c3] at h
      obtain rfl : t2 = false := by simpa using c3
      have HE := Aside0.mk (Option.some.inj h)
      clear h c3
      go_wp2
      go_ret2
      have hE1 : r1 = [] := (congrArg Prod.fst HE.out).symm
      have hE2 : r2 = false := (congrArg Prod.snd HE.out).symm
      subst hE1 hE2
      exact ⟨.slice none 0 0, rfl, Kd.R_nil _ _ _ _ _, below_then HB2.out HB2.out.size HB4.out⟩
  · rw [if_neg c1] at h
    obtain rfl : t = false := by simpa using c1
    have HE := Aside0.mk (Option.some.inj h)
    clear h c1
    go_wp2
    go_ret2
    have hE1 : r1 = [] := (congrArg Prod.fst HE.out).symm
    have hE2 : r2 = false := (congrArg Prod.snd HE.out).symm
    subst hE1 hE2
    exact ⟨.slice none 0 0, rfl, Kd.R_nil _ _ _ _ _, HB2.out⟩
end Go.Proofs.Ytcdajmbnijmdfaa.PA
-- Written for this claim by a program of this session's (ownprint.py), by way of the kit's print and hand-proved texts. Lean checks it.
namespace Go.Proofs.Ytcdajmbnijmdfaa.PA
open Go.RowKit Go.Proofs.YtcdajmbnijmdfaaW.PrintWords Go.Proofs.YtcdajmbnijmdfaaW.PrintLast Go.Proofs.YtcdajmbnijmdfaaW.PrintMore
attribute [local go_sem] max2_int min2_int max_two min_two max_three min_three max_four min_four   -- for this text's walks alone
set_option linter.unusedVariables false
set_option linter.unusedSimpArgs false
def spec_l01In.f (a0 : Int) (a1 : Int) (a2 : Int) : Option (Bool) := if a0 ≥ a1 then (some (decide (a0 ≤ a2))) else (some false)
end Go.Proofs.Ytcdajmbnijmdfaa.PA
-- Written for this claim by a program of this session's (ownprint.py), by way of the kit's print and hand-proved texts. Lean checks it.
namespace Go.Proofs.Ytcdajmbnijmdfaa.PA
open Go.RowKit Go.Proofs.YtcdajmbnijmdfaaW.PrintWords Go.Proofs.YtcdajmbnijmdfaaW.PrintLast Go.Proofs.YtcdajmbnijmdfaaW.PrintMore
attribute [local go_sem] max2_int min2_int max_two min_two max_three min_three max_four min_four   -- for this text's walks alone
set_option linter.unusedVariables false
set_option linter.unusedSimpArgs false
def impl_CanTrace.l0 : Nat → Int → List (List Int) → Int → Int → Option (Bool)
  | 0, _, _, _, _ => none
  | k + 1, x0, x1, x10, x11 => if x11 < x10 then ((impl_FirstStroke.f k x0 x1 x11).bind fun bt356 => (if bt356.2 = true then (some true) else (impl_CanTrace.l0 k x0 x1 x10 (wrap64 (x11 + 1))))) else (some false)
def impl_CanTrace.f (k : Nat) (a0 : Int) (l1 : List (List Int)) : Option (Bool) := impl_CanTrace.l0 k a0 l1 (mn (mx a0 0) 8) 0
set_option maxHeartbeats 8000000 in
set_option maxRecDepth 100000 in
theorem impl_CanTrace.calls (k : Nat) (a0 : Int) (A1 : Option Addr) (c1 : Nat) (l1 : List (List Int)) (r : Bool) (w : World) (hr1 : Kd.C (Kd.slice 3 (Kd.int .i64)) w A1 l1.length l1) (hc1 : l1.length ≤ c1) (h : impl_CanTrace.f k a0 l1 = some r) :
    Calls Try.prog 33 #[.int .i64 a0, .slice A1 l1.length c1] w fun e w' => e = .returned (.bool r) ∧ Below w.heap.size w w' := by
  have HR1 := Aside0.mk hr1
  have HC1 := Aside0.mk hc1
  clear hr1 hc1
  have HB := Aside0.mk (Below.refl w.heap.size w)
  have H : (impl_CanTrace.l0 k a0 l1 (mn (mx a0 0) 8) 0) = some r := h
  clear h
  obtain ⟨ji3, hji3⟩ : ∃ j_ : Int, (mx a0 0) = j_ := ⟨_, rfl⟩
  replace H : (impl_CanTrace.l0 k a0 l1 (mn (ji3) 8) 0) = some r := by first | (rw [hji3] at H; exact H) | (simp only [hji3] at H ⊢; exact H)
  (try (have hji3l : 0 ≤ ji3 := by (rw [← hji3]; unfold mx; (repeat' split) <;> omega)))
  (try (have hji3m : 0 ≤ ji3 := by omega))
  have hji3_ : (if a0 < 0 then 0 else a0) = ji3 := hji3
  obtain ⟨ji4, hji4⟩ : ∃ j_ : Int, (mn (ji3) 8) = j_ := ⟨_, rfl⟩
  replace H : (impl_CanTrace.l0 k a0 l1 ji4 0) = some r := by first | (rw [hji4] at H; exact H) | (simp only [hji4] at H ⊢; exact H)
  have hji4_ : (if 8 < (ji3) then 8 else (ji3)) = ji4 := hji4
  have H' := Aside0.mk H
  clear H
  go_enter Try.func33, Try.ntmps33
  go_wp2
  go_loopg [11] k (fun kq v11 w' => ∃ (x11_1 : Int), v11 = .int .i64 x11_1 ∧ Aside0 (impl_CanTrace.l0 kq a0 l1 ji4 x11_1 = some r) ∧ Aside0 (kq ≤ k) ∧ Aside0 (Below w.heap.size w w'))
  case atStart => exact ⟨(0), (by first | rfl | (simp; done) | (simp [*]; done)), H', ⟨Nat.le_refl _⟩, ⟨by repeat (first | (with_reducible first | exact HB.out | apply below_alloc | apply pw_below_drewN | apply below_drew1) | exact HB.out)⟩⟩
  case round =>
    clear H'
    try clear c1
    try clear p2
    try clear c3
    obtain ⟨x11_1, rfl, HA, HK1, HB⟩ := hrel
    cases gk with
    | zero => exact absurd HA.out (by simp [impl_CanTrace.l0])
    | succ k1 =>
      have H := HA.out
      clear HA
      simp only [impl_CanTrace.l0] at H
      by_cases c5 : x11_1 < ji4
      · rw [if_pos c5] at H
        have c5b0 : decide (x11_1 < ji4) = true := decide_eq_true c5
        clear c5
        replace H := Option.bind_eq_some_iff.mp H
        obtain ⟨⟨t356, t357⟩, A60, H⟩ := H
        replace H : (if t357 = true then (some true) else (impl_CanTrace.l0 k1 a0 l1 ji4 (wrap64 (x11_1 + 1)))) = some r := H
        have A6 := Aside0.mk A60
        clear A60
        by_cases c7 : t357 = true
        · subst c7
          have H1 : (some true) = some r := by rw [if_pos rfl] at H; exact H
          clear H
          have H := H1
          clear H1
          obtain rfl := Option.some.inj H
          go_wp2_with (first | ((with_reducible refine gate_callee (f := 35) rfl ?_); refine goesL_ (some 18) rfl rfl Try.func35 (by kernel_rfl) rfl #[.int .i64 a0, .slice A1 l1.length c1, .int .i64 x11_1] rfl (by (try simp only [List.map_toArray, List.map_cons, List.map_nil]); first | done | rfl | (simp only [List.length_drop, List.length_take]; rfl)) ?_; (with_reducible refine (impl_FirstStroke.calls k1 a0 _ _ l1 x11_1 t356 true _ ?side1 ?side2 A6.out).mono ?_); (case side1 => repeat (first | exact (Kd.C_below HR1.out HB.out) | (with_reducible refine Kd.C_alloc ?_ _) | (with_reducible refine Kd.C_drewN ?_ _) | (with_reducible refine Kd.C_drew ?_))); (case side2 => exact HC1.out); rintro e w8 ⟨v358, rfl, ho0, hb⟩; refine ⟨_, rfl, ?_⟩; have n0_ := Aside0.mk (Kd.R_lower ho0 (below_size (by repeat (first | (with_reducible first | exact HB.out | apply below_alloc | apply pw_below_drewN | apply below_drew1) | exact HB.out)))); have n1_ := Aside0.mk (below_step (by repeat (first | (with_reducible first | exact HB.out | apply below_alloc | apply pw_below_drewN | apply below_drew1) | exact HB.out)) hb); clear HB; have HO359 := n0_; have HB := n1_; clear n0_ n1_; (try clear hb); (try clear hb2); (try clear hk); (try clear hi); (try clear ho0)))
          go_ret
          exact ⟨by first | rfl | (simp [errW_none, errW_some] <;> rfl) | (simp only [← hji3, ← hji4]; first | rfl | (simp [errW_none, errW_some] <;> rfl)) | (simp [*, errW_none, errW_some] <;> rfl), by repeat (first | (with_reducible first | exact HB.out | apply below_alloc | apply pw_below_drewN | apply below_drew1) | exact HB.out)⟩
        · replace c7 := Bool.eq_false_iff.mpr c7
          subst c7
          have H1 : (impl_CanTrace.l0 k1 a0 l1 ji4 (wrap64 (x11_1 + 1))) = some r := by rw [if_neg (show ¬ (false = true) by decide)] at H; exact H
          clear H
          have H := H1
          clear H1
          have H' := Aside0.mk H
          clear H
          go_wp2_with (first | ((with_reducible refine gate_callee (f := 35) rfl ?_); refine goesL_ (some 18) rfl rfl Try.func35 (by kernel_rfl) rfl #[.int .i64 a0, .slice A1 l1.length c1, .int .i64 x11_1] rfl (by (try simp only [List.map_toArray, List.map_cons, List.map_nil]); first | done | rfl | (simp only [List.length_drop, List.length_take]; rfl)) ?_; (with_reducible refine (impl_FirstStroke.calls k1 a0 _ _ l1 x11_1 t356 false _ ?side1 ?side2 A6.out).mono ?_); (case side1 => repeat (first | exact (Kd.C_below HR1.out HB.out) | (with_reducible refine Kd.C_alloc ?_ _) | (with_reducible refine Kd.C_drewN ?_ _) | (with_reducible refine Kd.C_drew ?_))); (case side2 => exact HC1.out); rintro e w9 ⟨v358, rfl, ho0, hb⟩; refine ⟨_, rfl, ?_⟩; have n0_ := Aside0.mk (Kd.R_lower ho0 (below_size (by repeat (first | (with_reducible first | exact HB.out | apply below_alloc | apply pw_below_drewN | apply below_drew1) | exact HB.out)))); have n1_ := Aside0.mk (below_step (by repeat (first | (with_reducible first | exact HB.out | apply below_alloc | apply pw_below_drewN | apply below_drew1) | exact HB.out)) hb); clear HB; have HO359 := n0_; have HB := n1_; clear n0_ n1_; (try clear hb); (try clear hb2); (try clear hk); (try clear hi); (try clear ho0)))
          go_roundg k1
          case measure => have := HK1.out; omega
          case rel => exact ⟨(wrap64 (x11_1 + 1)), (by first | rfl | (simp; done) | (simp [*]; done)), H', ⟨by have := HK1.out; omega⟩, ⟨by repeat (first | (with_reducible first | exact HB.out | apply below_alloc | apply pw_below_drewN | apply below_drew1) | exact HB.out)⟩⟩
      · rw [if_neg c5] at H
        have c5b0 : decide (x11_1 < ji4) = false := decide_eq_false c5
        clear c5
        obtain rfl := Option.some.inj H
        go_wp2
        go_ret
        exact ⟨by first | rfl | (simp [errW_none, errW_some] <;> rfl) | (simp only [← hji3, ← hji4]; first | rfl | (simp [errW_none, errW_some] <;> rfl)) | (simp [*, errW_none, errW_some] <;> rfl), by repeat (first | (with_reducible first | exact HB.out | apply below_alloc | apply pw_below_drewN | apply below_drew1) | exact HB.out)⟩
-- NOT PRINTED: function 9 (laws_FnExactFirstStroke)
end Go.Proofs.Ytcdajmbnijmdfaa.PA
-- Written for this claim by a program of this session's (ownprint.py), by way of the kit's print and hand-proved texts. Lean checks it.
namespace Go.Proofs.Ytcdajmbnijmdfaa.PA
open Go.RowKit Go.Proofs.YtcdajmbnijmdfaaW.PrintWords Go.Proofs.YtcdajmbnijmdfaaW.PrintLast Go.Proofs.YtcdajmbnijmdfaaW.PrintMore
attribute [local go_sem] max2_int min2_int max_two min_two max_three min_three max_four min_four   -- for this text's walks alone
set_option linter.unusedVariables false
set_option linter.unusedSimpArgs false
mutual
def impl_joined.l0 : Nat → List (List Int) → Int → List Int → Bool → Int → Int → Option (List Int × Bool)
  | 0, _, _, _, _, _, _ => none
  | k + 1, x1, x2, x8, x9, x18, x19 => if x19 < x18 then (if x8.length < 17592186044416 then (impl_joined.l0 k x1 x2 (x8 ++ [x19]) x9 x18 (wrap64 (x19 + 1))) else (none)) else (impl_joined.l1 k x2 x8 x9 x1 (x1.length : Int) 0)
def impl_joined.l1 : Nat → Int → List Int → Bool → List (List Int) → Int → Int → Option (List Int × Bool)
  | 0, _, _, _, _, _, _ => none
  | k + 1, x2, x8, x9, x27, x28, x29 => if x29 < x28 then (if 0 ≤ x29 then (if x29 < (x27.length : Int) then (if (Go.bits .and .i64 (shr .i64 x2 x29) 1) = 0 then (impl_joined.l1 k x2 x8 x9 x27 x28 (wrap64 (x29 + 1))) else (if 0 < ((rd_L1 x27 x29).length : Int) then (if 0 ≤ (rd (rd_L1 x27 x29) 0) then (if (rd (rd_L1 x27 x29) 0) < (x8.length : Int) then (if 1 < ((rd_L1 x27 x29).length : Int) then (if 0 ≤ (rd (rd_L1 x27 x29) 1) then (if (rd (rd_L1 x27 x29) 1) < (x8.length : Int) then (if (rd x8 (rd (rd_L1 x27 x29) 0)) = (rd x8 (rd (rd_L1 x27 x29) 1)) then (impl_joined.j2 k x2 x8 false (rd x8 (rd (rd_L1 x27 x29) 0)) (rd x8 (rd (rd_L1 x27 x29) 1)) x27 x28 x29) else (impl_joined.j2 k x2 x8 x9 (rd x8 (rd (rd_L1 x27 x29) 0)) (rd x8 (rd (rd_L1 x27 x29) 1)) x27 x28 x29)) else (none)) else (none)) else (none)) else (none)) else (none)) else (none))) else (none)) else (none)) else (some (x8, x9))
def impl_joined.j2 : Nat → Int → List Int → Bool → Int → Int → List (List Int) → Int → Int → Option (List Int × Bool)
  | 0, _, _, _, _, _, _, _, _ => none
  | k + 1, x2, x8, x9, x13, x14, x27, x28, x29 => impl_joined.l2 k x2 x8 x9 x13 x14 x27 x28 x29 (x8.length : Int) 0
def impl_joined.l2 : Nat → Int → List Int → Bool → Int → Int → List (List Int) → Int → Int → Int → Int → Option (List Int × Bool)
  | 0, _, _, _, _, _, _, _, _, _, _ => none
  | k + 1, x2, x8, x9, x13, x14, x27, x28, x29, x55, x56 => if x56 < x55 then (if 0 ≤ x56 then (if x56 < (x8.length : Int) then (if (rd x8 x56) = x13 then (impl_joined.l2 k x2 (x8.set (x56 : Int).toNat x14) x9 x13 x14 x27 x28 x29 x55 (wrap64 (x56 + 1))) else (impl_joined.l2 k x2 x8 x9 x13 x14 x27 x28 x29 x55 (wrap64 (x56 + 1)))) else (none)) else (none)) else (impl_joined.l1 k x2 x8 x9 x27 x28 (wrap64 (x29 + 1)))
end
def impl_joined.f (k : Nat) (a0 : Int) (l1 : List (List Int)) (a2 : Int) : Option (List Int × Bool) := impl_joined.l0 k l1 a2 (([] : List Int)) true a0 0
set_option maxHeartbeats 8000000 in
set_option maxRecDepth 100000 in
theorem impl_joined.calls (k : Nat) (a0 : Int) (A1 : Option Addr) (c1 : Nat) (l1 : List (List Int)) (a2 : Int) (r1 : List Int) (r2 : Bool) (w : World) (hr1 : Kd.C (Kd.slice 3 (Kd.int .i64)) w A1 l1.length l1) (hc1 : l1.length ≤ c1) (h : impl_joined.f k a0 l1 a2 = some (r1, r2)) :
    Calls Try.prog 59 #[.int .i64 a0, .slice A1 l1.length c1, .int .i64 a2] w fun e w' => ∃ v0_ : Value, e = .returned (.tuple #[v0_, .bool r2]) ∧ Kd.R (Kd.int .i64) 3 w' w.heap.size (fun _ => True) v0_ r1 ∧ Below w.heap.size w w' := by
  have HR1 := Aside0.mk hr1
  have HC1 := Aside0.mk hc1
  clear hr1 hc1
  have HB := Aside0.mk (Below.refl w.heap.size w)
  have H : (impl_joined.l0 k l1 a2 (([] : List Int)) true a0 0) = some (r1, r2) := h
  clear h
  obtain ⟨y432, hy432⟩ : ∃ y_ : List Int, y_ = (([] : List Int)) := ⟨_, rfl⟩
  replace H : (impl_joined.l0 k l1 a2 y432 true a0 0) = some (r1, r2) := by first | (rw [hy432]; with_reducible exact H) | (have H2_ := (Option.bind_some _ _).symm.trans H; rw [hy432]; with_reducible exact H2_) | (have H2_ := (Option.bind_some _ _).symm.trans H; with_reducible exact H2_) | with_reducible exact H | (rw [hy432]; exact H) | exact H
  have Ny432 := Aside0.mk hy432
  clear hy432
  have H' := Aside0.mk H
  clear H
  go_enter Try.func59, Try.ntmps59
  go_wp2_with (first | ((with_reducible refine gate_dst (N := 17) rfl ?_); refine Kd.R_lit (Kd.int .i64) _ 3 ?hg (N := 17) ?hd (xs := ([] : List Int)) (inner := []) (ok := fun _ => True) (okp := fun _ => True) ?hr ?hp (fun _ hk => hk) trivial (Below.refl _ _) (Nat.le_refl _) (by simp) ?_; (case hd => rfl); (case hg => rfl); (case hr => first | (go_simp; done) | (go_simp; rfl)); (case hp => exact (Reps.none _ _)); intro v433 w4 ho5 hb hg_ hnew_; clear hg_ hnew_; (first | rw [← Ny432.out] at ho5 | (simp only [Int.reduceToNat] at ho5; rw [← Ny432.out] at ho5)); have n0_ := Aside0.mk (Kd.R_lower ho5 (below_size (by repeat (first | (with_reducible first | exact HB.out | apply below_alloc | apply pw_below_drewN | apply below_drew1) | exact HB.out)))); have n1_ := Aside0.mk (below_step (by repeat (first | (with_reducible first | exact HB.out | apply below_alloc | apply pw_below_drewN | apply below_drew1) | exact HB.out)) hb); clear HB; have HO434 := n0_; have HB := n1_; clear n0_ n1_; clear hb ho5))
  repeat (go_quiet (first | ((with_reducible refine gate_dst (N := 17) rfl ?_); refine Kd.R_lit (Kd.int .i64) _ 3 ?hg (N := 17) ?hd (xs := ([] : List Int)) (inner := []) (ok := fun _ => True) (okp := fun _ => True) ?hr ?hp (fun _ hk => hk) trivial (Below.refl _ _) (Nat.le_refl _) (by simp) ?_; (case hd => rfl); (case hg => rfl); (case hr => first | (go_simp; done) | (go_simp; rfl)); (case hp => exact (Reps.none _ _)); intro v433 w4 ho5 hb hg_ hnew_; clear hg_ hnew_; (first | rw [← Ny432.out] at ho5 | (simp only [Int.reduceToNat] at ho5; rw [← Ny432.out] at ho5)); have n0_ := Aside0.mk (Kd.R_lower ho5 (below_size (by repeat (first | (with_reducible first | exact HB.out | apply below_alloc | apply pw_below_drewN | apply below_drew1) | exact HB.out)))); have n1_ := Aside0.mk (below_step (by repeat (first | (with_reducible first | exact HB.out | apply below_alloc | apply pw_below_drewN | apply below_drew1) | exact HB.out)) hb); clear HB; have HO434 := n0_; have HB := n1_; clear n0_ n1_; clear hb ho5)); try go_wp2_with (first | ((with_reducible refine gate_dst (N := 17) rfl ?_); refine Kd.R_lit (Kd.int .i64) _ 3 ?hg (N := 17) ?hd (xs := ([] : List Int)) (inner := []) (ok := fun _ => True) (okp := fun _ => True) ?hr ?hp (fun _ hk => hk) trivial (Below.refl _ _) (Nat.le_refl _) (by simp) ?_; (case hd => rfl); (case hg => rfl); (case hr => first | (go_simp; done) | (go_simp; rfl)); (case hp => exact (Reps.none _ _)); intro v433 w4 ho5 hb hg_ hnew_; clear hg_ hnew_; (first | rw [← Ny432.out] at ho5 | (simp only [Int.reduceToNat] at ho5; rw [← Ny432.out] at ho5)); have n0_ := Aside0.mk (Kd.R_lower ho5 (below_size (by repeat (first | (with_reducible first | exact HB.out | apply below_alloc | apply pw_below_drewN | apply below_drew1) | exact HB.out)))); have n1_ := Aside0.mk (below_step (by repeat (first | (with_reducible first | exact HB.out | apply below_alloc | apply pw_below_drewN | apply below_drew1) | exact HB.out)) hb); clear HB; have HO434 := n0_; have HB := n1_; clear n0_ n1_; clear hb ho5)))
  (try simp only [add_plain, Addr.add, Nat.zero_add])
  go_loopg [8, 19] k (fun kq v8 v19 w' => ∃ (x8_1 : List Int) (x19_1 : Int), v19 = .int .i64 x19_1 ∧ Aside0 (impl_joined.l0 kq l1 a2 x8_1 true a0 x19_1 = some (r1, r2)) ∧ Aside0 (kq ≤ k) ∧ Aside0 (Kd.R (Kd.int .i64) 3 w' w.heap.size (fun _ => True) v8 x8_1) ∧ Aside0 (Below w.heap.size w w'))
  case atStart => exact ⟨(y432), (0), (by first | rfl | (simp; done) | (simp [*]; done)), H', ⟨Nat.le_refl _⟩, ⟨by (with_reducible repeat (first | apply Kd.R_alloc | apply Kd.R_drewN | apply Kd.R_drew)); exact HO434.out⟩, ⟨by repeat (first | (with_reducible first | exact HB.out | apply below_alloc | apply pw_below_drewN | apply below_drew1) | exact HB.out)⟩⟩
  case round =>
    clear H'
    try clear c1
    try clear p2
    try clear c5
    obtain ⟨x8_1, x19_1, rfl, HA, HK1, HO_8, HB⟩ := hrel
    cases gk with
    | zero => exact absurd HA.out (by simp [impl_joined.l0])
    | succ k1 =>
      have H := HA.out
      clear HA
      simp only [impl_joined.l0] at H
      by_cases c6 : x19_1 < a0
      · rw [if_pos c6] at H
        have c6b0 : decide (x19_1 < a0) = true := decide_eq_true c6
        clear c6
        by_cases c7 : x8_1.length < 17592186044416
        · rw [if_pos c7] at H
          have LMc7 := Aside0.mk c7
          clear c7
          obtain ⟨y435, hy435⟩ : ∃ y_ : List Int, y_ = (x8_1 ++ [x19_1]) := ⟨_, rfl⟩
          replace H : (impl_joined.l0 k1 l1 a2 y435 true a0 (wrap64 (x19_1 + 1))) = some (r1, r2) := by first | (rw [hy435]; with_reducible exact H) | (have H2_ := (Option.bind_some _ _).symm.trans H; rw [hy435]; with_reducible exact H2_) | (have H2_ := (Option.bind_some _ _).symm.trans H; with_reducible exact H2_) | with_reducible exact H | (rw [hy435]; exact H) | exact H
          have Ny435 := Aside0.mk hy435
          clear hy435
          have H' := Aside0.mk H
          clear H
          go_wp2_with (first | ((with_reducible refine gate_builtin (b := .append) (xs := #[.tmp 22, .tmp 24]) rfl ?_); at_builtin; refine Kd.R_append (Kd.int .i64) (w0 := w) w.heap.size rfl (.tmp 22) (.tmp 24) 27 3 (.int .i64 0) 8 rfl Try.underlying27 info3 rfl (by decide) (by omega) u8 x8_1 x19_1 [.int .i64 x19_1] (fun _ => True) (fun _ => False) rfl rfl ?aP (fun _ hk => hk.elim) ?aF ?aO ?aB ?aS ?aL ?_; (case aP => exact rfl); (case aB => exact (by repeat (first | (with_reducible first | exact HB.out | apply below_alloc | apply pw_below_drewN | apply below_drew1) | exact HB.out))); (case aF => exact (fun _ _ => trivial)); (case aO => exact (by (with_reducible repeat (first | apply Kd.R_alloc | apply Kd.R_drewN | apply Kd.R_drew)); exact HO_8.out)); (case aS => exact (below_size (by repeat (first | (with_reducible first | exact HB.out | apply below_alloc | apply pw_below_drewN | apply below_drew1) | exact HB.out)))); (case aL => have := LMc7.out; omega); intro v436 w8 ho hb hg hat; rw [← Ny435.out] at ho; have n0_ := Aside0.mk (hb); have n1_ := Aside0.mk (ho); clear HB; clear HO_8; have HB := n0_; have HO437 := n1_; clear n0_ n1_; clear ho hb hg hat))
          repeat (go_quiet (first | ((with_reducible refine gate_builtin (b := .append) (xs := #[.tmp 22, .tmp 24]) rfl ?_); at_builtin; refine Kd.R_append (Kd.int .i64) (w0 := w) w.heap.size rfl (.tmp 22) (.tmp 24) 27 3 (.int .i64 0) 8 rfl Try.underlying27 info3 rfl (by decide) (by omega) u8 x8_1 x19_1 [.int .i64 x19_1] (fun _ => True) (fun _ => False) rfl rfl ?aP (fun _ hk => hk.elim) ?aF ?aO ?aB ?aS ?aL ?_; (case aP => exact rfl); (case aB => exact (by repeat (first | (with_reducible first | exact HB.out | apply below_alloc | apply pw_below_drewN | apply below_drew1) | exact HB.out))); (case aF => exact (fun _ _ => trivial)); (case aO => exact (by (with_reducible repeat (first | apply Kd.R_alloc | apply Kd.R_drewN | apply Kd.R_drew)); exact HO_8.out)); (case aS => exact (below_size (by repeat (first | (with_reducible first | exact HB.out | apply below_alloc | apply pw_below_drewN | apply below_drew1) | exact HB.out)))); (case aL => have := LMc7.out; omega); intro v436 w8 ho hb hg hat; rw [← Ny435.out] at ho; have n0_ := Aside0.mk (hb); have n1_ := Aside0.mk (ho); clear HB; clear HO_8; have HB := n0_; have HO437 := n1_; clear n0_ n1_; clear ho hb hg hat)); try go_wp2_with (first | ((with_reducible refine gate_builtin (b := .append) (xs := #[.tmp 22, .tmp 24]) rfl ?_); at_builtin; refine Kd.R_append (Kd.int .i64) (w0 := w) w.heap.size rfl (.tmp 22) (.tmp 24) 27 3 (.int .i64 0) 8 rfl Try.underlying27 info3 rfl (by decide) (by omega) u8 x8_1 x19_1 [.int .i64 x19_1] (fun _ => True) (fun _ => False) rfl rfl ?aP (fun _ hk => hk.elim) ?aF ?aO ?aB ?aS ?aL ?_; (case aP => exact rfl); (case aB => exact (by repeat (first | (with_reducible first | exact HB.out | apply below_alloc | apply pw_below_drewN | apply below_drew1) | exact HB.out))); (case aF => exact (fun _ _ => trivial)); (case aO => exact (by (with_reducible repeat (first | apply Kd.R_alloc | apply Kd.R_drewN | apply Kd.R_drew)); exact HO_8.out)); (case aS => exact (below_size (by repeat (first | (with_reducible first | exact HB.out | apply below_alloc | apply pw_below_drewN | apply below_drew1) | exact HB.out)))); (case aL => have := LMc7.out; omega); intro v436 w8 ho hb hg hat; rw [← Ny435.out] at ho; have n0_ := Aside0.mk (hb); have n1_ := Aside0.mk (ho); clear HB; clear HO_8; have HB := n0_; have HO437 := n1_; clear n0_ n1_; clear ho hb hg hat)))
          go_roundg k1
          case measure => have := HK1.out; omega
          case rel => exact ⟨(y435), (wrap64 (x19_1 + 1)), (by first | rfl | (simp; done) | (simp [*]; done)), H', ⟨by have := HK1.out; omega⟩, ⟨by (with_reducible repeat (first | apply Kd.R_alloc | apply Kd.R_drewN | apply Kd.R_drew)); exact HO437.out⟩, ⟨by repeat (first | (with_reducible first | exact HB.out | apply below_alloc | apply pw_below_drewN | apply below_drew1) | exact HB.out)⟩⟩
        · rw [if_neg c7] at H
          exact absurd H (by simp)
      · rw [if_neg c6] at H
        have c6b0 : decide (x19_1 < a0) = false := decide_eq_false c6
        clear c6
        have H' := Aside0.mk H
        clear H
        go_wp2
        repeat (go_quiet (fail); try go_wp2)
        (try simp only [add_plain, Addr.add, Nat.zero_add])
        go_loopg [9, 29] k1 (fun kq v9 v29 w' => ∃ (x8_2 : List Int) (x9_2 : Bool) (x29_2 : Int), v9 = .bool x9_2 ∧ v29 = .int .i64 x29_2 ∧ Aside0 (impl_joined.l1 kq a2 x8_2 x9_2 l1 (l1.length : Int) x29_2 = some (r1, r2)) ∧ Aside0 (kq ≤ k1) ∧ Aside0 (Kd.R (Kd.int .i64) 3 w' w.heap.size (fun _ => True) u8 x8_2) ∧ Aside0 (Below w.heap.size w w'))
        case atStart => exact ⟨(x8_1), (true), (0), (by first | rfl | (simp; done) | (simp [*]; done)), (by first | rfl | (simp; done) | (simp [*]; done)), H', ⟨Nat.le_refl _⟩, ⟨by (with_reducible repeat (first | apply Kd.R_alloc | apply Kd.R_drewN | apply Kd.R_drew)); exact HO_8.out⟩, ⟨by repeat (first | (with_reducible first | exact HB.out | apply below_alloc | apply pw_below_drewN | apply below_drew1) | exact HB.out)⟩⟩
        case round =>
          clear H'
          try clear c1
          try clear p2
          try clear c5
          try clear c6
          try clear c6b0
          try clear p6
          try clear c7
          try clear p2
          obtain ⟨x8_2, x9_2, x29_2, rfl, rfl, HA, HK2, HO_8, HB⟩ := hrel
          cases gk with
          | zero => exact absurd HA.out (by simp [impl_joined.l1])
          | succ k2 =>
            have H := HA.out
            clear HA
            simp only [impl_joined.l1] at H
            by_cases c9 : x29_2 < (l1.length : Int)
            · rw [if_pos c9] at H
              have c9b0 : decide (x29_2 < (l1.length : Int)) = true := decide_eq_true c9
              clear c9
              by_cases c10 : 0 ≤ x29_2
              · rw [if_pos c10] at H
                have c10b0 : decide (0 ≤ x29_2) = true := decide_eq_true c10
                clear c10
                by_cases c11 : x29_2 < (l1.length : Int)
                · rw [if_pos c11] at H
                  have c11b0 : decide (x29_2 < (l1.length : Int)) = true := decide_eq_true c11
                  clear c11
                  have c12b0 := eq_true (of_decide_eq_true (by first | (with_reducible assumption) | assumption) : 0 ≤ x29_2)
                  obtain ⟨ji13, hji13⟩ : ∃ j_ : Int, (shr .i64 a2 x29_2) = j_ := ⟨_, rfl⟩
                  replace H : (if (Go.bits .and .i64 (ji13) 1) = 0 then (impl_joined.l1 k2 a2 x8_2 x9_2 l1 (l1.length : Int) (wrap64 (x29_2 + 1))) else (if 0 < ((rd_L1 l1 x29_2).length : Int) then (if 0 ≤ (rd (rd_L1 l1 x29_2) 0) then (if (rd (rd_L1 l1 x29_2) 0) < (x8_2.length : Int) then (if 1 < ((rd_L1 l1 x29_2).length : Int) then (if 0 ≤ (rd (rd_L1 l1 x29_2) 1) then (if (rd (rd_L1 l1 x29_2) 1) < (x8_2.length : Int) then (if (rd x8_2 (rd (rd_L1 l1 x29_2) 0)) = (rd x8_2 (rd (rd_L1 l1 x29_2) 1)) then (impl_joined.j2 k2 a2 x8_2 false (rd x8_2 (rd (rd_L1 l1 x29_2) 0)) (rd x8_2 (rd (rd_L1 l1 x29_2) 1)) l1 (l1.length : Int) x29_2) else (impl_joined.j2 k2 a2 x8_2 x9_2 (rd x8_2 (rd (rd_L1 l1 x29_2) 0)) (rd x8_2 (rd (rd_L1 l1 x29_2) 1)) l1 (l1.length : Int) x29_2)) else (none)) else (none)) else (none)) else (none)) else (none)) else (none))) = some (r1, r2) := by first | (rw [hji13] at H; exact H) | (simp only [hji13] at H ⊢; exact H)
                  have hji13_ : (a2 / 2 ^ min x29_2.toNat 64) = ji13 := hji13
                  have hji13z : x29_2 ≤ 64 → (a2 / 2 ^ x29_2.toNat) = ji13 := shr_small hji13
                  by_cases c14 : (Go.bits .and .i64 (ji13) 1) = 0
                  · rw [if_pos c14] at H
                    have c14b0 : ((Go.bits .and .i64 (ji13) 1) == 0) = true := beq_iff_eq.mpr c14
                    have c14b1 : ((Go.bits .and .i64 (ji13) 1) != 0) = false := bne_eq_false_iff_eq.mpr c14
                    clear c14
                    have H' := Aside0.mk H
                    clear H
                    have p438 : 0 ≤ (x29_2 : Int) := of_decide_eq_true (by first | (with_reducible assumption) | assumption)
                    have q438 : x29_2 < (l1.length : Int) := of_decide_eq_true (by first | (with_reducible assumption) | assumption)
                    obtain ⟨ad438, A438_0, c438_0, e438, hx438_0, hl438_0, hi438_0⟩ := at_L1 HR1.out x29_2 p438 q438
                    cases e438
                    replace hx438_0 := (HB.out.cell (World.block_lt_of_cell? w _ hx438_0)).trans hx438_0
                    have HR438_0 := Aside0.mk hi438_0
                    have HC438_0 := Aside0.mk hl438_0
                    clear hi438_0 hl438_0
                    replace p438 := eq_true p438
                    replace q438 := eq_true q438
                    go_wp2
                    repeat (go_quiet (fail); try go_wp2)
                    go_roundg k2
                    case measure => have := HK1.out; have := HK2.out; omega
                    case rel => exact ⟨(x8_2), (x9_2), (wrap64 (x29_2 + 1)), (by first | rfl | (simp; done) | (simp [*]; done)), (by first | rfl | (simp; done) | (simp [*]; done)), H', ⟨by have := HK1.out; have := HK2.out; omega⟩, ⟨by (with_reducible repeat (first | apply Kd.R_alloc | apply Kd.R_drewN | apply Kd.R_drew)); exact HO_8.out⟩, ⟨by repeat (first | (with_reducible first | exact HB.out | apply below_alloc | apply pw_below_drewN | apply below_drew1) | exact HB.out)⟩⟩
                  · rw [if_neg c14] at H
                    have c14b0 : ((Go.bits .and .i64 (ji13) 1) == 0) = false := beq_eq_false_iff_ne.mpr c14
                    have c14b1 : ((Go.bits .and .i64 (ji13) 1) != 0) = true := bne_iff_ne.mpr c14
                    by_cases c15 : 0 < ((rd_L1 l1 x29_2).length : Int)
                    · rw [if_pos c15] at H
                      have c15b0 : decide (0 < ((rd_L1 l1 x29_2).length : Int)) = true := decide_eq_true c15
                      have c15b1 : decide (0 < (rd_L1 l1 x29_2).length) = true := decide_eq_true (by omega)
                      clear c15
                      by_cases c16 : 0 ≤ (rd (rd_L1 l1 x29_2) 0)
                      · rw [if_pos c16] at H
                        have c16b0 : decide (0 ≤ (rd (rd_L1 l1 x29_2) 0)) = true := decide_eq_true c16
                        clear c16
                        by_cases c17 : (rd (rd_L1 l1 x29_2) 0) < (x8_2.length : Int)
                        · rw [if_pos c17] at H
                          have c17b0 : decide ((rd (rd_L1 l1 x29_2) 0) < (x8_2.length : Int)) = true := decide_eq_true c17
                          clear c17
                          by_cases c18 : 1 < ((rd_L1 l1 x29_2).length : Int)
                          · rw [if_pos c18] at H
                            have c18b0 : decide (1 < ((rd_L1 l1 x29_2).length : Int)) = true := decide_eq_true c18
                            have c18b1 : decide (1 < (rd_L1 l1 x29_2).length) = true := decide_eq_true (by omega)
                            clear c18
                            by_cases c19 : 0 ≤ (rd (rd_L1 l1 x29_2) 1)
                            · rw [if_pos c19] at H
                              have c19b0 : decide (0 ≤ (rd (rd_L1 l1 x29_2) 1)) = true := decide_eq_true c19
                              clear c19
                              by_cases c20 : (rd (rd_L1 l1 x29_2) 1) < (x8_2.length : Int)
                              · rw [if_pos c20] at H
                                have c20b0 : decide ((rd (rd_L1 l1 x29_2) 1) < (x8_2.length : Int)) = true := decide_eq_true c20
                                clear c20
                                have HC21 := Aside0.mk H
                                clear H
                                have p438 : 0 ≤ (x29_2 : Int) := of_decide_eq_true (by first | (with_reducible assumption) | assumption)
                                have q438 : x29_2 < (l1.length : Int) := of_decide_eq_true (by first | (with_reducible assumption) | assumption)
                                obtain ⟨ad438, A438_0, c438_0, e438, hx438_0, hl438_0, hi438_0⟩ := at_L1 HR1.out x29_2 p438 q438
                                cases e438
                                replace hx438_0 := (HB.out.cell (World.block_lt_of_cell? w _ hx438_0)).trans hx438_0
                                have HR438_0 := Aside0.mk hi438_0
                                have HC438_0 := Aside0.mk hl438_0
                                clear hi438_0 hl438_0
                                replace p438 := eq_true p438
                                replace q438 := eq_true q438
                                have p439 : 0 ≤ (0 : Int) := (by omega)
                                have q439 : 0 < ((rd_L1 l1 x29_2).length : Int) := of_decide_eq_true (by first | (with_reducible assumption) | assumption)
                                obtain ⟨ad439, e439, hx439_0⟩ := Kd.at_int HR438_0.out 0 p439 q439
                                cases e439
                                have qi439 : (0 < (rd_L1 l1 x29_2).length) = True := eq_true (by omega)
                                (try rw [show ((0 : Int)).toNat = 0 from rfl] at hx439_0)
                                (try rw [Addr.add_zero'] at hx439_0)
                                replace hx439_0 := (HB.out.cell (World.block_lt_of_cell? w _ hx439_0)).trans hx439_0
                                replace p439 := eq_true p439
                                replace q439 := eq_true q439
                                obtain ⟨Ao22, co22, eo22⟩ := Kd.R_slice HO_8.out
                                subst eo22
                                have p440 : 0 ≤ ((rd (rd_L1 l1 x29_2) 0) : Int) := of_decide_eq_true (by first | (with_reducible assumption) | assumption)
                                have q440 : (rd (rd_L1 l1 x29_2) 0) < (x8_2.length : Int) := of_decide_eq_true (by first | (with_reducible assumption) | assumption)
                                obtain ⟨ad440, e440, hx440_0⟩ := Kd.at_int (Kd.R_reads' HO_8.out).2.2 (rd (rd_L1 l1 x29_2) 0) p440 q440
                                cases e440
                                replace p440 := eq_true p440
                                replace q440 := eq_true q440
                                have p441 : 0 ≤ (1 : Int) := (by omega)
                                have q441 : 1 < ((rd_L1 l1 x29_2).length : Int) := of_decide_eq_true (by first | (with_reducible assumption) | assumption)
                                obtain ⟨ad441, e441, hx441_0⟩ := Kd.at_int HR438_0.out 1 p441 q441
                                obtain rfl : ad439 = ad441 := (by injection e441)
                                (try simp only [show (1 : Int).toNat = 1 from rfl, Nat.reduceMul, Nat.reduceEqDiff, Go.Addr.add, ↓reduceIte] at hx441_0)
                                have qi441 : (1 < (rd_L1 l1 x29_2).length) = True := eq_true (by omega)
                                (try rw [show ((1 : Int)).toNat = 1 from rfl] at hx441_0)
                                replace hx441_0 := (HB.out.cell (World.block_lt_of_cell? w _ hx441_0)).trans hx441_0
                                replace p441 := eq_true p441
                                replace q441 := eq_true q441
                                have p442 : 0 ≤ ((rd (rd_L1 l1 x29_2) 1) : Int) := of_decide_eq_true (by first | (with_reducible assumption) | assumption)
                                have q442 : (rd (rd_L1 l1 x29_2) 1) < (x8_2.length : Int) := of_decide_eq_true (by first | (with_reducible assumption) | assumption)
                                obtain ⟨ad442, e442, hx442_0⟩ := Kd.at_int (Kd.R_reads' HO_8.out).2.2 (rd (rd_L1 l1 x29_2) 1) p442 q442
                                obtain rfl : ad440 = ad442 := (by injection e442)
                                replace p442 := eq_true p442
                                replace q442 := eq_true q442
                                go_upto_if 53 with (fail)
                                repeat (go_quiet (fail); go_upto_if 53 with (fail))
                                go_cut [9] (fun v9 wc => ∃ (kq : Nat) (x9_20 : Bool), v9 = .bool x9_20 ∧ Aside0 (impl_joined.j2 kq a2 x8_2 x9_20 (rd x8_2 (rd (rd_L1 l1 x29_2) 0)) (rd x8_2 (rd (rd_L1 l1 x29_2) 1)) l1 (l1.length : Int) x29_2 = some (r1, r2)) ∧ Aside0 (kq ≤ k2) ∧ Aside0 (Kd.R (Kd.int .i64) 3 wc w.heap.size (fun _ => True) (.slice (some ad440) x8_2.length co22) x8_2) ∧ Aside0 (Below w.heap.size w wc))
                                case first =>
                                  have H := HC21.out
                                  clear HC21
                                  by_cases c23 : (rd x8_2 (rd (rd_L1 l1 x29_2) 0)) = (rd x8_2 (rd (rd_L1 l1 x29_2) 1))
                                  · rw [if_pos c23] at H
                                    have c23b0 : ((rd x8_2 (rd (rd_L1 l1 x29_2) 0)) == (rd x8_2 (rd (rd_L1 l1 x29_2) 1))) = true := beq_iff_eq.mpr c23
                                    have c23b1 : ((rd x8_2 (rd (rd_L1 l1 x29_2) 0)) != (rd x8_2 (rd (rd_L1 l1 x29_2) 1))) = false := bne_eq_false_iff_eq.mpr c23
                                    clear c23
                                    (first | rw [c23b0] | (simp only [i64_w, i32_w]; rw [c23b0]) | skip)
                                    have H' := Aside0.mk H
                                    clear H
                                    go_wp2
                                    repeat (go_quiet (fail); try go_wp2)
                                    go_meet
                                    case rel => exact ⟨_, (false), (by first | rfl | (simp; done) | (simp [*]; done)), H', ⟨by have := HK1.out; have := HK2.out; first | omega | exact Nat.le_refl _⟩, ⟨by (with_reducible repeat (first | apply Kd.R_alloc | apply Kd.R_drewN | apply Kd.R_drew)); exact HO_8.out⟩, ⟨by repeat (first | (with_reducible first | exact HB.out | apply below_alloc | apply pw_below_drewN | apply below_drew1) | exact HB.out)⟩⟩
                                  · rw [if_neg c23] at H
                                    have c23b0 : ((rd x8_2 (rd (rd_L1 l1 x29_2) 0)) == (rd x8_2 (rd (rd_L1 l1 x29_2) 1))) = false := beq_eq_false_iff_ne.mpr c23
                                    have c23b1 : ((rd x8_2 (rd (rd_L1 l1 x29_2) 0)) != (rd x8_2 (rd (rd_L1 l1 x29_2) 1))) = true := bne_iff_ne.mpr c23
                                    (first | rw [c23b0] | (simp only [i64_w, i32_w]; rw [c23b0]) | skip)
                                    have H' := Aside0.mk H
                                    clear H
                                    go_wp2
                                    repeat (go_quiet (fail); try go_wp2)
                                    go_meet
                                    case rel => exact ⟨_, (x9_2), (by first | rfl | (simp; done) | (simp [*]; done)), H', ⟨by have := HK1.out; have := HK2.out; first | omega | exact Nat.le_refl _⟩, ⟨by (with_reducible repeat (first | apply Kd.R_alloc | apply Kd.R_drewN | apply Kd.R_drew)); exact HO_8.out⟩, ⟨by repeat (first | (with_reducible first | exact HB.out | apply below_alloc | apply pw_below_drewN | apply below_drew1) | exact HB.out)⟩⟩
                                case rest =>
                                  clear HC21
                                  try clear c1
                                  try clear c2
                                  try clear p2
                                  try clear c4
                                  try clear p4
                                  try clear q4
                                  try clear hx4
                                  try clear qi4
                                  try clear c5
                                  try clear c6
                                  try clear c6b0
                                  try clear p6
                                  try clear c7
                                  try clear c9
                                  try clear c9b0
                                  try clear c10
                                  try clear c10b0
                                  try clear c11
                                  try clear c11b0
                                  try clear c12
                                  try clear c12b0
                                  try clear c14
                                  try clear c14b0
                                  try clear c14b1
                                  try clear c15
                                  try clear c15b0
                                  try clear c15b1
                                  try clear c16
                                  try clear c16b0
                                  try clear c17
                                  try clear c17b0
                                  try clear c18
                                  try clear c18b0
                                  try clear c18b1
                                  try clear c19
                                  try clear c19b0
                                  try clear c20
                                  try clear c20b0
                                  try clear c23
                                  try clear c23b0
                                  try clear c23b1
                                  try clear hx438_0
                                  try clear hx439_0
                                  try clear hx440_0
                                  try clear hx441_0
                                  try clear hx442_0
                                  try clear p2
                                  try clear p438
                                  try clear p439
                                  try clear p440
                                  try clear p441
                                  try clear p442
                                  try clear p6
                                  try clear q438
                                  try clear q439
                                  try clear q440
                                  try clear q441
                                  try clear q442
                                  obtain ⟨kq, x9_20, rfl, HA, HJ20, HO_8, HB⟩ := hcut
                                  cases kq with
                                  | zero => exact absurd HA.out (by simp [impl_joined.j2])
                                  | succ kj20 =>
                                    have H := HA.out
                                    clear HA
                                    simp only [impl_joined.j2] at H
                                    have H' := Aside0.mk H
                                    clear H
                                    go_wp2
                                    repeat (go_quiet (fail); try go_wp2)
                                    (try simp only [add_plain, Addr.add, Nat.zero_add])
                                    go_loopg [56] kj20 (fun kq v56 w' => ∃ (x8_4 : List Int) (x56_4 : Int), v56 = .int .i64 x56_4 ∧ Aside0 (impl_joined.l2 kq a2 x8_4 x9_20 (rd x8_2 (rd (rd_L1 l1 x29_2) 0)) (rd x8_2 (rd (rd_L1 l1 x29_2) 1)) l1 (l1.length : Int) x29_2 (x8_2.length : Int) x56_4 = some (r1, r2)) ∧ Aside0 (kq ≤ kj20) ∧ Aside0 (Kd.R (Kd.int .i64) 3 w' w.heap.size (fun _ => True) (.slice (some ad440) x8_2.length co22) x8_4) ∧ Aside0 (Below w.heap.size w w'))
                                    case atStart => exact ⟨(x8_2), (0), (by first | rfl | (simp; done) | (simp [*]; done)), H', ⟨Nat.le_refl _⟩, ⟨by (with_reducible repeat (first | apply Kd.R_alloc | apply Kd.R_drewN | apply Kd.R_drew)); exact HO_8.out⟩, ⟨by repeat (first | (with_reducible first | exact HB.out | apply below_alloc | apply pw_below_drewN | apply below_drew1) | exact HB.out)⟩⟩
                                    case round =>
                                      clear H'
                                      try clear c1
                                      try clear c2
                                      try clear p2
                                      try clear c4
                                      try clear p4
                                      try clear q4
                                      try clear hx4
                                      try clear qi4
                                      try clear c5
                                      try clear c6
                                      try clear c6b0
                                      try clear p6
                                      try clear c7
                                      try clear c9
                                      try clear c9b0
                                      try clear c10
                                      try clear c10b0
                                      try clear c11
                                      try clear c11b0
                                      try clear c12
                                      try clear c12b0
                                      try clear c14
                                      try clear c14b0
                                      try clear c14b1
                                      try clear c15
                                      try clear c15b0
                                      try clear c15b1
                                      try clear c16
                                      try clear c16b0
                                      try clear c17
                                      try clear c17b0
                                      try clear c18
                                      try clear c18b0
                                      try clear c18b1
                                      try clear c19
                                      try clear c19b0
                                      try clear c20
                                      try clear c20b0
                                      try clear c23
                                      try clear c23b0
                                      try clear c23b1
                                      try clear hx438_0
                                      try clear hx439_0
                                      try clear hx440_0
                                      try clear hx441_0
                                      try clear hx442_0
                                      try clear p2
                                      try clear p4
                                      try clear p438
                                      try clear p439
                                      try clear p440
                                      try clear p441
                                      try clear p442
                                      try clear p6
                                      try clear q4
                                      try clear q438
                                      try clear q439
                                      try clear q440
                                      try clear q441
                                      try clear q442
                                      obtain ⟨x8_4, x56_4, rfl, HA, HK4, HO_8, HB⟩ := hrel
                                      have hl8_4 := (Kd.R_reads' HO_8.out).1
                                      rw [hl8_4] at HO_8
                                      (try simp only [hl8_4])
                                      cases gk with
                                      | zero => exact absurd HA.out (by simp [impl_joined.l2])
                                      | succ k4 =>
                                        have H := HA.out
                                        clear HA
                                        simp only [impl_joined.l2] at H
                                        by_cases c24 : x56_4 < (x8_2.length : Int)
                                        · rw [if_pos c24] at H
                                          have c24b0 : decide (x56_4 < (x8_2.length : Int)) = true := decide_eq_true c24
                                          clear c24
                                          by_cases c25 : 0 ≤ x56_4
                                          · rw [if_pos c25] at H
                                            have c25b0 : decide (0 ≤ x56_4) = true := decide_eq_true c25
                                            clear c25
                                            by_cases c26 : x56_4 < (x8_4.length : Int)
                                            · rw [if_pos c26] at H
                                              have c26b0 : decide (x56_4 < (x8_4.length : Int)) = true := decide_eq_true c26
                                              clear c26
                                              by_cases c27 : (rd x8_4 x56_4) = (rd x8_2 (rd (rd_L1 l1 x29_2) 0))
                                              · rw [if_pos c27] at H
                                                have c27b0 : ((rd x8_4 x56_4) == (rd x8_2 (rd (rd_L1 l1 x29_2) 0))) = true := beq_iff_eq.mpr c27
                                                have c27b1 : ((rd x8_4 x56_4) != (rd x8_2 (rd (rd_L1 l1 x29_2) 0))) = false := bne_eq_false_iff_eq.mpr c27
                                                clear c27
                                                obtain ⟨y444, hy444⟩ : ∃ y_ : List Int, y_ = (x8_4.set (x56_4 : Int).toNat (rd x8_2 (rd (rd_L1 l1 x29_2) 1))) := ⟨_, rfl⟩
                                                replace H : (impl_joined.l2 k4 a2 y444 x9_20 (rd x8_2 (rd (rd_L1 l1 x29_2) 0)) (rd x8_2 (rd (rd_L1 l1 x29_2) 1)) l1 (l1.length : Int) x29_2 (x8_2.length : Int) (wrap64 (x56_4 + 1))) = some (r1, r2) := by first | (rw [hy444]; with_reducible exact H) | (have H2_ := (Option.bind_some _ _).symm.trans H; rw [hy444]; with_reducible exact H2_) | (have H2_ := (Option.bind_some _ _).symm.trans H; with_reducible exact H2_) | with_reducible exact H | (rw [hy444]; exact H) | exact H
                                                have Ny444 := Aside0.mk hy444
                                                clear hy444
                                                have H' := Aside0.mk H
                                                clear H
                                                have p443 : 0 ≤ (x56_4 : Int) := of_decide_eq_true (by first | (with_reducible assumption) | assumption)
                                                have q443 : x56_4 < (x8_4.length : Int) := of_decide_eq_true (by first | (with_reducible assumption) | assumption)
                                                obtain ⟨ad443, e443, hx443_0⟩ := Kd.at_int (Kd.R_reads' HO_8.out).2.2 x56_4 p443 q443
                                                obtain rfl : ad440 = ad443 := (by injection e443)
                                                replace p443 := eq_true p443
                                                replace q443 := eq_true q443
                                                have p28 : 0 ≤ (x56_4 : Int) := of_decide_eq_true (by first | (with_reducible assumption) | assumption)
                                                have q28 : (x56_4 : Int) < ((x8_4.length : Int) : Int) := of_decide_eq_true (by first | (with_reducible assumption) | assumption)
                                                obtain ⟨go28, co28, eo28, gb28, gl28, cl28, HG28⟩ := Kd.R_form HO_8.out (by omega)
                                                (first | cases eo28 | (injection eo28 with ea_ en_ ec_; (first | subst ea_ | (injection ea_ with ea_; subst ea_)); subst ec_; clear en_))
                                                have GB28 := Aside0.mk gb28
                                                have GG28 := Aside0.mk HG28
                                                clear gb28 gl28 HG28
                                                (first | simp only [add_plain] at hx440_0 | skip)
                                                (first | simp only [add_plain] at hx442_0 | skip)
                                                (first | simp only [add_plain] at hx443_0 | skip)
                                                obtain ⟨hx28_0, hf28_0⟩ := Kd.R_celln 0 HO_8.out (x56_4 : Int) p28 q28
                                                replace p28 := eq_true p28
                                                replace q28 := eq_true q28
                                                have HP29 := Kd.R_putg HO_8.out (x56_4 : Int) (rd x8_2 (rd (rd_L1 l1 x29_2) 1))
                                                go_wp2_with (first | ((with_reducible refine gate_store (t := 3) (p := 67) rfl ?_); (try (rw [drewN_self wr]; generalize hq_ : World.drewN wr _ = wr; have n0_ := Aside0.mk (Kd.R_at hq_ HO_8.out); have n1_ := Aside0.mk (below_at hq_ HB.out); clear hq_ HO_8 HB; have HO_8 := n0_; have HB := n1_; clear n0_ n1_; (try (have HP29 := Kd.R_putg HO_8.out (x56_4 : Int) (rd x8_2 (rd (rd_L1 l1 x29_2) 1)))))); refine store_event (t := 3) (p := 67) (v := ?vo_w30) (w1 := (wr.setCell ⟨go28, (x56_4 : Int).toNat, none⟩ (.int .i64 (rd x8_2 (rd (rd_L1 l1 x29_2) 1))))) ?hg ?ho ?hn ?hr ?_; (case ho => rfl); (case hg => rfl); (case hn => rfl); (case hr => first | (go_simp; done) | (go_simp; rfl)); intro w30 hw; have hg : wr.grownBy w30 (some go28) := (by rw [hw]; exact HP29.2); have hp_ : Kd.R (Kd.int .i64) 3 w30 w.heap.size (fun _ => True) (.slice (some ⟨go28, 0, none⟩) x8_4.length co22) y444 := (by rw [hw, Ny444.out]; exact HP29.1); clear HP29; have n0_ := Aside0.mk (hp_); have n1_ := Aside0.mk ((by rw [hw]; exact below_set (HB.out) GB28.out : Below w.heap.size w w30)); clear HO_8; clear HB; have HO_8 := n0_; have HB := n1_; clear n0_ n1_; clear hg hw hp_))
                                                repeat (go_quiet (first | ((with_reducible refine gate_store (t := 3) (p := 67) rfl ?_); (try (rw [drewN_self wr]; generalize hq_ : World.drewN wr _ = wr; have n0_ := Aside0.mk (Kd.R_at hq_ HO_8.out); have n1_ := Aside0.mk (below_at hq_ HB.out); clear hq_ HO_8 HB; have HO_8 := n0_; have HB := n1_; clear n0_ n1_; (try (have HP29 := Kd.R_putg HO_8.out (x56_4 : Int) (rd x8_2 (rd (rd_L1 l1 x29_2) 1)))))); refine store_event (t := 3) (p := 67) (v := ?vo_w30) (w1 := (wr.setCell ⟨go28, (x56_4 : Int).toNat, none⟩ (.int .i64 (rd x8_2 (rd (rd_L1 l1 x29_2) 1))))) ?hg ?ho ?hn ?hr ?_; (case ho => rfl); (case hg => rfl); (case hn => rfl); (case hr => first | (go_simp; done) | (go_simp; rfl)); intro w30 hw; have hg : wr.grownBy w30 (some go28) := (by rw [hw]; exact HP29.2); have hp_ : Kd.R (Kd.int .i64) 3 w30 w.heap.size (fun _ => True) (.slice (some ⟨go28, 0, none⟩) x8_4.length co22) y444 := (by rw [hw, Ny444.out]; exact HP29.1); clear HP29; have n0_ := Aside0.mk (hp_); have n1_ := Aside0.mk ((by rw [hw]; exact below_set (HB.out) GB28.out : Below w.heap.size w w30)); clear HO_8; clear HB; have HO_8 := n0_; have HB := n1_; clear n0_ n1_; clear hg hw hp_)); try go_wp2_with (first | ((with_reducible refine gate_store (t := 3) (p := 67) rfl ?_); (try (rw [drewN_self wr]; generalize hq_ : World.drewN wr _ = wr; have n0_ := Aside0.mk (Kd.R_at hq_ HO_8.out); have n1_ := Aside0.mk (below_at hq_ HB.out); clear hq_ HO_8 HB; have HO_8 := n0_; have HB := n1_; clear n0_ n1_; (try (have HP29 := Kd.R_putg HO_8.out (x56_4 : Int) (rd x8_2 (rd (rd_L1 l1 x29_2) 1)))))); refine store_event (t := 3) (p := 67) (v := ?vo_w30) (w1 := (wr.setCell ⟨go28, (x56_4 : Int).toNat, none⟩ (.int .i64 (rd x8_2 (rd (rd_L1 l1 x29_2) 1))))) ?hg ?ho ?hn ?hr ?_; (case ho => rfl); (case hg => rfl); (case hn => rfl); (case hr => first | (go_simp; done) | (go_simp; rfl)); intro w30 hw; have hg : wr.grownBy w30 (some go28) := (by rw [hw]; exact HP29.2); have hp_ : Kd.R (Kd.int .i64) 3 w30 w.heap.size (fun _ => True) (.slice (some ⟨go28, 0, none⟩) x8_4.length co22) y444 := (by rw [hw, Ny444.out]; exact HP29.1); clear HP29; have n0_ := Aside0.mk (hp_); have n1_ := Aside0.mk ((by rw [hw]; exact below_set (HB.out) GB28.out : Below w.heap.size w w30)); clear HO_8; clear HB; have HO_8 := n0_; have HB := n1_; clear n0_ n1_; clear hg hw hp_)))
                                                (try simp only [← hl8_4])
                                                go_roundg k4
                                                case measure => have := HK1.out; have := HK2.out; have := HJ20.out; have := HK4.out; omega
                                                case rel => exact ⟨(y444), (wrap64 (x56_4 + 1)), (by first | rfl | (simp; done) | (simp [*]; done)), H', ⟨by have := HK1.out; have := HK2.out; have := HJ20.out; have := HK4.out; omega⟩, ⟨by (try simp only [hl8_4]); (with_reducible repeat (first | apply Kd.R_alloc | apply Kd.R_drewN | apply Kd.R_drew)); exact HO_8.out⟩, ⟨by repeat (first | (with_reducible first | exact HB.out | apply below_alloc | apply pw_below_drewN | apply below_drew1) | exact HB.out)⟩⟩
                                              · rw [if_neg c27] at H
                                                have c27b0 : ((rd x8_4 x56_4) == (rd x8_2 (rd (rd_L1 l1 x29_2) 0))) = false := beq_eq_false_iff_ne.mpr c27
                                                have c27b1 : ((rd x8_4 x56_4) != (rd x8_2 (rd (rd_L1 l1 x29_2) 0))) = true := bne_iff_ne.mpr c27
                                                have H' := Aside0.mk H
                                                clear H
                                                have p443 : 0 ≤ (x56_4 : Int) := of_decide_eq_true (by first | (with_reducible assumption) | assumption)
                                                have q443 : x56_4 < (x8_4.length : Int) := of_decide_eq_true (by first | (with_reducible assumption) | assumption)
                                                obtain ⟨ad443, e443, hx443_0⟩ := Kd.at_int (Kd.R_reads' HO_8.out).2.2 x56_4 p443 q443
                                                obtain rfl : ad440 = ad443 := (by injection e443)
                                                replace p443 := eq_true p443
                                                replace q443 := eq_true q443
                                                go_wp2
                                                repeat (go_quiet (fail); try go_wp2)
                                                (try simp only [← hl8_4])
                                                go_roundg k4
                                                case measure => have := HK1.out; have := HK2.out; have := HJ20.out; have := HK4.out; omega
                                                case rel => exact ⟨(x8_4), (wrap64 (x56_4 + 1)), (by first | rfl | (simp; done) | (simp [*]; done)), H', ⟨by have := HK1.out; have := HK2.out; have := HJ20.out; have := HK4.out; omega⟩, ⟨by (try simp only [hl8_4]); (with_reducible repeat (first | apply Kd.R_alloc | apply Kd.R_drewN | apply Kd.R_drew)); exact HO_8.out⟩, ⟨by repeat (first | (with_reducible first | exact HB.out | apply below_alloc | apply pw_below_drewN | apply below_drew1) | exact HB.out)⟩⟩
                                            · rw [if_neg c26] at H
                                              exact absurd H (by simp)
                                          · rw [if_neg c25] at H
                                            exact absurd H (by simp)
                                        · rw [if_neg c24] at H
                                          have c24b0 : decide (x56_4 < (x8_2.length : Int)) = false := decide_eq_false c24
                                          (try have c24b9_438_0 : decide (x56_4 < (x438_0.length : Int)) = false := by first | (rw [hl438_0]; exact c24b0) | (rw [← hl438_0]; exact c24b0))
                                          (try have c24b9_8_4 : decide (x56_4 < (x8_4.length : Int)) = false := by first | (rw [hl8_4]; exact c24b0) | (rw [← hl8_4]; exact c24b0))
                                          clear c24
                                          have H' := Aside0.mk H
                                          clear H
                                          go_wp2
                                          repeat (go_quiet (fail); try go_wp2)
                                          (try simp only [← hl8_4])
                                          go_roundg k4
                                          case measure => have := HK1.out; have := HK2.out; have := HJ20.out; have := HK4.out; omega
                                          case rel => exact ⟨(x8_4), (x9_20), (wrap64 (x29_2 + 1)), (by first | rfl | (simp; done) | (simp [*]; done)), (by first | rfl | (simp; done) | (simp [*]; done)), H', ⟨by have := HK1.out; have := HK2.out; have := HJ20.out; have := HK4.out; omega⟩, ⟨by (try simp only [hl8_4]); (with_reducible repeat (first | apply Kd.R_alloc | apply Kd.R_drewN | apply Kd.R_drew)); exact HO_8.out⟩, ⟨by repeat (first | (with_reducible first | exact HB.out | apply below_alloc | apply pw_below_drewN | apply below_drew1) | exact HB.out)⟩⟩
                              · rw [if_neg c20] at H
                                exact absurd H (by simp)
                            · rw [if_neg c19] at H
                              exact absurd H (by simp)
                          · rw [if_neg c18] at H
                            exact absurd H (by simp)
                        · rw [if_neg c17] at H
                          exact absurd H (by simp)
                      · rw [if_neg c16] at H
                        exact absurd H (by simp)
                    · rw [if_neg c15] at H
                      exact absurd H (by simp)
                · rw [if_neg c11] at H
                  exact absurd H (by simp)
              · rw [if_neg c10] at H
                exact absurd H (by simp)
            · rw [if_neg c9] at H
              have c9b0 : decide (x29_2 < (l1.length : Int)) = false := decide_eq_false c9
              (try have c9b9_438_0 : decide (x29_2 < (x438_0.length : Int)) = false := by first | (rw [hl438_0]; exact c9b0) | (rw [← hl438_0]; exact c9b0))
              (try have c9b9_8_4 : decide (x29_2 < (x8_4.length : Int)) = false := by first | (rw [hl8_4]; exact c9b0) | (rw [← hl8_4]; exact c9b0))
              clear c9
              simp only [Option.some.injEq, Prod.mk.injEq] at H
              obtain ⟨rfl, rfl⟩ := H
              go_wp2
              repeat (go_quiet (fail); try go_wp2)
              go_ret2
              exact ⟨_, by first | rfl | (simp [errW_none, errW_some] <;> rfl) | (simp [*, errW_none, errW_some] <;> rfl), by (with_reducible repeat (first | apply Kd.R_alloc | apply Kd.R_drewN | apply Kd.R_drew)); exact HO_8.out, by repeat (first | (with_reducible first | exact HB.out | apply below_alloc | apply pw_below_drewN | apply below_drew1) | exact HB.out)⟩
end Go.Proofs.Ytcdajmbnijmdfaa.PA
