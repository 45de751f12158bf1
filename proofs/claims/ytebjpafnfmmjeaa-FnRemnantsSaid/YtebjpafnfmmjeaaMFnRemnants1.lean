/- Texts of this claim put together in build order (FnRemnants). -/
import Derived.Test.YtebjpafnfmmjeaaMFnRemnants0
-- Written for this claim by a program of this session's (ownprint.py), by way of the kit's print and hand-proved texts. Lean checks it.
namespace Go.Proofs.Ytebjpafnfmmjeaa.PA
open Go.RowKit Go.Proofs.YtebjpafnfmmjeaaW.PrintWords Go.Proofs.YtebjpafnfmmjeaaW.PrintLast Go.Proofs.YtebjpafnfmmjeaaW.PrintMore
attribute [local go_sem] max2_int min2_int max_two min_two max_three min_three max_four min_four   -- for this text's walks alone
set_option linter.unusedVariables false
set_option linter.unusedSimpArgs false
def impl_TakePiece_1.f (l0 : List Int) : Option (Int) := if 0 < (l0.length : Int) then (if 1 < (l0.length : Int) then (some (wrap64 ((rd l0 0) * (rd l0 1)))) else (none)) else (none)
set_option maxHeartbeats 8000000 in
set_option maxRecDepth 100000 in
theorem impl_TakePiece_1.calls (A0 : Option Addr) (c0 : Nat) (l0 : List Int) (r : Int) (w : World) (hr0 : Kd.C (Kd.int .i64) w A0 l0.length l0) (hc0 : l0.length ≤ c0) (h : impl_TakePiece_1.f l0 = some r) :
    Calls Try.prog 49 #[.slice A0 l0.length c0] w fun e w' => e = .returned (.int .i64 r) ∧ Drawn0 w w' := by
  have HR0 := Aside0.mk hr0
  have HC0 := Aside0.mk hc0
  clear hr0 hc0
  have H : (if 0 < (l0.length : Int) then (if 1 < (l0.length : Int) then (some (wrap64 ((rd l0 0) * (rd l0 1)))) else (none)) else (none)) = some r := h
  clear h
  by_cases c2 : 0 < (l0.length : Int)
  · rw [if_pos c2] at H
    have c2b0 : decide (0 < (l0.length : Int)) = true := decide_eq_true c2
    have c2b1 : decide (0 < l0.length) = true := decide_eq_true (by omega)
    clear c2
    by_cases c3 : 1 < (l0.length : Int)
    · rw [if_pos c3] at H
      have c3b0 : decide (1 < (l0.length : Int)) = true := decide_eq_true c3
      have c3b1 : decide (1 < l0.length) = true := decide_eq_true (by omega)
      clear c3
      obtain rfl := Option.some.inj H
      have p324 : 0 ≤ (0 : Int) := (by omega)
      have q324 : 0 < (l0.length : Int) := of_decide_eq_true (by first | (with_reducible assumption) | assumption)
      obtain ⟨ad324, e324, hx324_0⟩ := Kd.at_int HR0.out 0 p324 q324
      cases e324
      have qi324 : (0 < l0.length) = True := eq_true (by omega)
      (try rw [show ((0 : Int)).toNat = 0 from rfl] at hx324_0)
      (try rw [Addr.add_zero'] at hx324_0)
      replace p324 := eq_true p324
      replace q324 := eq_true q324
      have p325 : 0 ≤ (1 : Int) := (by omega)
      have q325 : 1 < (l0.length : Int) := of_decide_eq_true (by first | (with_reducible assumption) | assumption)
      obtain ⟨ad325, e325, hx325_0⟩ := Kd.at_int HR0.out 1 p325 q325
      obtain rfl : ad324 = ad325 := (by injection e325)
      (try simp only [show (1 : Int).toNat = 1 from rfl, Nat.reduceMul, Nat.reduceEqDiff, Go.Addr.add, ↓reduceIte] at hx325_0)
      have qi325 : (1 < l0.length) = True := eq_true (by omega)
      (try rw [show ((1 : Int)).toNat = 1 from rfl] at hx325_0)
      replace p325 := eq_true p325
      replace q325 := eq_true q325
      go_enter Try.func49, Try.ntmps49
      go_wp2
      repeat (go_quiet (fail); try go_wp2)
      go_ret
      exact ⟨by first | rfl | (simp; done) | (simp [*]; done), by repeat (first | exact Drawn0.refl _ | apply Drawn0.step)⟩
    · rw [if_neg c3] at H
      exact absurd H (by simp)
  · rw [if_neg c2] at H
    exact absurd H (by simp)
/-- The rows without the one at a1 (a2 = a1 + 1). -/
def slices_Delete_int_int.f (l0 : List (List Int)) (a1 a2 : Int) : Option (List (List Int)) := if 0 ≤ a1 ∧ a2 = a1 + 1 ∧ a1 < (l0.length : Int) then some (l0.eraseIdx a1.toNat) else none
def encSl (t : Option Addr × Nat × Nat) : Value := .slice t.1 t.2.1 t.2.2
theorem encs_of : ∀ {inner : List Value}, (∀ v ∈ inner, ∃ t, encSl t = v) → ∃ ts : List (Option Addr × Nat × Nat), inner = ts.map encSl
  | [], _ => ⟨[], rfl⟩
  | v :: inner, h => by
    obtain ⟨t, ht⟩ := h v (by simp)
    obtain ⟨ts, hts⟩ := encs_of (inner := inner) (fun u hu => h u (List.mem_cons_of_mem _ hu))
    exact ⟨t :: ts, by rw [List.map_cons, ht, hts]⟩
theorem holdsSl {w : World} {g : Nat} {cur : Array Value} {e : TypeId} {ts : List (Option Addr × Nat × Nat)} (hb : w.heap[g]? = some (.cells cur e (0, 0))) (ht : cur.toList.take ts.length = ts.map encSl) : Go.Sort.Holds encSl w g 0 ts.toArray := by
  intro j hj
  have hj' : j < ts.length := by simpa using hj
  refine ⟨?_, by simp [World.frozen?, hb]⟩
  have h1 : (cur.toList.take ts.length)[j]? = (ts.map encSl)[j]? := by rw [ht]
  rw [List.getElem?_take_of_lt hj'] at h1
  simp only [World.cell?, hb, Nat.zero_add]
  simp only [Option.isSome_none, Bool.false_eq_true, if_false]
  rw [← Array.getElem?_toList, h1]
  simp [hj']
theorem heapSl {w : World} {g n : Nat} {cur : Array Value} {e : TypeId} {fr : Nat × Nat} (d : Array (Option Addr × Nat × Nat)) (hb : w.heap[g]? = some (.cells cur e fr)) :
    (Go.Sort.putRow encSl (Go.Sort.ahead w n) g 0 d).heap[g]? = some (.cells (Go.Sort.putCells encSl 0 d cur) e fr) := by
  simp [Go.Sort.putRow, Go.Sort.mapBlock, Go.Sort.ahead, Array.getElem?_modify, hb, Go.Sort.onCells]
theorem grownSl {w : World} {g n : Nat} (d : Array (Option Addr × Nat × Nat)) : w.grownBy (Go.Sort.putRow encSl (Go.Sort.ahead w n) g 0 d) (some g) := by
  refine ⟨rfl, rfl, rfl, by simp [Go.Sort.putRow, Go.Sort.mapBlock, Go.Sort.ahead], fun k hk hne => ?_⟩
  have : g ≠ k := fun e => hne (by rw [e])
  simp [Go.Sort.putRow, Go.Sort.mapBlock, Go.Sort.ahead, Array.getElem?_modify, this]
theorem takeSl (cur : Array Value) (ts : List (Option Addr × Nat × Nat)) (h : ts.length ≤ cur.size) : (Go.Sort.putCells encSl 0 ts.toArray cur).toList.take ts.length = ts.map encSl := by
  apply List.ext_getElem?
  intro j
  by_cases hj : j < ts.length
  · rw [List.getElem?_take_of_lt hj, Array.getElem?_toList]
    simp [Go.Sort.putCells, hj, show j < cur.size by omega]
  · rw [List.getElem?_take_eq_none (by omega), List.getElem?_eq_none (by simp; omega)]
theorem chunk1 (L : List Value) (j : Nat) : (L.drop (j * 1)).take 1 = L[j]?.toList := by
  rw [Nat.mul_one, List.take_one, List.head?_drop]
theorem infoSl1 : ((Try.prog.info? 40).get (by kernel_rfl)).size = 1 := by kernel_rfl
theorem slices_Delete_int_int.calls0 (P0_ : Nat → Prop) (u9000_ : Value) (l0 : List (List Int)) (a1 a2 : Int) (r : List (List Int)) (w0 w : World) (hB : Below w0.heap.size w0 w) (ho0 : Kd.S (Kd.slice 3 (Kd.int .i64)) 40 w w0.heap.size P0_ u9000_ l0) (h : slices_Delete_int_int.f l0 a1 a2 = some r) :
    Calls Try.prog 50 #[u9000_, .int .i64 a1, .int .i64 a2] w fun e w' => ∃ v0_ : Value, e = .returned (v0_) ∧ Kd.S (Kd.slice 3 (Kd.int .i64)) 40 w' w0.heap.size P0_ v0_ r ∧ Below w0.heap.size w0 w' ∧ w.grownBy w' v0_.ownBlock := by
  unfold slices_Delete_int_int.f at h
  by_cases hl : 0 ≤ a1 ∧ a2 = a1 + 1 ∧ a1 < (l0.length : Int)
  case neg => rw [if_neg hl] at h; cases h
  rw [if_pos hl] at h
  obtain rfl := Option.some.inj h
  clear h
  obtain ⟨k, rfl⟩ : ∃ k : Nat, a1 = (k : Int) := ⟨a1.toNat, by omega⟩
  obtain ⟨h0_, rfl, hk_⟩ := hl
  have hk : k < l0.length := by omega
  rw [Int.toNat_natCast, show ((k : Int) + 1) = ((k + 1 : Nat) : Int) by omega]
  obtain ⟨f, ho0⟩ := ho0
  have hzl : l0.zipIdx.length = l0.length := List.length_zipIdx
  obtain ⟨hok, inner, hown, hreps⟩ := ho0
  obtain ⟨ts, rfl⟩ : ∃ ts : List (Option Addr × Nat × Nat), inner = ts.map encSl := encs_of (fun v hv => by
    obtain ⟨j, hj, rfl⟩ := List.mem_iff_getElem.1 hv
    have hlen := hreps.1
    have hsz : (Kd.tag f (Kd.slice 3 (Kd.int .i64))).sz = 1 := rfl
    rw [hsz, Nat.mul_one] at hlen
    have hM := hreps.2 j (l0.zipIdx[j]'(by omega)) (List.getElem?_eq_getElem (by omega))
    obtain ⟨u, hu, hR⟩ := hM
    obtain ⟨A, c, rfl⟩ := Kd.R_slice hR
    refine ⟨(A, (l0.zipIdx[j]'(by omega)).1.length, c), ?_⟩
    have h2 : (inner.drop (j * 1)).take 1 = [inner[j]] := by
      rw [Nat.mul_one, List.drop_eq_getElem_cons hj]
      rfl
    rw [hsz, h2] at hu
    exact (List.singleton_inj.1 hu).symm)
  have hlts : ts.length = l0.length := by
    have := hreps.1
    have hsz : (Kd.tag f (Kd.slice 3 (Kd.int .i64))).sz = 1 := rfl
    rw [List.length_map, hzl, hsz, Nat.mul_one] at this
    exact this
  have hown0 : w.ownsRow w0.heap.size 40 1 u9000_ l0.length (ts.map encSl) := by rw [← hzl]; exact hown
  have hM : maxLen = 9223372036854775807 := rfl
  rcases hown0.2 with ⟨rfl, hn⟩ | ⟨g, cap, cur, rfl, hbase, hb, h1, h2, h3, h4⟩
  · omega
  · have hH := holdsSl (ts := ts) hb (by have h5 := h4; rw [Nat.mul_one, ← hlts] at h5; exact h5)
    have hcall := AnyE.slices_Delete Try.delSS encSl (fun _ => rfl) (none, 0, 0) Try.zeroValue40 ((Try.prog.info? 40).get (by kernel_rfl)) (by kernel_rfl) infoSl1 g 0 cap k (k + 1) ts.toArray w hH (by simp; omega) (by omega) (by omega) (by simp; omega)
    have es : ts.toArray.size = l0.length := by simp [hlts]
    rw [es] at hcall
    refine (show Calls Try.prog 50 #[.slice (some ⟨g, 0, none⟩) l0.length cap, .int .i64 (k : Int), .int .i64 ((k + 1 : Nat) : Int)] w _ from hcall).mono ?_
    rintro e w' ⟨rfl, q, rfl⟩
    have hg := grownSl (w := w) (g := g) (n := q) (ts.toArray.toList.take k ++ ts.toArray.toList.drop (k + 1) ++ List.replicate (k + 1 - k) (none, 0, 0)).toArray
    have hlz : (l0.zipIdx.eraseIdx k).length = l0.length - 1 := by rw [List.length_eraseIdx_of_lt (by omega), hzl]
    have e1 : l0.length - (k + 1 - k) = l0.length - 1 := by omega
    have hel : (ts.eraseIdx k).length = l0.length - 1 := by rw [List.length_eraseIdx_of_lt (by omega), hlts]
    have hful : (ts.toArray.toList.take k ++ ts.toArray.toList.drop (k + 1) ++ List.replicate (k + 1 - k) ((none, 0, 0) : Option Addr × Nat × Nat)).length = l0.length := by simp; omega
    have hcs : cur.size = cap := by rw [h3, Nat.mul_one]
    have htk : ((Go.Sort.putCells encSl 0 (ts.toArray.toList.take k ++ ts.toArray.toList.drop (k + 1) ++ List.replicate (k + 1 - k) (none, 0, 0)).toArray cur).toList.take (l0.length - 1)) = (ts.eraseIdx k).map encSl := by
      have e2 := congrArg (List.take (l0.length - 1)) (takeSl cur _ (by rw [hful, hcs]; exact h1))
      rw [hful, List.take_take, Nat.min_eq_left (by omega)] at e2
      rw [e2, ← List.map_take, List.take_append_of_le_length (by simp; omega), List.take_of_length_le (by simp; omega), List.eraseIdx_eq_take_drop_succ]
    refine ⟨_, rfl, Kd.S_erase (f := f) ⟨fun k' hk' => hok k' hk', (ts.eraseIdx k).map encSl, ⟨?_, .inr ⟨g, cap, _, ?_, hbase, heapSl _ hb, ?_, h2, ?_, ?_⟩⟩, ?_, fun j p hp => ?_⟩, hB.grown hg hB.size (fun j hj => by cases hj; exact hbase), hg⟩
    · have hsz : (Kd.tag f (Kd.slice 3 (Kd.int .i64))).sz = 1 := rfl
      rw [List.length_map, hel, hlz, hsz, Nat.mul_one]
    · rw [e1, hlz]
    · rw [hlz]; omega
    · have hsz : (Kd.tag f (Kd.slice 3 (Kd.int .i64))).sz = 1 := rfl
      rw [hsz, Nat.mul_one]
      simp [Go.Sort.putCells, hcs]
    · have hsz : (Kd.tag f (Kd.slice 3 (Kd.int .i64))).sz = 1 := rfl
      rw [hlz, hsz, Nat.mul_one]
      exact htk
    · have hsz : (Kd.tag f (Kd.slice 3 (Kd.int .i64))).sz = 1 := rfl
      rw [List.length_map, hel, hlz, hsz, Nat.mul_one]
    · have hsz : (Kd.tag f (Kd.slice 3 (Kd.int .i64))).sz = 1 := rfl
      rw [hsz, chunk1, List.getElem?_map, List.getElem?_eraseIdx]
      rw [List.getElem?_eraseIdx] at hp
      have hmv : ∀ i, l0.zipIdx[i]? = some p → (Kd.tag f (Kd.slice 3 (Kd.int .i64))).M (Go.Sort.putRow encSl (Go.Sort.ahead w q) g 0 (ts.toArray.toList.take k ++ ts.toArray.toList.drop (k + 1) ++ List.replicate (k + 1 - k) (none, 0, 0)).toArray) w0.heap.size (fun k_ => P0_ k_ ∧ some k_ ≠ (Value.slice (some ⟨g, 0, none⟩) (l0.length - (k + 1 - k)) cap).ownBlock) p ((Option.map encSl ts[i]?).toList) := fun i hi => by
        have hM := hreps.2 i p hi
        rw [hsz, chunk1, List.getElem?_map] at hM
        exact Kd.M_step hM (fun k' ho hlt => (by obtain ⟨_, _, _, _, hfar⟩ := hg; exact hfar k' hlt (fun he => ho.2 (by first | exact he | exact he.symm | simpa [Value.ownBlock] using he))))
      by_cases hjk : j < k
      · rw [if_pos hjk] at hp ⊢
        exact hmv j hp
      · rw [if_neg hjk] at hp ⊢
        exact hmv (j + 1) hp
theorem slices_Delete_int_int.calls (P0_ : Nat → Prop) (u9000_ : Value) (l0 : List (List Int)) (a1 : Int) (a2 : Int) (r : List (List Int)) (w0 w : World) (hB : Below w0.heap.size w0 w) (ho0 : Kd.S (Kd.slice 3 (Kd.int .i64)) 40 w w0.heap.size P0_ u9000_ l0) (h : slices_Delete_int_int.f l0 a1 a2 = some r) :
    Calls Try.prog 50 #[u9000_, .int .i64 a1, .int .i64 a2] w fun e w' => ∃ v0_ : Value, e = .returned (v0_) ∧ Kd.S (Kd.slice 3 (Kd.int .i64)) 40 w' w0.heap.size (fun k_ => (P0_ k_ ∨ w.heap.size ≤ k_)) v0_ r ∧ Below w0.heap.size w0 w' ∧ Kept w w' (fun k_ => P0_ k_) :=
  (slices_Delete_int_int.calls0 P0_ u9000_ l0 a1 a2 r w0 w hB ho0 h).mono fun e w' ⟨v0_, he, hS, hb, hg⟩ => ⟨v0_, he, Kd.S_mono hS (fun _ hk => .inl hk), hb, hg.size, fun i hi hn => hg.block i hi (fun e_ => hn ((Kd.S_R hS).1 i (by rw [e_])))⟩
end Go.Proofs.Ytebjpafnfmmjeaa.PA
-- Written for this claim by a program of this session's (ownprint.py), by way of the kit's print and hand-proved texts. Lean checks it.
namespace Go.Proofs.Ytebjpafnfmmjeaa.PA
open Go.RowKit Go.Proofs.YtebjpafnfmmjeaaW.PrintWords Go.Proofs.YtebjpafnfmmjeaaW.PrintLast Go.Proofs.YtebjpafnfmmjeaaW.PrintMore
attribute [local go_sem] max2_int min2_int max_two min_two max_three min_three max_four min_four   -- for this text's walks alone
set_option linter.unusedVariables false
set_option linter.unusedSimpArgs false
def pieceArea (p : List Int) : Int := wrap64 (rd p 0 * rd p 1)
def pieceGood (p : List Int) : Bool := decide (pieceArea p > 0)
def piecesA (r : List Int) (w h : Int) : List (List Int) := [[wrap64 (rd r 0 - w), h], [rd r 0, wrap64 (rd r 1 - h)]]
def piecesB (r : List Int) (w h : Int) : List (List Int) := [[wrap64 (rd r 0 - w), rd r 1], [w, wrap64 (rd r 1 - h)]]
def pieces (r : List Int) (w h : Int) : List (List Int) :=
  if mx (wrap64 (wrap64 (rd r 0 - w) * rd r 1)) (wrap64 (w * wrap64 (rd r 1 - h))) > mx (wrap64 (wrap64 (rd r 0 - w) * h)) (wrap64 (rd r 0 * wrap64 (rd r 1 - h))) then piecesB r w h else piecesA r w h
def impl_TakePiece.f (k : Nat) (l0 : List (List Int)) (a1 : Int) (a2 : Int) : Option ((List (List Int)) × Int × Bool) :=
  (impl_SmallestFor.f k l0 a1 a2).bind fun i => if i < 0 then some ([], -1, false) else (if (0 ≤ i ∧ i < (l0.length : Int)) ∧ 1 < (rd_L1 l0 i).length then
    (impl_copyLists.f k l0).bind fun o => (slices_Delete_int_int.f o i (wrap64 (i + 1))).bind fun d => (if d.length ≤ 100 then
      (impl_StoreOk.f (d ++ (pieces (rd_L1 l0 i) a1 a2).filter pieceGood)).bind fun t => (if t = true then some (d ++ (pieces (rd_L1 l0 i) a1 a2).filter pieceGood, i, true) else some ([], -1, false)) else none) else none)
theorem blk2_row {W : World} {base g : Nat} {xs : List Int} (hb : W.heap[g]? = some (.cells (xs.map (Value.int .i64)).toArray 3 (0, 0))) (hg : base ≤ g) (hl : xs.length ≤ 9223372036854775807) : Kd.R (Kd.int .i64) 3 W base (fun k_ => k_ = g) (.slice (some ⟨g, 0, none⟩) xs.length xs.length) xs :=
  ⟨fun k hk => by simp [Value.ownBlock] at hk; exact hk.symm, xs.map (Value.int .i64), ⟨by simp [Kd.int, Kd.scalar], .inr ⟨g, xs.length, _, rfl, hg, hb, Nat.le_refl _, hl, by simp [Kd.int, Kd.scalar], by simp [Kd.int, Kd.scalar, List.take_of_length_le]⟩⟩, Kd.reps_scalar _⟩
theorem area_blk {W : World} {g : Nat} {p : List Int} {r : Int} (hb : W.heap[g]? = some (.cells (p.map (Value.int .i64)).toArray 3 (0, 0))) (hl : p.length = 2) (hr : pieceArea p = r) :
    Calls Try.prog 49 #[.slice (some ⟨g, 0, none⟩) 2 2] W fun e w' => e = .returned (.int .i64 r) ∧ ∃ q, w' = W.drewN q := by
  have hrow := blk2_row (base := 0) hb (Nat.zero_le _) (by omega)
  rw [hl] at hrow
  have hC := (Kd.R_reads' hrow).2.2
  have hf : impl_TakePiece_1.f p = some r := by
    unfold impl_TakePiece_1.f
    unfold pieceArea at hr
    rw [hl, if_pos (by decide), if_pos (by decide), hr]
  have h := impl_TakePiece_1.calls (some ⟨g, 0, none⟩) 2 p r W hC (by omega) hf
  rw [hl] at h
  exact h.mono fun e w' h1 => ⟨h1.1, h1.2.out⟩
theorem six_blks (w : World) (o0 o1 o2 o3 o4 o5 : Obj) : Below w.heap.size w ((((((w.alloc o0).alloc o1).alloc o2).alloc o3).alloc o4).alloc o5) ∧ ((((((w.alloc o0).alloc o1).alloc o2).alloc o3).alloc o4).alloc o5).heap.size = w.heap.size + 6 ∧
    ((((((w.alloc o0).alloc o1).alloc o2).alloc o3).alloc o4).alloc o5).heap[w.heap.size]? = some o0 ∧ ((((((w.alloc o0).alloc o1).alloc o2).alloc o3).alloc o4).alloc o5).heap[w.heap.size + 1]? = some o1 ∧ ((((((w.alloc o0).alloc o1).alloc o2).alloc o3).alloc o4).alloc o5).heap[w.heap.size + 1 + 1]? = some o2 ∧
    ((((((w.alloc o0).alloc o1).alloc o2).alloc o3).alloc o4).alloc o5).heap[w.heap.size + 1 + 1 + 1]? = some o3 ∧ ((((((w.alloc o0).alloc o1).alloc o2).alloc o3).alloc o4).alloc o5).heap[w.heap.size + 1 + 1 + 1 + 1]? = some o4 ∧ ((((((w.alloc o0).alloc o1).alloc o2).alloc o3).alloc o4).alloc o5).heap[w.heap.size + 1 + 1 + 1 + 1 + 1]? = some o5 := by
  have n : ∀ (W : World) (o : Obj) (k : Nat), W.heap.size = k → (W.alloc o).heap[k]? = some o := fun W o k hk => by subst hk; simpa using heap_alloc_new W o
  have s1 : (w.alloc o0).heap.size = w.heap.size + 1 := by simp
  have s2 : ((w.alloc o0).alloc o1).heap.size = w.heap.size + 1 + 1 := by simp
  have s3 : (((w.alloc o0).alloc o1).alloc o2).heap.size = w.heap.size + 1 + 1 + 1 := by simp
  have s4 : ((((w.alloc o0).alloc o1).alloc o2).alloc o3).heap.size = w.heap.size + 1 + 1 + 1 + 1 := by simp
  have s5 : (((((w.alloc o0).alloc o1).alloc o2).alloc o3).alloc o4).heap.size = w.heap.size + 1 + 1 + 1 + 1 + 1 := by simp
  exact ⟨below_alloc (below_alloc (below_alloc (below_alloc (below_alloc (below_alloc (Below.refl _ _) _) _) _) _) _) _, by simp, blk_alloc (blk_alloc (blk_alloc (blk_alloc (blk_alloc (n w o0 _ rfl) _) _) _) _) _, blk_alloc (blk_alloc (blk_alloc (blk_alloc (n _ o1 _ s1) _) _) _) _, blk_alloc (blk_alloc (blk_alloc (n _ o2 _ s2) _) _) _, blk_alloc (blk_alloc (n _ o3 _ s3) _) _, blk_alloc (n _ o4 _ s4) _, n _ o5 _ s5⟩
/-- Where the two pieces lie. -/
structure PiecesAt (w wc : World) (v : Value) (p0 p1 : List Int) (P g0 g1 : Nat) : Prop where
  hv : v = .slice (some ⟨P, 0, none⟩) 2 2
  hP : wc.heap[P]? = some (.cells #[.slice (some ⟨g0, 0, none⟩) 2 2, .slice (some ⟨g1, 0, none⟩) 2 2] 40 (0, 0))
  h0 : wc.heap[g0]? = some (.cells (p0.map (Value.int .i64)).toArray 3 (0, 0))
  h1 : wc.heap[g1]? = some (.cells (p1.map (Value.int .i64)).toArray 3 (0, 0))
  ne : g0 ≠ g1
  b0 : w.heap.size ≤ g0
  b1 : w.heap.size ≤ g1
  s0 : g0 < wc.heap.size
  s1 : g1 < wc.heap.size
  sP : P < wc.heap.size
  l0 : p0.length = 2
  l1 : p1.length = 2
  below : Below w.heap.size w wc
def two {α : Type} (a b : α) (j : Nat) : α := if j = 0 then a else b
structure TakeInv (w w' : World) (P g0 g1 : Nat) (p0 p1 : List Int) (d : List (List Int)) (v : Value) (i : Nat) : Prop where
  hS : Kd.S (Kd.slice 3 (Kd.int .i64)) 40 w' w.heap.size (fun k => (∀ j, i ≤ j → j < 2 → k ≠ two g0 g1 j) ∧ k ≠ P) v (d ++ (([p0, p1] : List (List Int)).take i).filter pieceGood)
  rows : ∀ j, i ≤ j → j < 2 → w'.heap[two g0 g1 j]? = some (.cells ((two p0 p1 j).map (Value.int .i64)).toArray 3 (0, 0))
  lit : w'.heap[P]? = some (.cells #[.slice (some ⟨g0, 0, none⟩) 2 2, .slice (some ⟨g1, 0, none⟩) 2 2] 40 (0, 0))
  below : Below w.heap.size w w'
  ne : g0 ≠ g1
  b : ∀ j, j < 2 → w.heap.size ≤ two g0 g1 j
  s : ∀ j, j < 2 → two g0 g1 j < w'.heap.size
  sP : P < w'.heap.size
  l : ∀ j, j < 2 → (two p0 p1 j).length = 2
theorem TakeInv.drewN {w w' : World} {P g0 g1 : Nat} {p0 p1 : List Int} {d : List (List Int)} {v : Value} {i : Nat} (h : TakeInv w w' P g0 g1 p0 p1 d v i) (q : Nat) : TakeInv w (w'.drewN q) P g0 g1 p0 p1 d v i :=
  ⟨Kd.S_step h.hS (fun _ _ _ => rfl), h.rows, h.lit, pw_below_drewN h.below q, h.ne, h.b, h.s, h.sP, h.l⟩
theorem two_take {p0 p1 : List Int} {j : Nat} (h : j < 2) : (([p0, p1] : List (List Int)).take (j + 1)).filter pieceGood = (([p0, p1] : List (List Int)).take j).filter pieceGood ++ (if pieceGood (two p0 p1 j) then [two p0 p1 j] else []) := by
  have hl : j < ([p0, p1] : List (List Int)).length := h
  have e : ([p0, p1] : List (List Int))[j] = two p0 p1 j := by
    rcases (show j = 0 ∨ j = 1 by omega) with rfl | rfl <;> rfl
  rw [List.take_succ_eq_append_getElem hl, List.filter_append, e]
  simp only [List.filter_cons, List.filter_nil]
theorem TakeInv.skip {w w' : World} {P g0 g1 : Nat} {p0 p1 : List Int} {d : List (List Int)} {v : Value} {i : Nat} (h : TakeInv w w' P g0 g1 p0 p1 d v i) (hi : i < 2) (hg : pieceGood (two p0 p1 i) = false) : TakeInv w w' P g0 g1 p0 p1 d v (i + 1) :=
  ⟨by rw [two_take hi, hg, if_neg (by simp), List.append_nil]; exact Kd.S_mono h.hS (fun _ hk => ⟨fun j h1 h2 => hk.1 j (by omega) h2, hk.2⟩), fun j h1 h2 => h.rows j (by omega) h2, h.lit, h.below, h.ne, h.b, h.s, h.sP, h.l⟩
theorem two_inj {g0 g1 i j : Nat} (ne : g0 ≠ g1) (hi : i < 2) (hj : j < 2) (h : two g0 g1 i = two g0 g1 j) : i = j := by
  unfold two at h
  split at h <;> split at h <;> omega
set_option maxHeartbeats 8000000 in
set_option maxRecDepth 100000 in
theorem impl_TakePiece.calls (k : Nat) (A0 : Option Addr) (c0 : Nat) (l0 : List (List Int)) (a1 : Int) (a2 : Int) (r1 : List (List Int)) (r2 : Int) (r3 : Bool) (w : World) (hr0 : Kd.C (Kd.slice 3 (Kd.int .i64)) w A0 l0.length l0) (hc0 : l0.length ≤ c0) (h : impl_TakePiece.f k l0 a1 a2 = some (r1, r2, r3)) :
    Calls Try.prog 28 #[.slice A0 l0.length c0, .int .i64 a1, .int .i64 a2] w fun e w' => ∃ v0_ : Value, e = .returned (.tuple #[v0_, .int .i64 r2, .bool r3]) ∧ Kd.S (Kd.slice 3 (Kd.int .i64)) 40 w' w.heap.size (fun _ => True) v0_ r1 ∧ Below w.heap.size w w' := by
  have eg : ∀ args w, (callFunc 49 args).run Try.prog w = .ok (.enter 49 args) w := enters_of Try.func49 (by kernel_rfl) rfl
  have HR0 := Aside0.mk hr0
  have HC0 := Aside0.mk hc0
  clear hr0 hc0
  unfold impl_TakePiece.f at h
  replace h := Option.bind_eq_some_iff.1 h
  obtain ⟨i, hi, h⟩ := h
  have HI := Aside0.mk hi
  clear hi
  by_cases c1 : i < 0
  · rw [if_pos c1] at h
    simp only [Option.some.injEq, Prod.mk.injEq] at h
    obtain ⟨rfl, rfl, rfl⟩ := h
    go_enter Try.func28, Try.ntmps28
    go_wp2_with (go_at_call 18; refine (impl_SmallestFor.calls k _ _ l0 a1 a2 i _ HR0.out HC0.out HI.out).mono ?_; rintro e w1 ⟨rfl, ⟨nd, rfl⟩⟩)
    go_ret3
    exact ⟨_, rfl, Kd.S_nil _ _ _ _ _, pw_below_drewN (Below.refl _ _) _⟩
  rw [if_neg c1] at h
  by_cases c2 : (0 ≤ i ∧ i < (l0.length : Int)) ∧ 1 < (rd_L1 l0 i).length
  case neg => rw [if_neg c2] at h; cases h
  rw [if_pos c2] at h
  have H := Aside0.mk h
  obtain ⟨⟨q1, q2⟩, q3⟩ := c2
  clear h
  obtain ⟨ad, A1, cc1, e1, hx1, hl1, hi1⟩ := at_L1 HR0.out i q1 q2
  subst e1
  obtain ⟨f0, g0, k0⟩ := Kd.at_int hi1 0 (by omega) (by omega)
  subst g0
  obtain ⟨f1, g1, k1⟩ := Kd.at_int hi1 1 (by omega) (by omega)
  injection g1 with g1
  subst g1
  simp only [show ((0 : Int)).toNat = 0 from rfl, show ((1 : Int)).toNat = 1 from rfl, Addr.add_zero', Nat.reduceMul, Nat.reduceEqDiff, Go.Addr.add, ↓reduceIte] at k0 k1
  obtain ⟨a, ha⟩ : ∃ a, a = rd (rd_L1 l0 i) 0 := ⟨_, rfl⟩
  obtain ⟨b, hb⟩ : ∃ b, b = rd (rd_L1 l0 i) 1 := ⟨_, rfl⟩
  rw [← ha] at k0
  rw [← hb] at k1
  have HA := Aside0.mk ha
  have HB := Aside0.mk hb
  clear ha hb hi1 hl1
  have q4 : (0 < (rd_L1 l0 i).length) = True := eq_true (by omega)
  have q5 : (1 < (rd_L1 l0 i).length) = True := eq_true (by omega)
  have q6 : (0 < ((rd_L1 l0 i).length : Int)) = True := eq_true (by omega)
  have q7 : (1 < ((rd_L1 l0 i).length : Int)) = True := eq_true (by omega)
  have Q1 := Aside0.mk q1
  have Q2 := Aside0.mk q2
  replace q1 := eq_true q1
  replace q2 := eq_true q2
  have q8 : (i < 0) = False := eq_false c1
  have q9 : decide (i < 0) = false := decide_eq_false c1
  obtain ⟨x1, hx1'⟩ : ∃ z, pieceArea [wrap64 (a - a1), b] = z := ⟨_, rfl⟩
  obtain ⟨x2, hx2'⟩ : ∃ z, pieceArea [a1, wrap64 (b - a2)] = z := ⟨_, rfl⟩
  obtain ⟨y1, hy1'⟩ : ∃ z, pieceArea [wrap64 (a - a1), a2] = z := ⟨_, rfl⟩
  obtain ⟨y2, hy2'⟩ : ∃ z, pieceArea [a, wrap64 (b - a2)] = z := ⟨_, rfl⟩
  have X1 := Aside0.mk hx1'
  have X2 := Aside0.mk hx2'
  have Y1 := Aside0.mk hy1'
  have Y2 := Aside0.mk hy2'
  clear hx1' hx2' hy1' hy2' c1
  obtain ⟨s, hs⟩ : ∃ z, (if x1 < x2 then x2 else x1) = z := ⟨_, rfl⟩
  obtain ⟨t, ht⟩ : ∃ z, (if y1 < y2 then y2 else y1) = z := ⟨_, rfl⟩
  go_enter Try.func28, Try.ntmps28
  go_upto_if 80 with (go_at_call 18; refine (impl_SmallestFor.calls k _ _ l0 a1 a2 i _ HR0.out HC0.out HI.out).mono ?_; rintro e w1 ⟨rfl, ⟨nd, rfl⟩⟩)
  go_quiet (fail)
  go_upto_if 80 with (fail)
  obtain ⟨s0, s1, b0, b1, b2, b3, b4, b5⟩ := six_blks (w.drewN (nd + nq)) (Obj.cells #[Value.int .i64 (wrap64 (a - a1)), Value.int .i64 a2] 3) (Obj.cells #[Value.int .i64 a, Value.int .i64 (wrap64 (b - a2))] 3) (Obj.cells #[Value.slice (some ⟨w.heap.size, 0, none⟩) 2 2, Value.slice (some ⟨w.heap.size + 1, 0, none⟩) 2 2] 40) (Obj.cells #[Value.int .i64 (wrap64 (a - a1)), Value.int .i64 b] 3) (Obj.cells #[Value.int .i64 a1, Value.int .i64 (wrap64 (b - a2))] 3) (Obj.cells #[Value.slice (some ⟨w.heap.size + 1 + 1 + 1, 0, none⟩) 2 2, Value.slice (some ⟨w.heap.size + 1 + 1 + 1 + 1, 0, none⟩) 2 2] 40)
  have sz : (w.drewN (nd + nq)).heap.size = w.heap.size := rfl
  rw [sz] at s0 s1 b0 b1 b2 b3 b4 b5
  replace s0 := below_then (pw_below_drewN (Below.refl w.heap.size w) (nd + nq)) (Nat.le_refl _) s0
  have S0 := Aside0.mk s0
  have S1 := Aside0.mk s1
  have B0 := Aside0.mk b0
  have B1 := Aside0.mk b1
  have B2 := Aside0.mk b2
  have B3 := Aside0.mk b3
  have B4 := Aside0.mk b4
  have B5 := Aside0.mk b5
  clear s0 s1 b0 b1 b2 b3 b4 b5 sz
  go_quiet (first | ((with_reducible refine (area_blk (p := [wrap64 (a - a1), b]) B3.out rfl X1.out).mono ?_); rintro e w' ⟨rfl, q, rfl⟩; exact ⟨rfl, _, World.drewN_drewN _ _ _⟩) | ((with_reducible refine (area_blk (p := [a1, wrap64 (b - a2)]) B4.out rfl X2.out).mono ?_); rintro e w' ⟨rfl, q, rfl⟩; exact ⟨rfl, _, World.drewN_drewN _ _ _⟩) | ((with_reducible refine (area_blk (p := [wrap64 (a - a1), a2]) B0.out rfl Y1.out).mono ?_); rintro e w' ⟨rfl, q, rfl⟩; exact ⟨rfl, _, World.drewN_drewN _ _ _⟩) | ((with_reducible refine (area_blk (p := [a, wrap64 (b - a2)]) B1.out rfl Y2.out).mono ?_); rintro e w' ⟨rfl, q, rfl⟩; exact ⟨rfl, _, World.drewN_drewN _ _ _⟩))
  go_upto_if 80 with (fail)
  (try simp only [Act.put, List.setIfInBounds_toArray, List.set_cons_zero, List.set_cons_succ])
  clear k0 k1 hx1
  go_cut [12] (fun v12 wc => ∃ (p0 p1 : List Int) (P g0 g1 : Nat), Aside0 (PiecesAt w wc v12 p0 p1 P g0 g1) ∧ Aside0 ([p0, p1] = pieces (rd_L1 l0 i) a1 a2))
  case first =>
    have hm : (mx (wrap64 (wrap64 (rd (rd_L1 l0 i) 0 - a1) * rd (rd_L1 l0 i) 1)) (wrap64 (a1 * wrap64 (rd (rd_L1 l0 i) 1 - a2))) > mx (wrap64 (wrap64 (rd (rd_L1 l0 i) 0 - a1) * a2)) (wrap64 (rd (rd_L1 l0 i) 0 * wrap64 (rd (rd_L1 l0 i) 1 - a2)))) = (s > t) := by
      rw [← HA.out, ← HB.out, ← hs, ← ht, ← X1.out, ← X2.out, ← Y1.out, ← Y2.out]
      rfl
    have HM := Aside0.mk hm
    clear hm
    by_cases c : s > t
    · have c1 : decide (t < s) = true := decide_eq_true c
      have HPP : Aside0 ([[wrap64 (a - a1), b], [a1, wrap64 (b - a2)]] = pieces (rd_L1 l0 i) a1 a2) := ⟨by unfold pieces piecesB; rw [if_pos (by rw [HM.out]; exact c), HA.out, HB.out]⟩
      clear c
      (first | rw [c1] | skip)
      go_wp2
      repeat (go_quiet (fail); try go_wp2)
      go_meet
      case rel => exact ⟨[wrap64 (a - a1), b], [a1, wrap64 (b - a2)], w.heap.size + 1 + 1 + 1 + 1 + 1, w.heap.size + 1 + 1 + 1, w.heap.size + 1 + 1 + 1 + 1, ⟨⟨rfl, B5.out, B3.out, B4.out, by omega, by omega, by omega, by have := S1.out; simp only [World.drewN] at this ⊢; omega, by have := S1.out; simp only [World.drewN] at this ⊢; omega, by have := S1.out; simp only [World.drewN] at this ⊢; omega, rfl, rfl, pw_below_drewN S0.out _⟩⟩, HPP⟩
    · have c1 : decide (t < s) = false := decide_eq_false c
      have HPP : Aside0 ([[wrap64 (a - a1), a2], [a, wrap64 (b - a2)]] = pieces (rd_L1 l0 i) a1 a2) := ⟨by unfold pieces piecesA; rw [if_neg (by rw [HM.out]; exact c), HA.out, HB.out]⟩
      clear c
      (first | rw [c1] | skip)
      go_wp2
      repeat (go_quiet (fail); try go_wp2)
      go_meet
      case rel => exact ⟨[wrap64 (a - a1), a2], [a, wrap64 (b - a2)], w.heap.size + 1 + 1, w.heap.size, w.heap.size + 1, ⟨⟨rfl, B2.out, B0.out, B1.out, by omega, by omega, by omega, by have := S1.out; simp only [World.drewN] at this ⊢; omega, by have := S1.out; simp only [World.drewN] at this ⊢; omega, by have := S1.out; simp only [World.drewN] at this ⊢; omega, rfl, rfl, pw_below_drewN S0.out _⟩⟩, HPP⟩
  case rest =>
    clear B0 B1 B2 B3 B4 B5 S0 S1 X1 X2 Y1 Y2 HA HB hs ht
    obtain ⟨p0, p1, P, g0, g1, HP, HPP⟩ := hcut
    have hv := HP.out.hv
    subst hv
    have h := H.out
    clear H
    replace h := Option.bind_eq_some_iff.1 h
    obtain ⟨o, ho, h⟩ := h
    replace h := Option.bind_eq_some_iff.1 h
    obtain ⟨d, hd, h⟩ := h
    have HO := Aside0.mk ho
    have HD := Aside0.mk hd
    clear ho hd
    by_cases c100 : d.length ≤ 100
    case neg => rw [if_neg c100] at h; cases h
    rw [if_pos c100] at h
    have HDL := Aside0.mk c100
    clear c100
    replace h := Option.bind_eq_some_iff.1 h
    obtain ⟨t, ht, h⟩ := h
    rw [← HPP.out] at ht h
    obtain ⟨R, hR⟩ : ∃ R, d ++ ([p0, p1] : List (List Int)).filter pieceGood = R := ⟨_, rfl⟩
    rw [hR] at ht h
    have HRR := Aside0.mk hR
    clear hR
    have HT := Aside0.mk ht
    have H := Aside0.mk h
    clear ht h HPP
    go_wp2_with (first | (go_at_call 46; refine (impl_copyLists.calls k _ _ l0 o _ (Kd.C_below HR0.out HP.out.below) HC0.out HO.out).mono ?_; rintro e w3 ⟨v3, rfl, hS, hb3⟩; have HS3 := Aside0.mk hS; have HB3 := Aside0.mk hb3; clear hS hb3) | (go_at_call 50; refine (slices_Delete_int_int.calls (fun k_ => wc.heap.size ≤ k_) _ o i (wrap64 (i + 1)) d wc _ HB3.out (Kd.S_mono (Kd.S_bound HS3.out) (fun _ hk => hk.2.1)) HD.out).mono ?_; rintro e w4 ⟨v4, rfl, hS4, hb4, hk4⟩; have HS4 := Aside0.mk hS4; have HB4 := Aside0.mk hb4; clear hS4 hb4 hk4))
    go_loopg [15, 91] 2 (fun gg v15 v91 w' => ∃ (j : Nat), v91 = .int .i64 j ∧ j ≤ 2 ∧ 2 - j ≤ gg ∧ Aside0 (TakeInv w w' P g0 g1 p0 p1 d v15 j))
    case atStart =>
      refine ⟨0, rfl, by omega, by omega, ⟨⟨?_, ?_, ?_, ?_, HP.out.ne, ?_, ?_, ?_, ?_⟩⟩⟩
      · refine Kd.S_mono (Kd.S_lower (by simpa using HS4.out) HP.out.below.size) (fun k_ hk => ?_)
        have hk' : wc.heap.size ≤ k_ := hk.elim id (fun z => Nat.le_trans HB3.out.size z)
        have e0 := HP.out.s0
        have e1 := HP.out.s1
        have eP := HP.out.sP
        exact ⟨fun j _ _ => by unfold two; split <;> omega, by omega⟩
      · intro j _ hj
        unfold two
        split
        · rw [HB4.out.block _ HP.out.s0]; exact HP.out.h0
        · rw [HB4.out.block _ HP.out.s1]; exact HP.out.h1
      · rw [HB4.out.block _ HP.out.sP]; exact HP.out.hP
      · exact below_then HP.out.below HP.out.below.size HB4.out
      · intro j _; unfold two; split
        · exact HP.out.b0
        · exact HP.out.b1
      · intro j _; unfold two; split
        · exact Nat.lt_of_lt_of_le HP.out.s0 HB4.out.size
        · exact Nat.lt_of_lt_of_le HP.out.s1 HB4.out.size
      · exact Nat.lt_of_lt_of_le HP.out.sP HB4.out.size
      · intro j _; unfold two; split
        · exact HP.out.l0
        · exact HP.out.l1
    case round =>
      clear HS3 HS4 HB3 HB4
      obtain ⟨j, rfl, hj2, hg, HI⟩ := hrel
      by_cases hlt : j < 2
      · have hltz : (j : Int) < 2 := by omega
        have hk : wr.cell? ⟨P, j, none⟩ = some (.slice (some ⟨two g0 g1 j, 0, none⟩) 2 2) := by
          have := HI.out.lit
          simp only [World.cell?, this]
          rcases (show j = 0 ∨ j = 1 by omega) with rfl | rfl <;> rfl
        have hrow := HI.out.rows j (Nat.le_refl _) hlt
        have hpl := HI.out.l j hlt
        obtain ⟨z, hz⟩ : ∃ z, pieceArea (two p0 p1 j) = z := ⟨_, rfl⟩
        have HZ := Aside0.mk hz
        have HPL := Aside0.mk hpl
        have HROW := Aside0.mk hrow
        clear hz hpl hrow
        obtain ⟨G, hG⟩ : ∃ G, G = two g0 g1 j := ⟨_, rfl⟩
        have HG := Aside0.mk hG
        rw [← hG] at hk
        have HROW2 : Aside0 (wr.heap[G]? = some (.cells ((two p0 p1 j).map (Value.int .i64)).toArray 3 (0, 0))) := ⟨by rw [hG]; exact HROW.out⟩
        clear hG HROW
        by_cases c1 : 0 < z
        · have hgood : pieceGood (two p0 p1 j) = true := by unfold pieceGood; rw [HZ.out]; simpa using c1
          have HGD := Aside0.mk hgood
          clear hgood
          have HN : Aside0 ((d ++ (([p0, p1] : List (List Int)).take j).filter pieceGood).length ≤ 102) := ⟨by
            have h1 := List.length_filter_le pieceGood (([p0, p1] : List (List Int)).take j)
            have h2 := List.length_take_le j ([p0, p1] : List (List Int))
            have h3 := HDL.out
            rw [List.length_append]
            omega⟩
          go_wp2_with (first | (go_at_fn 49; (with_reducible refine (area_blk HROW2.out HPL.out HZ.out).mono ?_); rintro e w5 ⟨rfl, q, rfl⟩; have HI1 := Aside0.mk (TakeInv.drewN HI.out q); have HROW3 : Aside0 ((wr.drewN q).heap[G]? = some (.cells ((two p0 p1 j).map (Value.int .i64)).toArray 3 (0, 0))) := ⟨HROW2.out⟩; clear HI HROW2) | ((with_reducible refine gate_builtin (b := .append) (xs := #[.tmp 99, .tmp 101]) rfl ?_); at_builtin; refine Kd.S_append (Kd.slice 3 (Kd.int .i64)) (w0 := w) w.heap.size rfl (.tmp 99) (.tmp 101) 22 40 (.slice none 0 0) 24 rfl Try.underlying22 info40 rfl (by decide) (by omega) u15 (d ++ (([p0, p1] : List (List Int)).take j).filter pieceGood) (two p0 p1 j) [.slice (some ⟨G, 0, none⟩) 2 2] (fun k => (∀ j', j + 1 ≤ j' → j' < 2 → k ≠ two g0 g1 j') ∧ k ≠ P) (fun k_ => k_ = G) rfl rfl ?aP ?aK ?aF ?aO ?aB ?aS ?aL ?_; (case aP => have h0 := Kd.M_row (blk2_row (base := w.heap.size) HROW3.out (by rw [HG.out]; exact HI1.out.b j hlt) (by rw [HPL.out]; decide)); rw [HPL.out] at h0; exact h0); (case aB => exact HI1.out.below); (case aK => intro k_ hk_; subst hk_; have h0 := HG.out; have h1 := ((Kd.S_R HI1.out.hS).1); exact ⟨⟨fun j' e1 e2 e3 => by have e4 := two_inj HI1.out.ne hlt e2 (h0.symm.trans e3); omega, fun e3 => by have e4 := HI1.out.rows j (Nat.le_refl _) hlt; have e5 := HI1.out.lit; rw [← h0, e3, e5] at e4; have e6 := Option.some.inj e4; injection e6 with e7 e8; exact absurd e8 (by decide)⟩, fun e_ => (h1 _ e_.symm).1 j (Nat.le_refl _) hlt h0⟩); (case aF => intro k_ hk_; have h1 := HI1.out.sP; exact ⟨fun j' _ e2 => by have := HI1.out.s j' e2; omega, by omega⟩); (case aO => exact Kd.S_mono HI1.out.hS (fun k_ hk_ => ⟨⟨fun j' h1 h2 => hk_.1 j' (by omega) h2, hk_.2⟩, fun e_ => hk_.1 j (Nat.le_refl _) hlt (by rw [e_]; exact HG.out)⟩)); (case aS => exact HI1.out.below.size); (case aL => have := HN.out; omega); intro v1 w2 ho hb hgr hat; have HI2 : Aside0 (TakeInv w w2 P g0 g1 p0 p1 d v1 (j + 1)) := ⟨⟨by rw [two_take hlt, if_pos HGD.out, ← List.append_assoc]; exact ho, fun j' h1 h2 => (hgr.block _ (by have := HI1.out.s j' h2; exact this) (fun e_ => ((Kd.S_R HI1.out.hS).1 _ e_.symm).1 j' (by omega) h2 rfl)).trans (HI1.out.rows j' (by omega) h2), (hgr.block _ (by have := HI1.out.sP; exact this) (fun e_ => ((Kd.S_R HI1.out.hS).1 _ e_.symm).2 rfl)).trans HI1.out.lit, hb, HI1.out.ne, HI1.out.b, fun j' h2 => Nat.lt_of_lt_of_le (HI1.out.s j' h2) hgr.size, Nat.lt_of_lt_of_le HI1.out.sP hgr.size, HI1.out.l⟩⟩; clear HI1 ho hb hgr hat HROW3))
          go_roundg (2 - (j + 1))
          case measure => omega
          case rel => exact ⟨j + 1, by go_num, by omega, by omega, HI2⟩
        · have hgood : pieceGood (two p0 p1 j) = false := by unfold pieceGood; rw [HZ.out]; simpa using c1
          have HGD := Aside0.mk hgood
          clear hgood
          go_wp2_with (go_at_fn 49; (with_reducible refine (area_blk HROW2.out HPL.out HZ.out).mono ?_); rintro e w5 ⟨rfl, q, rfl⟩; have HI1 := Aside0.mk (TakeInv.drewN HI.out q); have HROW3 : Aside0 ((wr.drewN q).heap[G]? = some (.cells ((two p0 p1 j).map (Value.int .i64)).toArray 3 (0, 0))) := ⟨HROW2.out⟩; clear HI HROW2)
          go_roundg (2 - (j + 1))
          case measure => omega
          case rel => exact ⟨j + 1, by go_num, by omega, by omega, ⟨HI1.out.skip hlt HGD.out⟩⟩
      · have hltz : ¬ (j : Int) < 2 := by omega
        obtain rfl : j = 2 := by omega
        have HS := HI.out.hS
        rw [show (([p0, p1] : List (List Int)).take 2) = [p0, p1] from rfl, HRR.out] at HS
        have HS2 := Aside0.mk HS
        have HB2 := Aside0.mk HI.out.below
        obtain ⟨A5, c5, rfl⟩ := Kd.S_slice HS
        clear HS HI
        have h := H.out
        clear H
        by_cases ct : t = true
        · subst ct
          rw [if_pos rfl] at h
          simp only [Option.some.injEq, Prod.mk.injEq] at h
          obtain ⟨rfl, rfl, rfl⟩ := h
          go_wp2_with (go_at_call 15; refine (impl_StoreOk.calls _ _ R true _ (Kd.S_reads' HS2.out).2.2 (Kd.S_reads' HS2.out).2.1 HT.out).mono ?_; rintro e w5 ⟨rfl, ⟨q, rfl⟩⟩)
          go_ret3
          exact ⟨_, rfl, Kd.S_mono (Kd.S_step HS2.out (fun _ _ _ => rfl)) (fun _ _ => trivial), pw_below_drewN HB2.out _⟩
        · rw [if_neg ct] at h
          obtain rfl : t = false := by simpa using ct
          clear ct
          simp only [Option.some.injEq, Prod.mk.injEq] at h
          obtain ⟨rfl, rfl, rfl⟩ := h
          go_wp2_with (go_at_call 15; refine (impl_StoreOk.calls _ _ R false _ (Kd.S_reads' HS2.out).2.2 (Kd.S_reads' HS2.out).2.1 HT.out).mono ?_; rintro e w5 ⟨rfl, ⟨q, rfl⟩⟩)
          go_ret3
          exact ⟨_, rfl, Kd.S_nil _ _ _ _ _, pw_below_drewN HB2.out _⟩
end Go.Proofs.Ytebjpafnfmmjeaa.PA
-- Written for this claim by a program of this session's (ownprint.py), by way of the kit's print and hand-proved texts. Lean checks it.
namespace Go.Proofs.Ytebjpafnfmmjeaa.PA
open Go.RowKit Go.Proofs.YtebjpafnfmmjeaaW.PrintWords Go.Proofs.YtebjpafnfmmjeaaW.PrintLast Go.Proofs.YtebjpafnfmmjeaaW.PrintMore
attribute [local go_sem] max2_int min2_int max_two min_two max_three min_three max_four min_four   -- for this text's walks alone
set_option linter.unusedVariables false
set_option linter.unusedSimpArgs false
def impl_TakeAll_1.f (l0 : List Int) : Option (Bool) := some ((l0.length : Int) != 2)
set_option maxHeartbeats 8000000 in
set_option maxRecDepth 100000 in
theorem impl_TakeAll_1.calls (A0 : Option Addr) (c0 : Nat) (l0 : List Int) (r : Bool) (w : World) (hr0 : Kd.C (Kd.int .i64) w A0 l0.length l0) (hc0 : l0.length ≤ c0) (h : impl_TakeAll_1.f l0 = some r) :
    Calls Try.prog 51 #[.slice A0 l0.length c0] w fun e w' => e = .returned (.bool r) ∧ Drawn0 w w' := by
  have HR0 := Aside0.mk hr0
  have HC0 := Aside0.mk hc0
  clear hr0 hc0
  have H : (some ((l0.length : Int) != 2)) = some r := h
  clear h
  obtain rfl := Option.some.inj H
  go_enter Try.func51, Try.ntmps51
  go_wp2
  go_ret
  exact ⟨by first | rfl | (simp; done) | (simp [*]; done), by repeat (first | exact Drawn0.refl _ | apply Drawn0.step)⟩
end Go.Proofs.Ytebjpafnfmmjeaa.PA
-- Written for this claim by a program of this session's (ownprint.py), by way of the kit's print and hand-proved texts. Lean checks it.
namespace Go.Proofs.Ytebjpafnfmmjeaa.PA
open Go.RowKit Go.Proofs.YtebjpafnfmmjeaaW.PrintWords Go.Proofs.YtebjpafnfmmjeaaW.PrintLast Go.Proofs.YtebjpafnfmmjeaaW.PrintMore
attribute [local go_sem] max2_int min2_int max_two min_two max_three min_three max_four min_four   -- for this text's walks alone
set_option linter.unusedVariables false
set_option linter.unusedSimpArgs false
/-- slices.ContainsFunc(pieces, impl.TakeAll's literal): is there a row that has not two elements? -/
def badLen (p : List Int) : Bool := !decide (p.length = 2)
def ANYBAD.f (l0 : List (List Int)) : Option (Bool) := some (l0.any badLen)
theorem impl_TakeAll_1_eq (l : List Int) : impl_TakeAll_1.f l = some (badLen l) := by
  unfold impl_TakeAll_1.f badLen
  congr 1
  by_cases h : l.length = 2 <;> simp [h] <;> omega
theorem ANYBAD.calls (A0 : Option Addr) (c0 : Nat) (l0 : List (List Int)) (r : Bool) (w : World) (hr0 : Kd.C (Kd.slice 3 (Kd.int .i64)) w A0 l0.length l0) (hc0 : l0.length ≤ c0) (h : ANYBAD.f l0 = some r) :
    Calls Try.prog 39 #[.slice A0 l0.length c0, .func (.func 51) #[] #[]] w fun e w' => e = .returned (.bool r) ∧ Drawn0 w w' := by
  have eg : ∀ args w, (callFunc 51 args).run Try.prog w = .ok (.enter 51 args) w := enters_of Try.func51 (by kernel_rfl) rfl
  have hc := slices_ContainsFunc_rows.calls badLen 51 #[] eg A0 c0 l0 w
    (fun q A1 c1 x hC hc1 _ => (impl_TakeAll_1.calls A1 c1 x (badLen x) _ hC hc1 (impl_TakeAll_1_eq x)).mono (fun e w' h1 => ⟨h1.1, h1.2.out⟩)) hr0
  obtain rfl := Option.some.inj (show some (l0.any badLen) = some r from h)
  exact hc.mono fun e w' h1 => ⟨h1.1, ⟨h1.2⟩⟩
mutual
def impl_TakeAll.j0 : Nat → List (List Int) → List (List Int) → Bool → Option ((List (List Int)) × Int)
  | 0, _, _, _ => none
  | k + 1, x0, x1, x24 => if x24 = true then (some (([] : List (List Int)), (-1))) else ((impl_copyLists.f k x0).bind fun t363 => (impl_TakeAll.l0 k t363 0 x1 (x1.length : Int) 0))
def impl_TakeAll.l0 : Nat → List (List Int) → Int → List (List Int) → Int → Int → Option ((List (List Int)) × Int)
  | 0, _, _, _, _, _ => none
  | k + 1, x6, x7, x27, x28, x29 => if x29 < x28 then (if 0 ≤ x29 then (if x29 < (x27.length : Int) then (if 0 < ((rd_L1 x27 x29).length : Int) then (if 1 < ((rd_L1 x27 x29).length : Int) then ((impl_TakePiece.f k x6 (rd (rd_L1 x27 x29) 0) (rd (rd_L1 x27 x29) 1)).bind fun bt369 => (if bt369.2.2 = true then (impl_TakeAll.l0 k bt369.1 (wrap64 (x7 + 1)) x27 x28 (wrap64 (x29 + 1))) else (impl_TakeAll.l0 k x6 x7 x27 x28 (wrap64 (x29 + 1))))) else (none)) else (none)) else (none)) else (none)) else (some (x6, x7))
end
def impl_TakeAll.f (k : Nat) (l0 : List (List Int)) (l1 : List (List Int)) : Option ((List (List Int)) × Int) := (impl_StoreOk.f l0).bind fun t361 => (if t361 = true then (if (l1.length : Int) > 20 then (impl_TakeAll.j0 k l0 l1 true) else ((ANYBAD.f l1).bind fun t362 => (impl_TakeAll.j0 k l0 l1 t362))) else (impl_TakeAll.j0 k l0 l1 true))
def impl_TakeAll.T7 : Bool × List (List Nat × List Nat) := (true, [([], []), ([], []), ([1], [1]), ([2], [2]), ([], []), ([4], [4]), ([5], [5]), ([0, 3, 6], [0, 3, 6]), ([7], [7]), ([8], [8]), ([8], [8]), ([8], [8]), ([9, 7, 0, 1, 2, 3, 4, 5, 6, 7, 8, 9], [9]), ([10, 12, 0, 1, 2, 3, 4, 5, 6, 7, 8, 9, 10, 12], [10]), ([11, 13, 0, 1, 2, 3, 4, 5, 6, 7, 8, 9, 10, 11, 12, 13], [11])])
def impl_TakeAll.B7 : List Nat := [0, 0, 2, 6, 0, 16, 48, 127, 255, 511, 511, 511, 1023, 6143, 16383]
theorem impl_TakeAll.tab7 : rtab .any (opsOf Try.f30 7) = impl_TakeAll.T7 := by kernel_rfl
theorem impl_TakeAll.bits7 : waitsOk impl_TakeAll.T7.2 impl_TakeAll.B7 = true := by kernel_rfl
set_option maxHeartbeats 8000000 in
set_option maxRecDepth 100000 in
theorem impl_TakeAll.calls (k : Nat) (A0 : Option Addr) (c0 : Nat) (l0 : List (List Int)) (A1 : Option Addr) (c1 : Nat) (l1 : List (List Int)) (r1 : List (List Int)) (r2 : Int) (w : World) (hr0 : Kd.C (Kd.slice 3 (Kd.int .i64)) w A0 l0.length l0) (hc0 : l0.length ≤ c0) (hr1 : Kd.C (Kd.slice 3 (Kd.int .i64)) w A1 l1.length l1) (hc1 : l1.length ≤ c1) (h : impl_TakeAll.f k l0 l1 = some (r1, r2)) :
    Calls Try.prog 30 #[.slice A0 l0.length c0, .slice A1 l1.length c1] w fun e w' => ∃ v0_ : Value, e = .returned (.tuple #[v0_, .int .i64 r2]) ∧ Kd.S (Kd.slice 3 (Kd.int .i64)) 40 w' w.heap.size (fun _ => True) v0_ r1 ∧ Below w.heap.size w w' := by
  have HR0 := Aside0.mk hr0
  have HC0 := Aside0.mk hc0
  clear hr0 hc0
  have HR1 := Aside0.mk hr1
  have HC1 := Aside0.mk hc1
  clear hr1 hc1
  have HB := Aside0.mk (Below.refl w.heap.size w)
  have H : ((impl_StoreOk.f l0).bind fun t361 => (if t361 = true then (if (l1.length : Int) > 20 then (impl_TakeAll.j0 k l0 l1 true) else ((ANYBAD.f l1).bind fun t362 => (impl_TakeAll.j0 k l0 l1 t362))) else (impl_TakeAll.j0 k l0 l1 true))) = some (r1, r2) := h
  clear h
  have HC3 := Aside0.mk H
  clear H
  go_enter Try.func30, Try.ntmps30
  go_upto_region 1 with (fail)
  go_cut [24] (fun v24 wc => ∃ (kq : Nat) (x24_2 : Bool), v24 = .bool x24_2 ∧ Aside0 (impl_TakeAll.j0 kq l0 l1 x24_2 = some (r1, r2)) ∧ Aside0 (kq ≤ k) ∧ Aside0 (Below w.heap.size w wc))
  case first =>
    have H := HC3.out
    clear HC3
    replace H := Option.bind_eq_some_iff.mp H
    obtain ⟨t361, A40, H⟩ := H
    replace H : (if t361 = true then (if (l1.length : Int) > 20 then (impl_TakeAll.j0 k l0 l1 true) else ((ANYBAD.f l1).bind fun t362 => (impl_TakeAll.j0 k l0 l1 t362))) else (impl_TakeAll.j0 k l0 l1 true)) = some (r1, r2) := H
    have A4 := Aside0.mk A40
    clear A40
    by_cases c5 : t361 = true
    · subst c5
      have H1 : (if (l1.length : Int) > 20 then (impl_TakeAll.j0 k l0 l1 true) else ((ANYBAD.f l1).bind fun t362 => (impl_TakeAll.j0 k l0 l1 t362))) = some (r1, r2) := by rw [if_pos rfl] at H; exact H
      clear H
      have H := H1
      clear H1
      by_cases c6 : (l1.length : Int) > 20
      · rw [if_pos c6] at H
        have c6b0 : decide (20 < (l1.length : Int)) = true := decide_eq_true c6
        have c6b1 : decide (20 < l1.length) = true := decide_eq_true (by omega)
        clear c6
        (first | rw [c6b0] | (simp only [i64_w, i32_w]; rw [c6b0]) | skip)
        have H' := Aside0.mk H
        clear H
        go_wp2_with (first | ((with_reducible refine gate_callee (f := 15) rfl ?_); refine goesL_ (some 14) rfl rfl Try.func15 (by kernel_rfl) rfl #[.slice A0 l0.length c0] rfl (by (try simp only [List.map_toArray, List.map_cons, List.map_nil]); first | done | rfl | (simp only [List.length_drop, List.length_take]; rfl)) ?_; (with_reducible refine (impl_StoreOk.calls _ _ l0 true _ ?side1 ?side2 A4.out).mono ?_); (case side1 => repeat (first | exact (Kd.C_below HR0.out HB.out) | (with_reducible refine Kd.C_alloc ?_ _) | (with_reducible refine Kd.C_drewN ?_ _) | (with_reducible refine Kd.C_drew ?_))); (case side2 => exact HC0.out); rintro e w' ⟨rfl, ⟨nd, rfl⟩⟩; refine ⟨_, rfl, ?_⟩))
        go_meet
        case rel => exact ⟨_, (true), (by first | rfl | (simp; done) | (simp [*]; done)), H', ⟨by first | omega | exact Nat.le_refl _⟩, ⟨by repeat (first | (with_reducible first | exact HB.out | apply below_alloc | apply pw_below_drewN | apply below_drew1) | exact HB.out)⟩⟩
      · rw [if_neg c6] at H
        have c6b0 : decide (20 < (l1.length : Int)) = false := decide_eq_false c6
        have c6b1 : decide (20 < l1.length) = false := decide_eq_false (by omega)
        clear c6
        (first | rw [c6b0] | (simp only [i64_w, i32_w]; rw [c6b0]) | skip)
        replace H := Option.bind_eq_some_iff.mp H
        obtain ⟨t362, A70, H⟩ := H
        replace H : (impl_TakeAll.j0 k l0 l1 t362) = some (r1, r2) := H
        have A7 := Aside0.mk A70
        clear A70
        have H' := Aside0.mk H
        clear H
        go_wp2_with (first | ((with_reducible refine gate_callee (f := 15) rfl ?_); refine goesL_ (some 14) rfl rfl Try.func15 (by kernel_rfl) rfl #[.slice A0 l0.length c0] rfl (by (try simp only [List.map_toArray, List.map_cons, List.map_nil]); first | done | rfl | (simp only [List.length_drop, List.length_take]; rfl)) ?_; (with_reducible refine (impl_StoreOk.calls _ _ l0 true _ ?side1 ?side2 A4.out).mono ?_); (case side1 => repeat (first | exact (Kd.C_below HR0.out HB.out) | (with_reducible refine Kd.C_alloc ?_ _) | (with_reducible refine Kd.C_drewN ?_ _) | (with_reducible refine Kd.C_drew ?_))); (case side2 => exact HC0.out); rintro e w' ⟨rfl, ⟨nd, rfl⟩⟩; refine ⟨_, rfl, ?_⟩) | (go_at_call 39; (with_reducible refine (ANYBAD.calls _ _ l1 t362 _ ?side1 ?side2 A7.out).mono ?_); (case side1 => repeat (first | exact (Kd.C_below HR1.out (by repeat (first | (with_reducible first | exact HB.out | apply below_alloc | apply pw_below_drewN | apply below_drew1) | exact HB.out))) | (with_reducible refine Kd.C_alloc ?_ _) | (with_reducible refine Kd.C_drewN ?_ _) | (with_reducible refine Kd.C_drew ?_))); (case side2 => exact HC1.out); rintro e w' ⟨rfl, ⟨nd, rfl⟩⟩))
        go_meet
        case rel => exact ⟨_, (t362), (by first | rfl | (simp; done) | (simp [*]; done)), H', ⟨by first | omega | exact Nat.le_refl _⟩, ⟨by repeat (first | (with_reducible first | exact HB.out | apply below_alloc | apply pw_below_drewN | apply below_drew1) | exact HB.out)⟩⟩
    · replace c5 := Bool.eq_false_iff.mpr c5
      subst c5
      have H1 : (impl_TakeAll.j0 k l0 l1 true) = some (r1, r2) := by rw [if_neg (show ¬ (false = true) by decide)] at H; exact H
      clear H
      have H := H1
      clear H1
      have H' := Aside0.mk H
      clear H
      go_wp2_with (first | ((with_reducible refine gate_callee (f := 15) rfl ?_); refine goesL_ (some 14) rfl rfl Try.func15 (by kernel_rfl) rfl #[.slice A0 l0.length c0] rfl (by (try simp only [List.map_toArray, List.map_cons, List.map_nil]); first | done | rfl | (simp only [List.length_drop, List.length_take]; rfl)) ?_; (with_reducible refine (impl_StoreOk.calls _ _ l0 false _ ?side1 ?side2 A4.out).mono ?_); (case side1 => repeat (first | exact (Kd.C_below HR0.out HB.out) | (with_reducible refine Kd.C_alloc ?_ _) | (with_reducible refine Kd.C_drewN ?_ _) | (with_reducible refine Kd.C_drew ?_))); (case side2 => exact HC0.out); rintro e w' ⟨rfl, ⟨nd, rfl⟩⟩; refine ⟨_, rfl, ?_⟩))
      go_meet
      case rel => exact ⟨_, (true), (by first | rfl | (simp; done) | (simp [*]; done)), H', ⟨by first | omega | exact Nat.le_refl _⟩, ⟨by repeat (first | (with_reducible first | exact HB.out | apply below_alloc | apply pw_below_drewN | apply below_drew1) | exact HB.out)⟩⟩
  case rest =>
    clear HC3
    try clear c1
    try clear p2
    try clear c3
    try clear c5
    try clear c6
    try clear c6b0
    try clear c6b1
    obtain ⟨kq, x24_2, rfl, HA, HJ2, HB⟩ := hcut
    cases kq with
    | zero => exact absurd HA.out (by simp [impl_TakeAll.j0])
    | succ kj2 =>
      have H := HA.out
      clear HA
      simp only [impl_TakeAll.j0] at H
      by_cases c8 : x24_2 = true
      · subst c8
        have H1 : (some (([] : List (List Int)), (-1))) = some (r1, r2) := by rw [if_pos rfl] at H; exact H
        clear H
        have H := H1
        clear H1
        simp only [Option.some.injEq, Prod.mk.injEq] at H
        obtain ⟨rfl, rfl⟩ := H
        go_wp2
        go_ret2
        exact ⟨_, by first | rfl | (simp [errW_none, errW_some] <;> rfl) | (simp [*, errW_none, errW_some] <;> rfl), by first | exact Kd.S_nil _ _ _ _ _ | exact Kd.N_nil _ _ _ _ _ | exact Kd.V_nil _ _ _ _ _ | exact Kd.Q_nil _ _ _ _ _ | exact Kd.R_nil _ _ _ _ _, by repeat (first | (with_reducible first | exact HB.out | apply below_alloc | apply pw_below_drewN | apply below_drew1) | exact HB.out)⟩
      · replace c8 := Bool.eq_false_iff.mpr c8
        subst c8
        have H1 : ((impl_copyLists.f kj2 l0).bind fun t363 => (impl_TakeAll.l0 kj2 t363 0 l1 (l1.length : Int) 0)) = some (r1, r2) := by rw [if_neg (show ¬ (false = true) by decide)] at H; exact H
        clear H
        have H := H1
        clear H1
        replace H := Option.bind_eq_some_iff.mp H
        obtain ⟨t363, A90, H⟩ := H
        replace H : (impl_TakeAll.l0 kj2 t363 0 l1 (l1.length : Int) 0) = some (r1, r2) := H
        have A9 := Aside0.mk A90
        clear A90
        have H' := Aside0.mk H
        clear H
        go_wp2_with (first | ((with_reducible refine gate_callee (f := 46) rfl ?_); refine goesL_ (some 26) rfl rfl Try.func46 (by kernel_rfl) rfl #[.slice A0 l0.length c0] rfl (by (try simp only [List.map_toArray, List.map_cons, List.map_nil]); first | done | rfl | (simp only [List.length_drop, List.length_take]; rfl)) ?_; (with_reducible refine (impl_copyLists.calls kj2 _ _ l0 t363 _ ?side1 ?side2 A9.out).mono ?_); (case side1 => repeat (first | exact (Kd.C_below HR0.out HB.out) | (with_reducible refine Kd.C_alloc ?_ _) | (with_reducible refine Kd.C_drewN ?_ _) | (with_reducible refine Kd.C_drew ?_))); (case side2 => exact HC0.out); rintro e w10 ⟨v364, rfl, ho0, hb⟩; refine ⟨_, rfl, ?_⟩; have n0_ := Aside0.mk (Kd.S_lower ho0 (below_size (by repeat (first | (with_reducible first | exact HB.out | apply below_alloc | apply pw_below_drewN | apply below_drew1) | exact HB.out)))); have n1_ := Aside0.mk (below_step (by repeat (first | (with_reducible first | exact HB.out | apply below_alloc | apply pw_below_drewN | apply below_drew1) | exact HB.out)) hb); clear HB; have HO365 := n0_; have HB := n1_; clear n0_ n1_; (try clear hb); (try clear hb2); (try clear hk); (try clear hi); (try clear ho0)))
        go_loopg [6, 7, 29] kj2 (fun kq v6 v7 v29 w' => ∃ (x6_2 : List (List Int)) (x7_2 : Int) (x29_2 : Int), v7 = .int .i64 x7_2 ∧ v29 = .int .i64 x29_2 ∧ Aside0 (impl_TakeAll.l0 kq x6_2 x7_2 l1 (l1.length : Int) x29_2 = some (r1, r2)) ∧ Aside0 (kq ≤ kj2) ∧ Aside0 (Kd.S (Kd.slice 3 (Kd.int .i64)) 40 w' w.heap.size (fun _ => True) v6 x6_2) ∧ Aside0 (Below w.heap.size w w'))
        case atStart => exact ⟨(t363), (0), (0), (by first | rfl | (simp; done) | (simp [*]; done)), (by first | rfl | (simp; done) | (simp [*]; done)), H', ⟨Nat.le_refl _⟩, ⟨by (with_reducible repeat (first | apply Kd.S_alloc | apply Kd.S_drewN | apply Kd.S_drew)); exact HO365.out⟩, ⟨by repeat (first | (with_reducible first | exact HB.out | apply below_alloc | apply pw_below_drewN | apply below_drew1) | exact HB.out)⟩⟩
        case round =>
          clear H'
          try clear c1
          try clear p2
          try clear c3
          try clear c4
          try clear c5
          try clear c6
          try clear c6b0
          try clear c6b1
          try clear c8
          try clear p2
          obtain ⟨x6_2, x7_2, x29_2, rfl, rfl, HA, HK2, HO_6, HB⟩ := hrel
          cases gk with
          | zero => exact absurd HA.out (by simp [impl_TakeAll.l0])
          | succ k2 =>
            have H := HA.out
            clear HA
            simp only [impl_TakeAll.l0] at H
            by_cases c11 : x29_2 < (l1.length : Int)
            · rw [if_pos c11] at H
              have c11b0 : decide (x29_2 < (l1.length : Int)) = true := decide_eq_true c11
              clear c11
              by_cases c12 : 0 ≤ x29_2
              · rw [if_pos c12] at H
                have c12b0 : decide (0 ≤ x29_2) = true := decide_eq_true c12
                clear c12
                by_cases c13 : x29_2 < (l1.length : Int)
                · rw [if_pos c13] at H
                  have c13b0 : decide (x29_2 < (l1.length : Int)) = true := decide_eq_true c13
                  clear c13
                  by_cases c14 : 0 < ((rd_L1 l1 x29_2).length : Int)
                  · rw [if_pos c14] at H
                    have c14b0 : decide (0 < ((rd_L1 l1 x29_2).length : Int)) = true := decide_eq_true c14
                    have c14b1 : decide (0 < (rd_L1 l1 x29_2).length) = true := decide_eq_true (by omega)
                    clear c14
                    by_cases c15 : 1 < ((rd_L1 l1 x29_2).length : Int)
                    · rw [if_pos c15] at H
                      have c15b0 : decide (1 < ((rd_L1 l1 x29_2).length : Int)) = true := decide_eq_true c15
                      have c15b1 : decide (1 < (rd_L1 l1 x29_2).length) = true := decide_eq_true (by omega)
                      clear c15
                      replace H := Option.bind_eq_some_iff.mp H
                      obtain ⟨⟨t369, t370, t371⟩, A160, H⟩ := H
                      replace H : (if t371 = true then (impl_TakeAll.l0 k2 t369 (wrap64 (x7_2 + 1)) l1 (l1.length : Int) (wrap64 (x29_2 + 1))) else (impl_TakeAll.l0 k2 x6_2 x7_2 l1 (l1.length : Int) (wrap64 (x29_2 + 1)))) = some (r1, r2) := H
                      have A16 := Aside0.mk A160
                      clear A160
                      by_cases c17 : t371 = true
                      · subst c17
                        have H1 : (impl_TakeAll.l0 k2 t369 (wrap64 (x7_2 + 1)) l1 (l1.length : Int) (wrap64 (x29_2 + 1))) = some (r1, r2) := by rw [if_pos rfl] at H; exact H
                        clear H
                        have H := H1
                        clear H1
                        have H' := Aside0.mk H
                        clear H
                        have p366 : 0 ≤ (x29_2 : Int) := of_decide_eq_true (by first | (with_reducible assumption) | assumption)
                        have q366 : x29_2 < (l1.length : Int) := of_decide_eq_true (by first | (with_reducible assumption) | assumption)
                        obtain ⟨ad366, A366_0, c366_0, e366, hx366_0, hl366_0, hi366_0⟩ := at_L1 HR1.out x29_2 p366 q366
                        cases e366
                        replace hx366_0 := (HB.out.cell (World.block_lt_of_cell? w _ hx366_0)).trans hx366_0
                        have HR366_0 := Aside0.mk hi366_0
                        have HC366_0 := Aside0.mk hl366_0
                        clear hi366_0 hl366_0
                        replace p366 := eq_true p366
                        replace q366 := eq_true q366
                        try go_wp2
                        have n0_ := Aside0.mk (Kd.S_drew HO_6.out)
                        have n1_ := Aside0.mk (below_drew1 HB.out)
                        clear HO_6
                        clear HB
                        have HO_6 := n0_
                        have HB := n1_
                        clear n0_ n1_
                        have p367 : 0 ≤ (0 : Int) := (by omega)
                        have q367 : 0 < ((rd_L1 l1 x29_2).length : Int) := of_decide_eq_true (by first | (with_reducible assumption) | assumption)
                        obtain ⟨ad367, e367, hx367_0⟩ := Kd.at_int HR366_0.out 0 p367 q367
                        have hw367_0 := hx367_0
                        (try rw [show ((0 : Int)).toNat = 0 from rfl] at hw367_0)
                        (try rw [show 0 * 1 = 0 from rfl] at hw367_0)
                        (try rw [Addr.add_zero'] at hw367_0)
                        cases e367
                        have qi367 : (0 < (rd_L1 l1 x29_2).length) = True := eq_true (by omega)
                        (try rw [show ((0 : Int)).toNat = 0 from rfl] at hx367_0)
                        (try rw [Addr.add_zero'] at hx367_0)
                        replace hx367_0 := (HB.out.cell (World.block_lt_of_cell? w _ hx367_0)).trans hx367_0
                        replace p367 := eq_true p367
                        replace q367 := eq_true q367
                        have p368 : 0 ≤ (1 : Int) := (by omega)
                        have q368 : 1 < ((rd_L1 l1 x29_2).length : Int) := of_decide_eq_true (by first | (with_reducible assumption) | assumption)
                        obtain ⟨ad368, e368, hx368_0⟩ := Kd.at_int HR366_0.out 1 p368 q368
                        have hw368_0 := hx368_0
                        (try rw [show ((1 : Int)).toNat = 1 from rfl] at hw368_0)
                        (try rw [show 1 * 1 = 1 from rfl] at hw368_0)
                        (try simp only [Nat.reduceMul, Nat.reduceEqDiff, Go.Addr.add, ↓reduceIte] at hw368_0)
                        obtain rfl : ad367 = ad368 := (by injection e368)
                        (try simp only [show (1 : Int).toNat = 1 from rfl, Nat.reduceMul, Nat.reduceEqDiff, Go.Addr.add, ↓reduceIte] at hx368_0)
                        have qi368 : (1 < (rd_L1 l1 x29_2).length) = True := eq_true (by omega)
                        (try rw [show ((1 : Int)).toNat = 1 from rfl] at hx368_0)
                        replace hx368_0 := (HB.out.cell (World.block_lt_of_cell? w _ hx368_0)).trans hx368_0
                        replace p368 := eq_true p368
                        replace q368 := eq_true q368
                        obtain ⟨Ao19, co19, eo19⟩ := Kd.S_slice HO_6.out
                        (first | subst eo19 | (injection eo19 with f1_ f2_ f3_; have f4_ := f1_.symm; have f5_ := f3_.symm; clear f1_ f2_ f3_; subst f4_; subst f5_))
                        refine start_ (n := 15) (S := fun w' => w'.cell? ad367 = some (.int .i64 (rd (rd_L1 l1 x29_2) 0)) ∧ w'.cell? ⟨ad367.block, ad367.off + 1, none⟩ = some (.int .i64 (rd (rd_L1 l1 x29_2) 1))) (ds := []) #[false, false, false, false, false, false, false, false, false, false, false, false, false, false, false] (by kernel_rfl) rfl rfl ⟨((HB.out.cell (World.block_lt_of_cell? w _ hw367_0)).trans hw367_0), ((HB.out.cell (World.block_lt_of_cell? w _ hw368_0)).trans hw368_0)⟩ (fun hHeld => ?_); refine with_tabW impl_TakeAll.tab7 impl_TakeAll.bits7 (fun HT_ HW_ => ?_)
                        generalize wr.drew = w18 at HO_6 HB hx367_0 hx368_0 hHeld ⊢
                        refine pure_ (i := 0) (N := some 34) (v := ?_) (a' := ?_) #[true, false, false, false, false, false, false, false, false, false, false, false, false, false, false] rfl rfl (any_of HT_.out (by kernel_rfl)) (fun _ _ _ h => h) (Or.inl ⟨by rfl, ?_⟩) ?_ ?_
                        rotate_left
                        · intro w'
                          go_simp
                          with_reducible rfl
                        rotate_left
                        · simp only [Act.put, List.setIfInBounds_toArray, List.set_cons_zero, List.set_cons_succ, i64_w, i32_w]
                          rfl
                        refine pure_ (i := 1) (N := some 35) (v := ?_) (a' := ?_) #[true, true, false, false, false, false, false, false, false, false, false, false, false, false, false] rfl rfl (any_of HT_.out (by kernel_rfl)) (fun _ _ _ h => h) (Or.inl ⟨by rfl, ?_⟩) ?_ ?_
                        rotate_left
                        · intro w'
                          go_simp
                          with_reducible rfl
                        rotate_left
                        · simp only [Act.put, List.setIfInBounds_toArray, List.set_cons_zero, List.set_cons_succ, i64_w, i32_w]
                          rfl
                        refine pure_ (i := 2) (N := some 36) (v := ?_) (a' := ?_) #[true, true, true, false, false, false, false, false, false, false, false, false, false, false, false] rfl rfl (any_of HT_.out (by kernel_rfl)) (fun _ _ _ h => h) (Or.inl ⟨by rfl, ?_⟩) ?_ ?_
                        rotate_left
                        · intro w'
                          go_simp
                          with_reducible rfl
                        rotate_left
                        · simp only [Act.put, List.setIfInBounds_toArray, List.set_cons_zero, List.set_cons_succ, i64_w, i32_w]
                          rfl
                        refine pure_ (i := 4) (N := some 38) (v := ?_) (a' := ?_) #[true, true, true, false, true, false, false, false, false, false, false, false, false, false, false] rfl rfl (any_of HT_.out (by kernel_rfl)) (fun _ _ _ h => h) (Or.inl ⟨by rfl, ?_⟩) ?_ ?_
                        rotate_left
                        · intro w'
                          go_simp
                          with_reducible rfl
                        rotate_left
                        · simp only [Act.put, List.setIfInBounds_toArray, List.set_cons_zero, List.set_cons_succ, i64_w, i32_w]
                          rfl
                        refine pure_ (i := 5) (N := some 39) (v := ?_) (a' := ?_) #[true, true, true, false, true, true, false, false, false, false, false, false, false, false, false] rfl rfl (any_of HT_.out (by kernel_rfl)) (fun _ _ _ h => h) (Or.inl ⟨by rfl, ?_⟩) ?_ ?_
                        rotate_left
                        · intro w'
                          go_simp
                          with_reducible rfl
                        rotate_left
                        · simp only [Act.put, List.setIfInBounds_toArray, List.set_cons_zero, List.set_cons_succ, i64_w, i32_w]
                          rfl
                        refine take_ (i := 3) (N := some 37) (v := ?_) (a' := ?_) #[true, true, true, true, true, true, false, false, false, false, false, false, false, false, false] rfl rfl (take_ofW HT_.out HW_.out (by kernel_rfl)) (fun _ _ _ h => h) (Or.inl ⟨by rfl, ?_⟩) hHeld ?_ ?_
                        rotate_left
                        · rintro w' ⟨s0, s1⟩
                          go_simp
                          with_reducible rfl
                        rotate_left
                        · simp only [Act.put, List.setIfInBounds_toArray, List.set_cons_zero, List.set_cons_succ, i64_w, i32_w]
                          rfl
                        refine take_ (i := 6) (N := some 40) (v := ?_) (a' := ?_) #[true, true, true, true, true, true, true, false, false, false, false, false, false, false, false] rfl rfl (take_ofW HT_.out HW_.out (by kernel_rfl)) (fun _ _ _ h => h) (Or.inl ⟨by rfl, ?_⟩) hHeld ?_ ?_
                        rotate_left
                        · rintro w' ⟨s0, s1⟩
                          go_simp
                          with_reducible rfl
                        rotate_left
                        · simp only [Act.put, List.setIfInBounds_toArray, List.set_cons_zero, List.set_cons_succ, i64_w, i32_w]
                          rfl
                        refine one_ (i := 7) (N := some 41) #[true, true, true, true, true, true, true, true, false, false, false, false, false, false, false] rfl rfl (one_of HT_.out (by kernel_rfl)) (by decide) (fun K hK => ?_)
                        refine goes_ Try.func28 (by kernel_rfl) rfl #[.slice Ao19 x6_2.length co19, .int .i64 (rd (rd_L1 l1 x29_2) 0), .int .i64 (rd (rd_L1 l1 x29_2) 1)] (by rfl) rfl rfl (by (try simp only [List.map_toArray, List.map_cons, List.map_nil]); first | done | rfl | (simp only [List.length_drop, List.length_take]; rfl)) ?_
                        with_reducible refine (impl_TakePiece.calls k2 _ _ x6_2 (rd (rd_L1 l1 x29_2) 0) (rd (rd_L1 l1 x29_2) 1) t369 t370 true _ ?side1 ?side2 A16.out).mono ?_
                        (case side1 => repeat (first | exact (Kd.S_reads' HO_6.out).2.2 | (with_reducible refine Kd.C_alloc ?_ _) | (with_reducible refine Kd.C_drewN ?_ _) | (with_reducible refine Kd.C_drew ?_)))
                        (case side2 => exact (Kd.S_reads' HO_6.out).2.1)
                        rintro e w20 ⟨v372, rfl, ho0, hb⟩
                        refine ⟨_, rfl, ?_⟩
                        have n0_ := Aside0.mk (Kd.S_elder' (by (with_reducible repeat (first | apply Kd.S_alloc | apply Kd.S_drewN | apply Kd.S_drew)); exact HO_6.out) (Kd.S_base ho0) hb)
                        have n1_ := Aside0.mk (Kd.S_lower (Kd.S_new' ho0 (Kd.S_lt (by (with_reducible repeat (first | apply Kd.S_alloc | apply Kd.S_drewN | apply Kd.S_drew)); exact HO_6.out))) (below_size (by repeat (first | (with_reducible first | exact HB.out | apply below_alloc | apply pw_below_drewN | apply below_drew1) | exact HB.out))))
                        have n2_ := Aside0.mk (below_step (by repeat (first | (with_reducible first | exact HB.out | apply below_alloc | apply pw_below_drewN | apply below_drew1) | exact HB.out)) hb)
                        clear HO_6
                        clear HB
                        have HO_6 := n0_
                        have HO373 := n1_
                        have HB := n2_
                        clear n0_ n1_ n2_
                        (try clear hb)
                        (try clear hb2)
                        (try clear hk)
                        (try clear hi)
                        (try clear ho0)
                        refine hK.out _ _ ⟨((HB.out.cell (World.block_lt_of_cell? w _ hw367_0)).trans hw367_0), ((HB.out.cell (World.block_lt_of_cell? w _ hw368_0)).trans hw368_0)⟩ (fun hHeld => ?_)
                        clear hK K
                        refine norm_ (a' := ?_) ?_ ?_
                        rotate_left
                        · show Act.put _ (some 41) _ = _
                          simp only [Act.put, List.setIfInBounds_toArray, List.set_cons_zero, List.set_cons_succ, i64_w, i32_w]
                          rfl
                        refine pure_ (i := 8) (N := some 33) (v := ?_) (a' := ?_) #[true, true, true, true, true, true, true, true, true, false, false, false, false, false, false] rfl rfl (any_of HT_.out (by kernel_rfl)) (fun _ _ _ h => h) (Or.inl ⟨by rfl, ?_⟩) ?_ ?_
                        rotate_left
                        · intro w'
                          go_simp
                          with_reducible rfl
                        rotate_left
                        · simp only [Act.put, List.setIfInBounds_toArray, List.set_cons_zero, List.set_cons_succ, i64_w, i32_w]
                          rfl
                        refine pure_ (i := 9) (N := some 42) (v := ?_) (a' := ?_) #[true, true, true, true, true, true, true, true, true, true, false, false, false, false, false] rfl rfl (any_of HT_.out (by kernel_rfl)) (fun _ _ _ h => h) (Or.inl ⟨by rfl, ?_⟩) ?_ ?_
                        rotate_left
                        · intro w'
                          go_simp
                          with_reducible rfl
                        rotate_left
                        · simp only [Act.put, List.setIfInBounds_toArray, List.set_cons_zero, List.set_cons_succ, i64_w, i32_w]
                          rfl
                        refine pure_ (i := 10) (N := some 43) (v := ?_) (a' := ?_) #[true, true, true, true, true, true, true, true, true, true, true, false, false, false, false] rfl rfl (any_of HT_.out (by kernel_rfl)) (fun _ _ _ h => h) (Or.inl ⟨by rfl, ?_⟩) ?_ ?_
                        rotate_left
                        · intro w'
                          go_simp
                          with_reducible rfl
                        rotate_left
                        · simp only [Act.put, List.setIfInBounds_toArray, List.set_cons_zero, List.set_cons_succ, i64_w, i32_w]
                          rfl
                        refine pure_ (i := 11) (N := some 44) (v := ?_) (a' := ?_) #[true, true, true, true, true, true, true, true, true, true, true, true, false, false, false] rfl rfl (any_of HT_.out (by kernel_rfl)) (fun _ _ _ h => h) (Or.inl ⟨by rfl, ?_⟩) ?_ ?_
                        rotate_left
                        · intro w'
                          go_simp
                          with_reducible rfl
                        rotate_left
                        · simp only [Act.put, List.setIfInBounds_toArray, List.set_cons_zero, List.set_cons_succ, i64_w, i32_w]
                          rfl
                        refine pure_ (i := 12) (N := some 10) (v := ?_) (a' := ?_) #[true, true, true, true, true, true, true, true, true, true, true, true, true, false, false] rfl rfl (any_of HT_.out (by kernel_rfl)) (fun _ _ _ h => h) (Or.inl ⟨by rfl, ?_⟩) ?_ ?_
                        rotate_left
                        · intro w'
                          go_simp
                          with_reducible rfl
                        rotate_left
                        · simp only [Act.put, List.setIfInBounds_toArray, List.set_cons_zero, List.set_cons_succ, i64_w, i32_w]
                          rfl
                        refine pure_ (i := 13) (N := some 11) (v := ?_) (a' := ?_) #[true, true, true, true, true, true, true, true, true, true, true, true, true, true, false] rfl rfl (any_of HT_.out (by kernel_rfl)) (fun _ _ _ h => h) (Or.inl ⟨by rfl, ?_⟩) ?_ ?_
                        rotate_left
                        · intro w'
                          go_simp
                          with_reducible rfl
                        rotate_left
                        · simp only [Act.put, List.setIfInBounds_toArray, List.set_cons_zero, List.set_cons_succ, i64_w, i32_w]
                          rfl
                        refine pure_ (i := 14) (N := some 12) (v := ?_) (a' := ?_) #[true, true, true, true, true, true, true, true, true, true, true, true, true, true, true] rfl rfl (any_of HT_.out (by kernel_rfl)) (fun _ _ _ h => h) (Or.inl ⟨by rfl, ?_⟩) ?_ ?_
                        rotate_left
                        · intro w'
                          go_simp
                          with_reducible rfl
                        rotate_left
                        · simp only [Act.put, List.setIfInBounds_toArray, List.set_cons_zero, List.set_cons_succ, i64_w, i32_w]
                          rfl
                        refine done_ (done_of HT_.out (by kernel_rfl)) ?_
                        try go_wp2
                        go_roundg k2
                        case measure => have := HJ2.out; have := HK2.out; omega
                        case rel => exact ⟨(t369), (wrap64 (x7_2 + 1)), (wrap64 (x29_2 + 1)), (by first | rfl | (simp; done) | (simp [*]; done)), (by first | rfl | (simp; done) | (simp [*]; done)), H', ⟨by have := HJ2.out; have := HK2.out; omega⟩, ⟨by (with_reducible repeat (first | apply Kd.S_alloc | apply Kd.S_drewN | apply Kd.S_drew)); exact Kd.S_mono HO373.out (fun _ hk => trivial)⟩, ⟨by repeat (first | (with_reducible first | exact HB.out | apply below_alloc | apply pw_below_drewN | apply below_drew1) | exact HB.out)⟩⟩
                      · replace c17 := Bool.eq_false_iff.mpr c17
                        subst c17
                        have H1 : (impl_TakeAll.l0 k2 x6_2 x7_2 l1 (l1.length : Int) (wrap64 (x29_2 + 1))) = some (r1, r2) := by rw [if_neg (show ¬ (false = true) by decide)] at H; exact H
                        clear H
                        have H := H1
                        clear H1
                        have H' := Aside0.mk H
                        clear H
                        have p366 : 0 ≤ (x29_2 : Int) := of_decide_eq_true (by first | (with_reducible assumption) | assumption)
                        have q366 : x29_2 < (l1.length : Int) := of_decide_eq_true (by first | (with_reducible assumption) | assumption)
                        obtain ⟨ad366, A366_0, c366_0, e366, hx366_0, hl366_0, hi366_0⟩ := at_L1 HR1.out x29_2 p366 q366
                        cases e366
                        replace hx366_0 := (HB.out.cell (World.block_lt_of_cell? w _ hx366_0)).trans hx366_0
                        have HR366_0 := Aside0.mk hi366_0
                        have HC366_0 := Aside0.mk hl366_0
                        clear hi366_0 hl366_0
                        replace p366 := eq_true p366
                        replace q366 := eq_true q366
                        try go_wp2
                        have n0_ := Aside0.mk (Kd.S_drew HO_6.out)
                        have n1_ := Aside0.mk (below_drew1 HB.out)
                        clear HO_6
                        clear HB
                        have HO_6 := n0_
                        have HB := n1_
                        clear n0_ n1_
                        have p367 : 0 ≤ (0 : Int) := (by omega)
                        have q367 : 0 < ((rd_L1 l1 x29_2).length : Int) := of_decide_eq_true (by first | (with_reducible assumption) | assumption)
                        obtain ⟨ad367, e367, hx367_0⟩ := Kd.at_int HR366_0.out 0 p367 q367
                        have hw367_0 := hx367_0
                        (try rw [show ((0 : Int)).toNat = 0 from rfl] at hw367_0)
                        (try rw [show 0 * 1 = 0 from rfl] at hw367_0)
                        (try rw [Addr.add_zero'] at hw367_0)
                        cases e367
                        have qi367 : (0 < (rd_L1 l1 x29_2).length) = True := eq_true (by omega)
                        (try rw [show ((0 : Int)).toNat = 0 from rfl] at hx367_0)
                        (try rw [Addr.add_zero'] at hx367_0)
                        replace hx367_0 := (HB.out.cell (World.block_lt_of_cell? w _ hx367_0)).trans hx367_0
                        replace p367 := eq_true p367
                        replace q367 := eq_true q367
                        have p368 : 0 ≤ (1 : Int) := (by omega)
                        have q368 : 1 < ((rd_L1 l1 x29_2).length : Int) := of_decide_eq_true (by first | (with_reducible assumption) | assumption)
                        obtain ⟨ad368, e368, hx368_0⟩ := Kd.at_int HR366_0.out 1 p368 q368
                        have hw368_0 := hx368_0
                        (try rw [show ((1 : Int)).toNat = 1 from rfl] at hw368_0)
                        (try rw [show 1 * 1 = 1 from rfl] at hw368_0)
                        (try simp only [Nat.reduceMul, Nat.reduceEqDiff, Go.Addr.add, ↓reduceIte] at hw368_0)
                        obtain rfl : ad367 = ad368 := (by injection e368)
                        (try simp only [show (1 : Int).toNat = 1 from rfl, Nat.reduceMul, Nat.reduceEqDiff, Go.Addr.add, ↓reduceIte] at hx368_0)
                        have qi368 : (1 < (rd_L1 l1 x29_2).length) = True := eq_true (by omega)
                        (try rw [show ((1 : Int)).toNat = 1 from rfl] at hx368_0)
                        replace hx368_0 := (HB.out.cell (World.block_lt_of_cell? w _ hx368_0)).trans hx368_0
                        replace p368 := eq_true p368
                        replace q368 := eq_true q368
                        obtain ⟨Ao22, co22, eo22⟩ := Kd.S_slice HO_6.out
                        (first | subst eo22 | (injection eo22 with f1_ f2_ f3_; have f4_ := f1_.symm; have f5_ := f3_.symm; clear f1_ f2_ f3_; subst f4_; subst f5_))
                        refine start_ (n := 15) (S := fun w' => w'.cell? ad367 = some (.int .i64 (rd (rd_L1 l1 x29_2) 0)) ∧ w'.cell? ⟨ad367.block, ad367.off + 1, none⟩ = some (.int .i64 (rd (rd_L1 l1 x29_2) 1))) (ds := []) #[false, false, false, false, false, false, false, false, false, false, false, false, false, false, false] (by kernel_rfl) rfl rfl ⟨((HB.out.cell (World.block_lt_of_cell? w _ hw367_0)).trans hw367_0), ((HB.out.cell (World.block_lt_of_cell? w _ hw368_0)).trans hw368_0)⟩ (fun hHeld => ?_); refine with_tabW impl_TakeAll.tab7 impl_TakeAll.bits7 (fun HT_ HW_ => ?_)
                        generalize wr.drew = w21 at HO_6 HB hx367_0 hx368_0 hHeld ⊢
                        refine pure_ (i := 0) (N := some 34) (v := ?_) (a' := ?_) #[true, false, false, false, false, false, false, false, false, false, false, false, false, false, false] rfl rfl (any_of HT_.out (by kernel_rfl)) (fun _ _ _ h => h) (Or.inl ⟨by rfl, ?_⟩) ?_ ?_
                        rotate_left
                        · intro w'
                          go_simp
                          with_reducible rfl
                        rotate_left
                        · simp only [Act.put, List.setIfInBounds_toArray, List.set_cons_zero, List.set_cons_succ, i64_w, i32_w]
                          rfl
                        refine pure_ (i := 1) (N := some 35) (v := ?_) (a' := ?_) #[true, true, false, false, false, false, false, false, false, false, false, false, false, false, false] rfl rfl (any_of HT_.out (by kernel_rfl)) (fun _ _ _ h => h) (Or.inl ⟨by rfl, ?_⟩) ?_ ?_
                        rotate_left
                        · intro w'
                          go_simp
                          with_reducible rfl
                        rotate_left
                        · simp only [Act.put, List.setIfInBounds_toArray, List.set_cons_zero, List.set_cons_succ, i64_w, i32_w]
                          rfl
                        refine pure_ (i := 2) (N := some 36) (v := ?_) (a' := ?_) #[true, true, true, false, false, false, false, false, false, false, false, false, false, false, false] rfl rfl (any_of HT_.out (by kernel_rfl)) (fun _ _ _ h => h) (Or.inl ⟨by rfl, ?_⟩) ?_ ?_
                        rotate_left
                        · intro w'
                          go_simp
                          with_reducible rfl
                        rotate_left
                        · simp only [Act.put, List.setIfInBounds_toArray, List.set_cons_zero, List.set_cons_succ, i64_w, i32_w]
                          rfl
                        refine pure_ (i := 4) (N := some 38) (v := ?_) (a' := ?_) #[true, true, true, false, true, false, false, false, false, false, false, false, false, false, false] rfl rfl (any_of HT_.out (by kernel_rfl)) (fun _ _ _ h => h) (Or.inl ⟨by rfl, ?_⟩) ?_ ?_
                        rotate_left
                        · intro w'
                          go_simp
                          with_reducible rfl
                        rotate_left
                        · simp only [Act.put, List.setIfInBounds_toArray, List.set_cons_zero, List.set_cons_succ, i64_w, i32_w]
                          rfl
                        refine pure_ (i := 5) (N := some 39) (v := ?_) (a' := ?_) #[true, true, true, false, true, true, false, false, false, false, false, false, false, false, false] rfl rfl (any_of HT_.out (by kernel_rfl)) (fun _ _ _ h => h) (Or.inl ⟨by rfl, ?_⟩) ?_ ?_
                        rotate_left
                        · intro w'
                          go_simp
                          with_reducible rfl
                        rotate_left
                        · simp only [Act.put, List.setIfInBounds_toArray, List.set_cons_zero, List.set_cons_succ, i64_w, i32_w]
                          rfl
                        refine take_ (i := 3) (N := some 37) (v := ?_) (a' := ?_) #[true, true, true, true, true, true, false, false, false, false, false, false, false, false, false] rfl rfl (take_ofW HT_.out HW_.out (by kernel_rfl)) (fun _ _ _ h => h) (Or.inl ⟨by rfl, ?_⟩) hHeld ?_ ?_
                        rotate_left
                        · rintro w' ⟨s0, s1⟩
                          go_simp
                          with_reducible rfl
                        rotate_left
                        · simp only [Act.put, List.setIfInBounds_toArray, List.set_cons_zero, List.set_cons_succ, i64_w, i32_w]
                          rfl
                        refine take_ (i := 6) (N := some 40) (v := ?_) (a' := ?_) #[true, true, true, true, true, true, true, false, false, false, false, false, false, false, false] rfl rfl (take_ofW HT_.out HW_.out (by kernel_rfl)) (fun _ _ _ h => h) (Or.inl ⟨by rfl, ?_⟩) hHeld ?_ ?_
                        rotate_left
                        · rintro w' ⟨s0, s1⟩
                          go_simp
                          with_reducible rfl
                        rotate_left
                        · simp only [Act.put, List.setIfInBounds_toArray, List.set_cons_zero, List.set_cons_succ, i64_w, i32_w]
                          rfl
                        refine one_ (i := 7) (N := some 41) #[true, true, true, true, true, true, true, true, false, false, false, false, false, false, false] rfl rfl (one_of HT_.out (by kernel_rfl)) (by decide) (fun K hK => ?_)
                        refine goes_ Try.func28 (by kernel_rfl) rfl #[.slice Ao22 x6_2.length co22, .int .i64 (rd (rd_L1 l1 x29_2) 0), .int .i64 (rd (rd_L1 l1 x29_2) 1)] (by rfl) rfl rfl (by (try simp only [List.map_toArray, List.map_cons, List.map_nil]); first | done | rfl | (simp only [List.length_drop, List.length_take]; rfl)) ?_
                        with_reducible refine (impl_TakePiece.calls k2 _ _ x6_2 (rd (rd_L1 l1 x29_2) 0) (rd (rd_L1 l1 x29_2) 1) t369 t370 false _ ?side1 ?side2 A16.out).mono ?_
                        (case side1 => repeat (first | exact (Kd.S_reads' HO_6.out).2.2 | (with_reducible refine Kd.C_alloc ?_ _) | (with_reducible refine Kd.C_drewN ?_ _) | (with_reducible refine Kd.C_drew ?_)))
                        (case side2 => exact (Kd.S_reads' HO_6.out).2.1)
                        rintro e w23 ⟨v372, rfl, ho0, hb⟩
                        refine ⟨_, rfl, ?_⟩
                        have n0_ := Aside0.mk (Kd.S_elder' (by (with_reducible repeat (first | apply Kd.S_alloc | apply Kd.S_drewN | apply Kd.S_drew)); exact HO_6.out) (Kd.S_base ho0) hb)
                        have n1_ := Aside0.mk (Kd.S_lower (Kd.S_new' ho0 (Kd.S_lt (by (with_reducible repeat (first | apply Kd.S_alloc | apply Kd.S_drewN | apply Kd.S_drew)); exact HO_6.out))) (below_size (by repeat (first | (with_reducible first | exact HB.out | apply below_alloc | apply pw_below_drewN | apply below_drew1) | exact HB.out))))
                        have n2_ := Aside0.mk (below_step (by repeat (first | (with_reducible first | exact HB.out | apply below_alloc | apply pw_below_drewN | apply below_drew1) | exact HB.out)) hb)
                        clear HO_6
                        clear HB
                        have HO_6 := n0_
                        have HO373 := n1_
                        have HB := n2_
                        clear n0_ n1_ n2_
                        (try clear hb)
                        (try clear hb2)
                        (try clear hk)
                        (try clear hi)
                        (try clear ho0)
                        refine hK.out _ _ ⟨((HB.out.cell (World.block_lt_of_cell? w _ hw367_0)).trans hw367_0), ((HB.out.cell (World.block_lt_of_cell? w _ hw368_0)).trans hw368_0)⟩ (fun hHeld => ?_)
                        clear hK K
                        refine norm_ (a' := ?_) ?_ ?_
                        rotate_left
                        · show Act.put _ (some 41) _ = _
                          simp only [Act.put, List.setIfInBounds_toArray, List.set_cons_zero, List.set_cons_succ, i64_w, i32_w]
                          rfl
                        refine pure_ (i := 8) (N := some 33) (v := ?_) (a' := ?_) #[true, true, true, true, true, true, true, true, true, false, false, false, false, false, false] rfl rfl (any_of HT_.out (by kernel_rfl)) (fun _ _ _ h => h) (Or.inl ⟨by rfl, ?_⟩) ?_ ?_
                        rotate_left
                        · intro w'
                          go_simp
                          with_reducible rfl
                        rotate_left
                        · simp only [Act.put, List.setIfInBounds_toArray, List.set_cons_zero, List.set_cons_succ, i64_w, i32_w]
                          rfl
                        refine pure_ (i := 9) (N := some 42) (v := ?_) (a' := ?_) #[true, true, true, true, true, true, true, true, true, true, false, false, false, false, false] rfl rfl (any_of HT_.out (by kernel_rfl)) (fun _ _ _ h => h) (Or.inl ⟨by rfl, ?_⟩) ?_ ?_
                        rotate_left
                        · intro w'
                          go_simp
                          with_reducible rfl
                        rotate_left
                        · simp only [Act.put, List.setIfInBounds_toArray, List.set_cons_zero, List.set_cons_succ, i64_w, i32_w]
                          rfl
                        refine pure_ (i := 10) (N := some 43) (v := ?_) (a' := ?_) #[true, true, true, true, true, true, true, true, true, true, true, false, false, false, false] rfl rfl (any_of HT_.out (by kernel_rfl)) (fun _ _ _ h => h) (Or.inl ⟨by rfl, ?_⟩) ?_ ?_
                        rotate_left
                        · intro w'
                          go_simp
                          with_reducible rfl
                        rotate_left
                        · simp only [Act.put, List.setIfInBounds_toArray, List.set_cons_zero, List.set_cons_succ, i64_w, i32_w]
                          rfl
                        refine pure_ (i := 11) (N := some 44) (v := ?_) (a' := ?_) #[true, true, true, true, true, true, true, true, true, true, true, true, false, false, false] rfl rfl (any_of HT_.out (by kernel_rfl)) (fun _ _ _ h => h) (Or.inl ⟨by rfl, ?_⟩) ?_ ?_
                        rotate_left
                        · intro w'
                          go_simp
                          with_reducible rfl
                        rotate_left
                        · simp only [Act.put, List.setIfInBounds_toArray, List.set_cons_zero, List.set_cons_succ, i64_w, i32_w]
                          rfl
                        refine pure_ (i := 12) (N := some 10) (v := ?_) (a' := ?_) #[true, true, true, true, true, true, true, true, true, true, true, true, true, false, false] rfl rfl (any_of HT_.out (by kernel_rfl)) (fun _ _ _ h => h) (Or.inl ⟨by rfl, ?_⟩) ?_ ?_
                        rotate_left
                        · intro w'
                          go_simp
                          with_reducible rfl
                        rotate_left
                        · simp only [Act.put, List.setIfInBounds_toArray, List.set_cons_zero, List.set_cons_succ, i64_w, i32_w]
                          rfl
                        refine pure_ (i := 13) (N := some 11) (v := ?_) (a' := ?_) #[true, true, true, true, true, true, true, true, true, true, true, true, true, true, false] rfl rfl (any_of HT_.out (by kernel_rfl)) (fun _ _ _ h => h) (Or.inl ⟨by rfl, ?_⟩) ?_ ?_
                        rotate_left
                        · intro w'
                          go_simp
                          with_reducible rfl
                        rotate_left
                        · simp only [Act.put, List.setIfInBounds_toArray, List.set_cons_zero, List.set_cons_succ, i64_w, i32_w]
                          rfl
                        refine pure_ (i := 14) (N := some 12) (v := ?_) (a' := ?_) #[true, true, true, true, true, true, true, true, true, true, true, true, true, true, true] rfl rfl (any_of HT_.out (by kernel_rfl)) (fun _ _ _ h => h) (Or.inl ⟨by rfl, ?_⟩) ?_ ?_
                        rotate_left
                        · intro w'
                          go_simp
                          with_reducible rfl
                        rotate_left
                        · simp only [Act.put, List.setIfInBounds_toArray, List.set_cons_zero, List.set_cons_succ, i64_w, i32_w]
                          rfl
                        refine done_ (done_of HT_.out (by kernel_rfl)) ?_
                        try go_wp2
                        go_roundg k2
                        case measure => have := HJ2.out; have := HK2.out; omega
                        case rel => exact ⟨(x6_2), (x7_2), (wrap64 (x29_2 + 1)), (by first | rfl | (simp; done) | (simp [*]; done)), (by first | rfl | (simp; done) | (simp [*]; done)), H', ⟨by have := HJ2.out; have := HK2.out; omega⟩, ⟨by (with_reducible repeat (first | apply Kd.S_alloc | apply Kd.S_drewN | apply Kd.S_drew)); exact Kd.S_mono HO_6.out (fun _ hk => trivial)⟩, ⟨by repeat (first | (with_reducible first | exact HB.out | apply below_alloc | apply pw_below_drewN | apply below_drew1) | exact HB.out)⟩⟩
                    · rw [if_neg c15] at H
                      exact absurd H (by simp)
                  · rw [if_neg c14] at H
                    exact absurd H (by simp)
                · rw [if_neg c13] at H
                  exact absurd H (by simp)
              · rw [if_neg c12] at H
                exact absurd H (by simp)
            · rw [if_neg c11] at H
              have c11b0 : decide (x29_2 < (l1.length : Int)) = false := decide_eq_false c11
              clear c11
              simp only [Option.some.injEq, Prod.mk.injEq] at H
              obtain ⟨rfl, rfl⟩ := H
              go_wp2
              go_ret2
              exact ⟨_, by first | rfl | (simp [errW_none, errW_some] <;> rfl) | (simp [*, errW_none, errW_some] <;> rfl), by (with_reducible repeat (first | apply Kd.S_alloc | apply Kd.S_drewN | apply Kd.S_drew)); exact HO_6.out, by repeat (first | (with_reducible first | exact HB.out | apply below_alloc | apply pw_below_drewN | apply below_drew1) | exact HB.out)⟩
end Go.Proofs.Ytebjpafnfmmjeaa.PA
-- Written for this claim by a program of this session's (ownprint.py), by way of the kit's print and hand-proved texts. Lean checks it.
namespace Go.Proofs.Ytebjpafnfmmjeaa.PA
open Go.RowKit Go.Proofs.YtebjpafnfmmjeaaW.PrintWords Go.Proofs.YtebjpafnfmmjeaaW.PrintLast Go.Proofs.YtebjpafnfmmjeaaW.PrintMore
attribute [local go_sem] max2_int min2_int max_two min_two max_three min_three max_four min_four   -- for this text's walks alone
set_option linter.unusedVariables false
set_option linter.unusedSimpArgs false
def impl_SortStore_1.f (l0 : List Int) (l1 : List Int) : Option (Int) := if 0 < (l0.length : Int) then (if 1 < (l0.length : Int) then (if 0 < (l1.length : Int) then (if 1 < (l1.length : Int) then (if (wrap64 ((rd l0 0) * (rd l0 1))) = (wrap64 ((rd l1 0) * (rd l1 1))) then (some (wrap64 ((rd l0 0) - (rd l1 0)))) else (some (wrap64 ((wrap64 ((rd l0 0) * (rd l0 1))) - (wrap64 ((rd l1 0) * (rd l1 1))))))) else (none)) else (none)) else (none)) else (none)
set_option maxHeartbeats 8000000 in
set_option maxRecDepth 100000 in
theorem impl_SortStore_1.calls (A0 : Option Addr) (c0 : Nat) (l0 : List Int) (A1 : Option Addr) (c1 : Nat) (l1 : List Int) (r : Int) (w : World) (hr0 : Kd.C (Kd.int .i64) w A0 l0.length l0) (hc0 : l0.length ≤ c0) (hr1 : Kd.C (Kd.int .i64) w A1 l1.length l1) (hc1 : l1.length ≤ c1) (h : impl_SortStore_1.f l0 l1 = some r) :
    Calls Try.prog 53 #[.slice A0 l0.length c0, .slice A1 l1.length c1] w fun e w' => e = .returned (.int .i64 r) ∧ Drawn0 w w' := by
  have HR0 := Aside0.mk hr0
  have HC0 := Aside0.mk hc0
  clear hr0 hc0
  have HR1 := Aside0.mk hr1
  have HC1 := Aside0.mk hc1
  clear hr1 hc1
  have H : (if 0 < (l0.length : Int) then (if 1 < (l0.length : Int) then (if 0 < (l1.length : Int) then (if 1 < (l1.length : Int) then (if (wrap64 ((rd l0 0) * (rd l0 1))) = (wrap64 ((rd l1 0) * (rd l1 1))) then (some (wrap64 ((rd l0 0) - (rd l1 0)))) else (some (wrap64 ((wrap64 ((rd l0 0) * (rd l0 1))) - (wrap64 ((rd l1 0) * (rd l1 1))))))) else (none)) else (none)) else (none)) else (none)) = some r := h
  clear h
  by_cases c3 : 0 < (l0.length : Int)
  · rw [if_pos c3] at H
    have c3b0 : decide (0 < (l0.length : Int)) = true := decide_eq_true c3
    have c3b1 : decide (0 < l0.length) = true := decide_eq_true (by omega)
    clear c3
    by_cases c4 : 1 < (l0.length : Int)
    · rw [if_pos c4] at H
      have c4b0 : decide (1 < (l0.length : Int)) = true := decide_eq_true c4
      have c4b1 : decide (1 < l0.length) = true := decide_eq_true (by omega)
      clear c4
      by_cases c5 : 0 < (l1.length : Int)
      · rw [if_pos c5] at H
        have c5b0 : decide (0 < (l1.length : Int)) = true := decide_eq_true c5
        have c5b1 : decide (0 < l1.length) = true := decide_eq_true (by omega)
        clear c5
        by_cases c6 : 1 < (l1.length : Int)
        · rw [if_pos c6] at H
          have c6b0 : decide (1 < (l1.length : Int)) = true := decide_eq_true c6
          have c6b1 : decide (1 < l1.length) = true := decide_eq_true (by omega)
          clear c6
          by_cases c7 : (wrap64 ((rd l0 0) * (rd l0 1))) = (wrap64 ((rd l1 0) * (rd l1 1)))
          · rw [if_pos c7] at H
            have c7b0 : ((wrap64 ((rd l0 0) * (rd l0 1))) == (wrap64 ((rd l1 0) * (rd l1 1)))) = true := beq_iff_eq.mpr c7
            have c7b1 : ((wrap64 ((rd l0 0) * (rd l0 1))) != (wrap64 ((rd l1 0) * (rd l1 1)))) = false := bne_eq_false_iff_eq.mpr c7
            clear c7
            obtain rfl := Option.some.inj H
            have p452 : 0 ≤ (0 : Int) := (by omega)
            have q452 : 0 < (l0.length : Int) := of_decide_eq_true (by first | (with_reducible assumption) | assumption)
            obtain ⟨ad452, e452, hx452_0⟩ := Kd.at_int HR0.out 0 p452 q452
            cases e452
            have qi452 : (0 < l0.length) = True := eq_true (by omega)
            (try rw [show ((0 : Int)).toNat = 0 from rfl] at hx452_0)
            (try rw [Addr.add_zero'] at hx452_0)
            replace p452 := eq_true p452
            replace q452 := eq_true q452
            have p453 : 0 ≤ (1 : Int) := (by omega)
            have q453 : 1 < (l0.length : Int) := of_decide_eq_true (by first | (with_reducible assumption) | assumption)
            obtain ⟨ad453, e453, hx453_0⟩ := Kd.at_int HR0.out 1 p453 q453
            obtain rfl : ad452 = ad453 := (by injection e453)
            (try simp only [show (1 : Int).toNat = 1 from rfl, Nat.reduceMul, Nat.reduceEqDiff, Go.Addr.add, ↓reduceIte] at hx453_0)
            have qi453 : (1 < l0.length) = True := eq_true (by omega)
            (try rw [show ((1 : Int)).toNat = 1 from rfl] at hx453_0)
            replace p453 := eq_true p453
            replace q453 := eq_true q453
            have p454 : 0 ≤ (0 : Int) := (by omega)
            have q454 : 0 < (l1.length : Int) := of_decide_eq_true (by first | (with_reducible assumption) | assumption)
            obtain ⟨ad454, e454, hx454_0⟩ := Kd.at_int HR1.out 0 p454 q454
            cases e454
            have qi454 : (0 < l1.length) = True := eq_true (by omega)
            (try rw [show ((0 : Int)).toNat = 0 from rfl] at hx454_0)
            (try rw [Addr.add_zero'] at hx454_0)
            replace p454 := eq_true p454
            replace q454 := eq_true q454
            have p455 : 0 ≤ (1 : Int) := (by omega)
            have q455 : 1 < (l1.length : Int) := of_decide_eq_true (by first | (with_reducible assumption) | assumption)
            obtain ⟨ad455, e455, hx455_0⟩ := Kd.at_int HR1.out 1 p455 q455
            obtain rfl : ad454 = ad455 := (by injection e455)
            (try simp only [show (1 : Int).toNat = 1 from rfl, Nat.reduceMul, Nat.reduceEqDiff, Go.Addr.add, ↓reduceIte] at hx455_0)
            have qi455 : (1 < l1.length) = True := eq_true (by omega)
            (try rw [show ((1 : Int)).toNat = 1 from rfl] at hx455_0)
            replace p455 := eq_true p455
            replace q455 := eq_true q455
            have p456 : 0 ≤ (0 : Int) := (by omega)
            have q456 : 0 < (l0.length : Int) := of_decide_eq_true (by first | (with_reducible assumption) | assumption)
            obtain ⟨ad456, e456, hx456_0⟩ := Kd.at_int HR0.out 0 p456 q456
            obtain rfl : ad452 = ad456 := (by injection e456)
            have qi456 : (0 < l0.length) = True := eq_true (by omega)
            (try rw [show ((0 : Int)).toNat = 0 from rfl] at hx456_0)
            (try rw [Addr.add_zero'] at hx456_0)
            replace p456 := eq_true p456
            replace q456 := eq_true q456
            have p457 : 0 ≤ (0 : Int) := (by omega)
            have q457 : 0 < (l1.length : Int) := of_decide_eq_true (by first | (with_reducible assumption) | assumption)
            obtain ⟨ad457, e457, hx457_0⟩ := Kd.at_int HR1.out 0 p457 q457
            obtain rfl : ad454 = ad457 := (by injection e457)
            have qi457 : (0 < l1.length) = True := eq_true (by omega)
            (try rw [show ((0 : Int)).toNat = 0 from rfl] at hx457_0)
            (try rw [Addr.add_zero'] at hx457_0)
            replace p457 := eq_true p457
            replace q457 := eq_true q457
            go_enter Try.func53, Try.ntmps53
            go_wp2
            repeat (go_quiet (fail); try go_wp2)
            go_ret
            exact ⟨by first | rfl | (simp; done) | (simp [*]; done), by repeat (first | exact Drawn0.refl _ | apply Drawn0.step)⟩
          · rw [if_neg c7] at H
            have c7b0 : ((wrap64 ((rd l0 0) * (rd l0 1))) == (wrap64 ((rd l1 0) * (rd l1 1)))) = false := beq_eq_false_iff_ne.mpr c7
            have c7b1 : ((wrap64 ((rd l0 0) * (rd l0 1))) != (wrap64 ((rd l1 0) * (rd l1 1)))) = true := bne_iff_ne.mpr c7
            obtain rfl := Option.some.inj H
            have p452 : 0 ≤ (0 : Int) := (by omega)
            have q452 : 0 < (l0.length : Int) := of_decide_eq_true (by first | (with_reducible assumption) | assumption)
            obtain ⟨ad452, e452, hx452_0⟩ := Kd.at_int HR0.out 0 p452 q452
            cases e452
            have qi452 : (0 < l0.length) = True := eq_true (by omega)
            (try rw [show ((0 : Int)).toNat = 0 from rfl] at hx452_0)
            (try rw [Addr.add_zero'] at hx452_0)
            replace p452 := eq_true p452
            replace q452 := eq_true q452
            have p453 : 0 ≤ (1 : Int) := (by omega)
            have q453 : 1 < (l0.length : Int) := of_decide_eq_true (by first | (with_reducible assumption) | assumption)
            obtain ⟨ad453, e453, hx453_0⟩ := Kd.at_int HR0.out 1 p453 q453
            obtain rfl : ad452 = ad453 := (by injection e453)
            (try simp only [show (1 : Int).toNat = 1 from rfl, Nat.reduceMul, Nat.reduceEqDiff, Go.Addr.add, ↓reduceIte] at hx453_0)
            have qi453 : (1 < l0.length) = True := eq_true (by omega)
            (try rw [show ((1 : Int)).toNat = 1 from rfl] at hx453_0)
            replace p453 := eq_true p453
            replace q453 := eq_true q453
            have p454 : 0 ≤ (0 : Int) := (by omega)
            have q454 : 0 < (l1.length : Int) := of_decide_eq_true (by first | (with_reducible assumption) | assumption)
            obtain ⟨ad454, e454, hx454_0⟩ := Kd.at_int HR1.out 0 p454 q454
            cases e454
            have qi454 : (0 < l1.length) = True := eq_true (by omega)
            (try rw [show ((0 : Int)).toNat = 0 from rfl] at hx454_0)
            (try rw [Addr.add_zero'] at hx454_0)
            replace p454 := eq_true p454
            replace q454 := eq_true q454
            have p455 : 0 ≤ (1 : Int) := (by omega)
            have q455 : 1 < (l1.length : Int) := of_decide_eq_true (by first | (with_reducible assumption) | assumption)
            obtain ⟨ad455, e455, hx455_0⟩ := Kd.at_int HR1.out 1 p455 q455
            obtain rfl : ad454 = ad455 := (by injection e455)
            (try simp only [show (1 : Int).toNat = 1 from rfl, Nat.reduceMul, Nat.reduceEqDiff, Go.Addr.add, ↓reduceIte] at hx455_0)
            have qi455 : (1 < l1.length) = True := eq_true (by omega)
            (try rw [show ((1 : Int)).toNat = 1 from rfl] at hx455_0)
            replace p455 := eq_true p455
            replace q455 := eq_true q455
            go_enter Try.func53, Try.ntmps53
            go_wp2
            repeat (go_quiet (fail); try go_wp2)
            go_ret
            exact ⟨by first | rfl | (simp; done) | (simp [*]; done), by repeat (first | exact Drawn0.refl _ | apply Drawn0.step)⟩
        · rw [if_neg c6] at H
          exact absurd H (by simp)
      · rw [if_neg c5] at H
        exact absurd H (by simp)
    · rw [if_neg c4] at H
      exact absurd H (by simp)
  · rw [if_neg c3] at H
    exact absurd H (by simp)
end Go.Proofs.Ytebjpafnfmmjeaa.PA
