-- Written for this claim by a program of this session's (ownprint.py), by way of the kit's print and hand-proved texts. Lean checks it.
import Derived.Test.YtebjpafnfmmjeaaPAx0
namespace Go.Proofs.Ytebjpafnfmmjeaa.PA
open Go.RowKit Go.Proofs.YtebjpafnfmmjeaaW.PrintWords Go.Proofs.YtebjpafnfmmjeaaW.PrintLast Go.Proofs.YtebjpafnfmmjeaaW.PrintMore
attribute [local go_sem] max2_int min2_int max_two min_two max_three min_three max_four min_four   -- for this text's walks alone
set_option linter.unusedVariables false
set_option linter.unusedSimpArgs false

/-! ### impl_TakePiece_1: function 49 -/
def impl_TakePiece_1.f (l0 : List Int) : Option (Int) := if 0 < (l0.length : Int) then (if 1 < (l0.length : Int) then (some (wrap64 ((rd l0 0) * (rd l0 1)))) else (none)) else (none)
set_option maxHeartbeats 8000000 in
set_option maxRecDepth 100000 in
theorem impl_TakePiece_1.calls (A0 : Option Addr) (c0 : Nat) (l0 : List Int) (r : Int) (w : World) (hr0 : Kd.C (Kd.int .i64) w A0 l0.length l0) (hc0 : l0.length ≤ c0) (h : impl_TakePiece_1.f l0 = some r) :
    Calls Try.prog 49 #[.slice A0 l0.length c0] w fun e w' => e = .returned (.int .i64 r) ∧ Drawn0 w w' := by
  have HR0 := Aside0.mk hr0
  have HC0 := Aside0.mk hc0
  clear hr0 hc0
  have H : (if 0 < (l0.length : Int) then (if 1 < (l0.length : Int) then (some (wrap64 ((rd l0 0) * (rd l0 1)))) else (none)) else (none)) = some r := h
  clear h
  by_cases c2 : 0 < (l0.length : Int)
  · rw [if_pos c2] at H
    have c2b0 : decide (0 < (l0.length : Int)) = true := decide_eq_true c2
    have c2b1 : decide (0 < l0.length) = true := decide_eq_true (by omega)
    clear c2
    by_cases c3 : 1 < (l0.length : Int)
    · rw [if_pos c3] at H
      have c3b0 : decide (1 < (l0.length : Int)) = true := decide_eq_true c3
      have c3b1 : decide (1 < l0.length) = true := decide_eq_true (by omega)
      clear c3
      obtain rfl := Option.some.inj H
      have p324 : 0 ≤ (0 : Int) := (by omega)
      have q324 : 0 < (l0.length : Int) := of_decide_eq_true (by first | (with_reducible assumption) | assumption)
      obtain ⟨ad324, e324, hx324_0⟩ := Kd.at_int HR0.out 0 p324 q324
      cases e324
      have qi324 : (0 < l0.length) = True := eq_true (by omega)
      (try rw [show ((0 : Int)).toNat = 0 from rfl] at hx324_0)
      (try rw [Addr.add_zero'] at hx324_0)
      replace p324 := eq_true p324
      replace q324 := eq_true q324
      have p325 : 0 ≤ (1 : Int) := (by omega)
      have q325 : 1 < (l0.length : Int) := of_decide_eq_true (by first | (with_reducible assumption) | assumption)
      obtain ⟨ad325, e325, hx325_0⟩ := Kd.at_int HR0.out 1 p325 q325
      obtain rfl : ad324 = ad325 := (by injection e325)
      (try simp only [show (1 : Int).toNat = 1 from rfl, Nat.reduceMul, Nat.reduceEqDiff, Go.Addr.add, ↓reduceIte] at hx325_0)
      have qi325 : (1 < l0.length) = True := eq_true (by omega)
      (try rw [show ((1 : Int)).toNat = 1 from rfl] at hx325_0)
      replace p325 := eq_true p325
      replace q325 := eq_true q325
      go_enter Try.func49, Try.ntmps49
      go_wp2
      repeat (go_quiet (fail); try go_wp2)
      go_ret
      exact ⟨by first | rfl | (simp; done) | (simp [*]; done), by repeat (first | exact Drawn0.refl _ | apply Drawn0.step)⟩
    · rw [if_neg c3] at H
      exact absurd H (by simp)
  · rw [if_neg c2] at H
    exact absurd H (by simp)

/-! ### slices_Delete_int_int: function 50 (by hand) -/
/-- The rows without the one at a1 (a2 = a1 + 1). -/
def slices_Delete_int_int.f (l0 : List (List Int)) (a1 a2 : Int) : Option (List (List Int)) := if 0 ≤ a1 ∧ a2 = a1 + 1 ∧ a1 < (l0.length : Int) then some (l0.eraseIdx a1.toNat) else none
def encSl (t : Option Addr × Nat × Nat) : Value := .slice t.1 t.2.1 t.2.2
theorem encs_of : ∀ {inner : List Value}, (∀ v ∈ inner, ∃ t, encSl t = v) → ∃ ts : List (Option Addr × Nat × Nat), inner = ts.map encSl
  | [], _ => ⟨[], rfl⟩
  | v :: inner, h => by
    obtain ⟨t, ht⟩ := h v (by simp)
    obtain ⟨ts, hts⟩ := encs_of (inner := inner) (fun u hu => h u (List.mem_cons_of_mem _ hu))
    exact ⟨t :: ts, by rw [List.map_cons, ht, hts]⟩
theorem holdsSl {w : World} {g : Nat} {cur : Array Value} {e : TypeId} {ts : List (Option Addr × Nat × Nat)} (hb : w.heap[g]? = some (.cells cur e (0, 0))) (ht : cur.toList.take ts.length = ts.map encSl) : Go.Sort.Holds encSl w g 0 ts.toArray := by
  intro j hj
  have hj' : j < ts.length := by simpa using hj
  refine ⟨?_, by simp [World.frozen?, hb]⟩
  have h1 : (cur.toList.take ts.length)[j]? = (ts.map encSl)[j]? := by rw [ht]
  rw [List.getElem?_take_of_lt hj'] at h1
  simp only [World.cell?, hb, Nat.zero_add]
  simp only [Option.isSome_none, Bool.false_eq_true, if_false]
  rw [← Array.getElem?_toList, h1]
  simp [hj']
theorem heapSl {w : World} {g n : Nat} {cur : Array Value} {e : TypeId} {fr : Nat × Nat} (d : Array (Option Addr × Nat × Nat)) (hb : w.heap[g]? = some (.cells cur e fr)) :
    (Go.Sort.putRow encSl (Go.Sort.ahead w n) g 0 d).heap[g]? = some (.cells (Go.Sort.putCells encSl 0 d cur) e fr) := by
  simp [Go.Sort.putRow, Go.Sort.mapBlock, Go.Sort.ahead, Array.getElem?_modify, hb, Go.Sort.onCells]
theorem grownSl {w : World} {g n : Nat} (d : Array (Option Addr × Nat × Nat)) : w.grownBy (Go.Sort.putRow encSl (Go.Sort.ahead w n) g 0 d) (some g) := by
  refine ⟨rfl, rfl, rfl, by simp [Go.Sort.putRow, Go.Sort.mapBlock, Go.Sort.ahead], fun k hk hne => ?_⟩
  have : g ≠ k := fun e => hne (by rw [e])
  simp [Go.Sort.putRow, Go.Sort.mapBlock, Go.Sort.ahead, Array.getElem?_modify, this]
theorem takeSl (cur : Array Value) (ts : List (Option Addr × Nat × Nat)) (h : ts.length ≤ cur.size) : (Go.Sort.putCells encSl 0 ts.toArray cur).toList.take ts.length = ts.map encSl := by
  apply List.ext_getElem?
  intro j
  by_cases hj : j < ts.length
  · rw [List.getElem?_take_of_lt hj, Array.getElem?_toList]
    simp [Go.Sort.putCells, hj, show j < cur.size by omega]
  · rw [List.getElem?_take_eq_none (by omega), List.getElem?_eq_none (by simp; omega)]
theorem chunk1 (L : List Value) (j : Nat) : (L.drop (j * 1)).take 1 = L[j]?.toList := by
  rw [Nat.mul_one, List.take_one, List.head?_drop]
theorem infoSl1 : ((Try.prog.info? 40).get (by kernel_rfl)).size = 1 := by kernel_rfl
theorem slices_Delete_int_int.calls0 (P0_ : Nat → Prop) (u9000_ : Value) (l0 : List (List Int)) (a1 a2 : Int) (r : List (List Int)) (w0 w : World) (hB : Below w0.heap.size w0 w) (ho0 : Kd.S (Kd.slice 3 (Kd.int .i64)) 40 w w0.heap.size P0_ u9000_ l0) (h : slices_Delete_int_int.f l0 a1 a2 = some r) :
    Calls Try.prog 50 #[u9000_, .int .i64 a1, .int .i64 a2] w fun e w' => ∃ v0_ : Value, e = .returned (v0_) ∧ Kd.S (Kd.slice 3 (Kd.int .i64)) 40 w' w0.heap.size P0_ v0_ r ∧ Below w0.heap.size w0 w' ∧ w.grownBy w' v0_.ownBlock := by
  unfold slices_Delete_int_int.f at h
  by_cases hl : 0 ≤ a1 ∧ a2 = a1 + 1 ∧ a1 < (l0.length : Int)
  case neg => rw [if_neg hl] at h; cases h
  rw [if_pos hl] at h
  obtain rfl := Option.some.inj h
  clear h
  obtain ⟨k, rfl⟩ : ∃ k : Nat, a1 = (k : Int) := ⟨a1.toNat, by omega⟩
  obtain ⟨h0_, rfl, hk_⟩ := hl
  have hk : k < l0.length := by omega
  rw [Int.toNat_natCast, show ((k : Int) + 1) = ((k + 1 : Nat) : Int) by omega]
  obtain ⟨f, ho0⟩ := ho0
  have hzl : l0.zipIdx.length = l0.length := List.length_zipIdx
  obtain ⟨hok, inner, hown, hreps⟩ := ho0
  obtain ⟨ts, rfl⟩ : ∃ ts : List (Option Addr × Nat × Nat), inner = ts.map encSl := encs_of (fun v hv => by
    obtain ⟨j, hj, rfl⟩ := List.mem_iff_getElem.1 hv
    have hlen := hreps.1
    have hsz : (Kd.tag f (Kd.slice 3 (Kd.int .i64))).sz = 1 := rfl
    rw [hsz, Nat.mul_one] at hlen
    have hM := hreps.2 j (l0.zipIdx[j]'(by omega)) (List.getElem?_eq_getElem (by omega))
    obtain ⟨u, hu, hR⟩ := hM
    obtain ⟨A, c, rfl⟩ := Kd.R_slice hR
    refine ⟨(A, (l0.zipIdx[j]'(by omega)).1.length, c), ?_⟩
    have h2 : (inner.drop (j * 1)).take 1 = [inner[j]] := by
      rw [Nat.mul_one, List.drop_eq_getElem_cons hj]
      rfl
    rw [hsz, h2] at hu
    exact (List.singleton_inj.1 hu).symm)
  have hlts : ts.length = l0.length := by
    have := hreps.1
    have hsz : (Kd.tag f (Kd.slice 3 (Kd.int .i64))).sz = 1 := rfl
    rw [List.length_map, hzl, hsz, Nat.mul_one] at this
    exact this
  have hown0 : w.ownsRow w0.heap.size 40 1 u9000_ l0.length (ts.map encSl) := by rw [← hzl]; exact hown
  have hM : maxLen = 9223372036854775807 := rfl
  rcases hown0.2 with ⟨rfl, hn⟩ | ⟨g, cap, cur, rfl, hbase, hb, h1, h2, h3, h4⟩
  · omega
  · have hH := holdsSl (ts := ts) hb (by have h5 := h4; rw [Nat.mul_one, ← hlts] at h5; exact h5)
    have hcall := AnyE.slices_Delete Try.delSS encSl (fun _ => rfl) (none, 0, 0) Try.zeroValue40 ((Try.prog.info? 40).get (by kernel_rfl)) (by kernel_rfl) infoSl1 g 0 cap k (k + 1) ts.toArray w hH (by simp; omega) (by omega) (by omega) (by simp; omega)
    have es : ts.toArray.size = l0.length := by simp [hlts]
    rw [es] at hcall
    refine (show Calls Try.prog 50 #[.slice (some ⟨g, 0, none⟩) l0.length cap, .int .i64 (k : Int), .int .i64 ((k + 1 : Nat) : Int)] w _ from hcall).mono ?_
    rintro e w' ⟨rfl, q, rfl⟩
    have hg := grownSl (w := w) (g := g) (n := q) (ts.toArray.toList.take k ++ ts.toArray.toList.drop (k + 1) ++ List.replicate (k + 1 - k) (none, 0, 0)).toArray
    have hlz : (l0.zipIdx.eraseIdx k).length = l0.length - 1 := by rw [List.length_eraseIdx_of_lt (by omega), hzl]
    have e1 : l0.length - (k + 1 - k) = l0.length - 1 := by omega
    have hel : (ts.eraseIdx k).length = l0.length - 1 := by rw [List.length_eraseIdx_of_lt (by omega), hlts]
    have hful : (ts.toArray.toList.take k ++ ts.toArray.toList.drop (k + 1) ++ List.replicate (k + 1 - k) ((none, 0, 0) : Option Addr × Nat × Nat)).length = l0.length := by simp; omega
    have hcs : cur.size = cap := by rw [h3, Nat.mul_one]
    have htk : ((Go.Sort.putCells encSl 0 (ts.toArray.toList.take k ++ ts.toArray.toList.drop (k + 1) ++ List.replicate (k + 1 - k) (none, 0, 0)).toArray cur).toList.take (l0.length - 1)) = (ts.eraseIdx k).map encSl := by
      have e2 := congrArg (List.take (l0.length - 1)) (takeSl cur _ (by rw [hful, hcs]; exact h1))
      rw [hful, List.take_take, Nat.min_eq_left (by omega)] at e2
      rw [e2, ← List.map_take, List.take_append_of_le_length (by simp; omega), List.take_of_length_le (by simp; omega), List.eraseIdx_eq_take_drop_succ]
    refine ⟨_, rfl, Kd.S_erase (f := f) ⟨fun k' hk' => hok k' hk', (ts.eraseIdx k).map encSl, ⟨?_, .inr ⟨g, cap, _, ?_, hbase, heapSl _ hb, ?_, h2, ?_, ?_⟩⟩, ?_, fun j p hp => ?_⟩, hB.grown hg hB.size (fun j hj => by cases hj; exact hbase), hg⟩
    · have hsz : (Kd.tag f (Kd.slice 3 (Kd.int .i64))).sz = 1 := rfl
      rw [List.length_map, hel, hlz, hsz, Nat.mul_one]
    · rw [e1, hlz]
    · rw [hlz]; omega
    · have hsz : (Kd.tag f (Kd.slice 3 (Kd.int .i64))).sz = 1 := rfl
      rw [hsz, Nat.mul_one]
      simp [Go.Sort.putCells, hcs]
    · have hsz : (Kd.tag f (Kd.slice 3 (Kd.int .i64))).sz = 1 := rfl
      rw [hlz, hsz, Nat.mul_one]
      exact htk
    · have hsz : (Kd.tag f (Kd.slice 3 (Kd.int .i64))).sz = 1 := rfl
      rw [List.length_map, hel, hlz, hsz, Nat.mul_one]
    · have hsz : (Kd.tag f (Kd.slice 3 (Kd.int .i64))).sz = 1 := rfl
      rw [hsz, chunk1, List.getElem?_map, List.getElem?_eraseIdx]
      rw [List.getElem?_eraseIdx] at hp
      have hmv : ∀ i, l0.zipIdx[i]? = some p → (Kd.tag f (Kd.slice 3 (Kd.int .i64))).M (Go.Sort.putRow encSl (Go.Sort.ahead w q) g 0 (ts.toArray.toList.take k ++ ts.toArray.toList.drop (k + 1) ++ List.replicate (k + 1 - k) (none, 0, 0)).toArray) w0.heap.size (fun k_ => P0_ k_ ∧ some k_ ≠ (Value.slice (some ⟨g, 0, none⟩) (l0.length - (k + 1 - k)) cap).ownBlock) p ((Option.map encSl ts[i]?).toList) := fun i hi => by
        have hM := hreps.2 i p hi
        rw [hsz, chunk1, List.getElem?_map] at hM
        exact Kd.M_step hM (fun k' ho hlt => (by obtain ⟨_, _, _, _, hfar⟩ := hg; exact hfar k' hlt (fun he => ho.2 (by first | exact he | exact he.symm | simpa [Value.ownBlock] using he))))
      by_cases hjk : j < k
      · rw [if_pos hjk] at hp ⊢
        exact hmv j hp
      · rw [if_neg hjk] at hp ⊢
        exact hmv (j + 1) hp
theorem slices_Delete_int_int.calls (P0_ : Nat → Prop) (u9000_ : Value) (l0 : List (List Int)) (a1 : Int) (a2 : Int) (r : List (List Int)) (w0 w : World) (hB : Below w0.heap.size w0 w) (ho0 : Kd.S (Kd.slice 3 (Kd.int .i64)) 40 w w0.heap.size P0_ u9000_ l0) (h : slices_Delete_int_int.f l0 a1 a2 = some r) :
    Calls Try.prog 50 #[u9000_, .int .i64 a1, .int .i64 a2] w fun e w' => ∃ v0_ : Value, e = .returned (v0_) ∧ Kd.S (Kd.slice 3 (Kd.int .i64)) 40 w' w0.heap.size (fun k_ => (P0_ k_ ∨ w.heap.size ≤ k_)) v0_ r ∧ Below w0.heap.size w0 w' ∧ Kept w w' (fun k_ => P0_ k_) :=
  (slices_Delete_int_int.calls0 P0_ u9000_ l0 a1 a2 r w0 w hB ho0 h).mono fun e w' ⟨v0_, he, hS, hb, hg⟩ => ⟨v0_, he, Kd.S_mono hS (fun _ hk => .inl hk), hb, hg.size, fun i hi hn => hg.block i hi (fun e_ => hn ((Kd.S_R hS).1 i (by rw [e_])))⟩

end Go.Proofs.Ytebjpafnfmmjeaa.PA
