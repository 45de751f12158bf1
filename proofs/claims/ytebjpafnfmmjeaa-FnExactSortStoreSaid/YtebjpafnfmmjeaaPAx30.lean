-- Written for this claim by a program of this session's (ownprint.py), by way of the kit's print and hand-proved texts. Lean checks it.
import Derived.Test.YtebjpafnfmmjeaaPAx0
import Derived.Test.YtebjpafnfmmjeaaPAx5
import Derived.Test.YtebjpafnfmmjeaaPAx16
import Derived.Test.YtebjpafnfmmjeaaPAx21
import Derived.Test.YtebjpafnfmmjeaaPAx29
namespace Go.Proofs.Ytebjpafnfmmjeaa.PA
open Go.RowKit Go.Proofs.YtebjpafnfmmjeaaW.PrintWords Go.Proofs.YtebjpafnfmmjeaaW.PrintLast Go.Proofs.YtebjpafnfmmjeaaW.PrintMore
attribute [local go_sem] max2_int min2_int max_two min_two max_three min_three max_four min_four   -- for this text's walks alone
set_option linter.unusedVariables false
set_option linter.unusedSimpArgs false

/-! ### impl_SortStore: function 32 (by hand) -/
/-- What the store is sorted by: the area, then the width. -/
def cmpRow (x y : List Int) : Int :=
  if wrap64 (rd x 0 * rd x 1) = wrap64 (rd y 0 * rd y 1) then wrap64 (rd x 0 - rd y 0) else wrap64 (wrap64 (rd x 0 * rd x 1) - wrap64 (rd y 0 * rd y 1))
def leRow (x y : List Int) : Bool := decide (rd x 0 * rd x 1 < rd y 0 * rd y 1 ∨ (rd x 0 * rd x 1 = rd y 0 * rd y 1 ∧ rd x 0 ≤ rd y 0))
def sortRows (l : List (List Int)) : List (List Int) := l.mergeSort leRow
def impl_SortStore.f (k : Nat) (l0 : List (List Int)) : Option (List (List Int)) := (impl_StoreOk.f l0).bind fun t => (if t = true then (impl_copyLists.f k l0).bind fun o => (if storeOk o = true then some (sortRows o) else none) else some [])
theorem impl_SortStore.mono : ∀ a0 k, LeO (impl_SortStore.f k a0) (impl_SortStore.f (k + 1) a0) := by
  intro a0 k
  unfold impl_SortStore.f
  repeat' first
      | (with_reducible exact impl_copyLists.mono _ _)
      | (with_reducible exact LeO.refl _)
      | (with_reducible exact LeO.none _)
      | (with_reducible refine LeO.ite ?_ ?_)
      | (with_reducible refine LeO.bind ?_ (fun _ => ?_))
theorem putRow_T {n : Nat} [Inhabited (Fin n)] (T : Fin n → Option Addr × Nat × Nat) (w : World) (g : Nat) (d : Array (Fin n)) :
    Go.Sort.putRow (fun j => encSl (T j)) w g 0 d = Go.Sort.putRow encSl w g 0 (d.map T) := by
  unfold Go.Sort.putRow
  congr 1
  funext c
  unfold Go.Sort.putCells
  congr 1
  funext k x
  rw [Array.size_map]
  by_cases h : 0 ≤ k ∧ k < 0 + d.size
  · rw [if_pos h, if_pos h]
    have h1 : k - 0 < d.size := by omega
    rw [getElem!_pos (d.map T) (k - 0) (by simpa using h1), getElem!_pos d (k - 0) h1, Array.getElem_map]
  · rw [if_neg h, if_neg h]
set_option maxHeartbeats 1000000 in
/-- slices.insertionSortCmpFunc at [][]int: a permutation of the rows; sorted where the whole is sorted; as it was where nothing is. -/
theorem insertion_SS (cf : List Int → List Int → Int) (gf : Nat) (lb : Array Value) (eg : ∀ args w, (callFunc gf args).run Try.prog w = .ok (.enter gf args) w) (a b : Nat) (P0_ : Nat → Prop) (v : Value) (l : List (List Int)) (w0 w : World)
    (hB : Below w0.heap.size w0 w) (ho0 : Kd.S (Kd.slice 3 (Kd.int .i64)) 40 w w0.heap.size P0_ v l) (hn : 0 < l.length) (hn2 : l.length ≤ 1000) (hab : a ≤ b) (hb : b ≤ l.length)
    (hcmp : ∀ (A1 A2 : Option Addr) (c1 c2 : Nat) (x y : List Int) (W : World), x ∈ l → y ∈ l → Kd.C (Kd.int .i64) W A1 x.length x → x.length ≤ c1 → Kd.C (Kd.int .i64) W A2 y.length y → y.length ≤ c2 → Calls Try.prog gf (#[.slice A1 x.length c1, .slice A2 y.length c2] ++ lb) W fun e w' => e = .returned (.int .i64 (cf x y)) ∧ ∃ q, w' = W.drewN q)
    (hS : ∀ x y z : List Int, x ∈ l → y ∈ l → z ∈ l → ¬ cf x x < 0 ∧ (cf x y < 0 → cf y z < 0 → cf x z < 0) ∧ (¬ cf x y < 0 → ¬ cf y z < 0 → ¬ cf x z < 0)) :
    Calls Try.prog 62 #[v, .int .i64 a, .int .i64 b, .func (.func gf) #[] lb] w fun e w' => e = .returned (.tuple #[]) ∧ ∃ r : List (List Int), Kd.S (Kd.slice 3 (Kd.int .i64)) 40 w' w0.heap.size P0_ v r ∧ Below w0.heap.size w0 w' ∧ r.Perm l ∧ (a = 0 → b = l.length → r.Pairwise fun x y => ¬ cf y x < 0) ∧ (a = b → r = l) := by
  obtain ⟨f, ho0⟩ := ho0
  have hzl : l.zipIdx.length = l.length := List.length_zipIdx
  obtain ⟨hok, inner, hown, hreps⟩ := ho0
  have hsz : (Kd.tag f (Kd.slice 3 (Kd.int .i64))).sz = 1 := rfl
  obtain ⟨ts, rfl⟩ : ∃ ts : List (Option Addr × Nat × Nat), inner = ts.map encSl := encs_of (fun u hu0 => by
    obtain ⟨j, hj, rfl⟩ := List.mem_iff_getElem.1 hu0
    have hlen := hreps.1
    rw [hsz, Nat.mul_one] at hlen
    have hM := hreps.2 j (l.zipIdx[j]'(by omega)) (List.getElem?_eq_getElem (by omega))
    obtain ⟨u, hu, hR⟩ := hM
    obtain ⟨A, c, rfl⟩ := Kd.R_slice hR
    refine ⟨(A, (l.zipIdx[j]'(by omega)).1.length, c), ?_⟩
    have h2 : (inner.drop (j * 1)).take 1 = [inner[j]] := by
      rw [Nat.mul_one, List.drop_eq_getElem_cons hj]
      rfl
    rw [hsz, h2] at hu
    exact (List.singleton_inj.1 hu).symm)
  have hlts : ts.length = l.length := by
    have := hreps.1
    rw [List.length_map, hzl, hsz, Nat.mul_one] at this
    exact this
  have hown0 : w.ownsRow w0.heap.size 40 1 v l.length (ts.map encSl) := by rw [← hzl]; exact hown
  have hM9 : maxLen = 9223372036854775807 := rfl
  rcases hown0.2 with ⟨rfl, hn0⟩ | ⟨g, cap, cur, rfl, hbase, hbl, h1, h2, h3, h4⟩
  · omega
  haveI : Inhabited (Fin l.length) := ⟨⟨0, hn⟩⟩
  obtain ⟨T, hT⟩ : ∃ T : Fin l.length → Option Addr × Nat × Nat, T = fun j => ts[j.1]'(by omega) := ⟨_, rfl⟩
  obtain ⟨L, hL⟩ : ∃ L : Fin l.length → List Int, L = fun j => l[j.1] := ⟨_, rfl⟩
  -- each row's own blocks
  have hrow : ∀ j : Fin l.length, ∃ (A : Option Addr) (c : Nat), encSl (T j) = .slice A (L j).length c ∧ (L j).length ≤ c ∧ ∀ W : World, (∀ k, k < w.heap.size → k ≠ g → W.heap[k]? = w.heap[k]?) → Kd.C (Kd.int .i64) W A (L j).length (L j) := by
    intro j
    have hlt := j.2
    have hz : l.zipIdx[j.1]? = some (l[j.1], j.1) := by rw [List.getElem?_zipIdx, List.getElem?_eq_getElem hlt, Nat.zero_add]; rfl
    have hM := hreps.2 j.1 (l[j.1], j.1) hz
    rw [hsz, chunk1, List.getElem?_map, List.getElem?_eq_getElem (by omega : j.1 < ts.length)] at hM
    have hM2 : ∀ W : World, (∀ k, k < w.heap.size → k ≠ g → W.heap[k]? = w.heap[k]?) → (Kd.tag f (Kd.slice 3 (Kd.int .i64))).M W w0.heap.size (fun k_ => P0_ k_ ∧ some k_ ≠ (Value.slice (some ⟨g, 0, none⟩) l.length cap).ownBlock) (l[j.1], j.1) ((Option.map encSl (some ts[j.1])).toList) := fun W hW => by
      have hM3 := hM
      exact Kd.M_step hM3 (fun k' ho hlt' => hW k' hlt' (fun he => ho.2 (by subst he; simp [Value.ownBlock])))
    obtain ⟨u, hu, hR⟩ := hM
    obtain ⟨A, c, rfl⟩ := Kd.R_slice hR
    have hu2 : encSl ts[j.1] = .slice A l[j.1].length c := (List.singleton_inj.1 hu)
    refine ⟨A, c, by rw [hT, hL]; exact hu2, by rw [hL]; exact (Kd.R_reads' hR).2.1, fun W hW => ?_⟩
    obtain ⟨u2, hu3, hR2⟩ := hM2 W hW
    have hu4 : encSl ts[j.1] = u2 := (List.singleton_inj.1 hu3)
    rw [hu2] at hu4
    subst hu4
    rw [hL]
    exact (Kd.R_reads' hR2).2.2
  obtain ⟨D, hD⟩ : ∃ D : Array (Fin l.length), D = (List.finRange l.length).toArray := ⟨_, rfl⟩
  have hDs : D.size = l.length := by rw [hD]; simp
  have hDl : D.toList = List.finRange l.length := by rw [hD]
  have hDmap : D.map T = ts.toArray := by
    apply Array.toList_inj.1
    rw [Array.toList_map, hDl, hT]
    apply List.ext_getElem
    · simp [hlts]
    · intro j h1 h2
      simp
  have hH : Go.Sort.Holds (fun j => encSl (T j)) w g 0 D := by
    have hh := holdsSl (ts := ts) hbl (by have h5 := h4; rw [Nat.mul_one, ← hlts] at h5; exact h5)
    intro j hj
    have hj2 := hh j (by simp; omega)
    refine ⟨hj2.1.trans ?_, hj2.2⟩
    rw [← hDmap, getElem!_pos (D.map T) j (by simpa using hj), getElem!_pos D j hj, Array.getElem_map]
  have hblk : g < w.heap.size := (Array.getElem?_eq_some_iff.1 hbl).1
  have hreads : CmpReads Try.prog gf lb (fun j => encSl (T j)) (fun i j => cf (L i) (L j)) g 0 D.size w := by
    intro m os dk hdk x y
    obtain ⟨A1, c1, e1, hc1, hC1⟩ := hrow x
    obtain ⟨A2, c2, e2, hc2, hC2⟩ := hrow y
    have hheap : ∀ k, k < w.heap.size → k ≠ g → (sortWorld (fun j => encSl (T j)) w g 0 m dk os).heap[k]? = w.heap[k]? := by
      intro k hk hkg
      unfold sortWorld
      rw [Go.Sort.heap_grow_old _ _ (by simpa [Go.Sort.putRow, Go.Sort.mapBlock, Go.Sort.ahead] using hk)]
      have : g ≠ k := fun e => hkg e.symm
      simp [Go.Sort.putRow, Go.Sort.mapBlock, Go.Sort.ahead, Array.getElem?_modify, this]
    have hx : L x ∈ l := by rw [hL]; exact List.getElem_mem _
    have hy : L y ∈ l := by rw [hL]; exact List.getElem_mem _
    have := hcmp A1 A2 c1 c2 (L x) (L y) _ hx hy (hC1 _ hheap) hc1 (hC2 _ hheap) hc2
    rw [← e1, ← e2] at this
    exact this
  have hSWO : Go.Sort.SWO (ltOf fun i j => cf (L i) (L j)) := by
    have hm : ∀ j, L j ∈ l := fun j => by rw [hL]; exact List.getElem_mem _
    refine ⟨fun x => ?_, fun x y z h1 h2 => ?_, fun x y z h1 h2 => ?_⟩
    · unfold ltOf
      exact decide_eq_false (hS _ _ _ (hm x) (hm x) (hm x)).1
    · unfold ltOf at *
      exact decide_eq_true ((hS _ _ _ (hm x) (hm y) (hm z)).2.1 (of_decide_eq_true h1) (of_decide_eq_true h2))
    · unfold ltOf at *
      exact decide_eq_false ((hS _ _ _ (hm x) (hm y) (hm z)).2.2 (of_decide_eq_false h1) (of_decide_eq_false h2))
  have hcall := Any.insertionSortCmpFunc_one Try.insSS (fun j => encSl (T j)) (fun _ => rfl) (fun i j => cf (L i) (L j)) gf lb g 0 cap a b D w eg hreads hH hab (by omega) (by omega)
  rw [hDs] at hcall
  refine (show Calls Try.prog 62 #[.slice (some ⟨g, 0, none⟩) l.length cap, .int .i64 (a : Int), .int .i64 (b : Int), .func (.func gf) #[] lb] w _ from hcall).mono ?_
  rintro e w' ⟨rfl, q, rfl⟩
  obtain ⟨hp1, hs1⟩ := Go.Sort.insertionSort_holds hSWO D a b hab (by omega)
  have hp2 := Go.Sort.permIn_mono D _ a b 0 D.size (Nat.zero_le _) (by omega) (Nat.le_refl _) hp1
  generalize hE : Go.Sort.insertionSort (ltOf fun i j => cf (L i) (L j)) D a b = E at hp1 hs1 hp2 ⊢
  have hEs : E.size = l.length := by rw [hp1.1, hDs]
  have hEp : E.toList.Perm (List.finRange l.length) := by
    have h6 := hp2.2.2
    rw [show D.size = E.size by rw [hEs, hDs]] at h6
    have h7 : E.extract 0 E.size = E := by simp
    have h8 : D.extract 0 E.size = D := by rw [show E.size = D.size by rw [hEs, hDs]]; simp
    rw [h7, h8, hDl] at h6
    exact h6
  have hnd : E.toList.Nodup := hEp.nodup_iff.2 (List.nodup_finRange _)
  have hEl : E.toList.length = l.length := by simpa using hEs
  have hlL : (List.finRange l.length).map L = l := by
    rw [hL]
    apply List.ext_getElem
    · simp
    · intro j h1 h2
      simp
  rw [putRow_T]
  have hg : w.grownBy ((Go.Sort.putRow encSl w g 0 (E.map T)).drewN q) (some g) := grownSl (w := w) (g := g) (n := q) (E.map T)
  have hEm : E.map T = (E.toList.map T).toArray := by rw [← Array.toList_map]
  have hrl : (E.toList.map L).zipIdx.length = l.length := by simp [hEs]
  have hcs : cur.size = cap := by rw [h3, Nat.mul_one]
  refine ⟨rfl, E.toList.map L, ⟨fun k => (E.toList.map Fin.val).idxOf (f k), hok, (E.toList.map T).map encSl, ⟨?_, .inr ⟨g, cap, _, ?_, hbase, heapSl (n := q) (E.map T) hbl, ?_, h2, ?_, ?_⟩⟩, ?_, fun j p hp => ?_⟩, hB.grown hg hB.size (fun j hj => by cases hj; exact hbase), ?_, ?_, ?_⟩
  · rw [hrl]
    show _ = l.length * 1
    simp [hEs]
  · rw [hrl]
  · rw [hrl]; exact h1
  · show _ = cap * 1
    rw [Nat.mul_one]
    simp [Go.Sort.putCells, hcs]
  · rw [hrl]
    show List.take (l.length * 1) _ = _
    have h9 := takeSl cur (E.toList.map T) (by simp [hEs]; omega)
    rw [List.length_map, hEl] at h9
    rw [Nat.mul_one, hEm]
    exact h9
  · rw [hrl]
    show _ = l.length * 1
    simp [hEs]
  · have hj : j < E.toList.length := by
      have := (List.getElem?_eq_some_iff.1 hp).1
      rw [hrl] at this
      omega
    rw [List.getElem?_zipIdx, List.getElem?_map, List.getElem?_eq_getElem hj, Nat.zero_add] at hp
    obtain rfl := Option.some.inj hp
    have hi := (E.toList[j]).2
    have hz : l.zipIdx[(E.toList[j]).1]? = some (l[(E.toList[j]).1], (E.toList[j]).1) := by rw [List.getElem?_zipIdx, List.getElem?_eq_getElem hi, Nat.zero_add]; rfl
    have hM := hreps.2 _ _ hz
    have e1 : ((ts.map encSl).drop ((E.toList[j]).1 * (Kd.tag f (Kd.slice 3 (Kd.int .i64))).sz)).take (Kd.tag f (Kd.slice 3 (Kd.int .i64))).sz = [encSl (T E.toList[j])] := by
      rw [hsz, chunk1, List.getElem?_map, List.getElem?_eq_getElem (by omega : (E.toList[j]).1 < ts.length), hT]
      rfl
    have e2 : (((E.toList.map T).map encSl).drop (j * (Kd.tag (fun k => (E.toList.map Fin.val).idxOf (f k)) (Kd.slice 3 (Kd.int .i64))).sz)).take (Kd.tag (fun k => (E.toList.map Fin.val).idxOf (f k)) (Kd.slice 3 (Kd.int .i64))).sz = [encSl (T E.toList[j])] := by
      show List.take 1 (List.drop (j * 1) _) = _
      rw [chunk1, List.getElem?_map, List.getElem?_map, List.getElem?_eq_getElem hj]
      rfl
    rw [e1] at hM
    rw [e2]
    have hM2 := Kd.M_step (w1 := (Go.Sort.putRow encSl w g 0 (E.map T)).drewN q) hM (fun k' ho hlt' => by
      have hne : k' ≠ g := fun he => ho.2 (by subst he; simp [Value.ownBlock])
      exact hg.block k' hlt' (fun he => hne (Option.some.inj he)))
    have hLe : L E.toList[j] = l[(E.toList[j]).1] := by rw [hL]
    show (Kd.slice 3 (Kd.int .i64)).M _ _ _ (L E.toList[j]) _
    rw [hLe]
    refine (Kd.slice 3 (Kd.int .i64)).M_mono (fun k' hk' => ⟨hk'.1, ?_⟩) hM2
    have hk3 : f k' = (E.toList[j]).1 := hk'.2
    show (E.toList.map Fin.val).idxOf (f k') = j
    rw [hk3]
    have hnd2 : (E.toList.map Fin.val).Nodup := (List.pairwise_map).2 (hnd.imp (fun h he => h (Fin.ext he)))
    have := hnd2.idxOf_getElem j (by simpa using hj)
    rwa [List.getElem_map] at this
  · exact (hEp.map L).trans (by rw [hlL])
  · rintro rfl rfl
    rw [List.pairwise_iff_getElem]
    intro i j hi hj hij
    have hi2 : i < E.size := by simpa using hi
    have hj2 : j < E.size := by simpa using hj
    have h9 := hs1 i j (Nat.zero_le _) hij (by omega)
    unfold ltOf at h9
    rw [getElem!_pos E i hi2, getElem!_pos E j hj2] at h9
    simpa using of_decide_eq_false h9
  · rintro rfl
    have hED : E = D := by
      rw [← hE]
      unfold Go.Sort.insertionSort
      rw [Go.Sort.insOuter, if_neg (by omega)]
    rw [hED, hDl, hlL]
/-- What is asked of a comparison of rows. -/
def CmpRows (gf : Nat) (lb : Array Value) (cf : List Int → List Int → Int) (l : List (List Int)) : Prop :=
  ∀ (A1 A2 : Option Addr) (c1 c2 : Nat) (x y : List Int) (W : World), x ∈ l → y ∈ l → Kd.C (Kd.int .i64) W A1 x.length x → x.length ≤ c1 → Kd.C (Kd.int .i64) W A2 y.length y → y.length ≤ c2 → Calls Try.prog gf (#[.slice A1 x.length c1, .slice A2 y.length c2] ++ lb) W fun e w' => e = .returned (.int .i64 (cf x y)) ∧ ∃ q, w' = W.drewN q
def OrdRows (cf : List Int → List Int → Int) (l : List (List Int)) : Prop := ∀ x y z : List Int, x ∈ l → y ∈ l → z ∈ l → ¬ cf x x < 0 ∧ (cf x y < 0 → cf y z < 0 → cf x z < 0) ∧ (¬ cf x y < 0 → ¬ cf y z < 0 → ¬ cf x z < 0)
/-- The row holds its rows in order. -/
def SortedSS (cf : List Int → List Int → Int) (l : List (List Int)) (w0 w' : World) (P0_ : Nat → Prop) (v : Value) : Prop :=
  ∃ r : List (List Int), Kd.S (Kd.slice 3 (Kd.int .i64)) 40 w' w0.heap.size P0_ v r ∧ Below w0.heap.size w0 w' ∧ r.Perm l ∧ r.Pairwise fun x y => ¬ cf y x < 0
set_option maxHeartbeats 4000000 in
set_option maxRecDepth 100000 in
theorem stable_SS (cf : List Int → List Int → Int) (gf : Nat) (lb : Array Value) (eg : ∀ args w, (callFunc gf args).run Try.prog w = .ok (.enter gf args) w) (P0_ : Nat → Prop) (v : Value) (l : List (List Int)) (w0 w : World)
    (hB : Below w0.heap.size w0 w) (ho0 : Kd.S (Kd.slice 3 (Kd.int .i64)) 40 w w0.heap.size P0_ v l) (hn : 0 < l.length) (h20 : l.length ≤ 20) (hcmp : CmpRows gf lb cf l) (hS : OrdRows cf l) :
    Calls Try.prog 59 #[v, .int .i64 (l.length : Int), .func (.func gf) #[] lb] w fun e w' => e = .returned (.tuple #[]) ∧ SortedSS cf l w0 w' P0_ v := by
  have hc : Aside0 (Calls Try.prog 62 #[v, .int .i64 0, .int .i64 (l.length : Int), .func (.func gf) #[] lb] w fun e w' => e = .returned (.tuple #[]) ∧ SortedSS cf l w0 w' P0_ v) :=
    ⟨(insertion_SS cf gf lb eg 0 l.length P0_ v l w0 w hB ho0 hn (by omega) (Nat.zero_le _) (Nat.le_refl _) hcmp hS).mono fun e w' ⟨he, r, h1, h2, h3, h4, _⟩ => ⟨he, r, h1, h2, h3, h4 rfl rfl⟩⟩
  have hd : Aside0 (∀ w1, SortedSS cf l w0 w1 P0_ v → l.length = 20 → Calls Try.prog 62 #[v, .int .i64 20, .int .i64 20, .func (.func gf) #[] lb] w1 fun e w' => e = .returned (.tuple #[]) ∧ SortedSS cf l w0 w' P0_ v) :=
    ⟨fun w1 ⟨r, g1, g2, g3, g4⟩ hl => by
      have hrl : r.length = 20 := by rw [g3.length_eq, hl]
      exact (insertion_SS cf gf lb eg 20 20 P0_ v r w0 w1 g2 g1 (by omega) (by omega) (Nat.le_refl _) (by omega) (fun A1 A2 c1 c2 x y W hx hy => hcmp A1 A2 c1 c2 x y W (g3.mem_iff.1 hx) (g3.mem_iff.1 hy)) (fun x y z hx hy hz => hS x y z (g3.mem_iff.1 hx) (g3.mem_iff.1 hy) (g3.mem_iff.1 hz))).mono
        fun e w' ⟨he, r', h1, h2, _, _, h5⟩ => ⟨he, r', h1, h2, by rw [h5 rfl]; exact g3, by rw [h5 rfl]; exact g4⟩⟩
  clear hB ho0 hcmp hS
  generalize hL : l.length = nn at *
  by_cases hlt : nn < 20
  · have hn' : (nn : Int) < 20 := by omega
    have HL := Aside0.mk hL
    clear hL hd h20 hn hlt
    generalize (nn : Int) = n at *
    have d1 : ¬ (20 ≤ n) := by omega
    have d2 : ¬ (20 < n) := by omega
    have e1 : (20 ≤ n) = False := eq_false d1
    have e2 : (20 < n) = False := eq_false d2
    have e3 : decide (20 ≤ n) = false := decide_eq_false d1
    have e4 : decide (20 < n) = false := decide_eq_false d2
    clear hn' d1 d2
    go_enter Try.func59, Try.ntmps59
    go_wp2
    go_loopg [7, 8] 0 (fun _ v7 v8 w' => v7 = .int .i64 0 ∧ v8 = .int .i64 20 ∧ w' = w)
    case atStart => exact ⟨rfl, rfl, rfl⟩
    case round =>
      obtain ⟨rfl, rfl, rfl⟩ := hrel
      go_wp2_with (go_at_call 62; refine hc.out.mono ?_; rintro e w1 ⟨rfl, h1⟩; have H1 := Aside0.mk h1; clear h1)
      go_loopg [6, 7, 8] 0 (fun _ v6 v7 v8 w' => v6 = .int .i64 20 ∧ v7 = .int .i64 0 ∧ v8 = .int .i64 20 ∧ w' = w1)
      case atStart => exact ⟨rfl, rfl, rfl, rfl⟩
      case round =>
        obtain ⟨rfl, rfl, rfl, rfl⟩ := hrel
        go_wp2
        first | go_end0 | ((try simp only [Exit.inBlock, Exit.then]); refine bodyPost_ret (results_none rfl _ _ _) rfl ?_)
        exact ⟨rfl, H1.out⟩
  · obtain rfl : nn = 20 := by omega
    have HL := Aside0.mk hL
    clear hL h20 hn hlt
    rw [show ((20 : Nat) : Int) = 20 from rfl] at hc ⊢
    go_enter Try.func59, Try.ntmps59
    go_wp2
    go_loopg [7, 8] 1 (fun gg v7 v8 w' => (v7 = .int .i64 0 ∧ v8 = .int .i64 20 ∧ w' = w ∧ gg = 1) ∨ (v7 = .int .i64 20 ∧ v8 = .int .i64 40 ∧ Aside0 (SortedSS cf l w0 w' P0_ v)))
    case atStart => exact .inl ⟨rfl, rfl, rfl, rfl⟩
    case round =>
      rcases hrel with ⟨rfl, rfl, rfl, rfl⟩ | ⟨rfl, rfl, HS⟩
      · go_wp2_with (go_at_call 62; refine hc.out.mono ?_; rintro e w1 ⟨rfl, h1⟩; have H1 := Aside0.mk h1; clear h1)
        go_roundg 0
        case measure => omega
        case rel => exact .inr ⟨rfl, rfl, H1⟩
      · have hc2 := Aside0.mk (hd.out _ HS.out (by first | exact HL.out | trivial))
        go_wp2_with (go_at_call 62; refine hc2.out.mono ?_; rintro e w1 ⟨rfl, h1⟩; have H1 := Aside0.mk h1; clear h1)
        go_loopg [6, 7, 8] 0 (fun _ v6 v7 v8 w' => v6 = .int .i64 20 ∧ v7 = .int .i64 20 ∧ v8 = .int .i64 40 ∧ w' = w1)
        case atStart => exact ⟨rfl, rfl, rfl, rfl⟩
        case round =>
          obtain ⟨rfl, rfl, rfl, rfl⟩ := hrel
          go_wp2
          first | go_end0 | ((try simp only [Exit.inBlock, Exit.then]); refine bodyPost_ret (results_none rfl _ _ _) rfl ?_)
          exact ⟨rfl, H1.out⟩
set_option maxHeartbeats 4000000 in
set_option maxRecDepth 100000 in
theorem sortStable_SS (cf : List Int → List Int → Int) (gf : Nat) (lb : Array Value) (eg : ∀ args w, (callFunc gf args).run Try.prog w = .ok (.enter gf args) w) (P0_ : Nat → Prop) (v : Value) (l : List (List Int)) (w0 w : World)
    (hB : Below w0.heap.size w0 w) (ho0 : Kd.S (Kd.slice 3 (Kd.int .i64)) 40 w w0.heap.size P0_ v l) (hn : 0 < l.length) (h20 : l.length ≤ 20) (hcmp : CmpRows gf lb cf l) (hS : OrdRows cf l) :
    Calls Try.prog 52 #[v, .func (.func gf) #[] lb] w fun e w' => e = .returned (.tuple #[]) ∧ SortedSS cf l w0 w' P0_ v := by
  have hc := Aside0.mk (stable_SS cf gf lb eg P0_ v l w0 w hB ho0 hn h20 hcmp hS)
  obtain ⟨A, c, rfl⟩ := Kd.S_slice ho0
  clear hB ho0 hcmp hS hn h20
  go_enter Try.func52, Try.ntmps52
  go_wp2_with (go_at_call 59; refine hc.out.mono ?_; rintro e w1 ⟨rfl, h1⟩; have H1 := Aside0.mk h1; clear h1)
  first | go_end0 | ((try simp only [Exit.inBlock, Exit.then]); refine bodyPost_ret (results_none rfl _ _ _) rfl ?_)
  exact ⟨rfl, H1.out⟩
set_option maxHeartbeats 4000000 in
set_option maxRecDepth 100000 in
/-- The same at no row at all. -/
theorem sortStable_none (gf : Nat) (lb : Array Value) (A : Option Addr) (c : Nat) (w : World) :
    Calls Try.prog 52 #[.slice A 0 c, .func (.func gf) #[] lb] w fun e w' => e = .returned (.tuple #[]) ∧ w = w' := by
  have h0 : Calls Try.prog 62 #[.slice A 0 c, .int .i64 0, .int .i64 0, .func (.func gf) #[] lb] w fun e w' => e = .returned (.tuple #[]) ∧ w = w' := by
    go_enter Try.func62, Try.ntmps62
    go_wp2
    go_loopg [8] 0 (fun _ v8 w' => v8 = .int .i64 1 ∧ w' = w)
    case atStart => exact ⟨rfl, rfl⟩
    case round =>
      obtain ⟨rfl, rfl⟩ := hrel
      go_wp2
      first | go_end0 | ((try simp only [Exit.inBlock, Exit.then]); refine bodyPost_ret (results_none rfl _ _ _) rfl ?_)
      exact ⟨rfl, rfl⟩
  have h1 : Calls Try.prog 59 #[.slice A 0 c, .int .i64 0, .func (.func gf) #[] lb] w fun e w' => e = .returned (.tuple #[]) ∧ w = w' := by
    go_enter Try.func59, Try.ntmps59
    go_wp2
    go_loopg [7, 8] 0 (fun _ v7 v8 w' => v7 = .int .i64 0 ∧ v8 = .int .i64 20 ∧ w' = w)
    case atStart => exact ⟨rfl, rfl, rfl⟩
    case round =>
      obtain ⟨rfl, rfl, rfl⟩ := hrel
      go_wp2_with (go_at_call 62; refine h0.mono ?_; rintro e w1 ⟨rfl, rfl⟩)
      go_loopg [6, 7, 8] 0 (fun _ v6 v7 v8 w' => v6 = .int .i64 20 ∧ v7 = .int .i64 0 ∧ v8 = .int .i64 20 ∧ w' = wr)
      case atStart => exact ⟨rfl, rfl, rfl, rfl⟩
      case round =>
        obtain ⟨rfl, rfl, rfl, rfl⟩ := hrel
        go_wp2
        first | go_end0 | ((try simp only [Exit.inBlock, Exit.then]); refine bodyPost_ret (results_none rfl _ _ _) rfl ?_)
        exact ⟨rfl, rfl⟩
  go_enter Try.func52, Try.ntmps52
  go_wp2_with (go_at_call 59; refine h1.mono ?_; rintro e w1 ⟨rfl, rfl⟩)
  first | go_end0 | ((try simp only [Exit.inBlock, Exit.then]); refine bodyPost_ret (results_none rfl _ _ _) rfl ?_)
  exact ⟨rfl, rfl⟩
structure RowIn (r : List Int) : Prop where
  len : r.length = 2
  w1 : 1 ≤ rd r 0
  w2 : rd r 0 ≤ 100
  h1 : 1 ≤ rd r 1
  h2 : rd r 1 ≤ 100
theorem rowIn_of {o : List (List Int)} (h : storeOk o = true) : o.length ≤ 20 ∧ ∀ r ∈ o, RowIn r := by
  unfold storeOk at h
  rw [Bool.and_eq_true, decide_eq_true_iff, Bool.not_eq_true', List.any_eq_false] at h
  refine ⟨h.1, fun r hr => ?_⟩
  have h2 := h.2 r hr
  unfold badRow at h2
  simp only [Bool.not_eq_true', decide_eq_false_iff_not, Classical.not_not, Bool.not_eq_false] at h2
  exact ⟨h2.1, h2.2.1, h2.2.2.1, h2.2.2.2.1, h2.2.2.2.2⟩
theorem cmpRow_eq {x y : List Int} (hx : RowIn x) (hy : RowIn y) : (1 ≤ rd x 0 * rd x 1 ∧ rd x 0 * rd x 1 ≤ 10000) ∧ (1 ≤ rd y 0 * rd y 1 ∧ rd y 0 * rd y 1 ≤ 10000) ∧ cmpRow x y = if rd x 0 * rd x 1 = rd y 0 * rd y 1 then rd x 0 - rd y 0 else rd x 0 * rd x 1 - rd y 0 * rd y 1 := by
  have bd : ∀ r : List Int, RowIn r → 1 ≤ rd r 0 * rd r 1 ∧ rd r 0 * rd r 1 ≤ 10000 := fun r hr => by
    have p1 : 1 * 1 ≤ rd r 0 * rd r 1 := Int.mul_le_mul hr.w1 hr.h1 (by omega) (by have := hr.w1; omega)
    have p2 : rd r 0 * rd r 1 ≤ 100 * 100 := Int.mul_le_mul hr.w2 hr.h2 (by have := hr.h1; omega) (by omega)
    omega
  have b1 := bd x hx
  have b2 := bd y hy
  have ww : ∀ z : Int, -100000 ≤ z → z ≤ 100000 → wrap64 z = z := fun z h0 h1 => by unfold wrap64; omega
  have x1 := hx.w1
  have x2 := hx.w2
  have y1 := hy.w1
  have y2 := hy.w2
  refine ⟨b1, b2, ?_⟩
  unfold cmpRow
  generalize rd x 0 * rd x 1 = p at *
  generalize rd y 0 * rd y 1 = q at *
  rw [ww p (by omega) (by omega), ww q (by omega) (by omega), ww (rd x 0 - rd y 0) (by omega) (by omega), ww (p - q) (by omega) (by omega)]
theorem ord_cmpRow {o : List (List Int)} (h : ∀ r ∈ o, RowIn r) : OrdRows cmpRow o := by
  intro x y z hx hy hz
  obtain ⟨_, _, e1⟩ := cmpRow_eq (h x hx) (h x hx)
  obtain ⟨_, _, e2⟩ := cmpRow_eq (h x hx) (h y hy)
  obtain ⟨_, _, e3⟩ := cmpRow_eq (h y hy) (h z hz)
  obtain ⟨_, _, e4⟩ := cmpRow_eq (h x hx) (h z hz)
  rw [e1, e2, e3, e4]
  generalize rd x 0 * rd x 1 = p at *
  generalize rd y 0 * rd y 1 = q at *
  generalize rd z 0 * rd z 1 = s at *
  refine ⟨by rw [if_pos rfl]; omega, ?_, ?_⟩
  · split <;> split <;> split <;> omega
  · split <;> split <;> split <;> omega
theorem sortRows_of {o r : List (List Int)} (h : ∀ x ∈ o, RowIn x) (hp : r.Perm o) (hs : r.Pairwise fun x y => ¬ cmpRow y x < 0) : r = sortRows o := by
  have hle : ∀ x y, x ∈ o → y ∈ o → (¬ cmpRow y x < 0 ↔ leRow x y = true) := fun x y hx hy => by
    obtain ⟨_, _, e⟩ := cmpRow_eq (h y hy) (h x hx)
    rw [e]
    unfold leRow
    rw [decide_eq_true_iff]
    generalize rd x 0 * rd x 1 = p at *
    generalize rd y 0 * rd y 1 = q at *
    split <;> omega
  have hp2 : (sortRows o).Perm o := List.mergeSort_perm o leRow
  refine List.Perm.eq_of_pairwise (le := fun x y => leRow x y = true) (fun a b ha hb h1 h2 => ?_) ?_ ?_ (hp.trans hp2.symm)
  · have ra := h a (hp.mem_iff.1 ha)
    have rb := h b (hp2.mem_iff.1 hb)
    unfold leRow at h1 h2
    rw [decide_eq_true_iff] at h1 h2
    have e0 : rd a 0 = rd b 0 := by omega
    have e1 : rd a 0 * rd a 1 = rd b 0 * rd b 1 := by omega
    rw [e0] at e1
    have e2 : rd a 1 = rd b 1 := Int.eq_of_mul_eq_mul_left (by have := rb.w1; omega) e1
    have la := ra.len
    have lb := rb.len
    match a, b, la, lb with
    | [a0, a1], [b0, b1], _, _ =>
      have f0 : a0 = b0 := e0
      have f1 : a1 = b1 := e2
      rw [f0, f1]
  · refine hs.imp_of_mem ?_
    intro a b ha hb hab
    exact (hle a b (hp.mem_iff.1 ha) (hp.mem_iff.1 hb)).1 hab
  · refine List.pairwise_mergeSort (fun a b c h1 h2 => ?_) (fun a b => ?_) o
    · unfold leRow at *
      rw [decide_eq_true_iff] at *
      omega
    · unfold leRow
      rw [Bool.or_eq_true, decide_eq_true_iff, decide_eq_true_iff]
      omega
set_option maxHeartbeats 4000000 in
set_option maxRecDepth 100000 in
theorem impl_SortStore.calls (k : Nat) (A0 : Option Addr) (c0 : Nat) (l0 : List (List Int)) (r : List (List Int)) (w : World) (hr0 : Kd.C (Kd.slice 3 (Kd.int .i64)) w A0 l0.length l0) (hc0 : l0.length ≤ c0) (h : impl_SortStore.f k l0 = some r) :
    Calls Try.prog 32 #[.slice A0 l0.length c0] w fun e w' => ∃ v0_ : Value, e = .returned (v0_) ∧ Kd.S (Kd.slice 3 (Kd.int .i64)) 40 w' w.heap.size (fun _ => True) v0_ r ∧ Below w.heap.size w w' := by
  have eg : ∀ args w, (callFunc 53 args).run Try.prog w = .ok (.enter 53 args) w := enters_of Try.func53 (by kernel_rfl) rfl
  have HR0 := Aside0.mk hr0
  have HC0 := Aside0.mk hc0
  clear hr0 hc0
  unfold impl_SortStore.f at h
  replace h := Option.bind_eq_some_iff.1 h
  obtain ⟨t, ht, h⟩ := h
  have HT := Aside0.mk ht
  clear ht
  by_cases c : t = true
  case neg =>
    rw [if_neg c] at h
    obtain rfl : t = false := by simpa using c
    obtain rfl := Option.some.inj h
    clear c h
    go_enter Try.func32, Try.ntmps32
    go_wp2_with (go_at_call 15; refine (impl_StoreOk.calls _ _ l0 false _ HR0.out HC0.out HT.out).mono ?_; rintro e w1 ⟨rfl, ⟨q, rfl⟩⟩)
    go_ret
    exact ⟨_, rfl, Kd.S_nil _ _ _ _ _, pw_below_drewN (Below.refl _ _) _⟩
  rw [if_pos c] at h
  subst c
  replace h := Option.bind_eq_some_iff.1 h
  obtain ⟨o, ho, h⟩ := h
  have HO := Aside0.mk ho
  clear ho
  by_cases co : storeOk o = true
  case neg => rw [if_neg co] at h; cases h
  rw [if_pos co] at h
  have H := Aside0.mk (Option.some.inj h)
  have hro := Aside0.mk (rowIn_of co)
  clear h co
  have hcmp : Aside0 (CmpRows 53 #[] cmpRow o) := ⟨fun A1 A2 c1 c2 x y W hx hy hC1 hc1 hC2 hc2 => by
    have lx := (hro.out.2 x hx).len
    have ly := (hro.out.2 y hy).len
    refine ((impl_SortStore_1.calls A1 c1 x A2 c2 y (cmpRow x y) W hC1 hc1 hC2 hc2 ?_)).mono (fun e w' h1 => ⟨h1.1, h1.2.out⟩)
    unfold impl_SortStore_1.f cmpRow
    rw [if_pos (by omega), if_pos (by omega), if_pos (by omega), if_pos (by omega)]
    split <;> rfl⟩
  by_cases hz : 0 < o.length
  · have HZ := Aside0.mk hz
    clear hz
    go_enter Try.func32, Try.ntmps32
    go_wp2_with (first | (go_at_call 15; refine (impl_StoreOk.calls _ _ l0 true _ HR0.out HC0.out HT.out).mono ?_; rintro e w1 ⟨rfl, ⟨q, rfl⟩⟩) | (go_at_call 46; refine (impl_copyLists.calls k _ _ l0 o _ (Kd.C_below HR0.out (pw_below_drewN (Below.refl _ _) q)) HC0.out HO.out).mono ?_; rintro e w3 ⟨v3, rfl, hS, hb3⟩; have HS3 := Aside0.mk hS; have HB3 := Aside0.mk hb3; clear hS hb3) | (go_at_call 52; refine (sortStable_SS cmpRow 53 #[] eg (fun _ => True) v3 o (w.drewN q) w3 HB3.out HS3.out HZ.out hro.out.1 hcmp.out (ord_cmpRow hro.out.2)).mono ?_; rintro e w4 ⟨rfl, h4⟩; have H4 := Aside0.mk h4; clear h4))
    go_ret
    obtain ⟨r', g1, g2, g3, g4⟩ := H4.out
    have e := sortRows_of hro.out.2 g3 g4
    rw [H.out] at e
    subst e
    exact ⟨_, rfl, g1, below_then (pw_below_drewN (Below.refl _ _) q) (Nat.le_refl _) g2⟩
  · obtain rfl : o = [] := List.eq_nil_of_length_eq_zero (by omega)
    clear hz
    go_enter Try.func32, Try.ntmps32
    go_wp2_with (first | (go_at_call 15; refine (impl_StoreOk.calls _ _ l0 true _ HR0.out HC0.out HT.out).mono ?_; rintro e w1 ⟨rfl, ⟨q, rfl⟩⟩) | (go_at_call 46; refine (impl_copyLists.calls k _ _ l0 [] _ (Kd.C_below HR0.out (pw_below_drewN (Below.refl _ _) q)) HC0.out HO.out).mono ?_; rintro e w3 ⟨v3, rfl, hS, hb3⟩; have HS3 := Aside0.mk hS; have HB3 := Aside0.mk hb3; obtain ⟨A5, c5, rfl⟩ := Kd.S_slice hS; clear hS hb3) | (go_at_call 52; refine (sortStable_none 53 #[] A5 c5 w3).mono ?_; rintro e w4 ⟨rfl, rfl⟩))
    go_ret
    have e := H.out
    simp only [sortRows, List.mergeSort_nil] at e
    subst e
    exact ⟨_, rfl, HS3.out, below_then (pw_below_drewN (Below.refl _ _) q) (Nat.le_refl _) HB3.out⟩

end Go.Proofs.Ytebjpafnfmmjeaa.PA
