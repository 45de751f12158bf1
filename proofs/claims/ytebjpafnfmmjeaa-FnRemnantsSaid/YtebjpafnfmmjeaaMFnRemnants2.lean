/- Texts of this claim put together in build order (FnRemnants). -/
import Derived.Test.YtebjpafnfmmjeaaMFnRemnants0
import Derived.Test.YtebjpafnfmmjeaaMFnRemnants1
-- Written for this claim by a program of this session's (ownprint.py), by way of the kit's print and hand-proved texts. Lean checks it.
namespace Go.Proofs.Ytebjpafnfmmjeaa.PA
open Go.RowKit Go.Proofs.YtebjpafnfmmjeaaW.PrintWords Go.Proofs.YtebjpafnfmmjeaaW.PrintLast Go.Proofs.YtebjpafnfmmjeaaW.PrintMore
attribute [local go_sem] max2_int min2_int max_two min_two max_three min_three max_four min_four   -- for this text's walks alone
set_option linter.unusedVariables false
set_option linter.unusedSimpArgs false
/-- What the store is sorted by: the area, then the width. -/
def cmpRow (x y : List Int) : Int :=
  if wrap64 (rd x 0 * rd x 1) = wrap64 (rd y 0 * rd y 1) then wrap64 (rd x 0 - rd y 0) else wrap64 (wrap64 (rd x 0 * rd x 1) - wrap64 (rd y 0 * rd y 1))
def leRow (x y : List Int) : Bool := decide (rd x 0 * rd x 1 < rd y 0 * rd y 1 ∨ (rd x 0 * rd x 1 = rd y 0 * rd y 1 ∧ rd x 0 ≤ rd y 0))
def sortRows (l : List (List Int)) : List (List Int) := l.mergeSort leRow
def impl_SortStore.f (k : Nat) (l0 : List (List Int)) : Option (List (List Int)) := (impl_StoreOk.f l0).bind fun t => (if t = true then (impl_copyLists.f k l0).bind fun o => (if storeOk o = true then some (sortRows o) else none) else some [])
theorem putRow_T {n : Nat} [Inhabited (Fin n)] (T : Fin n → Option Addr × Nat × Nat) (w : World) (g : Nat) (d : Array (Fin n)) :
    Go.Sort.putRow (fun j => encSl (T j)) w g 0 d = Go.Sort.putRow encSl w g 0 (d.map T) := by
  unfold Go.Sort.putRow
  congr 1
  funext c
  unfold Go.Sort.putCells
  congr 1
  funext k x
  rw [Array.size_map]
  by_cases h : 0 ≤ k ∧ k < 0 + d.size
  · rw [if_pos h, if_pos h]
    have h1 : k - 0 < d.size := by omega
    rw [getElem!_pos (d.map T) (k - 0) (by simpa using h1), getElem!_pos d (k - 0) h1, Array.getElem_map]
  · rw [if_neg h, if_neg h]
set_option maxHeartbeats 1000000 in
/-- slices.insertionSortCmpFunc at [][]int: a permutation of the rows; sorted where the whole is sorted; as it was where nothing is. -/
theorem insertion_SS (cf : List Int → List Int → Int) (gf : Nat) (lb : Array Value) (eg : ∀ args w, (callFunc gf args).run Try.prog w = .ok (.enter gf args) w) (a b : Nat) (P0_ : Nat → Prop) (v : Value) (l : List (List Int)) (w0 w : World)
    (hB : Below w0.heap.size w0 w) (ho0 : Kd.S (Kd.slice 3 (Kd.int .i64)) 40 w w0.heap.size P0_ v l) (hn : 0 < l.length) (hn2 : l.length ≤ 1000) (hab : a ≤ b) (hb : b ≤ l.length)
    (hcmp : ∀ (A1 A2 : Option Addr) (c1 c2 : Nat) (x y : List Int) (W : World), x ∈ l → y ∈ l → Kd.C (Kd.int .i64) W A1 x.length x → x.length ≤ c1 → Kd.C (Kd.int .i64) W A2 y.length y → y.length ≤ c2 → Calls Try.prog gf (#[.slice A1 x.length c1, .slice A2 y.length c2] ++ lb) W fun e w' => e = .returned (.int .i64 (cf x y)) ∧ ∃ q, w' = W.drewN q)
    (hS : ∀ x y z : List Int, x ∈ l → y ∈ l → z ∈ l → ¬ cf x x < 0 ∧ (cf x y < 0 → cf y z < 0 → cf x z < 0) ∧ (¬ cf x y < 0 → ¬ cf y z < 0 → ¬ cf x z < 0)) :
    Calls Try.prog 62 #[v, .int .i64 a, .int .i64 b, .func (.func gf) #[] lb] w fun e w' => e = .returned (.tuple #[]) ∧ ∃ r : List (List Int), Kd.S (Kd.slice 3 (Kd.int .i64)) 40 w' w0.heap.size P0_ v r ∧ Below w0.heap.size w0 w' ∧ r.Perm l ∧ (a = 0 → b = l.length → r.Pairwise fun x y => ¬ cf y x < 0) ∧ (a = b → r = l) := by
  obtain ⟨f, ho0⟩ := ho0
  have hzl : l.zipIdx.length = l.length := List.length_zipIdx
  obtain ⟨hok, inner, hown, hreps⟩ := ho0
  have hsz : (Kd.tag f (Kd.slice 3 (Kd.int .i64))).sz = 1 := rfl
  obtain ⟨ts, rfl⟩ : ∃ ts : List (Option Addr × Nat × Nat), inner = ts.map encSl := encs_of (fun u hu0 => by
    obtain ⟨j, hj, rfl⟩ := List.mem_iff_getElem.1 hu0
    have hlen := hreps.1
    rw [hsz, Nat.mul_one] at hlen
    have hM := hreps.2 j (l.zipIdx[j]'(by omega)) (List.getElem?_eq_getElem (by omega))
    obtain ⟨u, hu, hR⟩ := hM
    obtain ⟨A, c, rfl⟩ := Kd.R_slice hR
    refine ⟨(A, (l.zipIdx[j]'(by omega)).1.length, c), ?_⟩
    have h2 : (inner.drop (j * 1)).take 1 = [inner[j]] := by
      rw [Nat.mul_one, List.drop_eq_getElem_cons hj]
      rfl
    rw [hsz, h2] at hu
    exact (List.singleton_inj.1 hu).symm)
  have hlts : ts.length = l.length := by
    have := hreps.1
    rw [List.length_map, hzl, hsz, Nat.mul_one] at this
    exact this
  have hown0 : w.ownsRow w0.heap.size 40 1 v l.length (ts.map encSl) := by rw [← hzl]; exact hown
  have hM9 : maxLen = 9223372036854775807 := rfl
  rcases hown0.2 with ⟨rfl, hn0⟩ | ⟨g, cap, cur, rfl, hbase, hbl, h1, h2, h3, h4⟩
  · omega
  haveI : Inhabited (Fin l.length) := ⟨⟨0, hn⟩⟩
  obtain ⟨T, hT⟩ : ∃ T : Fin l.length → Option Addr × Nat × Nat, T = fun j => ts[j.1]'(by omega) := ⟨_, rfl⟩
  obtain ⟨L, hL⟩ : ∃ L : Fin l.length → List Int, L = fun j => l[j.1] := ⟨_, rfl⟩
  -- each row's own blocks
  have hrow : ∀ j : Fin l.length, ∃ (A : Option Addr) (c : Nat), encSl (T j) = .slice A (L j).length c ∧ (L j).length ≤ c ∧ ∀ W : World, (∀ k, k < w.heap.size → k ≠ g → W.heap[k]? = w.heap[k]?) → Kd.C (Kd.int .i64) W A (L j).length (L j) := by
    intro j
    have hlt := j.2
    have hz : l.zipIdx[j.1]? = some (l[j.1], j.1) := by rw [List.getElem?_zipIdx, List.getElem?_eq_getElem hlt, Nat.zero_add]; rfl
    have hM := hreps.2 j.1 (l[j.1], j.1) hz
    rw [hsz, chunk1, List.getElem?_map, List.getElem?_eq_getElem (by omega : j.1 < ts.length)] at hM
    have hM2 : ∀ W : World, (∀ k, k < w.heap.size → k ≠ g → W.heap[k]? = w.heap[k]?) → (Kd.tag f (Kd.slice 3 (Kd.int .i64))).M W w0.heap.size (fun k_ => P0_ k_ ∧ some k_ ≠ (Value.slice (some ⟨g, 0, none⟩) l.length cap).ownBlock) (l[j.1], j.1) ((Option.map encSl (some ts[j.1])).toList) := fun W hW => by
      have hM3 := hM
      exact Kd.M_step hM3 (fun k' ho hlt' => hW k' hlt' (fun he => ho.2 (by subst he; simp [Value.ownBlock])))
    obtain ⟨u, hu, hR⟩ := hM
    obtain ⟨A, c, rfl⟩ := Kd.R_slice hR
    have hu2 : encSl ts[j.1] = .slice A l[j.1].length c := (List.singleton_inj.1 hu)
    refine ⟨A, c, by rw [hT, hL]; exact hu2, by rw [hL]; exact (Kd.R_reads' hR).2.1, fun W hW => ?_⟩
    obtain ⟨u2, hu3, hR2⟩ := hM2 W hW
    have hu4 : encSl ts[j.1] = u2 := (List.singleton_inj.1 hu3)
    rw [hu2] at hu4
    subst hu4
    rw [hL]
    exact (Kd.R_reads' hR2).2.2
  obtain ⟨D, hD⟩ : ∃ D : Array (Fin l.length), D = (List.finRange l.length).toArray := ⟨_, rfl⟩
  have hDs : D.size = l.length := by rw [hD]; simp
  have hDl : D.toList = List.finRange l.length := by rw [hD]
  have hDmap : D.map T = ts.toArray := by
    apply Array.toList_inj.1
    rw [Array.toList_map, hDl, hT]
    apply List.ext_getElem
    · simp [hlts]
    · intro j h1 h2
      simp
  have hH : Go.Sort.Holds (fun j => encSl (T j)) w g 0 D := by
    have hh := holdsSl (ts := ts) hbl (by have h5 := h4; rw [Nat.mul_one, ← hlts] at h5; exact h5)
    intro j hj
    have hj2 := hh j (by simp; omega)
    refine ⟨hj2.1.trans ?_, hj2.2⟩
    rw [← hDmap, getElem!_pos (D.map T) j (by simpa using hj), getElem!_pos D j hj, Array.getElem_map]
  have hblk : g < w.heap.size := (Array.getElem?_eq_some_iff.1 hbl).1
  have hreads : CmpReads Try.prog gf lb (fun j => encSl (T j)) (fun i j => cf (L i) (L j)) g 0 D.size w := by
    intro m os dk hdk x y
    obtain ⟨A1, c1, e1, hc1, hC1⟩ := hrow x
    obtain ⟨A2, c2, e2, hc2, hC2⟩ := hrow y
    have hheap : ∀ k, k < w.heap.size → k ≠ g → (sortWorld (fun j => encSl (T j)) w g 0 m dk os).heap[k]? = w.heap[k]? := by
      intro k hk hkg
      unfold sortWorld
      rw [Go.Sort.heap_grow_old _ _ (by simpa [Go.Sort.putRow, Go.Sort.mapBlock, Go.Sort.ahead] using hk)]
      have : g ≠ k := fun e => hkg e.symm
      simp [Go.Sort.putRow, Go.Sort.mapBlock, Go.Sort.ahead, Array.getElem?_modify, this]
    have hx : L x ∈ l := by rw [hL]; exact List.getElem_mem _
    have hy : L y ∈ l := by rw [hL]; exact List.getElem_mem _
    have := hcmp A1 A2 c1 c2 (L x) (L y) _ hx hy (hC1 _ hheap) hc1 (hC2 _ hheap) hc2
    rw [← e1, ← e2] at this
    exact this
  have hSWO : Go.Sort.SWO (ltOf fun i j => cf (L i) (L j)) := by
    have hm : ∀ j, L j ∈ l := fun j => by rw [hL]; exact List.getElem_mem _
    refine ⟨fun x => ?_, fun x y z h1 h2 => ?_, fun x y z h1 h2 => ?_⟩
    · unfold ltOf
      exact decide_eq_false (hS _ _ _ (hm x) (hm x) (hm x)).1
    · unfold ltOf at *
      exact decide_eq_true ((hS _ _ _ (hm x) (hm y) (hm z)).2.1 (of_decide_eq_true h1) (of_decide_eq_true h2))
    · unfold ltOf at *
      exact decide_eq_false ((hS _ _ _ (hm x) (hm y) (hm z)).2.2 (of_decide_eq_false h1) (of_decide_eq_false h2))
  have hcall := Any.insertionSortCmpFunc_one Try.insSS (fun j => encSl (T j)) (fun _ => rfl) (fun i j => cf (L i) (L j)) gf lb g 0 cap a b D w eg hreads hH hab (by omega) (by omega)
  rw [hDs] at hcall
  refine (show Calls Try.prog 62 #[.slice (some ⟨g, 0, none⟩) l.length cap, .int .i64 (a : Int), .int .i64 (b : Int), .func (.func gf) #[] lb] w _ from hcall).mono ?_
  rintro e w' ⟨rfl, q, rfl⟩
  obtain ⟨hp1, hs1⟩ := Go.Sort.insertionSort_holds hSWO D a b hab (by omega)
  have hp2 := Go.Sort.permIn_mono D _ a b 0 D.size (Nat.zero_le _) (by omega) (Nat.le_refl _) hp1
  generalize hE : Go.Sort.insertionSort (ltOf fun i j => cf (L i) (L j)) D a b = E at hp1 hs1 hp2 ⊢
  have hEs : E.size = l.length := by rw [hp1.1, hDs]
  have hEp : E.toList.Perm (List.finRange l.length) := by
    have h6 := hp2.2.2
    rw [show D.size = E.size by rw [hEs, hDs]] at h6
    have h7 : E.extract 0 E.size = E := by simp
    have h8 : D.extract 0 E.size = D := by rw [show E.size = D.size by rw [hEs, hDs]]; simp
    rw [h7, h8, hDl] at h6
    exact h6
  have hnd : E.toList.Nodup := hEp.nodup_iff.2 (List.nodup_finRange _)
  have hEl : E.toList.length = l.length := by simpa using hEs
  have hlL : (List.finRange l.length).map L = l := by
    rw [hL]
    apply List.ext_getElem
    · simp
    · intro j h1 h2
      simp
  rw [putRow_T]
  have hg : w.grownBy ((Go.Sort.putRow encSl w g 0 (E.map T)).drewN q) (some g) := grownSl (w := w) (g := g) (n := q) (E.map T)
  have hEm : E.map T = (E.toList.map T).toArray := by rw [← Array.toList_map]
  have hrl : (E.toList.map L).zipIdx.length = l.length := by simp [hEs]
  have hcs : cur.size = cap := by rw [h3, Nat.mul_one]
  refine ⟨rfl, E.toList.map L, ⟨fun k => (E.toList.map Fin.val).idxOf (f k), hok, (E.toList.map T).map encSl, ⟨?_, .inr ⟨g, cap, _, ?_, hbase, heapSl (n := q) (E.map T) hbl, ?_, h2, ?_, ?_⟩⟩, ?_, fun j p hp => ?_⟩, hB.grown hg hB.size (fun j hj => by cases hj; exact hbase), ?_, ?_, ?_⟩
  · rw [hrl]
    show _ = l.length * 1
    simp [hEs]
  · rw [hrl]
  · rw [hrl]; exact h1
  · show _ = cap * 1
    rw [Nat.mul_one]
    simp [Go.Sort.putCells, hcs]
  · rw [hrl]
    show List.take (l.length * 1) _ = _
    have h9 := takeSl cur (E.toList.map T) (by simp [hEs]; omega)
    rw [List.length_map, hEl] at h9
    rw [Nat.mul_one, hEm]
    exact h9
  · rw [hrl]
    show _ = l.length * 1
    simp [hEs]
  · have hj : j < E.toList.length := by
      have := (List.getElem?_eq_some_iff.1 hp).1
      rw [hrl] at this
      omega
    rw [List.getElem?_zipIdx, List.getElem?_map, List.getElem?_eq_getElem hj, Nat.zero_add] at hp
    obtain rfl := Option.some.inj hp
    have hi := (E.toList[j]).2
    have hz : l.zipIdx[(E.toList[j]).1]? = some (l[(E.toList[j]).1], (E.toList[j]).1) := by rw [List.getElem?_zipIdx, List.getElem?_eq_getElem hi, Nat.zero_add]; rfl
    have hM := hreps.2 _ _ hz
    have e1 : ((ts.map encSl).drop ((E.toList[j]).1 * (Kd.tag f (Kd.slice 3 (Kd.int .i64))).sz)).take (Kd.tag f (Kd.slice 3 (Kd.int .i64))).sz = [encSl (T E.toList[j])] := by
      rw [hsz, chunk1, List.getElem?_map, List.getElem?_eq_getElem (by omega : (E.toList[j]).1 < ts.length), hT]
      rfl
    have e2 : (((E.toList.map T).map encSl).drop (j * (Kd.tag (fun k => (E.toList.map Fin.val).idxOf (f k)) (Kd.slice 3 (Kd.int .i64))).sz)).take (Kd.tag (fun k => (E.toList.map Fin.val).idxOf (f k)) (Kd.slice 3 (Kd.int .i64))).sz = [encSl (T E.toList[j])] := by
      show List.take 1 (List.drop (j * 1) _) = _
      rw [chunk1, List.getElem?_map, List.getElem?_map, List.getElem?_eq_getElem hj]
      rfl
    rw [e1] at hM
    rw [e2]
    have hM2 := Kd.M_step (w1 := (Go.Sort.putRow encSl w g 0 (E.map T)).drewN q) hM (fun k' ho hlt' => by
      have hne : k' ≠ g := fun he => ho.2 (by subst he; simp [Value.ownBlock])
      exact hg.block k' hlt' (fun he => hne (Option.some.inj he)))
    have hLe : L E.toList[j] = l[(E.toList[j]).1] := by rw [hL]
    show (Kd.slice 3 (Kd.int .i64)).M _ _ _ (L E.toList[j]) _
    rw [hLe]
    refine (Kd.slice 3 (Kd.int .i64)).M_mono (fun k' hk' => ⟨hk'.1, ?_⟩) hM2
    have hk3 : f k' = (E.toList[j]).1 := hk'.2
    show (E.toList.map Fin.val).idxOf (f k') = j
    rw [hk3]
    have hnd2 : (E.toList.map Fin.val).Nodup := (List.pairwise_map).2 (hnd.imp (fun h he => h (Fin.ext he)))
    have := hnd2.idxOf_getElem j (by simpa using hj)
    rwa [List.getElem_map] at this
  · exact (hEp.map L).trans (by rw [hlL])
  · rintro rfl rfl
    rw [List.pairwise_iff_getElem]
    intro i j hi hj hij
    have hi2 : i < E.size := by simpa using hi
    have hj2 : j < E.size := by simpa using hj
    have h9 := hs1 i j (Nat.zero_le _) hij (by omega)
    unfold ltOf at h9
    rw [getElem!_pos E i hi2, getElem!_pos E j hj2] at h9
    simpa using of_decide_eq_false h9
  · rintro rfl
    have hED : E = D := by
      rw [← hE]
      unfold Go.Sort.insertionSort
      rw [Go.Sort.insOuter, if_neg (by omega)]
    rw [hED, hDl, hlL]
/-- What is asked of a comparison of rows. -/
def CmpRows (gf : Nat) (lb : Array Value) (cf : List Int → List Int → Int) (l : List (List Int)) : Prop :=
  ∀ (A1 A2 : Option Addr) (c1 c2 : Nat) (x y : List Int) (W : World), x ∈ l → y ∈ l → Kd.C (Kd.int .i64) W A1 x.length x → x.length ≤ c1 → Kd.C (Kd.int .i64) W A2 y.length y → y.length ≤ c2 → Calls Try.prog gf (#[.slice A1 x.length c1, .slice A2 y.length c2] ++ lb) W fun e w' => e = .returned (.int .i64 (cf x y)) ∧ ∃ q, w' = W.drewN q
def OrdRows (cf : List Int → List Int → Int) (l : List (List Int)) : Prop := ∀ x y z : List Int, x ∈ l → y ∈ l → z ∈ l → ¬ cf x x < 0 ∧ (cf x y < 0 → cf y z < 0 → cf x z < 0) ∧ (¬ cf x y < 0 → ¬ cf y z < 0 → ¬ cf x z < 0)
/-- The row holds its rows in order. -/
def SortedSS (cf : List Int → List Int → Int) (l : List (List Int)) (w0 w' : World) (P0_ : Nat → Prop) (v : Value) : Prop :=
  ∃ r : List (List Int), Kd.S (Kd.slice 3 (Kd.int .i64)) 40 w' w0.heap.size P0_ v r ∧ Below w0.heap.size w0 w' ∧ r.Perm l ∧ r.Pairwise fun x y => ¬ cf y x < 0
set_option maxHeartbeats 4000000 in
set_option maxRecDepth 100000 in
theorem stable_SS (cf : List Int → List Int → Int) (gf : Nat) (lb : Array Value) (eg : ∀ args w, (callFunc gf args).run Try.prog w = .ok (.enter gf args) w) (P0_ : Nat → Prop) (v : Value) (l : List (List Int)) (w0 w : World)
    (hB : Below w0.heap.size w0 w) (ho0 : Kd.S (Kd.slice 3 (Kd.int .i64)) 40 w w0.heap.size P0_ v l) (hn : 0 < l.length) (h20 : l.length ≤ 20) (hcmp : CmpRows gf lb cf l) (hS : OrdRows cf l) :
    Calls Try.prog 59 #[v, .int .i64 (l.length : Int), .func (.func gf) #[] lb] w fun e w' => e = .returned (.tuple #[]) ∧ SortedSS cf l w0 w' P0_ v := by
  have hc : Aside0 (Calls Try.prog 62 #[v, .int .i64 0, .int .i64 (l.length : Int), .func (.func gf) #[] lb] w fun e w' => e = .returned (.tuple #[]) ∧ SortedSS cf l w0 w' P0_ v) :=
    ⟨(insertion_SS cf gf lb eg 0 l.length P0_ v l w0 w hB ho0 hn (by omega) (Nat.zero_le _) (Nat.le_refl _) hcmp hS).mono fun e w' ⟨he, r, h1, h2, h3, h4, _⟩ => ⟨he, r, h1, h2, h3, h4 rfl rfl⟩⟩
  have hd : Aside0 (∀ w1, SortedSS cf l w0 w1 P0_ v → l.length = 20 → Calls Try.prog 62 #[v, .int .i64 20, .int .i64 20, .func (.func gf) #[] lb] w1 fun e w' => e = .returned (.tuple #[]) ∧ SortedSS cf l w0 w' P0_ v) :=
    ⟨fun w1 ⟨r, g1, g2, g3, g4⟩ hl => by
      have hrl : r.length = 20 := by rw [g3.length_eq, hl]
      exact (insertion_SS cf gf lb eg 20 20 P0_ v r w0 w1 g2 g1 (by omega) (by omega) (Nat.le_refl _) (by omega) (fun A1 A2 c1 c2 x y W hx hy => hcmp A1 A2 c1 c2 x y W (g3.mem_iff.1 hx) (g3.mem_iff.1 hy)) (fun x y z hx hy hz => hS x y z (g3.mem_iff.1 hx) (g3.mem_iff.1 hy) (g3.mem_iff.1 hz))).mono
        fun e w' ⟨he, r', h1, h2, _, _, h5⟩ => ⟨he, r', h1, h2, by rw [h5 rfl]; exact g3, by rw [h5 rfl]; exact g4⟩⟩
  clear hB ho0 hcmp hS
  generalize hL : l.length = nn at *
  by_cases hlt : nn < 20
  · have hn' : (nn : Int) < 20 := by omega
    have HL := Aside0.mk hL
    clear hL hd h20 hn hlt
    generalize (nn : Int) = n at *
    have d1 : ¬ (20 ≤ n) := by omega
    have d2 : ¬ (20 < n) := by omega
    have e1 : (20 ≤ n) = False := eq_false d1
    have e2 : (20 < n) = False := eq_false d2
    have e3 : decide (20 ≤ n) = false := decide_eq_false d1
    have e4 : decide (20 < n) = false := decide_eq_false d2
    clear hn' d1 d2
    go_enter Try.func59, Try.ntmps59
    go_wp2
    go_loopg [7, 8] 0 (fun _ v7 v8 w' => v7 = .int .i64 0 ∧ v8 = .int .i64 20 ∧ w' = w)
    case atStart => exact ⟨rfl, rfl, rfl⟩
    case round =>
      obtain ⟨rfl, rfl, rfl⟩ := hrel
      go_wp2_with (go_at_call 62; refine hc.out.mono ?_; rintro e w1 ⟨rfl, h1⟩; have H1 := Aside0.mk h1; clear h1)
      go_loopg [6, 7, 8] 0 (fun _ v6 v7 v8 w' => v6 = .int .i64 20 ∧ v7 = .int .i64 0 ∧ v8 = .int .i64 20 ∧ w' = w1)
      case atStart => exact ⟨rfl, rfl, rfl, rfl⟩
      case round =>
        obtain ⟨rfl, rfl, rfl, rfl⟩ := hrel
        go_wp2
        first | go_end0 | ((try simp only [Exit.inBlock, Exit.then]); refine bodyPost_ret (results_none rfl _ _ _) rfl ?_)
        exact ⟨rfl, H1.out⟩
  · obtain rfl : nn = 20 := by omega
    have HL := Aside0.mk hL
    clear hL h20 hn hlt
    rw [show ((20 : Nat) : Int) = 20 from rfl] at hc ⊢
    go_enter Try.func59, Try.ntmps59
    go_wp2
    go_loopg [7, 8] 1 (fun gg v7 v8 w' => (v7 = .int .i64 0 ∧ v8 = .int .i64 20 ∧ w' = w ∧ gg = 1) ∨ (v7 = .int .i64 20 ∧ v8 = .int .i64 40 ∧ Aside0 (SortedSS cf l w0 w' P0_ v)))
    case atStart => exact .inl ⟨rfl, rfl, rfl, rfl⟩
    case round =>
      rcases hrel with ⟨rfl, rfl, rfl, rfl⟩ | ⟨rfl, rfl, HS⟩
      · go_wp2_with (go_at_call 62; refine hc.out.mono ?_; rintro e w1 ⟨rfl, h1⟩; have H1 := Aside0.mk h1; clear h1)
        go_roundg 0
        case measure => omega
        case rel => exact .inr ⟨rfl, rfl, H1⟩
      · have hc2 := Aside0.mk (hd.out _ HS.out (by first | exact HL.out | trivial))
        go_wp2_with (go_at_call 62; refine hc2.out.mono ?_; rintro e w1 ⟨rfl, h1⟩; have H1 := Aside0.mk h1; clear h1)
        go_loopg [6, 7, 8] 0 (fun _ v6 v7 v8 w' => v6 = .int .i64 20 ∧ v7 = .int .i64 20 ∧ v8 = .int .i64 40 ∧ w' = w1)
        case atStart => exact ⟨rfl, rfl, rfl, rfl⟩
        case round =>
          obtain ⟨rfl, rfl, rfl, rfl⟩ := hrel
          go_wp2
          first | go_end0 | ((try simp only [Exit.inBlock, Exit.then]); refine bodyPost_ret (results_none rfl _ _ _) rfl ?_)
          exact ⟨rfl, H1.out⟩
set_option maxHeartbeats 4000000 in
set_option maxRecDepth 100000 in
theorem sortStable_SS (cf : List Int → List Int → Int) (gf : Nat) (lb : Array Value) (eg : ∀ args w, (callFunc gf args).run Try.prog w = .ok (.enter gf args) w) (P0_ : Nat → Prop) (v : Value) (l : List (List Int)) (w0 w : World)
    (hB : Below w0.heap.size w0 w) (ho0 : Kd.S (Kd.slice 3 (Kd.int .i64)) 40 w w0.heap.size P0_ v l) (hn : 0 < l.length) (h20 : l.length ≤ 20) (hcmp : CmpRows gf lb cf l) (hS : OrdRows cf l) :
    Calls Try.prog 52 #[v, .func (.func gf) #[] lb] w fun e w' => e = .returned (.tuple #[]) ∧ SortedSS cf l w0 w' P0_ v := by
  have hc := Aside0.mk (stable_SS cf gf lb eg P0_ v l w0 w hB ho0 hn h20 hcmp hS)
  obtain ⟨A, c, rfl⟩ := Kd.S_slice ho0
  clear hB ho0 hcmp hS hn h20
  go_enter Try.func52, Try.ntmps52
  go_wp2_with (go_at_call 59; refine hc.out.mono ?_; rintro e w1 ⟨rfl, h1⟩; have H1 := Aside0.mk h1; clear h1)
  first | go_end0 | ((try simp only [Exit.inBlock, Exit.then]); refine bodyPost_ret (results_none rfl _ _ _) rfl ?_)
  exact ⟨rfl, H1.out⟩
set_option maxHeartbeats 4000000 in
set_option maxRecDepth 100000 in
/-- The same at no row at all. -/
theorem sortStable_none (gf : Nat) (lb : Array Value) (A : Option Addr) (c : Nat) (w : World) :
    Calls Try.prog 52 #[.slice A 0 c, .func (.func gf) #[] lb] w fun e w' => e = .returned (.tuple #[]) ∧ w = w' := by
  have h0 : Calls Try.prog 62 #[.slice A 0 c, .int .i64 0, .int .i64 0, .func (.func gf) #[] lb] w fun e w' => e = .returned (.tuple #[]) ∧ w = w' := by
    go_enter Try.func62, Try.ntmps62
    go_wp2
    go_loopg [8] 0 (fun _ v8 w' => v8 = .int .i64 1 ∧ w' = w)
    case atStart => exact ⟨rfl, rfl⟩
    case round =>
      obtain ⟨rfl, rfl⟩ := hrel
      go_wp2
      first | go_end0 | ((try simp only [Exit.inBlock, Exit.then]); refine bodyPost_ret (results_none rfl _ _ _) rfl ?_)
      exact ⟨rfl, rfl⟩
  have h1 : Calls Try.prog 59 #[.slice A 0 c, .int .i64 0, .func (.func gf) #[] lb] w fun e w' => e = .returned (.tuple #[]) ∧ w = w' := by
    go_enter Try.func59, Try.ntmps59
    go_wp2
    go_loopg [7, 8] 0 (fun _ v7 v8 w' => v7 = .int .i64 0 ∧ v8 = .int .i64 20 ∧ w' = w)
    case atStart => exact ⟨rfl, rfl, rfl⟩
    case round =>
      obtain ⟨rfl, rfl, rfl⟩ := hrel
      go_wp2_with (go_at_call 62; refine h0.mono ?_; rintro e w1 ⟨rfl, rfl⟩)
      go_loopg [6, 7, 8] 0 (fun _ v6 v7 v8 w' => v6 = .int .i64 20 ∧ v7 = .int .i64 0 ∧ v8 = .int .i64 20 ∧ w' = wr)
      case atStart => exact ⟨rfl, rfl, rfl, rfl⟩
      case round =>
        obtain ⟨rfl, rfl, rfl, rfl⟩ := hrel
        go_wp2
        first | go_end0 | ((try simp only [Exit.inBlock, Exit.then]); refine bodyPost_ret (results_none rfl _ _ _) rfl ?_)
        exact ⟨rfl, rfl⟩
  go_enter Try.func52, Try.ntmps52
  go_wp2_with (go_at_call 59; refine h1.mono ?_; rintro e w1 ⟨rfl, rfl⟩)
  first | go_end0 | ((try simp only [Exit.inBlock, Exit.then]); refine bodyPost_ret (results_none rfl _ _ _) rfl ?_)
  exact ⟨rfl, rfl⟩
structure RowIn (r : List Int) : Prop where
  len : r.length = 2
  w1 : 1 ≤ rd r 0
  w2 : rd r 0 ≤ 100
  h1 : 1 ≤ rd r 1
  h2 : rd r 1 ≤ 100
theorem rowIn_of {o : List (List Int)} (h : storeOk o = true) : o.length ≤ 20 ∧ ∀ r ∈ o, RowIn r := by
  unfold storeOk at h
  rw [Bool.and_eq_true, decide_eq_true_iff, Bool.not_eq_true', List.any_eq_false] at h
  refine ⟨h.1, fun r hr => ?_⟩
  have h2 := h.2 r hr
  unfold badRow at h2
  simp only [Bool.not_eq_true', decide_eq_false_iff_not, Classical.not_not, Bool.not_eq_false] at h2
  exact ⟨h2.1, h2.2.1, h2.2.2.1, h2.2.2.2.1, h2.2.2.2.2⟩
theorem cmpRow_eq {x y : List Int} (hx : RowIn x) (hy : RowIn y) : (1 ≤ rd x 0 * rd x 1 ∧ rd x 0 * rd x 1 ≤ 10000) ∧ (1 ≤ rd y 0 * rd y 1 ∧ rd y 0 * rd y 1 ≤ 10000) ∧ cmpRow x y = if rd x 0 * rd x 1 = rd y 0 * rd y 1 then rd x 0 - rd y 0 else rd x 0 * rd x 1 - rd y 0 * rd y 1 := by
  have bd : ∀ r : List Int, RowIn r → 1 ≤ rd r 0 * rd r 1 ∧ rd r 0 * rd r 1 ≤ 10000 := fun r hr => by
    have p1 : 1 * 1 ≤ rd r 0 * rd r 1 := Int.mul_le_mul hr.w1 hr.h1 (by omega) (by have := hr.w1; omega)
    have p2 : rd r 0 * rd r 1 ≤ 100 * 100 := Int.mul_le_mul hr.w2 hr.h2 (by have := hr.h1; omega) (by omega)
    omega
  have b1 := bd x hx
  have b2 := bd y hy
  have ww : ∀ z : Int, -100000 ≤ z → z ≤ 100000 → wrap64 z = z := fun z h0 h1 => by unfold wrap64; omega
  have x1 := hx.w1
  have x2 := hx.w2
  have y1 := hy.w1
  have y2 := hy.w2
  refine ⟨b1, b2, ?_⟩
  unfold cmpRow
  generalize rd x 0 * rd x 1 = p at *
  generalize rd y 0 * rd y 1 = q at *
  rw [ww p (by omega) (by omega), ww q (by omega) (by omega), ww (rd x 0 - rd y 0) (by omega) (by omega), ww (p - q) (by omega) (by omega)]
theorem ord_cmpRow {o : List (List Int)} (h : ∀ r ∈ o, RowIn r) : OrdRows cmpRow o := by
  intro x y z hx hy hz
  obtain ⟨_, _, e1⟩ := cmpRow_eq (h x hx) (h x hx)
  obtain ⟨_, _, e2⟩ := cmpRow_eq (h x hx) (h y hy)
  obtain ⟨_, _, e3⟩ := cmpRow_eq (h y hy) (h z hz)
  obtain ⟨_, _, e4⟩ := cmpRow_eq (h x hx) (h z hz)
  rw [e1, e2, e3, e4]
  generalize rd x 0 * rd x 1 = p at *
  generalize rd y 0 * rd y 1 = q at *
  generalize rd z 0 * rd z 1 = s at *
  refine ⟨by rw [if_pos rfl]; omega, ?_, ?_⟩
  · split <;> split <;> split <;> omega
  · split <;> split <;> split <;> omega
theorem sortRows_of {o r : List (List Int)} (h : ∀ x ∈ o, RowIn x) (hp : r.Perm o) (hs : r.Pairwise fun x y => ¬ cmpRow y x < 0) : r = sortRows o := by
  have hle : ∀ x y, x ∈ o → y ∈ o → (¬ cmpRow y x < 0 ↔ leRow x y = true) := fun x y hx hy => by
    obtain ⟨_, _, e⟩ := cmpRow_eq (h y hy) (h x hx)
    rw [e]
    unfold leRow
    rw [decide_eq_true_iff]
    generalize rd x 0 * rd x 1 = p at *
    generalize rd y 0 * rd y 1 = q at *
    split <;> omega
  have hp2 : (sortRows o).Perm o := List.mergeSort_perm o leRow
  refine List.Perm.eq_of_pairwise (le := fun x y => leRow x y = true) (fun a b ha hb h1 h2 => ?_) ?_ ?_ (hp.trans hp2.symm)
  · have ra := h a (hp.mem_iff.1 ha)
    have rb := h b (hp2.mem_iff.1 hb)
    unfold leRow at h1 h2
    rw [decide_eq_true_iff] at h1 h2
    have e0 : rd a 0 = rd b 0 := by omega
    have e1 : rd a 0 * rd a 1 = rd b 0 * rd b 1 := by omega
    rw [e0] at e1
    have e2 : rd a 1 = rd b 1 := Int.eq_of_mul_eq_mul_left (by have := rb.w1; omega) e1
    have la := ra.len
    have lb := rb.len
    match a, b, la, lb with
    | [a0, a1], [b0, b1], _, _ =>
      have f0 : a0 = b0 := e0
      have f1 : a1 = b1 := e2
      rw [f0, f1]
  · refine hs.imp_of_mem ?_
    intro a b ha hb hab
    exact (hle a b (hp.mem_iff.1 ha) (hp.mem_iff.1 hb)).1 hab
  · refine List.pairwise_mergeSort (fun a b c h1 h2 => ?_) (fun a b => ?_) o
    · unfold leRow at *
      rw [decide_eq_true_iff] at *
      omega
    · unfold leRow
      rw [Bool.or_eq_true, decide_eq_true_iff, decide_eq_true_iff]
      omega
set_option maxHeartbeats 4000000 in
set_option maxRecDepth 100000 in
theorem impl_SortStore.calls (k : Nat) (A0 : Option Addr) (c0 : Nat) (l0 : List (List Int)) (r : List (List Int)) (w : World) (hr0 : Kd.C (Kd.slice 3 (Kd.int .i64)) w A0 l0.length l0) (hc0 : l0.length ≤ c0) (h : impl_SortStore.f k l0 = some r) :
    Calls Try.prog 32 #[.slice A0 l0.length c0] w fun e w' => ∃ v0_ : Value, e = .returned (v0_) ∧ Kd.S (Kd.slice 3 (Kd.int .i64)) 40 w' w.heap.size (fun _ => True) v0_ r ∧ Below w.heap.size w w' := by
  have eg : ∀ args w, (callFunc 53 args).run Try.prog w = .ok (.enter 53 args) w := enters_of Try.func53 (by kernel_rfl) rfl
  have HR0 := Aside0.mk hr0
  have HC0 := Aside0.mk hc0
  clear hr0 hc0
  unfold impl_SortStore.f at h
  replace h := Option.bind_eq_some_iff.1 h
  obtain ⟨t, ht, h⟩ := h
  have HT := Aside0.mk ht
  clear ht
  by_cases c : t = true
  case neg =>
    rw [if_neg c] at h
    obtain rfl : t = false := by simpa using c
    obtain rfl := Option.some.inj h
    clear c h
    go_enter Try.func32, Try.ntmps32
    go_wp2_with (go_at_call 15; refine (impl_StoreOk.calls _ _ l0 false _ HR0.out HC0.out HT.out).mono ?_; rintro e w1 ⟨rfl, ⟨q, rfl⟩⟩)
    go_ret
    exact ⟨_, rfl, Kd.S_nil _ _ _ _ _, pw_below_drewN (Below.refl _ _) _⟩
  rw [if_pos c] at h
  subst c
  replace h := Option.bind_eq_some_iff.1 h
  obtain ⟨o, ho, h⟩ := h
  have HO := Aside0.mk ho
  clear ho
  by_cases co : storeOk o = true
  case neg => rw [if_neg co] at h; cases h
  rw [if_pos co] at h
  have H := Aside0.mk (Option.some.inj h)
  have hro := Aside0.mk (rowIn_of co)
  clear h co
  have hcmp : Aside0 (CmpRows 53 #[] cmpRow o) := ⟨fun A1 A2 c1 c2 x y W hx hy hC1 hc1 hC2 hc2 => by
    have lx := (hro.out.2 x hx).len
    have ly := (hro.out.2 y hy).len
    refine ((impl_SortStore_1.calls A1 c1 x A2 c2 y (cmpRow x y) W hC1 hc1 hC2 hc2 ?_)).mono (fun e w' h1 => ⟨h1.1, h1.2.out⟩)
    unfold impl_SortStore_1.f cmpRow
    rw [if_pos (by omega), if_pos (by omega), if_pos (by omega), if_pos (by omega)]
    split <;> rfl⟩
  by_cases hz : 0 < o.length
  · have HZ := Aside0.mk hz
    clear hz
    go_enter Try.func32, Try.ntmps32
    go_wp2_with (first | (go_at_call 15; refine (impl_StoreOk.calls _ _ l0 true _ HR0.out HC0.out HT.out).mono ?_; rintro e w1 ⟨rfl, ⟨q, rfl⟩⟩) | (go_at_call 46; refine (impl_copyLists.calls k _ _ l0 o _ (Kd.C_below HR0.out (pw_below_drewN (Below.refl _ _) q)) HC0.out HO.out).mono ?_; rintro e w3 ⟨v3, rfl, hS, hb3⟩; have HS3 := Aside0.mk hS; have HB3 := Aside0.mk hb3; clear hS hb3) | (go_at_call 52; refine (sortStable_SS cmpRow 53 #[] eg (fun _ => True) v3 o (w.drewN q) w3 HB3.out HS3.out HZ.out hro.out.1 hcmp.out (ord_cmpRow hro.out.2)).mono ?_; rintro e w4 ⟨rfl, h4⟩; have H4 := Aside0.mk h4; clear h4))
    go_ret
    obtain ⟨r', g1, g2, g3, g4⟩ := H4.out
    have e := sortRows_of hro.out.2 g3 g4
    rw [H.out] at e
    subst e
    exact ⟨_, rfl, g1, below_then (pw_below_drewN (Below.refl _ _) q) (Nat.le_refl _) g2⟩
  · obtain rfl : o = [] := List.eq_nil_of_length_eq_zero (by omega)
    clear hz
    go_enter Try.func32, Try.ntmps32
    go_wp2_with (first | (go_at_call 15; refine (impl_StoreOk.calls _ _ l0 true _ HR0.out HC0.out HT.out).mono ?_; rintro e w1 ⟨rfl, ⟨q, rfl⟩⟩) | (go_at_call 46; refine (impl_copyLists.calls k _ _ l0 [] _ (Kd.C_below HR0.out (pw_below_drewN (Below.refl _ _) q)) HC0.out HO.out).mono ?_; rintro e w3 ⟨v3, rfl, hS, hb3⟩; have HS3 := Aside0.mk hS; have HB3 := Aside0.mk hb3; obtain ⟨A5, c5, rfl⟩ := Kd.S_slice hS; clear hS hb3) | (go_at_call 52; refine (sortStable_none 53 #[] A5 c5 w3).mono ?_; rintro e w4 ⟨rfl, rfl⟩))
    go_ret
    have e := H.out
    simp only [sortRows, List.mergeSort_nil] at e
    subst e
    exact ⟨_, rfl, HS3.out, below_then (pw_below_drewN (Below.refl _ _) q) (Nat.le_refl _) HB3.out⟩
end Go.Proofs.Ytebjpafnfmmjeaa.PA
-- Written for this claim by a program of this session's (ownprint.py), by way of the kit's print and hand-proved texts. Lean checks it.
namespace Go.Proofs.Ytebjpafnfmmjeaa.PA
open Go.RowKit Go.Proofs.YtebjpafnfmmjeaaW.PrintWords Go.Proofs.YtebjpafnfmmjeaaW.PrintLast Go.Proofs.YtebjpafnfmmjeaaW.PrintMore
attribute [local go_sem] max2_int min2_int max_two min_two max_three min_three max_four min_four   -- for this text's walks alone
set_option linter.unusedVariables false
set_option linter.unusedSimpArgs false
-- NOT PRINTED: function 10 (laws_FnExactSortStore)
/-- A state of type 65 at block g of W; what its slices lead to came in by w0. -/
def IsS65 (w0 W : World) (g : Nat) (f0 : List Int) (f1 : Int) (f2 : Int) : Prop := ∃ A0 c0, W.heap[g]? = some (.cells #[.slice A0 f0.length c0, .int .i64 f1, .int .i64 f2] 65 (0, 0)) ∧ w0.heap.size ≤ g ∧ Kd.C (Kd.int .u8) w0 A0 f0.length f0
theorem IsS65.grown {w0 W : World} {g : Nat} {f0 : List Int} {f1 : Int} {f2 : Int} {W1 : World} {row : Option Nat} (h : IsS65 w0 W g f0 f1 f2) (hw : W.grownBy W1 row) (hne : some g ≠ row) : IsS65 w0 W1 g f0 f1 f2 := by
  obtain ⟨A0, c0, hb, hg, hr0⟩ := h
  exact ⟨A0, c0, blk_grown hb hw hne, hg, hr0⟩
theorem IsS65.below {w0 W : World} {g : Nat} {f0 : List Int} {f1 : Int} {f2 : Int} {W1 : World} (h : IsS65 w0 W g f0 f1 f2) (hw : Below W.heap.size W W1) : IsS65 w0 W1 g f0 f1 f2 := h.grown (grown_of_below hw none) (by simp)
theorem IsS65.alloc {w0 W : World} {g : Nat} {f0 : List Int} {f1 : Int} {f2 : Int} (h : IsS65 w0 W g f0 f1 f2) (o : Obj) : IsS65 w0 (W.alloc o) g f0 f1 f2 := h.below (below_alloc (Below.refl _ _) o)
theorem IsS65.drewN {w0 W : World} {g : Nat} {f0 : List Int} {f1 : Int} {f2 : Int} (h : IsS65 w0 W g f0 f1 f2) (m : Nat) : IsS65 w0 (W.drewN m) g f0 f1 f2 := h
theorem IsS65.drew {w0 W : World} {g : Nat} {f0 : List Int} {f1 : Int} {f2 : Int} (h : IsS65 w0 W g f0 f1 f2) : IsS65 w0 W.drew g f0 f1 f2 := h
theorem IsS65.apartS {w0 W : World} {g : Nat} {f0 : List Int} {f1 : Int} {f2 : Int} {α : Type} {d : Kd α} {e : Nat} {base : Nat} {ok : Nat → Prop} {v : Value} {xs : List α} (h : IsS65 w0 W g f0 f1 f2) (ho : d.S e W base ok v xs) (ht : ∀ q, q ∈ e :: d.E → q ≠ 65) : d.S e W base (fun k => ok k ∧ k ≠ g) v xs := by
  obtain ⟨A0, c0, hb, hg, hr0⟩ := h
  exact Kd.S_types ho hb ht
theorem IsS65.own_neS {w0 W : World} {g : Nat} {f0 : List Int} {f1 : Int} {f2 : Int} {α : Type} {d : Kd α} {e : Nat} {base : Nat} {ok : Nat → Prop} {v : Value} {xs : List α} (h : IsS65 w0 W g f0 f1 f2) (ho : d.S e W base ok v xs) (ht : e ≠ 65) : some g ≠ v.ownBlock := by
  obtain ⟨A0, c0, hb, hg, hr0⟩ := h
  exact Kd.S_ne ho hb ht
theorem IsS65.ge {w0 W : World} {g : Nat} {f0 : List Int} {f1 : Int} {f2 : Int} (h : IsS65 w0 W g f0 f1 f2) : w0.heap.size ≤ g := by
  obtain ⟨A0, c0, hb, hg, hr0⟩ := h
  exact hg
theorem cellS65_0 {W : World} {g : Nat} {A0 : Option Addr} {c0 : Nat} {f0 : List Int} {f1 : Int} {f2 : Int} (h : W.heap[g]? = some (.cells #[.slice A0 f0.length c0, .int .i64 f1, .int .i64 f2] 65 (0, 0))) : W.cell? ⟨g, 0, none⟩ = some (.slice A0 f0.length c0) := (blk_cell h 0).trans rfl
theorem cellS65_1 {W : World} {g : Nat} {A0 : Option Addr} {c0 : Nat} {f0 : List Int} {f1 : Int} {f2 : Int} (h : W.heap[g]? = some (.cells #[.slice A0 f0.length c0, .int .i64 f1, .int .i64 f2] 65 (0, 0))) : W.cell? ⟨g, 1, none⟩ = some (.int .i64 f1) := (blk_cell h 1).trans rfl
theorem IsS65.set_1 {w0 W : World} {g : Nat} {f0 : List Int} {f1 : Int} {f2 : Int} (h : IsS65 w0 W g f0 f1 f2) (x : Int) : IsS65 w0 (W.setCell ⟨g, 1, none⟩ (.int .i64 x)) g f0 x f2 := by
  obtain ⟨A0, c0, hb, hg, hr0⟩ := h
  exact ⟨A0, c0, by simpa using blk_set hb 1 (.int .i64 x), hg, hr0⟩
theorem cellS65_2 {W : World} {g : Nat} {A0 : Option Addr} {c0 : Nat} {f0 : List Int} {f1 : Int} {f2 : Int} (h : W.heap[g]? = some (.cells #[.slice A0 f0.length c0, .int .i64 f1, .int .i64 f2] 65 (0, 0))) : W.cell? ⟨g, 2, none⟩ = some (.int .i64 f2) := (blk_cell h 2).trans rfl
theorem IsS65.set_2 {w0 W : World} {g : Nat} {f0 : List Int} {f1 : Int} {f2 : Int} (h : IsS65 w0 W g f0 f1 f2) (x : Int) : IsS65 w0 (W.setCell ⟨g, 2, none⟩ (.int .i64 x)) g f0 f1 x := by
  obtain ⟨A0, c0, hb, hg, hr0⟩ := h
  exact ⟨A0, c0, by simpa using blk_set hb 2 (.int .i64 x), hg, hr0⟩
theorem IsS65.new (w0 W : World) (A0 : Option Addr) (c0 : Nat) (f0 : List Int) (f1 : Int) (f2 : Int) (hB : Below w0.heap.size w0 W) (hr0 : Kd.C (Kd.int .u8) w0 A0 f0.length f0) : IsS65 w0 (W.alloc (.cells #[.slice A0 f0.length c0, .int .i64 f1, .int .i64 f2] 65)) W.heap.size f0 f1 f2 := ⟨A0, c0, by simpa using heap_alloc_new W _, hB.size, hr0⟩
def spec_l01Byte.f (s0_0 : List Int) (s0_1 : Int) (s0_2 : Int) : Option (Int × Int × Int) := if s0_1 < (s0_0.length : Int) then (if 0 ≤ s0_1 then (some (Go.bits .and .i64 (wrap64 ((Go.bits .and .i64 (Go.bits .xor .i64 ((wrap64 ((wrap64 (s0_2 * 6364136223846793005)) + 1442695040888963407)) / 8589934592) ((wrap64 ((wrap64 (s0_2 * 6364136223846793005)) + 1442695040888963407)) / 35184372088832)) 255) + (wrap64 (rd s0_0 s0_1)))) 255, wrap64 (s0_1 + 1), wrap64 ((wrap64 (s0_2 * 6364136223846793005)) + 1442695040888963407))) else (none)) else (some (Go.bits .and .i64 (Go.bits .xor .i64 ((wrap64 ((wrap64 (s0_2 * 6364136223846793005)) + 1442695040888963407)) / 8589934592) ((wrap64 ((wrap64 (s0_2 * 6364136223846793005)) + 1442695040888963407)) / 35184372088832)) 255, s0_1, wrap64 ((wrap64 (s0_2 * 6364136223846793005)) + 1442695040888963407)))
set_option maxHeartbeats 8000000 in
set_option maxRecDepth 100000 in
theorem spec_l01Byte.calls (g : Nat) (s0_0 : List Int) (s0_1 : Int) (s0_2 : Int) (r1 : Int) (r2 : Int) (r3 : Int) (w0 w : World) (hI : IsS65 w0 w g s0_0 s0_1 s0_2) (hB : Below w0.heap.size w0 w) (h : spec_l01Byte.f s0_0 s0_1 s0_2 = some (r1, r2, r3)) :
    Calls Try.prog 61 #[.pointer (some ⟨g, 0, none⟩)] w fun e w' => e = .returned (.int .i64 r1) ∧ IsS65 w0 w' g s0_0 r2 r3 ∧ Below w0.heap.size w0 w' ∧ KeepBut w w' g none := by
  have HI0 := Aside0.mk hI
  have HK := Aside0.mk (KeepBut.refl w g none)
  have HL := Aside0.mk hB.size
  clear hI
  have HW0 := Aside0.mk hB.size
  have HB := Aside0.mk hB
  clear hB
  have H : (if s0_1 < (s0_0.length : Int) then (if 0 ≤ s0_1 then (some (Go.bits .and .i64 (wrap64 ((Go.bits .and .i64 (Go.bits .xor .i64 ((wrap64 ((wrap64 (s0_2 * 6364136223846793005)) + 1442695040888963407)) / 8589934592) ((wrap64 ((wrap64 (s0_2 * 6364136223846793005)) + 1442695040888963407)) / 35184372088832)) 255) + (wrap64 (rd s0_0 s0_1)))) 255, wrap64 (s0_1 + 1), wrap64 ((wrap64 (s0_2 * 6364136223846793005)) + 1442695040888963407))) else (none)) else (some (Go.bits .and .i64 (Go.bits .xor .i64 ((wrap64 ((wrap64 (s0_2 * 6364136223846793005)) + 1442695040888963407)) / 8589934592) ((wrap64 ((wrap64 (s0_2 * 6364136223846793005)) + 1442695040888963407)) / 35184372088832)) 255, s0_1, wrap64 ((wrap64 (s0_2 * 6364136223846793005)) + 1442695040888963407)))) = some (r1, r2, r3) := h
  clear h
  by_cases c2 : s0_1 < (s0_0.length : Int)
  · rw [if_pos c2] at H
    have c2b0 : decide (s0_1 < (s0_0.length : Int)) = true := decide_eq_true c2
    clear c2
    by_cases c3 : 0 ≤ s0_1
    · rw [if_pos c3] at H
      have c3b0 : decide (0 ≤ s0_1) = true := decide_eq_true c3
      clear c3
      simp only [Option.some.injEq, Prod.mk.injEq] at H
      obtain ⟨rfl, rfl, rfl⟩ := H
      obtain ⟨ASz4_0, cSz4_0, HGz4, hgz4, HSz4_0⟩ := HI0.out
      have hcz4_0 := cellS65_0 HGz4
      have hcz4_1 := cellS65_1 HGz4
      have hcz4_2 := cellS65_2 HGz4
      have hfz4_1 := blk_frozen HGz4 1
      have hfz4_2 := blk_frozen HGz4 2
      clear HGz4 hgz4
      have p476 : 0 ≤ (s0_1 : Int) := of_decide_eq_true (by first | (with_reducible assumption) | assumption)
      have q476 : s0_1 < (s0_0.length : Int) := of_decide_eq_true (by first | (with_reducible assumption) | assumption)
      obtain ⟨ad476, e476, hx476_0⟩ := Kd.at_int HSz4_0 s0_1 p476 q476
      cases e476
      have hn476_0 : ad476.block ≠ g := Nat.ne_of_lt (Nat.lt_of_lt_of_le (by have := World.block_lt_of_cell? _ _ hx476_0; first | rwa [add_block] at this | exact this) (IsS65.ge HI0.out))
      replace hx476_0 := pw_cell_below HB.out hx476_0
      replace hx476_0 := (cell_far (p := ⟨g, 2, none⟩) (by first | (rw [add_block]; exact hn476_0) | (show (Addr.add _ _).block ≠ _; rw [add_block]; exact hn476_0) | exact hn476_0) (.int .i64 (wrap64 ((wrap64 (s0_2 * 6364136223846793005)) + 1442695040888963407)))).trans hx476_0
      (try have hy476_0 := fun (n_ : Nat) => (show (((w.drewN n_).setCell ⟨g, 2, none⟩ (.int .i64 (wrap64 ((wrap64 (s0_2 * 6364136223846793005)) + 1442695040888963407))))).cell? _ = some _ from hx476_0))
      clear hn476_0
      replace p476 := eq_true p476
      replace q476 := eq_true q476
      go_enter Try.func61, Try.ntmps61
      go_wp2
      repeat (go_quiet (fail); try go_wp2)
      go_ret
      exact ⟨by first | rfl | (simp [errW_none, errW_some] <;> rfl) | (simp [*, errW_none, errW_some] <;> rfl), by repeat (first | (with_reducible first | exact HI0.out | apply IsS65.alloc | apply IsS65.drewN | apply IsS65.drew | apply IsS65.set_1 | apply IsS65.set_2) | exact HI0.out), by repeat (first | (with_reducible first | exact HB.out | apply below_alloc | apply pw_below_drewN | apply below_drew1 | refine below_set ?_ (IsS65.ge HI0.out)) | exact HB.out), by repeat (first | (with_reducible first | exact HK.out | apply KeepBut.set_ | apply keep_drewN | apply keep_drew | apply keep_alloc) | exact HK.out)⟩
    · rw [if_neg c3] at H
      exact absurd H (by simp)
  · rw [if_neg c2] at H
    have c2b0 : decide (s0_1 < (s0_0.length : Int)) = false := decide_eq_false c2
    clear c2
    simp only [Option.some.injEq, Prod.mk.injEq] at H
    obtain ⟨rfl, rfl, rfl⟩ := H
    obtain ⟨ASz5_0, cSz5_0, HGz5, hgz5, HSz5_0⟩ := HI0.out
    have hcz5_0 := cellS65_0 HGz5
    have hcz5_1 := cellS65_1 HGz5
    have hcz5_2 := cellS65_2 HGz5
    have hfz5_1 := blk_frozen HGz5 1
    have hfz5_2 := blk_frozen HGz5 2
    clear HGz5 hgz5
    go_enter Try.func61, Try.ntmps61
    go_wp2
    repeat (go_quiet (fail); try go_wp2)
    go_ret
    exact ⟨by first | rfl | (simp [errW_none, errW_some] <;> rfl) | (simp [*, errW_none, errW_some] <;> rfl), by repeat (first | (with_reducible first | exact HI0.out | apply IsS65.alloc | apply IsS65.drewN | apply IsS65.drew | apply IsS65.set_1 | apply IsS65.set_2) | exact HI0.out), by repeat (first | (with_reducible first | exact HB.out | apply below_alloc | apply pw_below_drewN | apply below_drew1 | refine below_set ?_ (IsS65.ge HI0.out)) | exact HB.out), by repeat (first | (with_reducible first | exact HK.out | apply KeepBut.set_ | apply keep_drewN | apply keep_drew | apply keep_alloc) | exact HK.out)⟩
def spec_l01Below.f (s0_0 : List Int) (s0_1 : Int) (s0_2 : Int) (a1 : Int) : Option (Int × Int × Int) := if a1 ≤ 0 then (some (0, s0_1, s0_2)) else (if a1 ≤ 256 then ((spec_l01Byte.f s0_0 s0_1 s0_2).bind fun bt477 => (if a1 = 0 then (none) else (some (Int.tmod bt477.1 a1, bt477.2.1, bt477.2.2)))) else ((spec_l01Byte.f s0_0 s0_1 s0_2).bind fun bt480 => ((spec_l01Byte.f s0_0 bt480.2.1 bt480.2.2).bind fun bt483 => ((spec_l01Byte.f s0_0 bt483.2.1 bt483.2.2).bind fun bt486 => ((spec_l01Byte.f s0_0 bt486.2.1 bt486.2.2).bind fun bt489 => (if a1 = 0 then (none) else (some (Int.tmod (wrap64 ((wrap64 ((wrap64 ((wrap64 (bt480.1 * 16777216)) + (wrap64 (bt483.1 * 65536)))) + (wrap64 (bt486.1 * 256)))) + bt489.1)) a1, bt489.2.1, bt489.2.2))))))))
set_option maxHeartbeats 8000000 in
set_option maxRecDepth 100000 in
theorem spec_l01Below.calls (g : Nat) (s0_0 : List Int) (s0_1 : Int) (s0_2 : Int) (a1 : Int) (r1 : Int) (r2 : Int) (r3 : Int) (w0 w : World) (hI : IsS65 w0 w g s0_0 s0_1 s0_2) (hB : Below w0.heap.size w0 w) (h : spec_l01Below.f s0_0 s0_1 s0_2 a1 = some (r1, r2, r3)) :
    Calls Try.prog 56 #[.pointer (some ⟨g, 0, none⟩), .int .i64 a1] w fun e w' => e = .returned (.int .i64 r1) ∧ IsS65 w0 w' g s0_0 r2 r3 ∧ Below w0.heap.size w0 w' ∧ KeepBut w w' g none := by
  have HI0 := Aside0.mk hI
  have HK := Aside0.mk (KeepBut.refl w g none)
  have HL := Aside0.mk hB.size
  clear hI
  have HW0 := Aside0.mk hB.size
  have HB := Aside0.mk hB
  clear hB
  have H : (if a1 ≤ 0 then (some (0, s0_1, s0_2)) else (if a1 ≤ 256 then ((spec_l01Byte.f s0_0 s0_1 s0_2).bind fun bt477 => (if a1 = 0 then (none) else (some (Int.tmod bt477.1 a1, bt477.2.1, bt477.2.2)))) else ((spec_l01Byte.f s0_0 s0_1 s0_2).bind fun bt480 => ((spec_l01Byte.f s0_0 bt480.2.1 bt480.2.2).bind fun bt483 => ((spec_l01Byte.f s0_0 bt483.2.1 bt483.2.2).bind fun bt486 => ((spec_l01Byte.f s0_0 bt486.2.1 bt486.2.2).bind fun bt489 => (if a1 = 0 then (none) else (some (Int.tmod (wrap64 ((wrap64 ((wrap64 ((wrap64 (bt480.1 * 16777216)) + (wrap64 (bt483.1 * 65536)))) + (wrap64 (bt486.1 * 256)))) + bt489.1)) a1, bt489.2.1, bt489.2.2))))))))) = some (r1, r2, r3) := h
  clear h
  by_cases c3 : a1 ≤ 0
  · rw [if_pos c3] at H
    have c3b0 : decide (a1 ≤ 0) = true := decide_eq_true c3
    clear c3
    simp only [Option.some.injEq, Prod.mk.injEq] at H
    obtain ⟨rfl, rfl, rfl⟩ := H
    go_enter Try.func56, Try.ntmps56
    go_wp2
    go_ret
    exact ⟨by first | rfl | (simp [errW_none, errW_some] <;> rfl) | (simp [*, errW_none, errW_some] <;> rfl), by repeat (first | (with_reducible first | exact HI0.out | apply IsS65.alloc | apply IsS65.drewN | apply IsS65.drew | apply IsS65.set_1 | apply IsS65.set_2) | exact HI0.out), by repeat (first | (with_reducible first | exact HB.out | apply below_alloc | apply pw_below_drewN | apply below_drew1 | refine below_set ?_ (IsS65.ge HI0.out)) | exact HB.out), by repeat (first | (with_reducible first | exact HK.out | apply KeepBut.set_ | apply keep_drewN | apply keep_drew | apply keep_alloc) | exact HK.out)⟩
  · rw [if_neg c3] at H
    have c3b0 : decide (a1 ≤ 0) = false := decide_eq_false c3
    clear c3
    by_cases c4 : a1 ≤ 256
    · rw [if_pos c4] at H
      have c4b0 : decide (a1 ≤ 256) = true := decide_eq_true c4
      clear c4
      replace H := Option.bind_eq_some_iff.mp H
      obtain ⟨⟨t477, t478, t479⟩, A50, H⟩ := H
      replace H : (if a1 = 0 then (none) else (some (Int.tmod t477 a1, t478, t479))) = some (r1, r2, r3) := H
      have A5 := Aside0.mk A50
      clear A50
      by_cases c6 : a1 = 0
      · rw [if_pos c6] at H
        exact absurd H (by simp)
      · rw [if_neg c6] at H
        have c6b0 : (a1 == 0) = false := beq_eq_false_iff_ne.mpr c6
        have c6b1 : (a1 != 0) = true := bne_iff_ne.mpr c6
        simp only [Option.some.injEq, Prod.mk.injEq] at H
        obtain ⟨rfl, rfl, rfl⟩ := H
        go_enter Try.func56, Try.ntmps56
        go_wp2_with (first | ((with_reducible refine gate_callee (f := 61) rfl ?_); refine goesL_ (some 14) rfl rfl Try.func61 (by kernel_rfl) rfl #[.pointer (some ⟨g, 0, none⟩)] rfl (by (try simp only [List.map_toArray, List.map_cons, List.map_nil]); first | done | rfl | (simp only [List.length_drop, List.length_take]; rfl)) ?_; (with_reducible refine (spec_l01Byte.calls g s0_0 s0_1 s0_2 t477 t478 t479 w0 _ ?side1 ?side2 A5.out).mono ?_); (case side1 => repeat (first | (with_reducible first | exact HI0.out | apply IsS65.alloc | apply IsS65.drewN | apply IsS65.drew | apply IsS65.set_1 | apply IsS65.set_2) | exact HI0.out)); (case side2 => repeat (first | (with_reducible first | exact HB.out | apply below_alloc | apply pw_below_drewN | apply below_drew1 | refine below_set ?_ (IsS65.ge HI0.out)) | exact HB.out)); rintro e w7 ⟨rfl, hi, hb, hk⟩; refine ⟨_, rfl, ?_⟩; have n0_ := Aside0.mk (KeepBut.trans (by repeat (first | (with_reducible first | exact HK.out | apply KeepBut.set_ | apply keep_drewN | apply keep_drew | apply keep_alloc) | exact HK.out)) hk (.inl rfl)); have n1_ := Aside0.mk (hb); have n2_ := Aside0.mk (hi); clear HK; clear HB; clear HI0; have HK := n0_; have HB := n1_; have HI0 := n2_; clear n0_ n1_ n2_; (try clear hb); (try clear hb2); (try clear hk); (try clear hi)))
        go_ret
        exact ⟨by first | rfl | (simp [errW_none, errW_some] <;> rfl) | (simp [*, errW_none, errW_some] <;> rfl), by repeat (first | (with_reducible first | exact HI0.out | apply IsS65.alloc | apply IsS65.drewN | apply IsS65.drew | apply IsS65.set_1 | apply IsS65.set_2) | exact HI0.out), by repeat (first | (with_reducible first | exact HB.out | apply below_alloc | apply pw_below_drewN | apply below_drew1 | refine below_set ?_ (IsS65.ge HI0.out)) | exact HB.out), by repeat (first | (with_reducible first | exact HK.out | apply KeepBut.set_ | apply keep_drewN | apply keep_drew | apply keep_alloc) | exact HK.out)⟩
    · rw [if_neg c4] at H
      have c4b0 : decide (a1 ≤ 256) = false := decide_eq_false c4
      clear c4
      replace H := Option.bind_eq_some_iff.mp H
      obtain ⟨⟨t480, t481, t482⟩, A80, H⟩ := H
      replace H : ((spec_l01Byte.f s0_0 t481 t482).bind fun bt483 => ((spec_l01Byte.f s0_0 bt483.2.1 bt483.2.2).bind fun bt486 => ((spec_l01Byte.f s0_0 bt486.2.1 bt486.2.2).bind fun bt489 => (if a1 = 0 then (none) else (some (Int.tmod (wrap64 ((wrap64 ((wrap64 ((wrap64 (t480 * 16777216)) + (wrap64 (bt483.1 * 65536)))) + (wrap64 (bt486.1 * 256)))) + bt489.1)) a1, bt489.2.1, bt489.2.2)))))) = some (r1, r2, r3) := H
      have A8 := Aside0.mk A80
      clear A80
      replace H := Option.bind_eq_some_iff.mp H
      obtain ⟨⟨t483, t484, t485⟩, A90, H⟩ := H
      replace H : ((spec_l01Byte.f s0_0 t484 t485).bind fun bt486 => ((spec_l01Byte.f s0_0 bt486.2.1 bt486.2.2).bind fun bt489 => (if a1 = 0 then (none) else (some (Int.tmod (wrap64 ((wrap64 ((wrap64 ((wrap64 (t480 * 16777216)) + (wrap64 (t483 * 65536)))) + (wrap64 (bt486.1 * 256)))) + bt489.1)) a1, bt489.2.1, bt489.2.2))))) = some (r1, r2, r3) := H
      have A9 := Aside0.mk A90
      clear A90
      replace H := Option.bind_eq_some_iff.mp H
      obtain ⟨⟨t486, t487, t488⟩, A100, H⟩ := H
      replace H : ((spec_l01Byte.f s0_0 t487 t488).bind fun bt489 => (if a1 = 0 then (none) else (some (Int.tmod (wrap64 ((wrap64 ((wrap64 ((wrap64 (t480 * 16777216)) + (wrap64 (t483 * 65536)))) + (wrap64 (t486 * 256)))) + bt489.1)) a1, bt489.2.1, bt489.2.2)))) = some (r1, r2, r3) := H
      have A10 := Aside0.mk A100
      clear A100
      replace H := Option.bind_eq_some_iff.mp H
      obtain ⟨⟨t489, t490, t491⟩, A110, H⟩ := H
      replace H : (if a1 = 0 then (none) else (some (Int.tmod (wrap64 ((wrap64 ((wrap64 ((wrap64 (t480 * 16777216)) + (wrap64 (t483 * 65536)))) + (wrap64 (t486 * 256)))) + t489)) a1, t490, t491))) = some (r1, r2, r3) := H
      have A11 := Aside0.mk A110
      clear A110
      by_cases c12 : a1 = 0
      · rw [if_pos c12] at H
        exact absurd H (by simp)
      · rw [if_neg c12] at H
        have c12b0 : (a1 == 0) = false := beq_eq_false_iff_ne.mpr c12
        have c12b1 : (a1 != 0) = true := bne_iff_ne.mpr c12
        simp only [Option.some.injEq, Prod.mk.injEq] at H
        obtain ⟨rfl, rfl, rfl⟩ := H
        go_enter Try.func56, Try.ntmps56
        go_wp2_with (first | ((with_reducible refine gate_callee (f := 61) rfl ?_); refine goesL_ (some 18) rfl rfl Try.func61 (by kernel_rfl) rfl #[.pointer (some ⟨g, 0, none⟩)] rfl (by (try simp only [List.map_toArray, List.map_cons, List.map_nil]); first | done | rfl | (simp only [List.length_drop, List.length_take]; rfl)) ?_; (with_reducible refine (spec_l01Byte.calls g s0_0 s0_1 s0_2 t480 t481 t482 w0 _ ?side1 ?side2 A8.out).mono ?_); (case side1 => repeat (first | (with_reducible first | exact HI0.out | apply IsS65.alloc | apply IsS65.drewN | apply IsS65.drew | apply IsS65.set_1 | apply IsS65.set_2) | exact HI0.out)); (case side2 => repeat (first | (with_reducible first | exact HB.out | apply below_alloc | apply pw_below_drewN | apply below_drew1 | refine below_set ?_ (IsS65.ge HI0.out)) | exact HB.out)); rintro e w13 ⟨rfl, hi, hb, hk⟩; refine ⟨_, rfl, ?_⟩; have n0_ := Aside0.mk (KeepBut.trans (by repeat (first | (with_reducible first | exact HK.out | apply KeepBut.set_ | apply keep_drewN | apply keep_drew | apply keep_alloc) | exact HK.out)) hk (.inl rfl)); have n1_ := Aside0.mk (hb); have n2_ := Aside0.mk (hi); clear HK; clear HB; clear HI0; have HK := n0_; have HB := n1_; have HI0 := n2_; clear n0_ n1_ n2_; (try clear hb); (try clear hb2); (try clear hk); (try clear hi)) | ((with_reducible refine gate_callee (f := 61) rfl ?_); refine goesL_ (some 20) rfl rfl Try.func61 (by kernel_rfl) rfl #[.pointer (some ⟨g, 0, none⟩)] rfl (by (try simp only [List.map_toArray, List.map_cons, List.map_nil]); first | done | rfl | (simp only [List.length_drop, List.length_take]; rfl)) ?_; (with_reducible refine (spec_l01Byte.calls g s0_0 t481 t482 t483 t484 t485 w0 _ ?side1 ?side2 A9.out).mono ?_); (case side1 => repeat (first | (with_reducible first | exact HI0.out | apply IsS65.alloc | apply IsS65.drewN | apply IsS65.drew | apply IsS65.set_1 | apply IsS65.set_2) | exact HI0.out)); (case side2 => repeat (first | (with_reducible first | exact HB.out | apply below_alloc | apply pw_below_drewN | apply below_drew1 | refine below_set ?_ (IsS65.ge HI0.out)) | exact HB.out)); rintro e w14 ⟨rfl, hi, hb, hk⟩; refine ⟨_, rfl, ?_⟩; have n0_ := Aside0.mk (KeepBut.trans (by repeat (first | (with_reducible first | exact HK.out | apply KeepBut.set_ | apply keep_drewN | apply keep_drew | apply keep_alloc) | exact HK.out)) hk (.inl rfl)); have n1_ := Aside0.mk (hb); have n2_ := Aside0.mk (hi); clear HK; clear HB; clear HI0; have HK := n0_; have HB := n1_; have HI0 := n2_; clear n0_ n1_ n2_; (try clear hb); (try clear hb2); (try clear hk); (try clear hi)) | ((with_reducible refine gate_callee (f := 61) rfl ?_); refine goesL_ (some 22) rfl rfl Try.func61 (by kernel_rfl) rfl #[.pointer (some ⟨g, 0, none⟩)] rfl (by (try simp only [List.map_toArray, List.map_cons, List.map_nil]); first | done | rfl | (simp only [List.length_drop, List.length_take]; rfl)) ?_; (with_reducible refine (spec_l01Byte.calls g s0_0 t484 t485 t486 t487 t488 w0 _ ?side1 ?side2 A10.out).mono ?_); (case side1 => repeat (first | (with_reducible first | exact HI0.out | apply IsS65.alloc | apply IsS65.drewN | apply IsS65.drew | apply IsS65.set_1 | apply IsS65.set_2) | exact HI0.out)); (case side2 => repeat (first | (with_reducible first | exact HB.out | apply below_alloc | apply pw_below_drewN | apply below_drew1 | refine below_set ?_ (IsS65.ge HI0.out)) | exact HB.out)); rintro e w15 ⟨rfl, hi, hb, hk⟩; refine ⟨_, rfl, ?_⟩; have n0_ := Aside0.mk (KeepBut.trans (by repeat (first | (with_reducible first | exact HK.out | apply KeepBut.set_ | apply keep_drewN | apply keep_drew | apply keep_alloc) | exact HK.out)) hk (.inl rfl)); have n1_ := Aside0.mk (hb); have n2_ := Aside0.mk (hi); clear HK; clear HB; clear HI0; have HK := n0_; have HB := n1_; have HI0 := n2_; clear n0_ n1_ n2_; (try clear hb); (try clear hb2); (try clear hk); (try clear hi)) | ((with_reducible refine gate_callee (f := 61) rfl ?_); refine goesL_ (some 24) rfl rfl Try.func61 (by kernel_rfl) rfl #[.pointer (some ⟨g, 0, none⟩)] rfl (by (try simp only [List.map_toArray, List.map_cons, List.map_nil]); first | done | rfl | (simp only [List.length_drop, List.length_take]; rfl)) ?_; (with_reducible refine (spec_l01Byte.calls g s0_0 t487 t488 t489 t490 t491 w0 _ ?side1 ?side2 A11.out).mono ?_); (case side1 => repeat (first | (with_reducible first | exact HI0.out | apply IsS65.alloc | apply IsS65.drewN | apply IsS65.drew | apply IsS65.set_1 | apply IsS65.set_2) | exact HI0.out)); (case side2 => repeat (first | (with_reducible first | exact HB.out | apply below_alloc | apply pw_below_drewN | apply below_drew1 | refine below_set ?_ (IsS65.ge HI0.out)) | exact HB.out)); rintro e w16 ⟨rfl, hi, hb, hk⟩; refine ⟨_, rfl, ?_⟩; have n0_ := Aside0.mk (KeepBut.trans (by repeat (first | (with_reducible first | exact HK.out | apply KeepBut.set_ | apply keep_drewN | apply keep_drew | apply keep_alloc) | exact HK.out)) hk (.inl rfl)); have n1_ := Aside0.mk (hb); have n2_ := Aside0.mk (hi); clear HK; clear HB; clear HI0; have HK := n0_; have HB := n1_; have HI0 := n2_; clear n0_ n1_ n2_; (try clear hb); (try clear hb2); (try clear hk); (try clear hi)))
        go_ret
        exact ⟨by first | rfl | (simp [errW_none, errW_some] <;> rfl) | (simp [*, errW_none, errW_some] <;> rfl), by repeat (first | (with_reducible first | exact HI0.out | apply IsS65.alloc | apply IsS65.drewN | apply IsS65.drew | apply IsS65.set_1 | apply IsS65.set_2) | exact HI0.out), by repeat (first | (with_reducible first | exact HB.out | apply below_alloc | apply pw_below_drewN | apply below_drew1 | refine below_set ?_ (IsS65.ge HI0.out)) | exact HB.out), by repeat (first | (with_reducible first | exact HK.out | apply KeepBut.set_ | apply keep_drewN | apply keep_drew | apply keep_alloc) | exact HK.out)⟩
end Go.Proofs.Ytebjpafnfmmjeaa.PA
-- Written for this claim by a program of this session's (ownprint.py), by way of the kit's print and hand-proved texts. Lean checks it.
namespace Go.Proofs.Ytebjpafnfmmjeaa.PA
open Go.RowKit Go.Proofs.YtebjpafnfmmjeaaW.PrintWords Go.Proofs.YtebjpafnfmmjeaaW.PrintLast Go.Proofs.YtebjpafnfmmjeaaW.PrintMore
attribute [local go_sem] max2_int min2_int max_two min_two max_three min_three max_four min_four   -- for this text's walks alone
set_option linter.unusedVariables false
set_option linter.unusedSimpArgs false
def spec_l21Draw.l0 : Nat → List (List Int) → Int → List Int → Int → Int → Option ((List (List Int)) × Int × Int)
  | 0, _, _, _, _, _ => none
  | k + 1, x3, x4, x1000, x1001, x1002 => if x4 > 0 then ((spec_l01Below.f x1000 x1001 x1002 20).bind fun bt498 => ((spec_l01Below.f x1000 bt498.2.1 bt498.2.2 20).bind fun bt501 => (if x3.length < 5864062014805 then (spec_l21Draw.l0 k (x3 ++ [(([wrap64 (1 + bt498.1), wrap64 (1 + bt501.1)] : List Int))]) (wrap64 (x4 - 1)) x1000 bt501.2.1 bt501.2.2) else (none)))) else (some (x3, x1001, x1002))
def spec_l21Draw.f (k : Nat) (s0_0 : List Int) (s0_1 : Int) (s0_2 : Int) : Option ((List (List Int)) × Int × Int) := (spec_l01Below.f s0_0 s0_1 s0_2 6).bind fun bt495 => (spec_l21Draw.l0 k (([] : List (List Int))) bt495.1 s0_0 bt495.2.1 bt495.2.2)
set_option maxHeartbeats 8000000 in
set_option maxRecDepth 100000 in
theorem spec_l21Draw.calls (k : Nat) (g : Nat) (s0_0 : List Int) (s0_1 : Int) (s0_2 : Int) (r1 : List (List Int)) (r2 : Int) (r3 : Int) (w0 w : World) (hI : IsS65 w0 w g s0_0 s0_1 s0_2) (hB : Below w0.heap.size w0 w) (h : spec_l21Draw.f k s0_0 s0_1 s0_2 = some (r1, r2, r3)) :
    Calls Try.prog 54 #[.pointer (some ⟨g, 0, none⟩)] w fun e w' => ∃ v0_ : Value, e = .returned (v0_) ∧ Kd.S (Kd.slice 3 (Kd.int .i64)) 40 w' w.heap.size (fun _ => True) v0_ r1 ∧ IsS65 w0 w' g s0_0 r2 r3 ∧ Below w0.heap.size w0 w' ∧ KeepBut w w' g none := by
  have HI0 := Aside0.mk hI
  have HK := Aside0.mk (KeepBut.refl w g none)
  have HL := Aside0.mk hB.size
  clear hI
  have HW0 := Aside0.mk hB.size
  have HB := Aside0.mk hB
  clear hB
  have H : ((spec_l01Below.f s0_0 s0_1 s0_2 6).bind fun bt495 => (spec_l21Draw.l0 k (([] : List (List Int))) bt495.1 s0_0 bt495.2.1 bt495.2.2)) = some (r1, r2, r3) := h
  clear h
  obtain ⟨y492, hy492⟩ : ∃ y_ : List (List Int), y_ = (([] : List (List Int))) := ⟨_, rfl⟩
  replace H : ((spec_l01Below.f s0_0 s0_1 s0_2 6).bind fun bt495 => (spec_l21Draw.l0 k y492 bt495.1 s0_0 bt495.2.1 bt495.2.2)) = some (r1, r2, r3) := by first | (rw [hy492]; with_reducible exact H) | (have H2_ := (Option.bind_some _ _).symm.trans H; rw [hy492]; with_reducible exact H2_) | (have H2_ := (Option.bind_some _ _).symm.trans H; with_reducible exact H2_) | with_reducible exact H | (rw [hy492]; exact H) | exact H
  have Ny492 := Aside0.mk hy492
  clear hy492
  replace H := Option.bind_eq_some_iff.mp H
  obtain ⟨⟨t495, t496, t497⟩, A20, H⟩ := H
  replace H : (spec_l21Draw.l0 k y492 t495 s0_0 t496 t497) = some (r1, r2, r3) := H
  have A2 := Aside0.mk A20
  clear A20
  have H' := Aside0.mk H
  clear H
  go_enter Try.func54, Try.ntmps54
  go_wp2_with (first | ((with_reducible refine gate_dst (N := 5) rfl ?_); refine Kd.S_lit (Kd.slice 3 (Kd.int .i64)) _ 40 ?hg (N := 5) ?hd (xs := ([] : List (List Int))) (inner := []) (ok := fun _ => True) (okp := fun _ => True) ?hr ?hp (fun _ hk => hk) trivial (Below.refl _ _) (Nat.le_refl _) (by simp) ?_; (case hd => rfl); (case hg => rfl); (case hr => first | (go_simp; done) | (go_simp; rfl)); (case hp => exact (Reps.none _ _)); intro v493 w3 ho4 hb hg_ hnew_; clear hg_ hnew_; (first | rw [← Ny492.out] at ho4 | (simp only [Int.reduceToNat] at ho4; rw [← Ny492.out] at ho4)); have n0_ := Aside0.mk (Kd.S_lower ho4 (keep_size (w := w) (g := g) (row := none) (by repeat (first | (with_reducible first | exact HK.out | apply KeepBut.set_ | apply keep_drewN | apply keep_drew | apply keep_alloc) | exact HK.out)))); have n1_ := Aside0.mk (IsS65.below (by repeat (first | (with_reducible first | exact HI0.out | apply IsS65.alloc | apply IsS65.drewN | apply IsS65.drew | apply IsS65.set_1 | apply IsS65.set_2) | exact HI0.out)) hb); have n2_ := Aside0.mk (KeepBut.trans (by repeat (first | (with_reducible first | exact HK.out | apply KeepBut.set_ | apply keep_drewN | apply keep_drew | apply keep_alloc) | exact HK.out)) (KeepBut.of_below hb g none) (.inl rfl)); have n3_ := Aside0.mk (below_step (by repeat (first | (with_reducible first | exact HB.out | apply below_alloc | apply pw_below_drewN | apply below_drew1 | refine below_set ?_ (IsS65.ge HI0.out)) | exact HB.out)) hb); clear HI0; clear HK; clear HB; have HO494 := n0_; have HI0 := n1_; have HK := n2_; have HB := n3_; clear n0_ n1_ n2_ n3_; clear hb ho4) | ((with_reducible refine gate_callee (f := 56) rfl ?_); refine goesL_ (some 7) rfl rfl Try.func56 (by kernel_rfl) rfl #[.pointer (some ⟨g, 0, none⟩), .int .i64 6] rfl (by (try simp only [List.map_toArray, List.map_cons, List.map_nil]); first | done | rfl | (simp only [List.length_drop, List.length_take]; rfl)) ?_; (with_reducible refine (spec_l01Below.calls g s0_0 s0_1 s0_2 6 t495 t496 t497 w0 _ ?side1 ?side2 A2.out).mono ?_); (case side1 => repeat (first | (with_reducible first | exact HI0.out | apply IsS65.alloc | apply IsS65.drewN | apply IsS65.drew | apply IsS65.set_1 | apply IsS65.set_2) | exact HI0.out)); (case side2 => repeat (first | (with_reducible first | exact HB.out | apply below_alloc | apply pw_below_drewN | apply below_drew1 | refine below_set ?_ (IsS65.ge HI0.out)) | exact HB.out)); rintro e w5 ⟨rfl, hi, hb, hk⟩; refine ⟨_, rfl, ?_⟩; have n0_ := Aside0.mk (Kd.S_mono (Kd.S_keep (IsS65.apartS (show IsS65 w0 _ g s0_0 s0_1 s0_2 from by repeat (first | (with_reducible first | exact HI0.out | apply IsS65.alloc | apply IsS65.drewN | apply IsS65.drew | apply IsS65.set_1 | apply IsS65.set_2) | exact HI0.out)) (by (with_reducible repeat (first | apply Kd.S_alloc | apply Kd.S_drewN | apply Kd.S_drew)); exact HO494.out) (by decide)) hk (fun _ h => h.2)) (fun _ h => h.1)); have n1_ := Aside0.mk (KeepBut.trans (by repeat (first | (with_reducible first | exact HK.out | apply KeepBut.set_ | apply keep_drewN | apply keep_drew | apply keep_alloc) | exact HK.out)) hk (.inl rfl)); have n2_ := Aside0.mk (hb); have n3_ := Aside0.mk (hi); clear HO494; clear HK; clear HB; clear HI0; have HO494 := n0_; have HK := n1_; have HB := n2_; have HI0 := n3_; clear n0_ n1_ n2_ n3_; (try clear hb); (try clear hb2); (try clear hk); (try clear hi)))
  go_loopg [3, 4] k (fun kq v3 v4 w' => ∃ (x3_1 : List (List Int)) (x4_1 : Int) (x1001_1 : Int) (x1002_1 : Int), v4 = .int .i64 x4_1 ∧ Aside0 (spec_l21Draw.l0 kq x3_1 x4_1 s0_0 x1001_1 x1002_1 = some (r1, r2, r3)) ∧ Aside0 (kq ≤ k) ∧ Aside0 (Kd.S (Kd.slice 3 (Kd.int .i64)) 40 w' w.heap.size (fun _ => True) v3 x3_1) ∧ Aside0 (IsS65 w0 w' g s0_0 x1001_1 x1002_1) ∧ Aside0 (KeepBut w w' g none) ∧ Aside0 (Below w0.heap.size w0 w'))
  case atStart => exact ⟨(y492), (t495), (t496), (t497), (by first | rfl | (simp; done) | (simp [*]; done)), H', ⟨Nat.le_refl _⟩, ⟨by (with_reducible repeat (first | apply Kd.S_alloc | apply Kd.S_drewN | apply Kd.S_drew)); exact HO494.out⟩, ⟨by repeat (first | (with_reducible first | exact HI0.out | apply IsS65.alloc | apply IsS65.drewN | apply IsS65.drew | apply IsS65.set_1 | apply IsS65.set_2) | exact HI0.out)⟩, ⟨by repeat (first | (with_reducible first | exact HK.out | apply KeepBut.set_ | apply keep_drewN | apply keep_drew | apply keep_alloc) | exact HK.out)⟩, ⟨by repeat (first | (with_reducible first | exact HB.out | apply below_alloc | apply pw_below_drewN | apply below_drew1 | refine below_set ?_ (IsS65.ge HI0.out)) | exact HB.out)⟩⟩
  case round =>
    clear H'
    try clear p2
    try clear c5
    obtain ⟨x3_1, x4_1, x1001_1, x1002_1, rfl, HA, HK1, HO_3, HI0, HK, HB⟩ := hrel
    cases gk with
    | zero => exact absurd HA.out (by simp [spec_l21Draw.l0])
    | succ k1 =>
      have H := HA.out
      clear HA
      simp only [spec_l21Draw.l0] at H
      by_cases c6 : x4_1 > 0
      · rw [if_pos c6] at H
        have c6b0 : decide (0 < x4_1) = true := decide_eq_true c6
        clear c6
        replace H := Option.bind_eq_some_iff.mp H
        obtain ⟨⟨t498, t499, t500⟩, A70, H⟩ := H
        replace H : ((spec_l01Below.f s0_0 t499 t500 20).bind fun bt501 => (if x3_1.length < 5864062014805 then (spec_l21Draw.l0 k1 (x3_1 ++ [(([wrap64 (1 + t498), wrap64 (1 + bt501.1)] : List Int))]) (wrap64 (x4_1 - 1)) s0_0 bt501.2.1 bt501.2.2) else (none))) = some (r1, r2, r3) := H
        have A7 := Aside0.mk A70
        clear A70
        replace H := Option.bind_eq_some_iff.mp H
        obtain ⟨⟨t501, t502, t503⟩, A80, H⟩ := H
        replace H : (if x3_1.length < 5864062014805 then (spec_l21Draw.l0 k1 (x3_1 ++ [(([wrap64 (1 + t498), wrap64 (1 + t501)] : List Int))]) (wrap64 (x4_1 - 1)) s0_0 t502 t503) else (none)) = some (r1, r2, r3) := H
        have A8 := Aside0.mk A80
        clear A80
        obtain ⟨y504, hy504⟩ : ∃ y_ : List Int, y_ = (([wrap64 (1 + t498), wrap64 (1 + t501)] : List Int)) := ⟨_, rfl⟩
        replace H : (if x3_1.length < 5864062014805 then (spec_l21Draw.l0 k1 (x3_1 ++ [y504]) (wrap64 (x4_1 - 1)) s0_0 t502 t503) else (none)) = some (r1, r2, r3) := by first | (rw [hy504]; with_reducible exact H) | (have H2_ := (Option.bind_some _ _).symm.trans H; rw [hy504]; with_reducible exact H2_) | (have H2_ := (Option.bind_some _ _).symm.trans H; with_reducible exact H2_) | with_reducible exact H | (rw [hy504]; exact H) | exact H
        have Ny504 := Aside0.mk hy504
        clear hy504
        by_cases c9 : x3_1.length < 5864062014805
        · rw [if_pos c9] at H
          have LMc9 := Aside0.mk c9
          clear c9
          obtain ⟨y507, hy507⟩ : ∃ y_ : List (List Int), y_ = (x3_1 ++ [y504]) := ⟨_, rfl⟩
          replace H : (spec_l21Draw.l0 k1 y507 (wrap64 (x4_1 - 1)) s0_0 t502 t503) = some (r1, r2, r3) := by first | (rw [hy507]; with_reducible exact H) | (have H2_ := (Option.bind_some _ _).symm.trans H; rw [hy507]; with_reducible exact H2_) | (have H2_ := (Option.bind_some _ _).symm.trans H; with_reducible exact H2_) | with_reducible exact H | (rw [hy507]; exact H) | exact H
          have Ny507 := Aside0.mk hy507
          clear hy507
          have H' := Aside0.mk H
          clear H
          go_wp2_with (first | ((with_reducible refine gate_callee (f := 56) rfl ?_); refine goesL_ (some 14) rfl rfl Try.func56 (by kernel_rfl) rfl #[.pointer (some ⟨g, 0, none⟩), .int .i64 20] rfl (by (try simp only [List.map_toArray, List.map_cons, List.map_nil]); first | done | rfl | (simp only [List.length_drop, List.length_take]; rfl)) ?_; (with_reducible refine (spec_l01Below.calls g s0_0 x1001_1 x1002_1 20 t498 t499 t500 w0 _ ?side1 ?side2 A7.out).mono ?_); (case side1 => repeat (first | (with_reducible first | exact HI0.out | apply IsS65.alloc | apply IsS65.drewN | apply IsS65.drew | apply IsS65.set_1 | apply IsS65.set_2) | exact HI0.out)); (case side2 => repeat (first | (with_reducible first | exact HB.out | apply below_alloc | apply pw_below_drewN | apply below_drew1 | refine below_set ?_ (IsS65.ge HI0.out)) | exact HB.out)); rintro e w10 ⟨rfl, hi, hb, hk⟩; refine ⟨_, rfl, ?_⟩; have n0_ := Aside0.mk (Kd.S_mono (Kd.S_keep (IsS65.apartS (show IsS65 w0 _ g s0_0 x1001_1 x1002_1 from by repeat (first | (with_reducible first | exact HI0.out | apply IsS65.alloc | apply IsS65.drewN | apply IsS65.drew | apply IsS65.set_1 | apply IsS65.set_2) | exact HI0.out)) (by (with_reducible repeat (first | apply Kd.S_alloc | apply Kd.S_drewN | apply Kd.S_drew)); exact HO_3.out) (by decide)) hk (fun _ h => h.2)) (fun _ h => h.1)); have n1_ := Aside0.mk (KeepBut.trans (by repeat (first | (with_reducible first | exact HK.out | apply KeepBut.set_ | apply keep_drewN | apply keep_drew | apply keep_alloc) | exact HK.out)) hk (.inl rfl)); have n2_ := Aside0.mk (hb); have n3_ := Aside0.mk (hi); clear HO_3; clear HK; clear HB; clear HI0; have HO_3 := n0_; have HK := n1_; have HB := n2_; have HI0 := n3_; clear n0_ n1_ n2_ n3_; (try clear hb); (try clear hb2); (try clear hk); (try clear hi)) | ((with_reducible refine gate_callee (f := 56) rfl ?_); refine goesL_ (some 17) rfl rfl Try.func56 (by kernel_rfl) rfl #[.pointer (some ⟨g, 0, none⟩), .int .i64 20] rfl (by (try simp only [List.map_toArray, List.map_cons, List.map_nil]); first | done | rfl | (simp only [List.length_drop, List.length_take]; rfl)) ?_; (with_reducible refine (spec_l01Below.calls g s0_0 t499 t500 20 t501 t502 t503 w0 _ ?side1 ?side2 A8.out).mono ?_); (case side1 => repeat (first | (with_reducible first | exact HI0.out | apply IsS65.alloc | apply IsS65.drewN | apply IsS65.drew | apply IsS65.set_1 | apply IsS65.set_2) | exact HI0.out)); (case side2 => repeat (first | (with_reducible first | exact HB.out | apply below_alloc | apply pw_below_drewN | apply below_drew1 | refine below_set ?_ (IsS65.ge HI0.out)) | exact HB.out)); rintro e w11 ⟨rfl, hi, hb, hk⟩; refine ⟨_, rfl, ?_⟩; have n0_ := Aside0.mk (Kd.S_mono (Kd.S_keep (IsS65.apartS (show IsS65 w0 _ g s0_0 t499 t500 from by repeat (first | (with_reducible first | exact HI0.out | apply IsS65.alloc | apply IsS65.drewN | apply IsS65.drew | apply IsS65.set_1 | apply IsS65.set_2) | exact HI0.out)) (by (with_reducible repeat (first | apply Kd.S_alloc | apply Kd.S_drewN | apply Kd.S_drew)); exact HO_3.out) (by decide)) hk (fun _ h => h.2)) (fun _ h => h.1)); have n1_ := Aside0.mk (KeepBut.trans (by repeat (first | (with_reducible first | exact HK.out | apply KeepBut.set_ | apply keep_drewN | apply keep_drew | apply keep_alloc) | exact HK.out)) hk (.inl rfl)); have n2_ := Aside0.mk (hb); have n3_ := Aside0.mk (hi); clear HO_3; clear HK; clear HB; clear HI0; have HO_3 := n0_; have HK := n1_; have HB := n2_; have HI0 := n3_; clear n0_ n1_ n2_ n3_; (try clear hb); (try clear hb2); (try clear hk); (try clear hi)) | ((with_reducible refine gate_dst (N := 19) rfl ?_); refine Kd.R_lit (Kd.int .i64) _ 3 ?hg (N := 19) ?hd (xs := ([wrap64 (1 + t498), wrap64 (1 + t501)] : List Int)) (inner := [.int .i64 (wrap64 (1 + t498)), .int .i64 (wrap64 (1 + t501))]) (ok := fun _ => True) (okp := fun _ => True) ?hr ?hp (fun _ hk => hk) trivial (Below.refl _ _) (Nat.le_refl _) (by simp) ?_; (case hd => rfl); (case hg => rfl); (case hr => first | (go_simp; done) | (go_simp; rfl)); (case hp => exact (Reps.one (show Kd.M (Kd.int .i64) _ _ _ (wrap64 (1 + t498)) [.int .i64 (wrap64 (1 + t498))] from rfl) (Reps.one (show Kd.M (Kd.int .i64) _ _ _ (wrap64 (1 + t501)) [.int .i64 (wrap64 (1 + t501))] from rfl) (Reps.none _ _)))); intro v505 w12 ho13 hb hg_ hnew_; clear hg_ hnew_; (first | rw [← Ny504.out] at ho13 | (simp only [Int.reduceToNat] at ho13; rw [← Ny504.out] at ho13)); have n0_ := Aside0.mk (Kd.S_elder' (by (with_reducible repeat (first | apply Kd.S_alloc | apply Kd.S_drewN | apply Kd.S_drew)); exact HO_3.out) (Kd.R_base ho13) hb); have n1_ := Aside0.mk (Kd.R_lower ho13 (keep_size (w := w) (g := g) (row := none) (by repeat (first | (with_reducible first | exact HK.out | apply KeepBut.set_ | apply keep_drewN | apply keep_drew | apply keep_alloc) | exact HK.out)))); have n2_ := Aside0.mk (IsS65.below (by repeat (first | (with_reducible first | exact HI0.out | apply IsS65.alloc | apply IsS65.drewN | apply IsS65.drew | apply IsS65.set_1 | apply IsS65.set_2) | exact HI0.out)) hb); have n3_ := Aside0.mk (KeepBut.trans (by repeat (first | (with_reducible first | exact HK.out | apply KeepBut.set_ | apply keep_drewN | apply keep_drew | apply keep_alloc) | exact HK.out)) (KeepBut.of_below hb g none) (.inl rfl)); have n4_ := Aside0.mk (below_step (by repeat (first | (with_reducible first | exact HB.out | apply below_alloc | apply pw_below_drewN | apply below_drew1 | refine below_set ?_ (IsS65.ge HI0.out)) | exact HB.out)) hb); clear HO_3; clear HI0; clear HK; clear HB; have HO_3 := n0_; have HO506 := n1_; have HI0 := n2_; have HK := n3_; have HB := n4_; clear n0_ n1_ n2_ n3_ n4_; clear hb ho13; obtain ⟨Ao15, co15, eo15⟩ := Kd.R_slice HO506.out; subst eo15) | ((with_reducible refine gate_builtin (b := .append) (xs := #[.tmp 12, .tmp 20]) rfl ?_); at_builtin; refine Kd.S_append (Kd.slice 3 (Kd.int .i64)) w.heap.size rfl (.tmp 12) (.tmp 20) 22 40 (.slice none 0 0) 24 rfl Try.underlying22 info40 rfl (by decide) (by omega) u3 x3_1 y504 [.slice Ao15 y504.length co15] (fun _ => True) (fun k_ => some k_ = (.slice Ao15 y504.length co15 : Value).ownBlock) rfl rfl ?aP (fun k_ hk_ => ((Kd.R_mono (ok' := fun k_ => ((fun _ => True)) k_ ∧ some k_ ≠ (u3 : Value).ownBlock) (Kd.R_apart' (HO506.out) (Kd.S_typed HO_3.out) (by decide)) (fun k_ hk => ⟨trivial, hk.2⟩))).1 k_ hk_.symm) ?aF ?aO (Below.refl _ _) ?aS ?aL ?_; (case aP => exact Kd.M_row (Kd.R_mono (Kd.R_tight rfl (Kd.R_mono (ok' := fun k_ => ((fun _ => True)) k_ ∧ some k_ ≠ (u3 : Value).ownBlock) (Kd.R_apart' (HO506.out) (Kd.S_typed HO_3.out) (by decide)) (fun k_ hk => ⟨trivial, hk.2⟩))) (fun _ h_ => h_))); (case aF => exact (fun _ _ => trivial)); (case aO => exact (by (with_reducible repeat (first | apply Kd.S_alloc | apply Kd.S_drewN | apply Kd.S_drew)); exact Kd.S_mono HO_3.out (fun k_ hk => ⟨trivial, fun e_ => hk.2 e_⟩))); (case aS => exact (keep_size (w := w) (g := g) (row := none) (by repeat (first | (with_reducible first | exact HK.out | apply KeepBut.set_ | apply keep_drewN | apply keep_drew | apply keep_alloc) | exact HK.out)))); (case aL => have := LMc9.out; omega); intro v508 w14 ho hb hg hat; rw [← Ny507.out] at ho; have n0_ := Aside0.mk (IsS65.grown (by repeat (first | (with_reducible first | exact HI0.out | apply IsS65.alloc | apply IsS65.drewN | apply IsS65.drew | apply IsS65.set_1 | apply IsS65.set_2) | exact HI0.out)) hg (IsS65.own_neS HI0.out HO_3.out (by decide))); have n1_ := Aside0.mk (below_weaken (by repeat (first | (with_reducible first | exact HB.out | apply below_alloc | apply pw_below_drewN | apply below_drew1 | refine below_set ?_ (IsS65.ge HI0.out)) | exact HB.out)) HL.out hb); have n2_ := Aside0.mk (KeepBut.trans (by repeat (first | (with_reducible first | exact HK.out | apply KeepBut.set_ | apply keep_drewN | apply keep_drew | apply keep_alloc) | exact HK.out)) (KeepBut.of_grown hg g) (Kd.S_base2 HO_3.out)); have n3_ := Aside0.mk (ho); clear HI0; clear HB; clear HK; clear HO_3; clear HO506; have HI0 := n0_; have HB := n1_; have HK := n2_; have HO509 := n3_; clear n0_ n1_ n2_ n3_; clear ho hb hg hat))
          go_roundg k1
          case measure => have := HK1.out; omega
          case rel => exact ⟨(y507), (wrap64 (x4_1 - 1)), (t502), (t503), (by first | rfl | (simp; done) | (simp [*]; done)), H', ⟨by have := HK1.out; omega⟩, ⟨by (with_reducible repeat (first | apply Kd.S_alloc | apply Kd.S_drewN | apply Kd.S_drew)); exact HO509.out⟩, ⟨by repeat (first | (with_reducible first | exact HI0.out | apply IsS65.alloc | apply IsS65.drewN | apply IsS65.drew | apply IsS65.set_1 | apply IsS65.set_2) | exact HI0.out)⟩, ⟨by repeat (first | (with_reducible first | exact HK.out | apply KeepBut.set_ | apply keep_drewN | apply keep_drew | apply keep_alloc) | exact HK.out)⟩, ⟨by repeat (first | (with_reducible first | exact HB.out | apply below_alloc | apply pw_below_drewN | apply below_drew1 | refine below_set ?_ (IsS65.ge HI0.out)) | exact HB.out)⟩⟩
        · rw [if_neg c9] at H
          exact absurd H (by simp)
      · rw [if_neg c6] at H
        have c6b0 : decide (0 < x4_1) = false := decide_eq_false c6
        clear c6
        simp only [Option.some.injEq, Prod.mk.injEq] at H
        obtain ⟨rfl, rfl, rfl⟩ := H
        go_wp2
        go_ret
        exact ⟨_, by first | rfl | (simp [errW_none, errW_some] <;> rfl) | (simp [*, errW_none, errW_some] <;> rfl), by (with_reducible repeat (first | apply Kd.S_alloc | apply Kd.S_drewN | apply Kd.S_drew)); exact HO_3.out, by repeat (first | (with_reducible first | exact HI0.out | apply IsS65.alloc | apply IsS65.drewN | apply IsS65.drew | apply IsS65.set_1 | apply IsS65.set_2) | exact HI0.out), by repeat (first | (with_reducible first | exact HB.out | apply below_alloc | apply pw_below_drewN | apply below_drew1 | refine below_set ?_ (IsS65.ge HI0.out)) | exact HB.out), by repeat (first | (with_reducible first | exact HK.out | apply KeepBut.set_ | apply keep_drewN | apply keep_drew | apply keep_alloc) | exact HK.out)⟩
/-- The reader of draws: what its seed is. -/
def spec_l01New.l0 : Nat → List Int → Int → Int → Option (List Int × Int × Int)
  | 0, _, _, _ => none
  | k + 1, x0, x3, x4 => if x4 < (x0.length : Int) then (if x4 < 4000 then (if 0 ≤ x4 then (spec_l01New.l0 k x0 (Go.bits .and .i64 (wrap64 ((wrap64 ((wrap64 (x3 * 179)) + (wrap64 (rd x0 x4)))) + 7)) 1073741823) (wrap64 (x4 + 1))) else (none)) else (some (x0, 0, x3))) else (some (x0, 0, x3))
def spec_l01New.f (k : Nat) (l0 : List Int) : Option (List Int × Int × Int) := spec_l01New.l0 k l0 (wrap64 (2173 + (l0.length : Int))) 0
set_option maxHeartbeats 8000000 in
set_option maxRecDepth 100000 in
theorem spec_l01New.calls' (k : Nat) (A0 : Option Addr) (c0 : Nat) (l0 : List Int) (r1 : List Int) (r2 : Int) (r3 : Int) (w0 w : World) (hB : Below w0.heap.size w0 w) (hr0 : Kd.C (Kd.int .u8) w0 A0 l0.length l0) (hc0 : l0.length ≤ c0) (h : spec_l01New.f k l0 = some (r1, r2, r3)) :
    Calls Try.prog 60 #[.slice A0 l0.length c0] w fun e w' => ∃ g_ : Nat, e = .returned (.pointer (some ⟨g_, 0, none⟩)) ∧ IsS65 w0 w' g_ r1 r2 r3 ∧ Below w0.heap.size w0 w' ∧ Below w.heap.size w w' ∧ w.heap.size ≤ g_ := by
  have hu := Try.underlying65
  have HR0 := Aside0.mk hr0
  have HC0 := Aside0.mk hc0
  clear hr0 hc0
  have HBW := Aside0.mk (Below.refl w.heap.size w)
  have HW0 := Aside0.mk hB.size
  have HB := Aside0.mk hB
  clear hB
  have H : (spec_l01New.l0 k l0 (wrap64 (2173 + (l0.length : Int))) 0) = some (r1, r2, r3) := h
  clear h
  have H' := Aside0.mk H
  clear H
  go_enter Try.func60, Try.ntmps60
  go_wp2
  go_loopg [3, 4] k (fun kq v3 v4 w' => ∃ (x3_1 : Int) (x4_1 : Int), v3 = .int .i64 x3_1 ∧ v4 = .int .i64 x4_1 ∧ Aside0 (spec_l01New.l0 kq l0 x3_1 x4_1 = some (r1, r2, r3)) ∧ Aside0 (kq ≤ k) ∧ Aside0 (Below w0.heap.size w0 w') ∧ Aside0 (Below w.heap.size w w'))
  case atStart => exact ⟨(wrap64 (2173 + (l0.length : Int))), (0), (by first | rfl | (simp; done) | (simp [*]; done)), (by first | rfl | (simp; done) | (simp [*]; done)), H', ⟨Nat.le_refl _⟩, HB, HBW⟩
  case round =>
    clear H' HB HBW
    obtain ⟨x3_1, x4_1, rfl, rfl, HA, HK1, HB, HBW⟩ := hrel
    cases gk with
    | zero => exact absurd HA.out (by simp [spec_l01New.l0])
    | succ k1 =>
      have H := HA.out
      clear HA
      simp only [spec_l01New.l0] at H
      by_cases c2 : x4_1 < (l0.length : Int)
      · rw [if_pos c2] at H
        have c2b0 : decide (x4_1 < (l0.length : Int)) = true := decide_eq_true c2
        clear c2
        by_cases c3 : x4_1 < 4000
        · rw [if_pos c3] at H
          have c3b0 : decide (x4_1 < 4000) = true := decide_eq_true c3
          clear c3
          by_cases c4 : 0 ≤ x4_1
          · rw [if_pos c4] at H
            have c4b0 : decide (0 ≤ x4_1) = true := decide_eq_true c4
            clear c4
            have H' := Aside0.mk H
            clear H
            have p534 : 0 ≤ (x4_1 : Int) := of_decide_eq_true (by first | (with_reducible assumption) | assumption)
            have q534 : x4_1 < (l0.length : Int) := of_decide_eq_true (by first | (with_reducible assumption) | assumption)
            obtain ⟨ad534, e534, hx534_0⟩ := Kd.at_int HR0.out x4_1 p534 q534
            cases e534
            replace hx534_0 := pw_cell_below HB.out hx534_0
            replace p534 := eq_true p534
            replace q534 := eq_true q534
            go_wp2
            go_roundg k1
            case measure => have := HK1.out; omega
            case rel => exact ⟨(Go.bits .and .i64 (wrap64 ((wrap64 ((wrap64 (x3_1 * 179)) + (wrap64 (rd l0 x4_1)))) + 7)) 1073741823), (wrap64 (x4_1 + 1)), (by first | rfl | (simp; done) | (simp [*]; done)), (by first | rfl | (simp; done) | (simp [*]; done)), H', ⟨by have := HK1.out; omega⟩, ⟨by repeat (first | (with_reducible first | exact HB.out | apply below_alloc | apply pw_below_drewN | apply below_drew1) | exact HB.out)⟩, ⟨by repeat (first | (with_reducible first | exact HBW.out | apply below_alloc | apply pw_below_drewN | apply below_drew1) | exact HBW.out)⟩⟩
          · rw [if_neg c4] at H
            exact absurd H (by simp)
        · rw [if_neg c3] at H
          have c3b0 : decide (x4_1 < 4000) = false := decide_eq_false c3
          clear c3
          simp only [Option.some.injEq, Prod.mk.injEq] at H
          obtain ⟨rfl, rfl, rfl⟩ := H
          go_wp2
          go_ret
          exact ⟨_, rfl, IsS65.new w0 _ A0 c0 l0 0 x3_1 HB.out HR0.out, below_alloc HB.out _, below_alloc HBW.out _, HBW.out.size⟩
      · rw [if_neg c2] at H
        have c2b0 : decide (x4_1 < (l0.length : Int)) = false := decide_eq_false c2
        clear c2
        simp only [Option.some.injEq, Prod.mk.injEq] at H
        obtain ⟨rfl, rfl, rfl⟩ := H
        go_wp2
        go_ret
        exact ⟨_, rfl, IsS65.new w0 _ A0 c0 l0 0 x3_1 HB.out HR0.out, below_alloc HB.out _, below_alloc HBW.out _, HBW.out.size⟩
end Go.Proofs.Ytebjpafnfmmjeaa.PA
-- Written for this claim by a program of this session's (ownprint.py), by way of the kit's print and hand-proved texts. Lean checks it.
namespace Go.Proofs.Ytebjpafnfmmjeaa.PA
open Go.RowKit Go.Proofs.YtebjpafnfmmjeaaW.PrintWords Go.Proofs.YtebjpafnfmmjeaaW.PrintLast Go.Proofs.YtebjpafnfmmjeaaW.PrintMore
attribute [local go_sem] max2_int min2_int max_two min_two max_three min_three max_four min_four   -- for this text's walks alone
set_option linter.unusedVariables false
set_option linter.unusedSimpArgs false
/-- The reader of draws, n draws on. -/
def spec_l31New.l0 : Nat → List Int → Int → Int → Int → Int → Option (List Int × Int × Int)
  | 0, _, _, _, _, _ => none
  | k + 1, s0, s1, s2, n, i => if i < n then ((spec_l01Byte.f s0 s1 s2).bind fun t => (spec_l31New.l0 k s0 t.2.1 t.2.2 n (wrap64 (i + 1)))) else (some (s0, s1, s2))
def spec_l31New.f (k : Nat) (l0 : List Int) (a1 : Int) : Option (List Int × Int × Int) := (spec_l01New.f k l0).bind fun t => (spec_l31New.l0 k t.1 t.2.1 t.2.2 a1 0)
set_option maxHeartbeats 8000000 in
set_option maxRecDepth 100000 in
theorem spec_l31New.calls (k : Nat) (A0 : Option Addr) (c0 : Nat) (l0 : List Int) (a1 : Int) (r1 : List Int) (r2 : Int) (r3 : Int) (w0 w : World) (hB : Below w0.heap.size w0 w) (hr0 : Kd.C (Kd.int .u8) w0 A0 l0.length l0) (hc0 : l0.length ≤ c0) (h : spec_l31New.f k l0 a1 = some (r1, r2, r3)) :
    Calls Try.prog 55 #[.slice A0 l0.length c0, .int .i64 a1] w fun e w' => ∃ g_ : Nat, e = .returned (.pointer (some ⟨g_, 0, none⟩)) ∧ IsS65 w0 w' g_ r1 r2 r3 ∧ Below w0.heap.size w0 w' ∧ Below w.heap.size w w' := by
  unfold spec_l31New.f at h
  obtain ⟨⟨t1, t2, t3⟩, ht, h⟩ := Option.bind_eq_some_iff.1 h
  dsimp only at h
  have HC := Aside0.mk (spec_l01New.calls' k A0 c0 l0 t1 t2 t3 w0 w hB hr0 hc0 ht)
  have HB0 := Aside0.mk hB
  have H' := Aside0.mk h
  clear hB hr0 hc0 h ht
  go_enter Try.func55, Try.ntmps55
  go_wp2_with fail
  refine HC.out.mono ?_
  rintro e w1 ⟨g, rfl, hI, hB1, hW1, hg⟩
  have HG := Aside0.mk hg
  clear hg
  have HI := Aside0.mk hI
  have HB := Aside0.mk hB1
  have HW := Aside0.mk hW1
  clear hI hB1 hW1 HC
  go_wp2
  go_loopg [6] k (fun kq v6 w' => ∃ (s1 s2 i : Int), v6 = .int .i64 i ∧ Aside0 (spec_l31New.l0 kq t1 s1 s2 a1 i = some (r1, r2, r3)) ∧ Aside0 (kq ≤ k) ∧ Aside0 (IsS65 w0 w' g t1 s1 s2) ∧ Aside0 (Below w0.heap.size w0 w') ∧ Aside0 (Below w.heap.size w w'))
  case atStart => exact ⟨t2, t3, 0, (by first | rfl | (simp; done) | (simp [*]; done)), H', ⟨Nat.le_refl _⟩, HI, HB, HW⟩
  case round =>
    clear H' HI HB HW
    obtain ⟨s1, s2, i, rfl, HA, HK1, HI, HB, HW⟩ := hrel
    cases gk with
    | zero => exact absurd HA.out (by simp [spec_l31New.l0])
    | succ k1 =>
      have H := HA.out
      clear HA
      simp only [spec_l31New.l0] at H
      by_cases c2 : i < a1
      · rw [if_pos c2] at H
        have c2b0 : decide (i < a1) = true := decide_eq_true c2
        clear c2
        obtain ⟨⟨u1, u2, u3⟩, hu, H⟩ := Option.bind_eq_some_iff.1 H
        dsimp only at H
        have H' := Aside0.mk H
        have HU := Aside0.mk hu
        clear H hu
        go_wp2_with fail
        refine (spec_l01Byte.calls g t1 s1 s2 u1 u2 u3 w0 _ HI.out HB.out HU.out).mono ?_
        rintro e w2 ⟨rfl, hI2, hB2, hK2⟩
        have HK2 := Aside0.mk hK2
        have HI2 := Aside0.mk hI2
        have HB2 := Aside0.mk hB2
        clear hI2 hB2 hK2
        go_wp2
        go_roundg k1
        case measure => have := HK1.out; omega
        case rel => exact ⟨u2, u3, wrap64 (i + 1), (by first | rfl | (simp; done) | (simp [*]; done)), H', ⟨by have := HK1.out; omega⟩, HI2, HB2, ⟨⟨HB2.out.os.trans (HB.out.os.symm.trans HW.out.os), HB2.out.tape.trans (HB.out.tape.symm.trans HW.out.tape), HB2.out.output.trans (HB.out.output.symm.trans HW.out.output), Nat.le_trans HW.out.size HK2.out.1, fun k_ hk_ => (HK2.out.2 k_ (Nat.lt_of_lt_of_le hk_ HW.out.size) (by have := HG.out; omega) (by simp)).trans (HW.out.block k_ hk_)⟩⟩⟩
      · rw [if_neg c2] at H
        have c2b0 : decide (i < a1) = false := decide_eq_false c2
        clear c2
        simp only [Option.some.injEq, Prod.mk.injEq] at H
        obtain ⟨rfl, rfl, rfl⟩ := H
        go_wp2
        go_ret
        exact ⟨_, rfl, HI.out, HB.out, HW.out⟩
def spec_MakeStore.f (k : Nat) (l0 : List Int) (a1 : Int) : Option ((List (List Int))) := (spec_l31New.f k l0 a1).bind fun bt510 => ((spec_l21Draw.f k bt510.1 bt510.2.1 bt510.2.2).bind fun bt514 => (some bt514.1))
set_option maxHeartbeats 8000000 in
set_option maxRecDepth 100000 in
theorem spec_MakeStore.calls (k : Nat) (A0 : Option Addr) (c0 : Nat) (l0 : List Int) (a1 : Int) (r : List (List Int)) (w : World) (hr0 : Kd.C (Kd.int .u8) w A0 l0.length l0) (hc0 : l0.length ≤ c0) (h : spec_MakeStore.f k l0 a1 = some r) :
    Calls Try.prog 33 #[.slice A0 l0.length c0, .int .i64 a1] w fun e w' => ∃ v0_ : Value, e = .returned (v0_) ∧ Kd.S (Kd.slice 3 (Kd.int .i64)) 40 w' w.heap.size (fun _ => True) v0_ r ∧ Below w.heap.size w w' := by
  have HR0 := Aside0.mk hr0
  have HC0 := Aside0.mk hc0
  clear hr0 hc0
  have HB := Aside0.mk (Below.refl w.heap.size w)
  have H : ((spec_l31New.f k l0 a1).bind fun bt510 => ((spec_l21Draw.f k bt510.1 bt510.2.1 bt510.2.2).bind fun bt514 => (some bt514.1))) = some r := h
  clear h
  replace H := Option.bind_eq_some_iff.mp H
  obtain ⟨⟨t510, t511, t512⟩, A30, H⟩ := H
  replace H : ((spec_l21Draw.f k t510 t511 t512).bind fun bt514 => (some bt514.1)) = some r := H
  have A3 := Aside0.mk A30
  clear A30
  replace H := Option.bind_eq_some_iff.mp H
  obtain ⟨⟨t514, t517, t518⟩, A40, H⟩ := H
  replace H : (some t514) = some r := H
  have A4 := Aside0.mk A40
  clear A40
  obtain rfl := Option.some.inj H
  go_enter Try.func33, Try.ntmps33
  go_wp2_with (first | ((with_reducible refine gate_callee (f := 55) rfl ?_); refine goesL_ (some 7) rfl rfl Try.func55 (by kernel_rfl) rfl #[.slice A0 l0.length c0, .int .i64 a1] rfl (by (try simp only [List.map_toArray, List.map_cons, List.map_nil]); first | done | rfl | (simp only [List.length_drop, List.length_take]; rfl)) ?_; (with_reducible refine (spec_l31New.calls k _ _ l0 a1 t510 t511 t512 w _ ?side1 ?side2 ?side3 A3.out).mono ?_); (case side1 => repeat (first | (with_reducible first | exact HB.out | apply below_alloc | apply pw_below_drewN | apply below_drew1) | exact HB.out)); (case side2 => exact HR0.out); (case side3 => exact HC0.out); rintro e w5 ⟨g513, rfl, hi, hb, hb2⟩; refine ⟨_, rfl, ?_⟩; have n0_ := Aside0.mk (hb); have n1_ := Aside0.mk (hi); clear HB; have HB := n0_; have HI513 := n1_; clear n0_ n1_; (try clear hb); (try clear hb2); (try clear hk); (try clear hi)) | ((with_reducible refine gate_callee (f := 54) rfl ?_); refine goesL_ (some 8) rfl rfl Try.func54 (by kernel_rfl) rfl #[.pointer (some ⟨g513, 0, none⟩)] rfl (by (try simp only [List.map_toArray, List.map_cons, List.map_nil]); first | done | rfl | (simp only [List.length_drop, List.length_take]; rfl)) ?_; (with_reducible refine (spec_l21Draw.calls k g513 t510 t511 t512 t514 t517 t518 w _ ?side1 ?side2 A4.out).mono ?_); (case side1 => repeat (first | (with_reducible first | exact HI513.out | apply IsS65.alloc | apply IsS65.drewN | apply IsS65.drew | apply IsS65.set_1 | apply IsS65.set_2) | exact HI513.out)); (case side2 => repeat (first | (with_reducible first | exact HB.out | apply below_alloc | apply pw_below_drewN | apply below_drew1 | refine below_set ?_ (IsS65.ge HI513.out)) | exact HB.out)); rintro e w6 ⟨v515, rfl, ho0, hi, hb, hk⟩; refine ⟨_, rfl, ?_⟩; have n0_ := Aside0.mk (Kd.S_lower ho0 (below_size (by repeat (first | (with_reducible first | exact HB.out | apply below_alloc | apply pw_below_drewN | apply below_drew1 | refine below_set ?_ (IsS65.ge HI513.out)) | exact HB.out)))); have n1_ := Aside0.mk (hb); have n2_ := Aside0.mk (hi); clear HB; clear HI513; have HO516 := n0_; have HB := n1_; have HI513 := n2_; clear n0_ n1_ n2_; (try clear hb); (try clear hb2); (try clear hk); (try clear hi); (try clear ho0)))
  go_ret
  exact ⟨_, by first | rfl | (simp [errW_none, errW_some] <;> rfl) | (simp [*, errW_none, errW_some] <;> rfl), by (with_reducible repeat (first | apply Kd.S_alloc | apply Kd.S_drewN | apply Kd.S_drew)); exact HO516.out, by repeat (first | (with_reducible first | exact HB.out | apply below_alloc | apply pw_below_drewN | apply below_drew1 | refine below_set ?_ (IsS65.ge HI513.out)) | exact HB.out)⟩
end Go.Proofs.Ytebjpafnfmmjeaa.PA
-- Written for this claim by a program of this session's (ownprint.py), by way of the kit's print and hand-proved texts. Lean checks it.
namespace Go.Proofs.Ytebjpafnfmmjeaa.PA
open Go.RowKit Go.Proofs.YtebjpafnfmmjeaaW.PrintWords Go.Proofs.YtebjpafnfmmjeaaW.PrintLast Go.Proofs.YtebjpafnfmmjeaaW.PrintMore
attribute [local go_sem] max2_int min2_int max_two min_two max_three min_three max_four min_four   -- for this text's walks alone
set_option linter.unusedVariables false
set_option linter.unusedSimpArgs false
mutual
def spec_MakeSize.j1 : Nat → List Int → Int → Int → Int → Option (Int)
  | 0, _, _, _, _ => none
  | k + 1, x0, x1, x2, x9 => (spec_l31New.f k x0 x1).bind fun bt519 => ((spec_l01Below.f bt519.1 bt519.2.1 bt519.2.2 x9).bind fun bt523 => (spec_MakeSize.l1 k x2 bt523.1))
def spec_MakeSize.l1 : Nat → Int → Int → Option (Int)
  | 0, _, _ => none
  | k + 1, x11, x12 => if x12 > 0 then (spec_MakeSize.l1 k (wrap64 (x11 + 1)) (wrap64 (x12 - 1))) else (some x11)
def spec_MakeSize.l0 : Nat → List Int → Int → Int → Int → Int → Int → Option (Int)
  | 0, _, _, _, _, _, _ => none
  | k + 1, x0, x1, x2, x3, x9, x10 => if x10 < x3 then (if x9 < 100 then (spec_MakeSize.l0 k x0 x1 x2 x3 (wrap64 (x9 + 1)) (wrap64 (x10 + 1))) else (spec_MakeSize.j1 k x0 x1 x2 x9)) else (spec_MakeSize.j1 k x0 x1 x2 x9)
end
def spec_MakeSize.f (k : Nat) (l0 : List Int) (a1 : Int) (a2 : Int) (a3 : Int) : Option (Int) := spec_MakeSize.l0 k l0 a1 a2 a3 1 a2
set_option maxHeartbeats 8000000 in
set_option maxRecDepth 100000 in
theorem spec_MakeSize.calls (k : Nat) (A0 : Option Addr) (c0 : Nat) (l0 : List Int) (a1 : Int) (a2 : Int) (a3 : Int) (r : Int) (w : World) (hr0 : Kd.C (Kd.int .u8) w A0 l0.length l0) (hc0 : l0.length ≤ c0) (h : spec_MakeSize.f k l0 a1 a2 a3 = some r) :
    Calls Try.prog 34 #[.slice A0 l0.length c0, .int .i64 a1, .int .i64 a2, .int .i64 a3] w fun e w' => e = .returned (.int .i64 r) ∧ Below w.heap.size w w' := by
  have HR0 := Aside0.mk hr0
  have HC0 := Aside0.mk hc0
  clear hr0 hc0
  have HB := Aside0.mk (Below.refl w.heap.size w)
  have H : (spec_MakeSize.l0 k l0 a1 a2 a3 1 a2) = some r := h
  clear h
  have HC5 := Aside0.mk H
  clear H
  go_enter Try.func34, Try.ntmps34
  go_upto_block 0 with (fail)
  go_cut [9] (fun v9 wc => ∃ (kq : Nat) (x9_4 : Int), v9 = .int .i64 x9_4 ∧ Aside0 (spec_MakeSize.j1 kq l0 a1 a2 x9_4 = some r) ∧ Aside0 (kq ≤ k) ∧ Aside0 (Below w.heap.size w wc))
  case first =>
    have H := HC5.out
    clear HC5
    have H' := Aside0.mk H
    clear H
    go_wp2
    go_loopg [9, 10] k (fun kq v9 v10 w' => ∃ (x9_1 : Int) (x10_1 : Int), v9 = .int .i64 x9_1 ∧ v10 = .int .i64 x10_1 ∧ Aside0 (spec_MakeSize.l0 kq l0 a1 a2 a3 x9_1 x10_1 = some r) ∧ Aside0 (kq ≤ k) ∧ Aside0 (Below w.heap.size w w'))
    case atStart => exact ⟨(1), (a2), (by first | rfl | (simp; done) | (simp [*]; done)), (by first | rfl | (simp; done) | (simp [*]; done)), H', ⟨Nat.le_refl _⟩, ⟨by repeat (first | (with_reducible first | exact HB.out | apply below_alloc | apply pw_below_drewN | apply below_drew1) | exact HB.out)⟩⟩
    case round =>
      clear H'
      try clear p2
      try clear c3
      obtain ⟨x9_1, x10_1, rfl, rfl, HA, HK1, HB⟩ := hrel
      cases gk with
      | zero => exact absurd HA.out (by simp [spec_MakeSize.l0])
      | succ k1 =>
        have H := HA.out
        clear HA
        simp only [spec_MakeSize.l0] at H
        by_cases c6 : x10_1 < a3
        · rw [if_pos c6] at H
          have c6b0 : decide (x10_1 < a3) = true := decide_eq_true c6
          clear c6
          (first | rw [c6b0] | (simp only [i64_w, i32_w]; rw [c6b0]) | skip)
          by_cases c7 : x9_1 < 100
          · rw [if_pos c7] at H
            have c7b0 : decide (x9_1 < 100) = true := decide_eq_true c7
            clear c7
            have H' := Aside0.mk H
            clear H
            go_wp2
            go_roundg k1
            case measure => have := HK1.out; omega
            case rel => exact ⟨(wrap64 (x9_1 + 1)), (wrap64 (x10_1 + 1)), (by first | rfl | (simp; done) | (simp [*]; done)), (by first | rfl | (simp; done) | (simp [*]; done)), H', ⟨by have := HK1.out; omega⟩, ⟨by repeat (first | (with_reducible first | exact HB.out | apply below_alloc | apply pw_below_drewN | apply below_drew1) | exact HB.out)⟩⟩
          · rw [if_neg c7] at H
            have c7b0 : decide (x9_1 < 100) = false := decide_eq_false c7
            clear c7
            have H' := Aside0.mk H
            clear H
            go_wp2
            go_meet
            case rel => exact ⟨_, (x9_1), (by first | rfl | (simp; done) | (simp [*]; done)), H', ⟨by have := HK1.out; first | omega | exact Nat.le_refl _⟩, ⟨by repeat (first | (with_reducible first | exact HB.out | apply below_alloc | apply pw_below_drewN | apply below_drew1) | exact HB.out)⟩⟩
        · rw [if_neg c6] at H
          have c6b0 : decide (x10_1 < a3) = false := decide_eq_false c6
          clear c6
          (first | rw [c6b0] | (simp only [i64_w, i32_w]; rw [c6b0]) | skip)
          have H' := Aside0.mk H
          clear H
          go_wp2
          go_meet
          case rel => exact ⟨_, (x9_1), (by first | rfl | (simp; done) | (simp [*]; done)), H', ⟨by have := HK1.out; first | omega | exact Nat.le_refl _⟩, ⟨by repeat (first | (with_reducible first | exact HB.out | apply below_alloc | apply pw_below_drewN | apply below_drew1) | exact HB.out)⟩⟩
  case rest =>
    clear HC5
    try clear p2
    try clear c3
    try clear c6
    try clear c6b0
    try clear p6
    try clear c7
    try clear c7b0
    try clear p2
    obtain ⟨kq, x9_4, rfl, HA, HJ4, HB⟩ := hcut
    cases kq with
    | zero => exact absurd HA.out (by simp [spec_MakeSize.j1])
    | succ kj4 =>
      have H := HA.out
      clear HA
      simp only [spec_MakeSize.j1] at H
      replace H := Option.bind_eq_some_iff.mp H
      obtain ⟨⟨t519, t520, t521⟩, A80, H⟩ := H
      replace H : ((spec_l01Below.f t519 t520 t521 x9_4).bind fun bt523 => (spec_MakeSize.l1 kj4 a2 bt523.1)) = some r := H
      have A8 := Aside0.mk A80
      clear A80
      replace H := Option.bind_eq_some_iff.mp H
      obtain ⟨⟨t523, t524, t525⟩, A90, H⟩ := H
      replace H : (spec_MakeSize.l1 kj4 a2 t523) = some r := H
      have A9 := Aside0.mk A90
      clear A90
      have H' := Aside0.mk H
      clear H
      go_wp2_with (first | ((with_reducible refine gate_callee (f := 55) rfl ?_); refine goesL_ (some 28) rfl rfl Try.func55 (by kernel_rfl) rfl #[.slice A0 l0.length c0, .int .i64 a1] rfl (by (try simp only [List.map_toArray, List.map_cons, List.map_nil]); first | done | rfl | (simp only [List.length_drop, List.length_take]; rfl)) ?_; (with_reducible refine (spec_l31New.calls kj4 _ _ l0 a1 t519 t520 t521 w _ ?side1 ?side2 ?side3 A8.out).mono ?_); (case side1 => repeat (first | (with_reducible first | exact HB.out | apply below_alloc | apply pw_below_drewN | apply below_drew1) | exact HB.out)); (case side2 => exact HR0.out); (case side3 => exact HC0.out); rintro e w10 ⟨g522, rfl, hi, hb, hb2⟩; refine ⟨_, rfl, ?_⟩; have n0_ := Aside0.mk (hb); have n1_ := Aside0.mk (hi); clear HB; have HB := n0_; have HI522 := n1_; clear n0_ n1_; (try clear hb); (try clear hb2); (try clear hk); (try clear hi)) | ((with_reducible refine gate_callee (f := 56) rfl ?_); refine goesL_ (some 30) rfl rfl Try.func56 (by kernel_rfl) rfl #[.pointer (some ⟨g522, 0, none⟩), .int .i64 x9_4] rfl (by (try simp only [List.map_toArray, List.map_cons, List.map_nil]); first | done | rfl | (simp only [List.length_drop, List.length_take]; rfl)) ?_; (with_reducible refine (spec_l01Below.calls g522 t519 t520 t521 x9_4 t523 t524 t525 w _ ?side1 ?side2 A9.out).mono ?_); (case side1 => repeat (first | (with_reducible first | exact HI522.out | apply IsS65.alloc | apply IsS65.drewN | apply IsS65.drew | apply IsS65.set_1 | apply IsS65.set_2) | exact HI522.out)); (case side2 => repeat (first | (with_reducible first | exact HB.out | apply below_alloc | apply pw_below_drewN | apply below_drew1 | refine below_set ?_ (IsS65.ge HI522.out)) | exact HB.out)); rintro e w11 ⟨rfl, hi, hb, hk⟩; refine ⟨_, rfl, ?_⟩; have n0_ := Aside0.mk (hb); have n1_ := Aside0.mk (hi); clear HB; clear HI522; have HB := n0_; have HI522 := n1_; clear n0_ n1_; (try clear hb); (try clear hb2); (try clear hk); (try clear hi)))
      go_loopg [11, 12] kj4 (fun kq v11 v12 w' => ∃ (x11_2 : Int) (x12_2 : Int), v11 = .int .i64 x11_2 ∧ v12 = .int .i64 x12_2 ∧ Aside0 (spec_MakeSize.l1 kq x11_2 x12_2 = some r) ∧ Aside0 (kq ≤ kj4) ∧ Aside0 (Below w.heap.size w w'))
      case atStart => exact ⟨(a2), (t523), (by first | rfl | (simp; done) | (simp [*]; done)), (by first | rfl | (simp; done) | (simp [*]; done)), H', ⟨Nat.le_refl _⟩, ⟨by repeat (first | (with_reducible first | exact HB.out | apply below_alloc | apply pw_below_drewN | apply below_drew1 | refine below_set ?_ (IsS65.ge HI522.out)) | exact HB.out)⟩⟩
      case round =>
        clear H'
        try clear p2
        try clear c3
        try clear c5
        try clear c6
        try clear c6b0
        try clear p6
        try clear c7
        try clear c7b0
        try clear p2
        try clear p6
        obtain ⟨x11_2, x12_2, rfl, rfl, HA, HK2, HB⟩ := hrel
        cases gk with
        | zero => exact absurd HA.out (by simp [spec_MakeSize.l1])
        | succ k2 =>
          have H := HA.out
          clear HA
          simp only [spec_MakeSize.l1] at H
          by_cases c12 : x12_2 > 0
          · rw [if_pos c12] at H
            have c12b0 : decide (0 < x12_2) = true := decide_eq_true c12
            clear c12
            have H' := Aside0.mk H
            clear H
            go_wp2
            go_roundg k2
            case measure => have := HJ4.out; have := HK2.out; omega
            case rel => exact ⟨(wrap64 (x11_2 + 1)), (wrap64 (x12_2 - 1)), (by first | rfl | (simp; done) | (simp [*]; done)), (by first | rfl | (simp; done) | (simp [*]; done)), H', ⟨by have := HJ4.out; have := HK2.out; omega⟩, ⟨by repeat (first | (with_reducible first | exact HB.out | apply below_alloc | apply pw_below_drewN | apply below_drew1) | exact HB.out)⟩⟩
          · rw [if_neg c12] at H
            have c12b0 : decide (0 < x12_2) = false := decide_eq_false c12
            clear c12
            obtain rfl := Option.some.inj H
            go_wp2
            go_ret
            exact ⟨by first | rfl | (simp [errW_none, errW_some] <;> rfl) | (simp [*, errW_none, errW_some] <;> rfl), by repeat (first | (with_reducible first | exact HB.out | apply below_alloc | apply pw_below_drewN | apply below_drew1) | exact HB.out)⟩
end Go.Proofs.Ytebjpafnfmmjeaa.PA
-- Written for this claim by a program of this session's (ownprint.py), by way of the kit's print and hand-proved texts. Lean checks it.
namespace Go.Proofs.Ytebjpafnfmmjeaa.PA
open Go.RowKit Go.Proofs.YtebjpafnfmmjeaaW.PrintWords Go.Proofs.YtebjpafnfmmjeaaW.PrintLast Go.Proofs.YtebjpafnfmmjeaaW.PrintMore
attribute [local go_sem] max2_int min2_int max_two min_two max_three min_three max_four min_four   -- for this text's walks alone
set_option linter.unusedVariables false
set_option linter.unusedSimpArgs false
def laws_area.l0 : Nat → Int → List (List Int) → Int → Int → Option (Int)
  | 0, _, _, _, _ => none
  | k + 1, x3, x6, x7, x8 => if x8 < x7 then (if 0 ≤ x8 then (if x8 < (x6.length : Int) then (if 0 < ((rd_L1 x6 x8).length : Int) then (if 1 < ((rd_L1 x6 x8).length : Int) then (laws_area.l0 k (wrap64 (x3 + (wrap64 ((rd (rd_L1 x6 x8) 0) * (rd (rd_L1 x6 x8) 1))))) x6 x7 (wrap64 (x8 + 1))) else (none)) else (none)) else (none)) else (none)) else (some x3)
def laws_area.f (k : Nat) (l0 : List (List Int)) : Option (Int) := laws_area.l0 k 0 l0 (l0.length : Int) 0
set_option maxHeartbeats 8000000 in
set_option maxRecDepth 100000 in
theorem laws_area.calls (k : Nat) (A0 : Option Addr) (c0 : Nat) (l0 : List (List Int)) (r : Int) (w : World) (hr0 : Kd.C (Kd.slice 3 (Kd.int .i64)) w A0 l0.length l0) (hc0 : l0.length ≤ c0) (h : laws_area.f k l0 = some r) :
    Calls Try.prog 35 #[.slice A0 l0.length c0] w fun e w' => e = .returned (.int .i64 r) ∧ Drawn0 w w' := by
  have HR0 := Aside0.mk hr0
  have HC0 := Aside0.mk hc0
  clear hr0 hc0
  have H : (laws_area.l0 k 0 l0 (l0.length : Int) 0) = some r := h
  clear h
  have H' := Aside0.mk H
  clear H
  go_enter Try.func35, Try.ntmps35
  go_wp2
  repeat (go_quiet (fail); try go_wp2)
  go_loopg [3, 8] k (fun kq v3 v8 w' => ∃ (x3_1 : Int) (x8_1 : Int), v3 = .int .i64 x3_1 ∧ v8 = .int .i64 x8_1 ∧ Aside0 (laws_area.l0 kq x3_1 l0 (l0.length : Int) x8_1 = some r) ∧ Aside0 (kq ≤ k) ∧ Drawn0 w w')
  case atStart => exact ⟨(0), (0), (by first | rfl | (simp; done) | (simp [*]; done)), (by first | rfl | (simp; done) | (simp [*]; done)), H', ⟨Nat.le_refl _⟩, by repeat (first | exact Drawn0.refl _ | apply Drawn0.step)⟩
  case round =>
    clear H'
    obtain ⟨x3_1, x8_1, rfl, rfl, HA, HK1, ⟨m1, rfl⟩⟩ := hrel
    cases gk with
    | zero => exact absurd HA.out (by simp [laws_area.l0])
    | succ k1 =>
      have H := HA.out
      clear HA
      simp only [laws_area.l0] at H
      by_cases c2 : x8_1 < (l0.length : Int)
      · rw [if_pos c2] at H
        have c2b0 : decide (x8_1 < (l0.length : Int)) = true := decide_eq_true c2
        clear c2
        by_cases c3 : 0 ≤ x8_1
        · rw [if_pos c3] at H
          have c3b0 : decide (0 ≤ x8_1) = true := decide_eq_true c3
          clear c3
          by_cases c4 : x8_1 < (l0.length : Int)
          · rw [if_pos c4] at H
            have c4b0 : decide (x8_1 < (l0.length : Int)) = true := decide_eq_true c4
            clear c4
            by_cases c5 : 0 < ((rd_L1 l0 x8_1).length : Int)
            · rw [if_pos c5] at H
              have c5b0 : decide (0 < ((rd_L1 l0 x8_1).length : Int)) = true := decide_eq_true c5
              have c5b1 : decide (0 < (rd_L1 l0 x8_1).length) = true := decide_eq_true (by omega)
              clear c5
              by_cases c6 : 1 < ((rd_L1 l0 x8_1).length : Int)
              · rw [if_pos c6] at H
                have c6b0 : decide (1 < ((rd_L1 l0 x8_1).length : Int)) = true := decide_eq_true c6
                have c6b1 : decide (1 < (rd_L1 l0 x8_1).length) = true := decide_eq_true (by omega)
                clear c6
                have H' := Aside0.mk H
                clear H
                have p526 : 0 ≤ (x8_1 : Int) := of_decide_eq_true (by first | (with_reducible assumption) | assumption)
                have q526 : x8_1 < (l0.length : Int) := of_decide_eq_true (by first | (with_reducible assumption) | assumption)
                obtain ⟨ad526, A526_0, c526_0, e526, hx526_0, hl526_0, hi526_0⟩ := at_L1 HR0.out x8_1 p526 q526
                cases e526
                have HR526_0 := Aside0.mk hi526_0
                have HC526_0 := Aside0.mk hl526_0
                clear hi526_0 hl526_0
                replace p526 := eq_true p526
                replace q526 := eq_true q526
                have p527 : 0 ≤ (0 : Int) := (by omega)
                have q527 : 0 < ((rd_L1 l0 x8_1).length : Int) := of_decide_eq_true (by first | (with_reducible assumption) | assumption)
                obtain ⟨ad527, e527, hx527_0⟩ := Kd.at_int HR526_0.out 0 p527 q527
                cases e527
                have qi527 : (0 < (rd_L1 l0 x8_1).length) = True := eq_true (by omega)
                (try rw [show ((0 : Int)).toNat = 0 from rfl] at hx527_0)
                (try rw [Addr.add_zero'] at hx527_0)
                replace p527 := eq_true p527
                replace q527 := eq_true q527
                have p528 : 0 ≤ (1 : Int) := (by omega)
                have q528 : 1 < ((rd_L1 l0 x8_1).length : Int) := of_decide_eq_true (by first | (with_reducible assumption) | assumption)
                obtain ⟨ad528, e528, hx528_0⟩ := Kd.at_int HR526_0.out 1 p528 q528
                obtain rfl : ad527 = ad528 := (by injection e528)
                (try simp only [show (1 : Int).toNat = 1 from rfl, Nat.reduceMul, Nat.reduceEqDiff, Go.Addr.add, ↓reduceIte] at hx528_0)
                have qi528 : (1 < (rd_L1 l0 x8_1).length) = True := eq_true (by omega)
                (try rw [show ((1 : Int)).toNat = 1 from rfl] at hx528_0)
                replace p528 := eq_true p528
                replace q528 := eq_true q528
                go_wp2
                repeat (go_quiet (fail); try go_wp2)
                go_roundg k1
                case measure => have := HK1.out; omega
                case rel => exact ⟨(wrap64 (x3_1 + (wrap64 ((rd (rd_L1 l0 x8_1) 0) * (rd (rd_L1 l0 x8_1) 1))))), (wrap64 (x8_1 + 1)), (by first | rfl | (simp; done) | (simp [*]; done)), (by first | rfl | (simp; done) | (simp [*]; done)), H', ⟨by have := HK1.out; omega⟩, by repeat (first | exact Drawn0.refl _ | apply Drawn0.step)⟩
              · rw [if_neg c6] at H
                exact absurd H (by simp)
            · rw [if_neg c5] at H
              exact absurd H (by simp)
          · rw [if_neg c4] at H
            exact absurd H (by simp)
        · rw [if_neg c3] at H
          exact absurd H (by simp)
      · rw [if_neg c2] at H
        have c2b0 : decide (x8_1 < (l0.length : Int)) = false := decide_eq_false c2
        clear c2
        obtain rfl := Option.some.inj H
        go_wp2
        repeat (go_quiet (fail); try go_wp2)
        go_ret
        exact ⟨by first | rfl | (simp; done) | (simp [*]; done), by repeat (first | exact Drawn0.refl _ | apply Drawn0.step)⟩
end Go.Proofs.Ytebjpafnfmmjeaa.PA
