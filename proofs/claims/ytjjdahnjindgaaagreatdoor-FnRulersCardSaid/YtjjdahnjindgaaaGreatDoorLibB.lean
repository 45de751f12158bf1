/- FnRulers: what the law asks, what is drawn. -/
import Derived.Test.YtjjdahnjindgaaaGreatDoorLibA
import Derived.Test.YtjjdahnjindgaaaGreatDoorPAx13
import Derived.Test.YtjjdahnjindgaaaGreatDoorPAx2
import Derived.Test.YtjjdahnjindgaaaGreatDoorPAx3
import Derived.Test.YtjjdahnjindgaaaGreatDoorPAx6
namespace Go.Proofs.YtjjdahnjindgaaaGreatDoor.PA
open Go.RowKit Go.Proofs.YtjjdahnjindgaaaGreatDoorW.PrintWords Go.Proofs.YtjjdahnjindgaaaGreatDoorW.PrintLast Go.Proofs.YtjjdahnjindgaaaGreatDoorW.PrintMore
set_option linter.unusedVariables false
set_option linter.unusedSimpArgs false

/-! FnRulers: all that the law asks of a ruler -/
structure RulOk (l : List Int) (n h : Int) (s g m : ByteArray) (e : List Int) : Prop where
  es : endsOf l s = e
  len : e.length = l.length + 1
  e0 : rd e 0 = 0
  step : ∀ i : Nat, i < l.length → rd e ((i + 1 : Nat) : Int) - rd e (i : Int) = rd l (i : Int) ∨ rd e ((i + 1 : Nat) : Int) - rd e (i : Int) = - rd l (i : Int)
  bd : ∀ i : Nat, i ≤ l.length → -500 ≤ rd e (i : Int) ∧ rd e (i : Int) ≤ 500
  last : rd e (l.length : Int) ∈ (List.range (2 ^ l.length)).map (fun i => endAt l i)
  r1 : roomFor l s = n
  r2 : roomFor l m = n
  r3 : n ≤ roomFor l g
  r4 : roomFor l g < 2 * h
  hn : h ≤ n
  n2 : n < 2 * h
  h1 : 1 ≤ h
  h50 : h ≤ 50
  less : Op.bytesLess m.toList s.toList = false
  mir : mirrorOf m = s
  c0 : countLay l (n - 1) = 0
  c1 : 2 ≤ countLay l n
  c2 : countLay l n % 2 = 0
  c3 : countLay l l.sum = ((2 ^ l.length : Nat) : Int)
  c4 : countLay l (l.sum - 1) ≤ ((2 ^ l.length : Nat) : Int) - 2
  sb : 1 ≤ l.sum ∧ l.sum ≤ 500
theorem lay_for {l : List Int} (c : rulerOk l = true) (j : Nat) : layFor l (layS l.length j) := ⟨c, layS_size _ _, layS_ok _ _⟩
theorem rul_ok {l : List Int} (c : rulerOk l = true) : ∃ e, RulOk l (best l).2 (l.foldl max 0) (best l).1 (greedy l) (mirrorOf (best l).1) e := by
  obtain ⟨hl, h1⟩ := parts_of c
  have h10 := hl.1
  obtain ⟨q1, q2, q3⟩ := rulerOk_iff.1 c
  obtain ⟨j0, a1, a2, a3, a4⟩ := best_first l (2 ^ l.length) (Nat.two_pow_pos _)
  have eb : best l = (layS l.length j0, roomAt l j0) := by unfold best; rw [if_pos c, a2]
  have hj1 : 2 ^ l.length - 1 - j0 < 2 ^ l.length := by omega
  have em : mirrorOf (layS l.length j0) = layS l.length (2 ^ l.length - 1 - j0) := mirrorOf_lay h10 a1
  have eg : greedy l = greedyN l (l.length - 1) (⟨#[114]⟩ : ByteArray) := by unfold greedy; rw [if_pos c]
  have hh : ∀ i : Nat, i < l.length → rd l (i : Int) ≤ l.foldl max 0 := fun i hi => by
    rw [rd_get hi]; exact ((fold_in l 0).2.2 _ (List.getElem_mem hi)).1
  have x0 := hl.2 0 (by omega)
  have hh0 := hh 0 (by omega)
  have hmem : l.foldl max 0 ∈ l := by
    rcases high_mem l 0 with z | z
    · omega
    · exact z
  have hq := q3 _ hmem
  obtain ⟨i0, hi0, ei0⟩ := List.getElem_of_mem hmem
  have hroom : ∀ j, l.foldl max 0 ≤ roomAt l j := fun j => by
    have := room_part l (layS l.length j) hi0
    rw [rd_get hi0, ei0] at this
    exact this
  obtain ⟨g1, g2, g3⟩ := greedy_ok hl h1 hh
  obtain ⟨jg, g4, g5⟩ := lay_mask g1 g2
  rw [← eg] at g1 g2 g3 g5
  have hn := a3 jg g4
  have rg : roomFor l (greedy l) = roomAt l jg := by rw [g5]; exact roomFor_lay c jg
  have rg3 : roomAt l jg ≤ 2 * l.foldl max 0 - 1 := by rw [g5] at g3; exact g3
  have hs1 : l.sum ≤ 500 := by
    have := room_le_sum hl 0
    have := room_sum hl (layS l.length 0) l.length (Nat.le_refl _)
    have := at_bd (layS l.length 0) hl l.length (Nat.le_refl _)
    rw [at_zero l _ (Nat.le_refl _), List.take_length] at this
    omega
  have hs0 : 1 ≤ l.sum := by
    have := hroom 0
    have := room_le_sum hl 0
    omega
  have hcl : ∀ r, countLay l r = countTo l r (2 ^ l.length) := fun r => by unfold countLay; rw [if_pos c]
  have hp := half_pow h1
  have hpp : 1 ≤ 2 ^ (l.length - 1) := Nat.two_pow_pos _
  rw [eb]
  refine ⟨endsL l (layS l.length j0) l.length, ?_⟩
  refine ⟨?_, ends_len _ _ _, ?_, fun i hi => ?_, fun i hi => ?_, ?_, ?_, ?_, ?_, ?_, ?_, ?_, ?_, hq.2, ?_, ?_, ?_, ?_, ?_, ?_, ?_, ⟨hs0, hs1⟩⟩
  · unfold endsOf; rw [if_pos (lay_for c j0)]
  · exact rd_ends l _ (j := 0) (Nat.zero_le _)
  · rw [rd_ends l _ (by omega : i + 1 ≤ l.length), rd_ends l _ (by omega : i ≤ l.length)]
    exact at_diff l _ i
  · rw [rd_ends l _ hi]
    have := at_bd (layS l.length j0) hl i hi
    omega
  · rw [rd_ends l _ (Nat.le_refl _)]
    exact List.mem_map.2 ⟨j0, List.mem_range.2 a1, rfl⟩
  · exact roomFor_lay c j0
  · show roomFor l (mirrorOf (layS l.length j0)) = roomAt l j0
    rw [em, roomFor_lay c, roomAt_comp l a1]
  · rw [rg]; exact hn
  · rw [rg]; omega
  · exact hroom j0
  · show roomAt l j0 < _
    omega
  · exact hq.1
  · show Op.bytesLess (mirrorOf (layS l.length j0)).toList (layS l.length j0).toList = false
    rw [em]
    exact lay_less hj1 a1 (first_low a1 a4)
  · show mirrorOf (mirrorOf (layS l.length j0)) = layS l.length j0
    rw [em, mirrorOf_lay h10 hj1]
    congr 1
    omega
  · show countLay l (roomAt l j0 - 1) = 0
    rw [hcl, countTo_cnt, cnt_zero _ _ (fun j hj => decide_eq_false (by have := a3 j hj; omega))]
    rfl
  · show 2 ≤ countLay l (roomAt l j0)
    rw [hcl, count_half h1]
    have hlow := first_low a1 a4
    have := cnt_pos (fun j => decide (roomAt l j ≤ roomAt l j0)) (i := j0) (decide_eq_true (Int.le_refl _)) (2 ^ (l.length - 1)) (by omega)
    omega
  · show countLay l (roomAt l j0) % 2 = 0
    rw [hcl, count_half h1]
    omega
  · rw [hcl, countTo_cnt, cnt_all _ _ (fun j _ => decide_eq_true (room_le_sum hl j))]
  · rw [hcl, count_half h1]
    obtain ⟨M, hM⟩ : ∃ M, 2 ^ (l.length - 1) = M + 1 := ⟨2 ^ (l.length - 1) - 1, by omega⟩
    rw [hM] at hp ⊢
    have := cnt_miss (fun j => decide (roomAt l j ≤ l.sum - 1)) (decide_eq_false (by have := room_zero l; omega)) M
    omega

/-! FnRulers: what is drawn, reach, the loops -/
theorem rdraw_l (x : List Int) (hx : x.length ≤ 1048576) (hi : Int) (hh : 2 ≤ hi ∧ hi ≤ 13) : ∀ (m : Nat) (L : List Int) (i h : Int), (∀ r ∈ L, 1 ≤ r ∧ r ≤ 13) → L.length + m ≤ 7 → 0 ≤ i → i ≤ (x.length : Int) →
    ∃ L' i' h', Ev (fun k => spec_l22Draw.l0 k L hi (m : Int) x i h) (L', i', h') ∧ (∀ r ∈ L', 1 ≤ r ∧ r ≤ 13) ∧ L'.length = L.length + m := by
  intro m
  induction m with
  | zero =>
    intro L i h hL _ _ _
    refine ⟨L, i, h, Ev.step (f := fun _ => some (L, i, h)) (fun k => ?_) (Ev.now _), hL, rfl⟩
    simp only [spec_l22Draw.l0]
    rw [if_neg (by omega)]
  | succ m ih =>
    intro L i h hL hl a b
    obtain ⟨v1, i1, h1, e1, hv1, a1, b1⟩ := below_some x i h hi hx a b (by omega) (by omega)
    obtain ⟨L', i', h', e, hL', hn⟩ := ih (L ++ [1 + v1]) i1 h1 (fun r hr => by
      rcases List.mem_append.1 hr with hr | hr
      · exact hL r hr
      · rw [List.mem_singleton.1 hr]; omega) (by simp; omega) a1 b1
    refine ⟨L', i', h', Ev.step (f := fun k => spec_l22Draw.l0 k (L ++ [1 + v1]) hi (m : Int) x i1 h1) (fun k => ?_) e, hL', by rw [hn]; simp; omega⟩
    simp only [spec_l22Draw.l0]
    rw [if_pos (by omega), e1]
    simp only [Option.bind_some]
    rw [if_pos (by omega), w64 (x := 1 + v1) (by omega) (by omega), w64 (by omega) (by omega)]
    congr 1
    omega
theorem makeRuler_ev (x : List Int) (hx : x.length ≤ 1048576) : ∃ l, Ev (fun k => spec_MakeRuler.f k x 0) l ∧ rulerOk l = true := by
  obtain ⟨i0, h0, e0, a0, b0⟩ := l31_ev x hx 0 (by omega)
  obtain ⟨v1, i1, h1, e1, hv1, a1, b1⟩ := below_some x i0 h0 12 hx a0 b0 (by omega) (by omega)
  obtain ⟨v2, i2, h2, e2, hv2, a2, b2⟩ := below_some x i1 h1 7 hx a1 b1 (by omega) (by omega)
  obtain ⟨n, rfl⟩ := Int.eq_ofNat_of_zero_le hv2.1
  obtain ⟨L, i3, h3, e3, hL, hn⟩ := rdraw_l x hx (2 + v1) (by omega) (n + 1) [] i2 h2 (by simp) (by simp; omega) a2 b2
  have hlen : L.length = n + 1 := by rw [hn]; simp
  refine ⟨L, ?_, rulerOk_iff.2 ⟨by omega, by omega, fun r hr => by have := hL r hr; omega⟩⟩
  unfold spec_MakeRuler.f
  refine Ev.bind e0 ?_
  have e4 : Ev (fun k => spec_l22Draw.f k x i0 h0) (L, i3, h3) := by
    unfold spec_l22Draw.f
    refine Ev.bind (ev_const e1) ?_
    refine Ev.bind (ev_const e2) ?_
    have ew : wrap64 (1 + (n : Int)) = ((n + 1 : Nat) : Int) := by rw [w64 (by omega) (by omega)]; omega
    simp only [ew]
    rw [w64 (x := 2 + v1) (by omega) (by omega)]
    exact e3
  exact Ev.bind e4 (Ev.now _)
/-- What the law asks of reach. -/
structure ReachOk (l r : List Int) : Prop where
  asc : r.Pairwise (· < ·)
  len : r.length ≤ 1024
  pos : 0 < r.length
  bd : ∀ y ∈ r, 0 ≤ y ∧ y ≤ 500
  par : ∀ y ∈ r, (y - l.sum) % 2 = 0
  has : ∀ i, i < 2 ^ l.length → absI (endAt l i) ∈ r
  top : ∀ h : r.length - 1 < r.length, r[r.length - 1]'h = l.sum
theorem reach_ok {l : List Int} (c : rulerOk l = true) : ReachOk l (reachP l) := by
  obtain ⟨hl, h1⟩ := parts_of c
  have er : reachP l = Go.Lib.compact (((List.range (2 ^ l.length)).map fun i => absI (endAt l i)).mergeSort fun x y => decide (x ≤ y)) := by unfold reachP; rw [if_pos c]
  obtain ⟨s1, s2⟩ := compact_sorted ((List.range (2 ^ l.length)).map fun i => absI (endAt l i))
  rw [← er] at s1 s2
  have hs : 0 ≤ l.sum ∧ l.sum ≤ 500 := by
    obtain ⟨e, he⟩ := rul_ok c
    have := he.sb
    omega
  have hm : ∀ y, y ∈ reachP l → ∃ i, i < 2 ^ l.length ∧ y = absI (endAt l i) := fun y hy => by
    obtain ⟨i, hi, rfl⟩ := List.mem_map.1 ((s2 y).1 hy)
    exact ⟨i, List.mem_range.1 hi, rfl⟩
  have hh : ∀ i, i < 2 ^ l.length → absI (endAt l i) ∈ reachP l := fun i hi => (s2 _).2 (List.mem_map.2 ⟨i, List.mem_range.2 hi, rfl⟩)
  have ha : ∀ i, -l.sum ≤ endAt l i ∧ endAt l i ≤ l.sum := fun i => by
    have := at_abs hl (layS l.length i) l.length (Nat.le_refl _)
    rw [List.take_length] at this
    exact this
  have hp : ∀ i, (endAt l i - l.sum) % 2 = 0 := fun i => by
    have := at_par l (layS l.length i) l.length (Nat.le_refl _)
    rw [List.take_length] at this
    exact this
  have htop : l.sum ∈ reachP l := by
    have := hh 0 (Nat.two_pow_pos _)
    have e : absI (endAt l 0) = l.sum := by
      unfold endAt absI
      rw [at_zero l _ (Nat.le_refl _), List.take_length]
      split <;> omega
    rw [e] at this
    exact this
  have hb : ∀ y ∈ reachP l, 0 ≤ y ∧ y ≤ l.sum := fun y hy => by
    obtain ⟨i, _, rfl⟩ := hm y hy
    have := ha i
    unfold absI
    split <;> omega
  have hpos : 0 < (reachP l).length := List.length_pos_of_mem htop
  refine ⟨s1, ?_, hpos, fun y hy => by have := hb y hy; omega, fun y hy => ?_, hh, fun h => ?_⟩
  · rw [er]
    have h2 := compact_len (((List.range (2 ^ l.length)).map fun i => absI (endAt l i)).mergeSort fun x y => decide (x ≤ y))
    rw [List.length_mergeSort, List.length_map, List.length_range] at h2
    exact Nat.le_trans h2 (pow_small hl.1)
  · obtain ⟨i, _, rfl⟩ := hm y hy
    have := hp i
    unfold absI
    split <;> omega
  · obtain ⟨k, hk, ek⟩ := List.getElem_of_mem htop
    have h2 := (hb _ (List.getElem_mem h)).2
    by_cases z : k = (reachP l).length - 1
    · subst z; exact ek
    · have := List.pairwise_iff_getElem.1 s1 k ((reachP l).length - 1) hk h (by omega)
      omega

end Go.Proofs.YtjjdahnjindgaaaGreatDoor.PA
