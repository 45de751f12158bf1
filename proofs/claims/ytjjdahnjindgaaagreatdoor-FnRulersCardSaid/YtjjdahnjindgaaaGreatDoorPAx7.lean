-- Written for this claim by a program of this session's (ownprint.py), by way of the kit's print and hand-proved texts. Lean checks it.
import Derived.Test.YtjjdahnjindgaaaGreatDoorPAx0
import Derived.Test.YtjjdahnjindgaaaGreatDoorPAx4
import Derived.Test.YtjjdahnjindgaaaGreatDoorPAx5
import Derived.Test.YtjjdahnjindgaaaGreatDoorPAx6
namespace Go.Proofs.YtjjdahnjindgaaaGreatDoor.PA
open Go.RowKit Go.Proofs.YtjjdahnjindgaaaGreatDoorW.PrintWords Go.Proofs.YtjjdahnjindgaaaGreatDoorW.PrintLast Go.Proofs.YtjjdahnjindgaaaGreatDoorW.PrintMore
attribute [local go_sem] max2_int min2_int max_two min_two max_three min_three max_four min_four   -- for this text's walks alone
set_option linter.unusedVariables false
set_option linter.unusedSimpArgs false

/-! ### impl_bestLaying: function 19 (by hand) -/
/-- The first laying with the least room among the first j, and this. -/
def bestStep (k : Nat) (l0 : List Int) (n : Nat) : Nat → Option (ByteArray × Int)
  | 0 => some (⟨#[]⟩, -1)
  | j + 1 => (bestStep k l0 n j).bind fun b => (impl_ends.f k l0 (layS n j)).bind fun e => (impl_room.f e).bind fun m => some (if b.2 < 0 ∨ m < b.2 then (layS n j, m) else b)
theorem bestStep_le {k : Nat} {l0 : List Int} {n : Nat} : ∀ {j i : Nat}, i ≤ j → (∃ b, bestStep k l0 n j = some b) → ∃ b, bestStep k l0 n i = some b := by
  intro j
  induction j with
  | zero => intro i h hb; rw [Nat.le_zero.1 h]; exact hb
  | succ j ih =>
    intro i h hb
    by_cases e : i = j + 1
    · rw [e]; exact hb
    · obtain ⟨b, hb⟩ := hb
      simp only [bestStep] at hb
      obtain ⟨b1, h1, _⟩ := Option.bind_eq_some_iff.1 hb
      exact ih (by omega) ⟨b1, h1⟩
def impl_bestLaying.f (k : Nat) (l0 : List Int) : Option (ByteArray × Int) := if 1 ≤ l0.length ∧ l0.length ≤ 10 then bestStep k l0 l0.length (2 ^ l0.length) else none
theorem bestStep_mono : ∀ a0 n j k, LeO (bestStep k a0 n j) (bestStep (k + 1) a0 n j) := by
  intro a0 n j k
  induction j with
  | zero => exact LeO.refl _
  | succ j ih =>
    simp only [bestStep]
    refine LeO.bind ih (fun _ => ?_)
    exact LeO.bind (impl_ends.mono _ _ _) (fun _ => LeO.refl _)
theorem impl_bestLaying.mono : ∀ a0 k, LeO (impl_bestLaying.f k a0) (impl_bestLaying.f (k + 1) a0) := by
  intro a0 k
  unfold impl_bestLaying.f
  exact LeO.ite (bestStep_mono _ _ _ _) (LeO.refl _)
theorem three_blocks (w : World) (o0 o1 o2 : Obj) : Below w.heap.size w (((w.alloc o0).alloc o1).alloc o2) ∧ (((w.alloc o0).alloc o1).alloc o2).heap[w.heap.size]? = some o0 ∧ (((w.alloc o0).alloc o1).alloc o2).heap[w.heap.size + 1]? = some o1 ∧ (((w.alloc o0).alloc o1).alloc o2).heap[w.heap.size + 2]? = some o2 := by
  have n : ∀ (W : World) (o : Obj) (k : Nat), W.heap.size = k → (W.alloc o).heap[k]? = some o := fun W o k hk => by subst hk; simpa using heap_alloc_new W o
  exact ⟨below_alloc (below_alloc (below_alloc (Below.refl _ _) _) _) _, blk_alloc (blk_alloc (n w o0 _ rfl) _) _, blk_alloc (n _ o1 _ (by simp)) _, n _ o2 _ (by simp)⟩
structure BestInv (k : Nat) (l0 : List Int) (w : World) (A : Option Addr) (c B j : Nat) (w' : World) : Prop where
  ex : ∃ b : ByteArray × Int, bestStep k l0 l0.length j = some b ∧ w'.heap[B + 1]? = some (.cells #[.string b.1] 9 (0, 0)) ∧ w'.heap[B + 2]? = some (.cells #[.int .i64 b.2] 3 (0, 0))
  parts : w'.heap[B]? = some (.cells #[.slice A l0.length c] 23 (0, 0))
  below : Below w.heap.size w w'
  base : w.heap.size ≤ B
theorem BestInv.step {k : Nat} {l0 : List Int} {w : World} {A : Option Addr} {c B j : Nat} {w' w'' : World} (h : BestInv k l0 w A c B j w') (hb : Below w'.heap.size w' w'') : BestInv k l0 w A c B j w'' := by
  obtain ⟨⟨b, h1, h2, h3⟩, h4, h5, h6⟩ := h
  exact ⟨⟨b, h1, (hb.block _ (blk_lt h2)).trans h2, (hb.block _ (blk_lt h3)).trans h3⟩, (hb.block _ (blk_lt h4)).trans h4, below_then h5 h5.size hb, h6⟩
theorem cell_of_one {w : World} {g t : Nat} {v : Value} (h : w.heap[g]? = some (.cells #[v] t (0, 0))) : w.cell? ⟨g, 0, none⟩ = some v ∧ w.frozen? ⟨g, 0, none⟩ = false := by
  constructor
  · simp [World.cell?, h]
  · simp [World.frozen?, h]
theorem BestInv.set {k : Nat} {l0 : List Int} {w w2 : World} {A : Option Addr} {c B j : Nat} {bs : ByteArray} {bm : Int} {s : ByteArray} {m : Int} (g2 : w2.heap[B + 1]? = some (.cells #[.string bs] 9 (0, 0))) (g3 : w2.heap[B + 2]? = some (.cells #[.int .i64 bm] 3 (0, 0)))
    (g4 : w2.heap[B]? = some (.cells #[.slice A l0.length c] 23 (0, 0))) (hb : Below w.heap.size w w2) (h6 : w.heap.size ≤ B) (h : bestStep k l0 l0.length j = some (s, m)) : BestInv k l0 w A c B j ((w2.setCell ⟨B + 1, 0, none⟩ (.string s)).setCell ⟨B + 2, 0, none⟩ (.int .i64 m)) := by
  have e2 : (w2.setCell ⟨B + 1, 0, none⟩ (.string s)).heap[B + 1]? = some (.cells #[.string s] 9 (0, 0)) := by simpa using blk_set g2 0 (.string s)
  have e3 : (w2.setCell ⟨B + 1, 0, none⟩ (.string s)).heap[B + 2]? = some (.cells #[.int .i64 bm] 3 (0, 0)) := blk_far g3 (by simp) _
  have e4 : (w2.setCell ⟨B + 1, 0, none⟩ (.string s)).heap[B]? = some (.cells #[.slice A l0.length c] 23 (0, 0)) := blk_far g4 (by simp) _
  exact ⟨⟨(s, m), h, blk_far e2 (by simp) _, by simpa using blk_set e3 0 (.int .i64 m)⟩, blk_far e4 (by simp) _, below_set (below_set hb (by omega)) (by omega), h6⟩
set_option maxHeartbeats 4000000 in
set_option maxRecDepth 100000 in
theorem impl_bestLaying_1.calls (k : Nat) (l0 : List Int) (w : World) (A : Option Addr) (c B j : Nat) (w' : World) (hr0 : Kd.C (Kd.int .i64) w A l0.length l0) (hc0 : l0.length ≤ c) (hI : BestInv k l0 w A c B j w') (hs : ∃ b, bestStep k l0 l0.length (j + 1) = some b) :
    Calls Tryz.prog 35 #[.string (layS l0.length j), .pointer (some ⟨B, 0, none⟩), .pointer (some ⟨B + 2, 0, none⟩), .pointer (some ⟨B + 1, 0, none⟩)] w' fun e w'' => e = .returned (.tuple #[]) ∧ BestInv k l0 w A c B (j + 1) w'' := by
  obtain ⟨⟨b, h1, h2, h3⟩, h4, h5, h6⟩ := hI
  obtain ⟨b', hb'⟩ := hs
  have hb2 := hb'
  simp only [bestStep, h1, Option.bind_some] at hb2
  obtain ⟨e, he, hb2⟩ := Option.bind_eq_some_iff.1 hb2
  obtain ⟨m, hm, hb2⟩ := Option.bind_eq_some_iff.1 hb2
  have hb3 := Option.some.inj hb2
  obtain ⟨bs, bm⟩ := b
  dsimp only at h2 h3 hb3
  obtain ⟨s, hsd⟩ : ∃ s, s = layS l0.length j := ⟨_, rfl⟩
  rw [← hsd] at he hb3 ⊢
  have HE := Aside0.mk he
  have HM := Aside0.mk hm
  have HB' := Aside0.mk hb'
  have HB3 := Aside0.mk hb3
  have H2 := Aside0.mk h2
  have H3 := Aside0.mk h3
  have H4 := Aside0.mk h4
  have H5 := Aside0.mk h5
  have H6 := Aside0.mk h6
  have HR := Aside0.mk (Kd.C_below hr0 h5)
  have HC := Aside0.mk hc0
  have cA := (cell_of_one h4).1
  clear hr0 hc0 h1 h2 h3 h4 h5 h6 hb' hb2 hb3 he hm hsd
  go_enter Tryz.func35, Tryz.ntmps35
  go_wp2_with fail
  refine (impl_ends.calls k A c l0 s e _ HR.out HC.out HE.out).mono ?_
  rintro e1 w1 ⟨v, rfl, ho, hb⟩
  obtain ⟨A1, c1, rfl⟩ := Kd.R_slice ho
  have HO := Aside0.mk ho
  have HB1 := Aside0.mk hb
  clear ho hb cA
  go_wp2_with fail
  refine (impl_room.calls A1 c1 e m _ (Kd.R_reads' HO.out).2.2 (Kd.R_reads' HO.out).2.1 HM.out).mono ?_
  rintro e2 w2 ⟨rfl, hb⟩
  have HW := Aside0.mk (below_then HB1.out HB1.out.size hb)
  clear hb HB1 HO
  have g2 := (HW.out.block _ (blk_lt H2.out)).trans H2.out
  have g3 := (HW.out.block _ (blk_lt H3.out)).trans H3.out
  have g4 := (HW.out.block _ (blk_lt H4.out)).trans H4.out
  have c2 := (cell_of_one g2).1
  have f2 := (cell_of_one g2).2
  have c3 := (cell_of_one g3).1
  have f3 := (cell_of_one g3).2
  have G2 := Aside0.mk g2
  have G3 := Aside0.mk g3
  have G4 := Aside0.mk g4
  have HBL := Aside0.mk (below_then H5.out H5.out.size HW.out)
  clear g2 g3 g4
  by_cases q1 : bm < 0
  · have HB4 : Aside0 ((s, m) = b') := ⟨by have := HB3.out; rwa [if_pos (Or.inl q1)] at this⟩
    go_wp2
    first | go_end0 | ((try simp only [Exit.inBlock, Exit.then]); refine bodyPost_ret (results_none rfl _ _ _) rfl ?_)
    exact ⟨rfl, BestInv.set G2.out G3.out G4.out HBL.out H6.out (by rw [HB'.out, ← HB4.out])⟩
  · by_cases q2 : m < bm
    · have HB4 : Aside0 ((s, m) = b') := ⟨by have := HB3.out; rwa [if_pos (Or.inr q2)] at this⟩
      go_wp2
      first | go_end0 | ((try simp only [Exit.inBlock, Exit.then]); refine bodyPost_ret (results_none rfl _ _ _) rfl ?_)
      exact ⟨rfl, BestInv.set G2.out G3.out G4.out HBL.out H6.out (by rw [HB'.out, ← HB4.out])⟩
    · have HB4 : Aside0 ((bs, bm) = b') := ⟨by have := HB3.out; rwa [if_neg (by omega)] at this⟩
      go_wp2
      first | go_end0 | ((try simp only [Exit.inBlock, Exit.then]); refine bodyPost_ret (results_none rfl _ _ _) rfl ?_)
      exact ⟨rfl, ⟨⟨(bs, bm), by rw [HB'.out, ← HB4.out], G2.out, G3.out⟩, G4.out, HBL.out, H6.out⟩⟩
set_option maxHeartbeats 4000000 in
set_option maxRecDepth 100000 in
theorem impl_bestLaying.calls (k : Nat) (A0 : Option Addr) (c0 : Nat) (l0 : List Int) (r1 : ByteArray) (r2 : Int) (w : World) (hr0 : Kd.C (Kd.int .i64) w A0 l0.length l0) (hc0 : l0.length ≤ c0) (h : impl_bestLaying.f k l0 = some (r1, r2)) :
    Calls Tryz.prog 19 #[.slice A0 l0.length c0] w fun e w' => e = .returned (.tuple #[.string r1, .int .i64 r2]) ∧ Below w.heap.size w w' := by
  unfold impl_bestLaying.f at h
  by_cases hn : 1 ≤ l0.length ∧ l0.length ≤ 10
  case neg => rw [if_neg hn] at h; cases h
  rw [if_pos hn] at h
  have eg : ∀ args w, (callFunc 35 args).run Tryz.prog w = .ok (.enter 35 args) w := enters_of Tryz.func35 (by kernel_rfl) rfl
  have H := Aside0.mk h
  have HC := Aside0.mk (impl_eachLaying.calls (BestInv k l0 w A0 c0 w.heap.size) 35 #[.pointer (some ⟨w.heap.size, 0, none⟩), .pointer (some ⟨w.heap.size + 2, 0, none⟩), .pointer (some ⟨w.heap.size + 1, 0, none⟩)] eg A0 c0 l0.length)
  have HST : Aside0 (∀ j w', j < 2 ^ l0.length → BestInv k l0 w A0 c0 w.heap.size j w' → Calls Tryz.prog 35 (#[.string (layS l0.length j)] ++ #[.pointer (some ⟨w.heap.size, 0, none⟩), .pointer (some ⟨w.heap.size + 2, 0, none⟩), .pointer (some ⟨w.heap.size + 1, 0, none⟩)]) w' fun e w'' => e = .returned (.tuple #[]) ∧ BestInv k l0 w A0 c0 w.heap.size (j + 1) w'') :=
    ⟨fun j w' hj hI => impl_bestLaying_1.calls k l0 w A0 c0 w.heap.size j w' hr0 hc0 hI (bestStep_le hj ⟨_, h⟩)⟩
  have HN := Aside0.mk hn
  clear h hn hr0 hc0
  go_enter Tryz.func19, Tryz.ntmps19
  go_wp2_with fail
  refine (HC.out _ HN.out.1 HN.out.2 (fun j w' w'' h hb => h.step hb) HST.out ?_).mono ?_
  · obtain ⟨hb, b0, b1, b2⟩ := three_blocks w (.cells #[.slice A0 l0.length c0] 23) (.cells #[.string ⟨#[]⟩] 9) (.cells #[.int .i64 (-1)] 3)
    exact ⟨⟨(⟨#[]⟩, -1), rfl, b1, b2⟩, b0, hb, Nat.le_refl _⟩
  · rintro e w2 ⟨rfl, hI⟩
    obtain ⟨⟨b, h1, h2, h3⟩, h4, h5, h6⟩ := hI
    have hb := H.out
    rw [h1] at hb
    obtain rfl : b = (r1, r2) := Option.some.inj hb
    have c2 := (cell_of_one h2).1
    have c3 := (cell_of_one h3).1
    have H5 := Aside0.mk h5
    clear h1 h2 h3 h4 h5 h6 hb HC HST H
    go_wp2
    go_quiet (fail)
    all_goals (try go_wp2)
    go_ret2
    exact ⟨rfl, below_then H5.out H5.out.size (pw_below_drewN (Below.refl _ _) _)⟩

/-! ### impl_LeastRoom: function 5 -/
def impl_LeastRoom.f (k : Nat) (l0 : List Int) : Option (Int) := (impl_RulerOk.f l0).bind fun t157 => (if t157 = true then ((impl_bestLaying.f k l0).bind fun bt158 => (some bt158.2)) else (some (-1)))
theorem impl_LeastRoom.mono : ∀ a0 k, LeO (impl_LeastRoom.f k a0) (impl_LeastRoom.f (k + 1) a0) := by
  intro a0 k
  unfold impl_LeastRoom.f
  repeat' first
      | (with_reducible exact impl_bestLaying.mono _ _)
      | (with_reducible exact LeO.refl _)
      | (with_reducible exact LeO.none _)
      | (with_reducible refine LeO.ite ?_ ?_)
      | (with_reducible refine LeO.bind ?_ (fun _ => ?_))
      | exact impl_bestLaying.mono _ _
      | exact LeO.none _
      | refine LeO.ite ?_ ?_
      | refine LeO.bind ?_ (fun _ => ?_)
set_option maxHeartbeats 8000000 in
set_option maxRecDepth 100000 in
theorem impl_LeastRoom.calls (k : Nat) (A0 : Option Addr) (c0 : Nat) (l0 : List Int) (r : Int) (w : World) (hr0 : Kd.C (Kd.int .i64) w A0 l0.length l0) (hc0 : l0.length ≤ c0) (h : impl_LeastRoom.f k l0 = some r) :
    Calls Tryz.prog 5 #[.slice A0 l0.length c0] w fun e w' => e = .returned (.int .i64 r) ∧ Below w.heap.size w w' := by
  have HR0 := Aside0.mk hr0
  have HC0 := Aside0.mk hc0
  clear hr0 hc0
  have HB := Aside0.mk (Below.refl w.heap.size w)
  have H : ((impl_RulerOk.f l0).bind fun t157 => (if t157 = true then ((impl_bestLaying.f k l0).bind fun bt158 => (some bt158.2)) else (some (-1)))) = some r := h
  clear h
  replace H := Option.bind_eq_some_iff.mp H
  obtain ⟨t157, A20, H⟩ := H
  replace H : (if t157 = true then ((impl_bestLaying.f k l0).bind fun bt158 => (some bt158.2)) else (some (-1))) = some r := H
  have A2 := Aside0.mk A20
  clear A20
  by_cases c3 : t157 = true
  · subst c3
    have H1 : ((impl_bestLaying.f k l0).bind fun bt158 => (some bt158.2)) = some r := by rw [if_pos rfl] at H; exact H
    clear H
    have H := H1
    clear H1
    replace H := Option.bind_eq_some_iff.mp H
    obtain ⟨⟨t158, t159⟩, A40, H⟩ := H
    replace H : (some t159) = some r := H
    have A4 := Aside0.mk A40
    clear A40
    obtain rfl := Option.some.inj H
    go_enter Tryz.func5, Tryz.ntmps5
    go_wp2_with (first | ((with_reducible refine gate_callee (f := 10) rfl ?_); refine goesL_ (some 6) rfl rfl Tryz.func10 (by kernel_rfl) rfl #[.slice A0 l0.length c0] rfl (by (try simp only [List.map_toArray, List.map_cons, List.map_nil]); first | done | rfl | (simp only [List.length_drop, List.length_take]; rfl)) ?_; (with_reducible refine (impl_RulerOk.calls _ _ l0 true _ ?side1 ?side2 A2.out).mono ?_); (case side1 => repeat (first | exact HR0.out | (with_reducible refine Kd.C_alloc ?_ _) | (with_reducible refine Kd.C_drewN ?_ _) | (with_reducible refine Kd.C_drew ?_))); (case side2 => exact HC0.out); rintro e w5 ⟨rfl, hb⟩; refine ⟨_, rfl, ?_⟩; have n0_ := Aside0.mk (below_step (by repeat (first | (with_reducible first | exact HB.out | apply below_alloc | apply pw_below_drewN | apply below_drew1) | exact HB.out)) hb); clear HB; have HB := n0_; clear n0_; (try clear hb); (try clear hb2); (try clear hk); (try clear hi)) | ((with_reducible refine gate_callee (f := 19) rfl ?_); refine goesL_ (some 10) rfl rfl Tryz.func19 (by kernel_rfl) rfl #[.slice A0 l0.length c0] rfl (by (try simp only [List.map_toArray, List.map_cons, List.map_nil]); first | done | rfl | (simp only [List.length_drop, List.length_take]; rfl)) ?_; (with_reducible refine (impl_bestLaying.calls k _ _ l0 t158 t159 _ ?side1 ?side2 A4.out).mono ?_); (case side1 => repeat (first | exact (Kd.C_below HR0.out HB.out) | (with_reducible refine Kd.C_alloc ?_ _) | (with_reducible refine Kd.C_drewN ?_ _) | (with_reducible refine Kd.C_drew ?_))); (case side2 => exact HC0.out); rintro e w6 ⟨rfl, hb⟩; refine ⟨_, rfl, ?_⟩; have n0_ := Aside0.mk (below_step (by repeat (first | (with_reducible first | exact HB.out | apply below_alloc | apply pw_below_drewN | apply below_drew1) | exact HB.out)) hb); clear HB; have HB := n0_; clear n0_; (try clear hb); (try clear hb2); (try clear hk); (try clear hi)))
    go_ret
    exact ⟨by first | rfl | (simp [errW_none, errW_some] <;> rfl) | (simp [*, errW_none, errW_some] <;> rfl), by repeat (first | (with_reducible first | exact HB.out | apply below_alloc | apply pw_below_drewN | apply below_drew1) | exact HB.out)⟩
  · replace c3 := Bool.eq_false_iff.mpr c3
    subst c3
    have H1 : (some (-1)) = some r := by rw [if_neg (show ¬ (false = true) by decide)] at H; exact H
    clear H
    have H := H1
    clear H1
    obtain rfl := Option.some.inj H
    go_enter Tryz.func5, Tryz.ntmps5
    go_wp2_with (first | ((with_reducible refine gate_callee (f := 10) rfl ?_); refine goesL_ (some 6) rfl rfl Tryz.func10 (by kernel_rfl) rfl #[.slice A0 l0.length c0] rfl (by (try simp only [List.map_toArray, List.map_cons, List.map_nil]); first | done | rfl | (simp only [List.length_drop, List.length_take]; rfl)) ?_; (with_reducible refine (impl_RulerOk.calls _ _ l0 false _ ?side1 ?side2 A2.out).mono ?_); (case side1 => repeat (first | exact HR0.out | (with_reducible refine Kd.C_alloc ?_ _) | (with_reducible refine Kd.C_drewN ?_ _) | (with_reducible refine Kd.C_drew ?_))); (case side2 => exact HC0.out); rintro e w7 ⟨rfl, hb⟩; refine ⟨_, rfl, ?_⟩; have n0_ := Aside0.mk (below_step (by repeat (first | (with_reducible first | exact HB.out | apply below_alloc | apply pw_below_drewN | apply below_drew1) | exact HB.out)) hb); clear HB; have HB := n0_; clear n0_; (try clear hb); (try clear hb2); (try clear hk); (try clear hi)))
    go_ret
    exact ⟨by first | rfl | (simp [errW_none, errW_some] <;> rfl) | (simp [*, errW_none, errW_some] <;> rfl), by repeat (first | (with_reducible first | exact HB.out | apply below_alloc | apply pw_below_drewN | apply below_drew1) | exact HB.out)⟩

end Go.Proofs.YtjjdahnjindgaaaGreatDoor.PA
