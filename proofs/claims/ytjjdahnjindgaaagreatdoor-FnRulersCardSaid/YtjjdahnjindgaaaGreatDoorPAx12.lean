-- Written for this claim by a program of this session's (ownprint.py), by way of the kit's print and hand-proved texts. Lean checks it.
import Derived.Test.YtjjdahnjindgaaaGreatDoorPAx0
import Derived.Test.YtjjdahnjindgaaaGreatDoorPAx4
import Derived.Test.YtjjdahnjindgaaaGreatDoorPAx6
import Derived.Test.YtjjdahnjindgaaaGreatDoorPAx11
namespace Go.Proofs.YtjjdahnjindgaaaGreatDoor.PA
open Go.RowKit Go.Proofs.YtjjdahnjindgaaaGreatDoorW.PrintWords Go.Proofs.YtjjdahnjindgaaaGreatDoorW.PrintLast Go.Proofs.YtjjdahnjindgaaaGreatDoorW.PrintMore
attribute [local go_sem] max2_int min2_int max_two min_two max_three min_three max_four min_four   -- for this text's walks alone
set_option linter.unusedVariables false
set_option linter.unusedSimpArgs false

/-! ### impl_CountLayings: function 13 (by hand) -/
/-- How many of the first j layings have at most that room. -/
def countStep (k : Nat) (l0 : List Int) (room : Int) (n : Nat) : Nat → Option Int
  | 0 => some 0
  | j + 1 => (countStep k l0 room n j).bind fun a => (impl_RoomOf.f k l0 (layS n j)).bind fun m => some (if m ≤ room then wrap64 (a + 1) else a)
theorem countStep_le {k : Nat} {l0 : List Int} {room : Int} {n : Nat} : ∀ {j i : Nat}, i ≤ j → (∃ b, countStep k l0 room n j = some b) → ∃ b, countStep k l0 room n i = some b := by
  intro j
  induction j with
  | zero => intro i h hb; rw [Nat.le_zero.1 h]; exact hb
  | succ j ih =>
    intro i h hb
    by_cases e : i = j + 1
    · rw [e]; exact hb
    · obtain ⟨b, hb⟩ := hb
      simp only [countStep] at hb
      obtain ⟨b1, h1, _⟩ := Option.bind_eq_some_iff.1 hb
      exact ih (by omega) ⟨b1, h1⟩
def impl_CountLayings.f (k : Nat) (l0 : List Int) (a1 : Int) : Option (Int) := (impl_RulerOk.f l0).bind fun t => if t = true then (if 1 ≤ l0.length ∧ l0.length ≤ 10 then countStep k l0 a1 l0.length (2 ^ l0.length) else none) else some (-1)
theorem countStep_mono : ∀ a0 r n j k, LeO (countStep k a0 r n j) (countStep (k + 1) a0 r n j) := by
  intro a0 r n j k
  induction j with
  | zero => exact LeO.refl _
  | succ j ih =>
    simp only [countStep]
    refine LeO.bind ih (fun _ => ?_)
    exact LeO.bind (impl_RoomOf.mono _ _ _) (fun _ => LeO.refl _)
theorem impl_CountLayings.mono : ∀ a0 a1 k, LeO (impl_CountLayings.f k a0 a1) (impl_CountLayings.f (k + 1) a0 a1) := by
  intro a0 a1 k
  unfold impl_CountLayings.f
  refine LeO.bind (LeO.refl _) (fun _ => ?_)
  refine LeO.ite ?_ (LeO.refl _)
  exact LeO.ite (countStep_mono _ _ _ _ _) (LeO.refl _)
structure CountInv (k : Nat) (l0 : List Int) (room : Int) (w : World) (A : Option Addr) (c B B1 B2 j : Nat) (w' : World) : Prop where
  ex : ∃ a : Int, countStep k l0 room l0.length j = some a ∧ w'.heap[B2]? = some (.cells #[.int .i64 a] 3 (0, 0))
  parts : w'.heap[B]? = some (.cells #[.slice A l0.length c] 23 (0, 0))
  rm : w'.heap[B1]? = some (.cells #[.int .i64 room] 3 (0, 0))
  below : Below w.heap.size w w'
  base : w.heap.size ≤ B2 ∧ B ≠ B2 ∧ B1 ≠ B2
theorem CountInv.step {k : Nat} {l0 : List Int} {room : Int} {w : World} {A : Option Addr} {c B B1 B2 j : Nat} {w' w'' : World} (h : CountInv k l0 room w A c B B1 B2 j w') (hb : Below w'.heap.size w' w'') : CountInv k l0 room w A c B B1 B2 j w'' := by
  obtain ⟨⟨a, h1, h2⟩, h3, h4, h5, h6⟩ := h
  exact ⟨⟨a, h1, (hb.block _ (blk_lt h2)).trans h2⟩, (hb.block _ (blk_lt h3)).trans h3, (hb.block _ (blk_lt h4)).trans h4, below_then h5 h5.size hb, h6⟩
theorem cell_of_c {w : World} {g t : Nat} {v : Value} (h : w.heap[g]? = some (.cells #[v] t (0, 0))) : w.cell? ⟨g, 0, none⟩ = some v ∧ w.frozen? ⟨g, 0, none⟩ = false := by
  constructor
  · simp [World.cell?, h]
  · simp [World.frozen?, h]
set_option maxHeartbeats 4000000 in
set_option maxRecDepth 100000 in
theorem impl_CountLayings_1.calls (k : Nat) (l0 : List Int) (room : Int) (w : World) (A : Option Addr) (c B B1 B2 j : Nat) (w' : World) (hr0 : Kd.C (Kd.int .i64) w A l0.length l0) (hc0 : l0.length ≤ c) (hI : CountInv k l0 room w A c B B1 B2 j w') (hs : ∃ b, countStep k l0 room l0.length (j + 1) = some b) :
    Calls Tryz.prog 27 #[.string (layS l0.length j), .pointer (some ⟨B, 0, none⟩), .pointer (some ⟨B1, 0, none⟩), .pointer (some ⟨B2, 0, none⟩)] w' fun e w'' => e = .returned (.tuple #[]) ∧ CountInv k l0 room w A c B B1 B2 (j + 1) w'' := by
  obtain ⟨⟨a, h1, h2⟩, h3, h4, h5, h6⟩ := hI
  obtain ⟨b', hb'⟩ := hs
  have hb2 := hb'
  simp only [countStep, h1, Option.bind_some] at hb2
  obtain ⟨m, hm, hb2⟩ := Option.bind_eq_some_iff.1 hb2
  have hb3 := Option.some.inj hb2
  obtain ⟨s, hsd⟩ : ∃ s, s = layS l0.length j := ⟨_, rfl⟩
  rw [← hsd] at hm ⊢
  have HM := Aside0.mk hm
  have HB' := Aside0.mk hb'
  have HB3 := Aside0.mk hb3
  have H2 := Aside0.mk h2
  have H3 := Aside0.mk h3
  have H4 := Aside0.mk h4
  have H5 := Aside0.mk h5
  have H6 := Aside0.mk h6
  have HR := Aside0.mk (Kd.C_below hr0 h5)
  have HC := Aside0.mk hc0
  have cA := (cell_of_c h3).1
  have cR := (cell_of_c h4).1
  clear hr0 hc0 h1 h2 h3 h4 h5 h6 hb' hb2 hb3 hm hsd
  go_enter Tryz.func27, Tryz.ntmps27
  go_wp2
  go_region_held3 (fun w9 => w9.cell? ⟨B, 0, none⟩ = some (.slice A l0.length c) ∧ w9.cell? ⟨B1, 0, none⟩ = some (.int .i64 room))
    (first | exact ⟨cA, cR⟩ | exact ⟨(HB1.out.cell (World.block_lt_of_cell? w' _ cA)).trans cA, (HB1.out.cell (World.block_lt_of_cell? w' _ cR)).trans cR⟩)
    (first | (go_simp; go_at_call 11; refine (impl_RoomOf.calls k A c l0 s m _ (Kd.C_drew HR.out) HC.out HM.out).mono ?_; rintro e1 w1 ⟨rfl, hb⟩; have HB1 : Aside0 (Below w'.heap.size w' w1) := ⟨below_then (below_drew (Below.refl _ _)) (Nat.le_refl _) hb⟩; clear hb))
  all_goals
    have g2 := (HB1.out.block _ (blk_lt H2.out)).trans H2.out
    have c2 := (cell_of_c g2).1
    have f2 := (cell_of_c g2).2
    have g3 := Aside0.mk ((HB1.out.block _ (blk_lt H3.out)).trans H3.out)
    have g4 := Aside0.mk ((HB1.out.block _ (blk_lt H4.out)).trans H4.out)
    have G2 := Aside0.mk g2
    have HBL := Aside0.mk (below_then H5.out H5.out.size HB1.out)
    clear g2
    by_cases q1 : m ≤ room
    · have HB4 : Aside0 (wrap64 (a + 1) = b') := ⟨by have := HB3.out; rwa [if_pos q1] at this⟩
      go_wp2
      first | go_end0 | ((try simp only [Exit.inBlock, Exit.then]); refine bodyPost_ret (results_none rfl _ _ _) rfl ?_)
      exact ⟨rfl, ⟨⟨_, by rw [HB'.out, ← HB4.out], by simpa using blk_set G2.out 0 (.int .i64 (wrap64 (a + 1)))⟩, blk_far g3.out H6.out.2.1 _, blk_far g4.out H6.out.2.2 _, below_set HBL.out H6.out.1, H6.out⟩⟩
    · have HB4 : Aside0 (a = b') := ⟨by have := HB3.out; rwa [if_neg q1] at this⟩
      go_wp2
      first | go_end0 | ((try simp only [Exit.inBlock, Exit.then]); refine bodyPost_ret (results_none rfl _ _ _) rfl ?_)
      exact ⟨rfl, ⟨⟨_, by rw [HB'.out, ← HB4.out], G2.out⟩, g3.out, g4.out, HBL.out, H6.out⟩⟩
theorem count_boxes (w : World) (o0 o1 : Obj) : Below w.heap.size w ((w.alloc o0).alloc o1) ∧ ((w.alloc o0).alloc o1).heap[w.heap.size]? = some o0 ∧ ((w.alloc o0).alloc o1).heap[w.heap.size + 1]? = some o1 := by
  have n : ∀ (W : World) (o : Obj) (k : Nat), W.heap.size = k → (W.alloc o).heap[k]? = some o := fun W o k hk => by subst hk; simpa using heap_alloc_new W o
  exact ⟨below_alloc (below_alloc (Below.refl _ _) _) _, blk_alloc (n w o0 _ rfl) _, n _ o1 _ (by simp)⟩
set_option maxHeartbeats 4000000 in
set_option maxRecDepth 100000 in
theorem impl_CountLayings.calls (k : Nat) (A0 : Option Addr) (c0 : Nat) (l0 : List Int) (a1 : Int) (r : Int) (w : World) (hr0 : Kd.C (Kd.int .i64) w A0 l0.length l0) (hc0 : l0.length ≤ c0) (h : impl_CountLayings.f k l0 a1 = some r) :
    Calls Tryz.prog 13 #[.slice A0 l0.length c0, .int .i64 a1] w fun e w' => e = .returned (.int .i64 r) ∧ Below w.heap.size w w' := by
  have eg : ∀ args w, (callFunc 27 args).run Tryz.prog w = .ok (.enter 27 args) w := enters_of Tryz.func27 (by kernel_rfl) rfl
  unfold impl_CountLayings.f at h
  obtain ⟨t, ht, h⟩ := Option.bind_eq_some_iff.1 h
  obtain ⟨hb0, e0, e1⟩ := count_boxes w (.cells #[.slice A0 l0.length c0] 23) (.cells #[.int .i64 a1] 3)
  have c0' := (cell_of_c e0).1
  have HT := Aside0.mk ht
  have HB0 := Aside0.mk hb0
  have E0 := Aside0.mk e0
  have E1 := Aside0.mk e1
  have HR := Aside0.mk (Kd.C_below hr0 hb0)
  have HRW := Aside0.mk hr0
  have HC := Aside0.mk hc0
  have H := Aside0.mk h
  clear ht hb0 e0 e1 hr0 hc0 h
  go_enter Tryz.func13, Tryz.ntmps13
  go_wp2_with fail
  refine (impl_RulerOk.calls A0 c0 l0 t _ HR.out HC.out HT.out).mono ?_
  rintro e w3 ⟨rfl, hb⟩
  have HB3 := Aside0.mk (below_then HB0.out HB0.out.size hb)
  have E03 := Aside0.mk ((hb.block _ (blk_lt E0.out)).trans E0.out)
  have E13 := Aside0.mk ((hb.block _ (blk_lt E1.out)).trans E1.out)
  have c3 := (cell_of_c E03.out).1
  clear hb c0'
  by_cases ct : t = true
  · have h := H.out
    subst ct
    rw [if_pos rfl] at h
    by_cases hn : 1 ≤ l0.length ∧ l0.length ≤ 10
    case neg => rw [if_neg hn] at h; cases h
    rw [if_pos hn] at h
    have H2 := Aside0.mk h
    have HST : Aside0 (∀ j w', j < 2 ^ l0.length → CountInv k l0 a1 w A0 c0 w.heap.size (w.heap.size + 1) w3.heap.size j w' → Calls Tryz.prog 27 (#[.string (layS l0.length j)] ++ #[.pointer (some ⟨w.heap.size, 0, none⟩), .pointer (some ⟨w.heap.size + 1, 0, none⟩), .pointer (some ⟨w3.heap.size, 0, none⟩)]) w' fun e w'' => e = .returned (.tuple #[]) ∧ CountInv k l0 a1 w A0 c0 w.heap.size (w.heap.size + 1) w3.heap.size (j + 1) w'') :=
      ⟨fun j w' hj hI => impl_CountLayings_1.calls k l0 a1 w A0 c0 _ _ _ j w' HRW.out HC.out hI (countStep_le hj ⟨_, h⟩)⟩
    have HEL := Aside0.mk (impl_eachLaying.calls (CountInv k l0 a1 w A0 c0 w.heap.size (w.heap.size + 1) w3.heap.size) 27 #[.pointer (some ⟨w.heap.size, 0, none⟩), .pointer (some ⟨w.heap.size + 1, 0, none⟩), .pointer (some ⟨w3.heap.size, 0, none⟩)] eg A0 c0 l0.length)
    have HN := Aside0.mk hn
    have h9 : Below w3.heap.size w3 (w3.alloc (.cells #[.int .i64 0] 3)) := below_alloc (Below.refl _ _) _
    have H9 := Aside0.mk h9
    have hl0 := blk_lt E03.out
    have hl1 := blk_lt E13.out
    have HLT : Aside0 (w.heap.size < w3.heap.size ∧ w.heap.size + 1 < w3.heap.size) := ⟨hl0, hl1⟩
    have n9 : (w3.alloc (.cells #[.int .i64 0] 3)).heap[w3.heap.size]? = some (.cells #[.int .i64 0] 3) := by simpa using heap_alloc_new w3 (.cells #[.int .i64 0] 3)
    have N9 := Aside0.mk n9
    have c39 := (cell_of_c ((h9.block _ hl0).trans E03.out)).1
    clear h hn h9 hl0 hl1 n9 H
    go_wp2_with fail
    refine (HEL.out _ HN.out.1 HN.out.2 (fun j w' w'' h hb => h.step hb) HST.out ?_).mono ?_
    · exact ⟨⟨0, rfl, N9.out⟩, (H9.out.block _ HLT.out.1).trans E03.out, (H9.out.block _ HLT.out.2).trans E13.out, below_then HB3.out HB3.out.size H9.out, HB3.out.size, by have := HLT.out; omega, by have := HLT.out; omega⟩
    · rintro e w4 ⟨rfl, hI⟩
      obtain ⟨⟨b, h1, h2⟩, h3, h4, h5, h6⟩ := hI
      have hb := H2.out
      rw [h1] at hb
      obtain rfl : b = r := Option.some.inj hb
      have c4 := (cell_of_c h2).1
      have H5 := Aside0.mk h5
      clear h1 h2 h3 h4 h5 h6 hb HEL HST H2 c39 c3
      go_wp2
      go_ret
      exact ⟨rfl, H5.out⟩
  · have h := H.out
    rw [if_neg ct] at h
    obtain rfl : t = false := by simpa using ct
    obtain rfl := Option.some.inj h
    clear h H ct
    go_wp2
    go_ret
    exact ⟨rfl, HB3.out⟩

end Go.Proofs.YtjjdahnjindgaaaGreatDoor.PA
