-- Written for this claim by a program of this session's (ownprint.py), by way of the kit's print and hand-proved texts. Lean checks it.
import Derived.Test.YtghnaclpjdhilaaPAx0
import Derived.Test.YtghnaclpjdhilaaPAx6
import Derived.Test.YtghnaclpjdhilaaPAx8
import Derived.Test.YtghnaclpjdhilaaPAx20
namespace Go.Proofs.Ytghnaclpjdhilaa.PA
open Go.RowKit Go.Proofs.YtghnaclpjdhilaaW.PrintWords Go.Proofs.YtghnaclpjdhilaaW.PrintLast Go.Proofs.YtghnaclpjdhilaaW.PrintMore
attribute [local go_sem] max2_int min2_int max_two min_two max_three min_three max_four min_four   -- for this text's walks alone
set_option linter.unusedVariables false
set_option linter.unusedSimpArgs false

/-! ### impl_BestMarker: function 19 (by hand) -/
mutual
def impl_BestMarker.g : Nat → List Int → List Int → Int → List Int → Bool → Int → Option (List Int × Bool × Int)
  | 0, _, _, _, _, _, _ => none
  | k + 1, x0, m, left, b, nl, ls => if m.length = x0.length then ((impl_LayersFor.f k x0 m).bind fun n => if 0 ≤ n ∧ (nl = true ∨ n < ls) then (if 0 < m.length ∧ m.length < 17592186044416 then some (m, false, n) else none) else some (b, nl, ls)) else (if m.length < 1000 then impl_BestMarker.l k x0 m left b nl ls 0 else none)
def impl_BestMarker.l : Nat → List Int → List Int → Int → List Int → Bool → Int → Int → Option (List Int × Bool × Int)
  | 0, _, _, _, _, _, _, _ => none
  | k + 1, x0, m, left, b, nl, ls, x8 => if x8 ≤ left then ((impl_BestMarker.g k x0 (m ++ [x8]) (wrap64 (left - x8)) b nl ls).bind fun t => impl_BestMarker.l k x0 m left t.1 t.2.1 t.2.2 (wrap64 (x8 + 1))) else some (b, nl, ls)
end
def impl_BestMarker.f (k : Nat) (l0 : List Int) (a1 : Int) : Option (List Int × Bool) := (impl_WantedOk.f l0).bind fun t => if t = true then ((impl_sumOf.f k l0).bind fun s => if s = 0 then some ([], false) else ((impl_within.f a1 1 8).bind fun t2 => if t2 = true then ((impl_BestMarker.g k l0 [] a1 [] true 0).bind fun t3 => some (t3.1, !t3.2.1)) else some ([], false))) else some ([], false)
theorem impl_BestMarker.mono_l : ∀ k, (∀ y0 y1 y2 y3 y4 y5, LeO (impl_BestMarker.g k y0 y1 y2 y3 y4 y5) (impl_BestMarker.g (k + 1) y0 y1 y2 y3 y4 y5)) ∧ (∀ y0 y1 y2 y3 y4 y5 y6, LeO (impl_BestMarker.l k y0 y1 y2 y3 y4 y5 y6) (impl_BestMarker.l (k + 1) y0 y1 y2 y3 y4 y5 y6))
  | 0 => ⟨fun _ _ _ _ _ _ r h => by simp [impl_BestMarker.g] at h, fun _ _ _ _ _ _ _ r h => by simp [impl_BestMarker.l] at h⟩
  | k + 1 => by
    obtain ⟨ih0, ih1⟩ := impl_BestMarker.mono_l k
    refine ⟨?_, ?_⟩
    · intro y0 y1 y2 y3 y4 y5
      rw [impl_BestMarker.g, impl_BestMarker.g]
      repeat' first
      | (with_reducible exact ih1 _ _ _ _ _ _ _)
      | (with_reducible exact impl_LayersFor.mono _ _ _)
      | (with_reducible exact LeO.refl _)
      | (with_reducible exact LeO.none _)
      | (with_reducible refine LeO.ite ?_ ?_)
      | (with_reducible refine LeO.bind ?_ (fun _ => ?_))
    · intro y0 y1 y2 y3 y4 y5 y6
      rw [impl_BestMarker.l, impl_BestMarker.l]
      repeat' first
      | (with_reducible exact ih0 _ _ _ _ _ _)
      | (with_reducible exact ih1 _ _ _ _ _ _ _)
      | (with_reducible exact LeO.refl _)
      | (with_reducible exact LeO.none _)
      | (with_reducible refine LeO.ite ?_ ?_)
      | (with_reducible refine LeO.bind ?_ (fun _ => ?_))
theorem impl_BestMarker.mono : ∀ a0 a1 k, LeO (impl_BestMarker.f k a0 a1) (impl_BestMarker.f (k + 1) a0 a1) := by
  intro a0 a1 k
  unfold impl_BestMarker.f
  repeat' first
      | (with_reducible exact (impl_BestMarker.mono_l k).1 _ _ _ _ _ _)
      | (with_reducible exact impl_sumOf.mono _ _)
      | (with_reducible exact LeO.refl _)
      | (with_reducible exact LeO.none _)
      | (with_reducible refine LeO.ite ?_ ?_)
      | (with_reducible refine LeO.bind ?_ (fun _ => ?_))
/-- The five cells that the closure holds. -/
structure Cells5 (w0 : World) (bM bW bB bL bG : Nat) : Prop where
  mw : bM ≠ bW
  mb : bM ≠ bB
  ml : bM ≠ bL
  mg : bM ≠ bG
  wb : bW ≠ bB
  wl : bW ≠ bL
  wg : bW ≠ bG
  bl : bB ≠ bL
  bg : bB ≠ bG
  lg : bL ≠ bG
  m0 : w0.heap.size ≤ bM
  b0 : w0.heap.size ≤ bB
  l0 : w0.heap.size ≤ bL
def cel (bM bW bB bL bG k : Nat) : Prop := k = bM ∨ k = bW ∨ k = bB ∨ k = bL ∨ k = bG
def growFn (bM bW bB bL bG : Nat) : Value := .func (.func 34) #[] #[.pointer (some ⟨bM, 0, none⟩), .pointer (some ⟨bW, 0, none⟩), .pointer (some ⟨bB, 0, none⟩), .pointer (some ⟨bL, 0, none⟩), .pointer (some ⟨bG, 0, none⟩)]
structure GInv (w0 : World) (bM bW bB bL bG : Nat) (A : Option Addr) (c : Nat) (l0 m b : List Int) (nl : Bool) (ls : Int) (vm vb : Value) (w : World) : Prop where
  hM : w.heap[bM]? = some (.cells #[vm] 22 (0, 0))
  hW : w.heap[bW]? = some (.cells #[.slice A l0.length c] 22 (0, 0))
  hB : w.heap[bB]? = some (.cells #[vb] 22 (0, 0))
  hL : w.heap[bL]? = some (.cells #[.int .i64 ls] 3 (0, 0))
  hG : w.heap[bG]? = some (.cells #[growFn bM bW bB bL bG] 42 (0, 0))
  rM : Kd.R (Kd.int .i64) 3 w w0.heap.size (fun k => ¬ cel bM bW bB bL bG k ∧ some k ≠ vb.ownBlock) vm m
  rB : Kd.R (Kd.int .i64) 3 w w0.heap.size (fun k => ¬ cel bM bW bB bL bG k ∧ some k ≠ vm.ownBlock) vb b
  nil : (nl = true ∧ vb = .slice none 0 0) ∨ (nl = false ∧ ∃ ad n cc, vb = .slice (some ad) n cc)
  below : Below w0.heap.size w0 w
section
variable {w0 w w1 : World} {bM bW bB bL bG : Nat} {A : Option Addr} {c : Nat} {l0 m b : List Int} {nl : Bool} {ls : Int} {vm vb : Value}
theorem GInv.step (h : GInv w0 bM bW bB bL bG A c l0 m b nl ls vm vb w) (hb : Below w.heap.size w w1) : GInv w0 bM bW bB bL bG A c l0 m b nl ls vm vb w1 :=
  ⟨(hb.block _ (blk_lt h.hM)).trans h.hM, (hb.block _ (blk_lt h.hW)).trans h.hW, (hb.block _ (blk_lt h.hB)).trans h.hB, (hb.block _ (blk_lt h.hL)).trans h.hL, (hb.block _ (blk_lt h.hG)).trans h.hG, Kd.R_below h.rM hb, Kd.R_below h.rB hb, h.nil, below_then h.below h.below.size hb⟩
theorem GInv.app (h : GInv w0 bM bW bB bL bG A c l0 m b nl ls vm vb w) (D : Cells5 w0 bM bW bB bL bG) {v' : Value} {m' : List Int} (ho : Kd.R (Kd.int .i64) 3 w1 w0.heap.size (fun k => ¬ cel bM bW bB bL bG k ∧ some k ≠ vb.ownBlock) v' m') (hg : w.grownBy w1 vm.ownBlock) (hat : v'.ownBlock = vm.ownBlock ∨ ∃ q, v'.ownBlock = some q ∧ w.heap.size ≤ q) (hb : Below w0.heap.size w0 w1) :
    GInv w0 bM bW bB bL bG A c l0 m' b nl ls v' vb (w1.setCell ⟨bM, 0, none⟩ v') := by
  have hne : ∀ k, cel bM bW bB bL bG k → some k ≠ vm.ownBlock := fun k hk e => (h.rM.1 k e.symm).1 hk
  have eM := (hg.block _ (blk_lt h.hM) (hne _ (.inl rfl))).trans h.hM
  have eW := (hg.block _ (blk_lt h.hW) (hne _ (.inr (.inl rfl)))).trans h.hW
  have eB := (hg.block _ (blk_lt h.hB) (hne _ (.inr (.inr (.inl rfl))))).trans h.hB
  have eL := (hg.block _ (blk_lt h.hL) (hne _ (.inr (.inr (.inr (.inl rfl)))))).trans h.hL
  have eG := (hg.block _ (blk_lt h.hG) (hne _ (.inr (.inr (.inr (.inr rfl)))))).trans h.hG
  refine ⟨by simpa using blk_set eM 0 v', blk_far eW D.mw.symm _, blk_far eB D.mb.symm _, blk_far eL D.ml.symm _, blk_far eG D.mg.symm _, Kd.R_far ho (fun k hk e => hk.1 (.inl e)) _, Kd.R_far (Kd.R_after h.rB hg hat) (fun k hk e => hk.1 (.inl e)) _, h.nil, below_set hb D.m0⟩
theorem GInv.cut (D : Cells5 w0 bM bW bB bL bG) {A1 : Option Addr} {n cc j : Nat} (h : GInv w0 bM bW bB bL bG A c l0 m b nl ls (.slice A1 n cc) vb w) (hj : j ≤ m.length) :
    GInv w0 bM bW bB bL bG A c l0 (m.take j) b nl ls (.slice A1 j cc) vb (w.setCell ⟨bM, 0, none⟩ (.slice A1 j cc)) := by
  have eo : (Value.slice A1 j cc).ownBlock = (Value.slice A1 n cc).ownBlock := by cases A1 <;> rfl
  refine ⟨by simpa using blk_set h.hM 0 (.slice A1 j cc), blk_far h.hW D.mw.symm _, blk_far h.hB D.mb.symm _, blk_far h.hL D.ml.symm _, blk_far h.hG D.mg.symm _, Kd.R_far (Kd.R_take h.rM hj) (fun k hk e => hk.1 (.inl e)) _, ?_, h.nil, below_set h.below D.m0⟩
  rw [eo]
  exact Kd.R_far h.rB (fun k hk e => hk.1 (.inl e)) _
theorem GInv.best (h : GInv w0 bM bW bB bL bG A c l0 m b nl ls vm vb w) (D : Cells5 w0 bM bW bB bL bG) {ad : Addr} {n cc : Nat} (ho : Kd.R (Kd.int .i64) 3 w1 w.heap.size (fun _ => True) (.slice (some ad) n cc) m) (hb : Below w.heap.size w w1) (ls' : Int) :
    GInv w0 bM bW bB bL bG A c l0 m m false ls' vm (.slice (some ad) n cc) ((w1.setCell ⟨bB, 0, none⟩ (.slice (some ad) n cc)).setCell ⟨bL, 0, none⟩ (.int .i64 ls')) := by
  have eM := (hb.block _ (blk_lt h.hM)).trans h.hM
  have eW := (hb.block _ (blk_lt h.hW)).trans h.hW
  have eB := (hb.block _ (blk_lt h.hB)).trans h.hB
  have eL := (hb.block _ (blk_lt h.hL)).trans h.hL
  have eG := (hb.block _ (blk_lt h.hG)).trans h.hG
  have hcel : ∀ k, cel bM bW bB bL bG k → k < w.heap.size := by
    rintro k (rfl | rfl | rfl | rfl | rfl)
    · exact blk_lt h.hM
    · exact blk_lt h.hW
    · exact blk_lt h.hB
    · exact blk_lt h.hL
    · exact blk_lt h.hG
  have r1 : Kd.R (Kd.int .i64) 3 w1 w0.heap.size (fun k => ¬ cel bM bW bB bL bG k ∧ some k ≠ vm.ownBlock) (.slice (some ad) n cc) m :=
    Kd.R_lower (Kd.R_mono (Kd.R_bound ho) (fun k hk => ⟨fun z => by have := hcel k z; have := hk.2.1; omega, fun z => by have := Kd.R_lt h.rM k z.symm; have := hk.2.1; omega⟩)) h.below.size
  have r2 : Kd.R (Kd.int .i64) 3 w1 w0.heap.size (fun k => ¬ cel bM bW bB bL bG k ∧ some k ≠ (Value.slice (some ad) n cc).ownBlock) vm m :=
    Kd.R_mono (Kd.R_elder h.rM ho hb) (fun k hk => ⟨hk.1.1, hk.2⟩)
  have e2 : (w1.setCell ⟨bB, 0, none⟩ (.slice (some ad) n cc)).heap[bB]? = some (.cells #[.slice (some ad) n cc] 22 (0, 0)) := by simpa using blk_set eB 0 (.slice (some ad) n cc)
  have e3 : (w1.setCell ⟨bB, 0, none⟩ (.slice (some ad) n cc)).heap[bL]? = some (.cells #[.int .i64 ls] 3 (0, 0)) := blk_far eL D.bl.symm _
  refine ⟨blk_far (blk_far eM D.mb _) D.ml _, blk_far (blk_far eW D.wb _) D.wl _, blk_far e2 D.bl _, by simpa using blk_set e3 0 (.int .i64 ls'), blk_far (blk_far eG D.bg.symm _) D.lg.symm _, ?_, ?_, .inr ⟨rfl, ad, n, cc, rfl⟩, below_set (below_set (below_then h.below h.below.size hb) D.b0) D.l0⟩
  · exact Kd.R_far (Kd.R_far r2 (fun k hk e => hk.1 (.inr (.inr (.inl e)))) _) (fun k hk e => hk.1 (.inr (.inr (.inr (.inl e))))) _
  · exact Kd.R_far (Kd.R_far r1 (fun k hk e => hk.1 (.inr (.inr (.inl e)))) _) (fun k hk e => hk.1 (.inr (.inr (.inr (.inl e))))) _
end
theorem GInv.keepM {w0 w w1 : World} {bM bW bB bL bG : Nat} {A : Option Addr} {c : Nat} {l0 m b : List Int} {nl : Bool} {ls : Int} {vm vb : Value} (h : GInv w0 bM bW bB bL bG A c l0 m b nl ls vm vb w) (hg : w.grownBy w1 vm.ownBlock) : w1.heap[bM]? = some (.cells #[vm] 22 (0, 0)) :=
  (hg.block _ (blk_lt h.hM) (fun e => (h.rM.1 _ e.symm).1 (.inl rfl))).trans h.hM
theorem GInv.fresh {w0 w : World} {bM bW bB bL bG : Nat} {A : Option Addr} {c : Nat} {l0 m b : List Int} {nl : Bool} {ls : Int} {vm vb : Value} (h : GInv w0 bM bW bB bL bG A c l0 m b nl ls vm vb w) : ∀ k, w.heap.size ≤ k → ¬ cel bM bW bB bL bG k ∧ some k ≠ vb.ownBlock := by
  intro k hk
  refine ⟨?_, fun z => by have := Kd.R_lt h.rB k z.symm; omega⟩
  rintro (rfl | rfl | rfl | rfl | rfl)
  · have := blk_lt h.hM; omega
  · have := blk_lt h.hW; omega
  · have := blk_lt h.hB; omega
  · have := blk_lt h.hL; omega
  · have := blk_lt h.hG; omega
theorem cell_of_1 {w : World} {g t : Nat} {v : Value} (h : w.heap[g]? = some (.cells #[v] t (0, 0))) : w.cell? ⟨g, 0, none⟩ = some v ∧ w.frozen? ⟨g, 0, none⟩ = false := by
  constructor
  · simp [World.cell?, h]
  · simp [World.frozen?, h]
theorem best_nil (w : World) (n c : Nat) : (binOp .eql 22 (.slice none n c) (.slice none 0 0)).run Try.prog w = .ok (.bool true) w := run_eql_slice_nil w 22 3 none n c (by kernel_rfl)
theorem best_some (w : World) (a : Addr) (n c : Nat) : (binOp .eql 22 (.slice (some a) n c) (.slice none 0 0)).run Try.prog w = .ok (.bool false) w := run_eql_slice_nil w 22 3 (some a) n c (by kernel_rfl)
attribute [local go_sem] best_nil best_some
set_option maxHeartbeats 4000000 in
set_option maxRecDepth 100000 in
theorem impl_BestMarker_1.calls (w0 : World) (bM bW bB bL bG : Nat) (A : Option Addr) (c : Nat) (l0 : List Int) (D : Cells5 w0 bM bW bB bL bG) (hr0 : Kd.C (Kd.int .i64) w0 A l0.length l0) (hc0 : l0.length ≤ c) (eg : ∀ args w, (callFunc 34 args).run Try.prog w = .ok (.enter 34 args) w) (k : Nat) :
    ∀ (m b : List Int) (left : Int) (nl : Bool) (ls : Int) (vm vb : Value) (w : World) (r : List Int × Bool × Int), impl_BestMarker.g k l0 m left b nl ls = some r → GInv w0 bM bW bB bL bG A c l0 m b nl ls vm vb w →
    Calls Try.prog 34 #[.int .i64 left, .pointer (some ⟨bM, 0, none⟩), .pointer (some ⟨bW, 0, none⟩), .pointer (some ⟨bB, 0, none⟩), .pointer (some ⟨bL, 0, none⟩), .pointer (some ⟨bG, 0, none⟩)] w fun e w' => e = .returned (.tuple #[]) ∧ ∃ vm' vb', GInv w0 bM bW bB bL bG A c l0 m r.1 r.2.1 r.2.2 vm' vb' w' := by
  induction k using Nat.strongRecOn with
  | _ k ih =>
  intro m b left nl ls vm vb w r h hI
  cases k with
  | zero => simp [impl_BestMarker.g] at h
  | succ k =>
  rw [impl_BestMarker.g] at h
  obtain ⟨Am, cm, rfl⟩ := Kd.R_slice hI.rM
  have cM := (cell_of_1 hI.hM).1
  have cW := (cell_of_1 hI.hW).1
  have hci := Kd.C_below hr0 hI.below
  by_cases c1 : m.length = l0.length
  · rw [if_pos c1] at h
    obtain ⟨n, hn, h⟩ := Option.bind_eq_some_iff.1 h
    have c1z : (m.length : Int) = (l0.length : Int) := by omega
    have cB := (cell_of_1 hI.hB).1
    have cL := (cell_of_1 hI.hL).1
    have HI := Aside0.mk hI
    have H := Aside0.mk h
    have HN := Aside0.mk hn
    have HR := Aside0.mk hci
    have HR0 := Aside0.mk hr0
    have HC := Aside0.mk hc0
    have HM := Aside0.mk (Kd.R_reads' hI.rM)
    clear hI h hn hci hr0 hc0 ih
    go_enter Try.func34, Try.ntmps34
    go_wp2_with fail
    have hl := impl_LayersFor.calls k A c l0 Am cm m n w HR.out HC.out HM.out.2.2 HM.out.2.1 HN.out
    rw [c1] at hl
    refine hl.mono ?_
    rintro e1 w1 ⟨rfl, hb⟩
    have HI1 := Aside0.mk (HI.out.step hb)
    have HM1 := Aside0.mk (Kd.R_reads' HI1.out.rM)
    clear hl hb cM cW cB cL HI HM HR
    have cM := (cell_of_1 HI1.out.hM).1
    have cB := (cell_of_1 HI1.out.hB).1
    have cL := (cell_of_1 HI1.out.hL).1
    by_cases q0 : 0 ≤ n
    · rcases HI1.out.nil with ⟨rfl, rfl⟩ | ⟨rfl, ad, nn, cc, rfl⟩
      · have HU : Aside0 ((0 < m.length ∧ m.length < 17592186044416) ∧ (m, false, n) = r) := ⟨by
          have h1 := H.out
          rw [if_pos ⟨q0, .inl rfl⟩] at h1
          by_cases z : 0 < m.length ∧ m.length < 17592186044416
          · rw [if_pos z] at h1; exact ⟨z, Option.some.inj h1⟩
          · rw [if_neg z] at h1; cases h1⟩
        go_wp2_with fail
        have hC := slices_Clone_int_int.calls Am cm m m w1 HM1.out.2.2 HM1.out.2.1 (by unfold slices_Clone_int_int.f; rw [if_pos HU.out.1.2])
        rw [c1] at hC
        refine hC.mono ?_
        rintro e2 w2 ⟨v, rfl, ho, hb⟩
        obtain ⟨g, cap, rfl, hg0, hg1, hg2⟩ := Kd.R_form ho HU.out.1.1
        have fB := (cell_of_1 ((hb.block _ (blk_lt HI1.out.hB)).trans HI1.out.hB)).2
        have cB2 := (cell_of_1 ((hb.block _ (blk_lt HI1.out.hB)).trans HI1.out.hB)).1
        have eL0 := blk_far ((hb.block _ (blk_lt HI1.out.hL)).trans HI1.out.hL) (p := ⟨bB, 0, none⟩) D.bl.symm (.slice (some ⟨g, 0, none⟩) m.length cap)
        rw [c1] at eL0
        have fL := (cell_of_1 eL0).2
        have cL2 := (cell_of_1 eL0).1
        have hf := GInv.best HI1.out D ho hb n
        rw [c1] at hf
        have HF := Aside0.mk hf
        clear eL0 hf ho hb hg0 hg1 hg2 hC
        go_wp2
        first | go_end0 | ((try simp only [Exit.inBlock, Exit.then]); refine bodyPost_ret (results_none rfl _ _ _) rfl ?_)
        exact ⟨rfl, _, _, by rw [← HU.out.2]; exact HF.out⟩
      · by_cases q1 : n < ls
        · have HU : Aside0 ((0 < m.length ∧ m.length < 17592186044416) ∧ (m, false, n) = r) := ⟨by
            have h1 := H.out
            rw [if_pos ⟨q0, .inr q1⟩] at h1
            by_cases z : 0 < m.length ∧ m.length < 17592186044416
            · rw [if_pos z] at h1; exact ⟨z, Option.some.inj h1⟩
            · rw [if_neg z] at h1; cases h1⟩
          go_wp2_with fail
          have hC := slices_Clone_int_int.calls Am cm m m w1 HM1.out.2.2 HM1.out.2.1 (by unfold slices_Clone_int_int.f; rw [if_pos HU.out.1.2])
          rw [c1] at hC
          refine hC.mono ?_
          rintro e2 w2 ⟨v, rfl, ho, hb⟩
          obtain ⟨g, cap, rfl, hg0, hg1, hg2⟩ := Kd.R_form ho HU.out.1.1
          have fB := (cell_of_1 ((hb.block _ (blk_lt HI1.out.hB)).trans HI1.out.hB)).2
          have cB2 := (cell_of_1 ((hb.block _ (blk_lt HI1.out.hB)).trans HI1.out.hB)).1
          have eL0 := blk_far ((hb.block _ (blk_lt HI1.out.hL)).trans HI1.out.hL) (p := ⟨bB, 0, none⟩) D.bl.symm (.slice (some ⟨g, 0, none⟩) m.length cap)
          rw [c1] at eL0
          have fL := (cell_of_1 eL0).2
          have cL2 := (cell_of_1 eL0).1
          have hf := GInv.best HI1.out D ho hb n
          rw [c1] at hf
          have HF := Aside0.mk hf
          clear eL0 hf ho hb hg0 hg1 hg2 hC
          go_wp2
          first | go_end0 | ((try simp only [Exit.inBlock, Exit.then]); refine bodyPost_ret (results_none rfl _ _ _) rfl ?_)
          exact ⟨rfl, _, _, by rw [← HU.out.2]; exact HF.out⟩
        · have HS : Aside0 ((b, false, ls) = r) := ⟨by
            have h1 := H.out
            rw [if_neg (fun z => z.2.elim (fun y => by cases y) q1)] at h1
            exact Option.some.inj h1⟩
          go_wp2
          first | go_end0 | ((try simp only [Exit.inBlock, Exit.then]); refine bodyPost_ret (results_none rfl _ _ _) rfl ?_)
          exact ⟨rfl, _, _, by rw [← HS.out]; exact HI1.out⟩
    · have HS : Aside0 ((b, nl, ls) = r) := ⟨by
        have h1 := H.out
        rw [if_neg (fun z => q0 z.1)] at h1
        exact Option.some.inj h1⟩
      go_wp2
      first | go_end0 | ((try simp only [Exit.inBlock, Exit.then]); refine bodyPost_ret (results_none rfl _ _ _) rfl ?_)
      exact ⟨rfl, _, _, by rw [← HS.out]; exact HI1.out⟩
  · rw [if_neg c1] at h
    by_cases c2 : m.length < 1000
    case neg => rw [if_neg c2] at h; cases h
    rw [if_pos c2] at h
    have c1b : ((m.length : Int) == (l0.length : Int)) = false := beq_eq_false_iff_ne.2 (by omega)
    have HI := Aside0.mk hI
    have H := Aside0.mk h
    have IH := Aside0.mk ih
    have HL0 := Aside0.mk hc0
    clear hI h hci hr0 hc0 ih
    go_enter Try.func34, Try.ntmps34
    go_wp2
    clear cM cW
    go_loopg [8] k (fun kq v8 wr => ∃ (x8 : Int) (b2 : List Int) (nl2 : Bool) (ls2 : Int) (vm2 vb2 : Value), v8 = .int .i64 x8 ∧ Aside0 (impl_BestMarker.l kq l0 m left b2 nl2 ls2 x8 = some r) ∧ Aside0 (kq ≤ k) ∧ Aside0 (GInv w0 bM bW bB bL bG A c l0 m b2 nl2 ls2 vm2 vb2 wr))
    case atStart => exact ⟨0, b, nl, ls, _, vb, rfl, H, ⟨Nat.le_refl _⟩, HI⟩
    case round =>
      clear HI H
      obtain ⟨x8, b2, nl2, ls2, vm2, vb2, rfl, HA, HK, HI⟩ := hrel
      cases gk with
      | zero => exact absurd HA.out (by simp [impl_BestMarker.l])
      | succ k3 =>
        have h := HA.out
        clear HA
        rw [impl_BestMarker.l] at h
        by_cases c3 : x8 ≤ left
        · rw [if_pos c3] at h
          obtain ⟨t, ht, h⟩ := Option.bind_eq_some_iff.1 h
          have H := Aside0.mk h
          have HT := Aside0.mk ht
          clear h ht
          obtain ⟨wo, rfl⟩ : ∃ x, x = wr := ⟨_, rfl⟩
          have cM := (cell_of_1 HI.out.hM).1
          go_wp2_with (first | ((with_reducible refine gate_builtin (b := .append) (xs := #[.tmp 36, .tmp 38]) rfl ?_); at_builtin; refine Kd.R_append (Kd.int .i64) (w0 := w0) w0.heap.size rfl (.tmp 36) (.tmp 38) 22 3 (.int .i64 0) 8 rfl Try.underlying22 info3 rfl (by decide) (by omega) vm2 m x8 [.int .i64 x8] (fun k => ¬ cel bM bW bB bL bG k ∧ some k ≠ vb2.ownBlock) (fun _ => False) rfl rfl ?aP (fun _ hk => hk.elim) ?aF ?aO ?aB ?aS ?aL ?_; (case aP => exact rfl); (case aF => exact HI.out.fresh); (case aO => exact HI.out.rM); (case aB => exact HI.out.below); (case aS => exact HI.out.below.size); (case aL => omega); intro v1 w1 ho hb hg hat; obtain ⟨Av, cv, rfl⟩ := Kd.R_slice ho; rw [show (m ++ [x8]).length = m.length + 1 by simp] at ho hat; have fM := (cell_of_1 (HI.out.keepM hg)).2; have cM1 := (cell_of_1 (HI.out.keepM hg)).1; have HF := Aside0.mk (HI.out.app D ho hg hat hb); have cG := (cell_of_1 HF.out.hG).1; unfold growFn at cG; clear ho hb hg hat) | (go_at_fn 34; refine (IH.out k3 (by have := HK.out; omega) (m ++ [x8]) b2 (wrap64 (left - x8)) nl2 ls2 _ vb2 _ t HT.out HF.out).mono ?_; rintro e w3 ⟨rfl, vm3, vb3, hI3⟩; obtain ⟨A3, c3', rfl⟩ := Kd.R_slice hI3.rM; rw [show (m ++ [x8]).length = m.length + 1 by simp] at hI3; have cM3 := (cell_of_1 hI3.hM).1; have fM3 := (cell_of_1 hI3.hM).2; have hcc := (Kd.R_reads' hI3.rM).2.1; obtain ⟨i0, hi0, _, hsz, _⟩ := info_parts info3; have hcut := cut_to (P := Try.prog) 22 3 .i64 Try.underlying22 hi0 A3 (m.length + 1) c3' (m.length : Int) (by omega) (by omega) hcc; have hw3 : wrap64 (((m.length + 1 : Nat) : Int) - 1) = (m.length : Int) := (by unfold wrap64; omega); have HI3 := Aside0.mk hI3; clear hI3 hi0 hsz hcc))
          have HC3 := Aside0.mk (GInv.cut D HI3.out (j := m.length) (by simp))
          rw [show (m ++ [x8]).take m.length = m by simp] at HC3
          clear hcut hw3 cM3 fM3 cM cM1 fM cG
          go_roundg k3
          case measure => have := HK.out; omega
          case rel => exact ⟨wrap64 (x8 + 1), t.1, t.2.1, t.2.2, _, _, rfl, H, ⟨by have := HK.out; omega⟩, HC3⟩
        · rw [if_neg c3] at h
          have HS := Aside0.mk (Option.some.inj h)
          clear h
          go_wp2
          first | go_end0 | ((try simp only [Exit.inBlock, Exit.then]); refine bodyPost_ret (results_none rfl _ _ _) rfl ?_)
          exact ⟨rfl, _, _, by rw [← HS.out]; exact HI.out⟩
theorem two_cells (w : World) (v0 v1 : Value) (t0 t1 : Nat) : ((w.alloc (.cells #[v0] t0)).alloc (.cells #[v1] t1)).heap[w.heap.size]? = some (.cells #[v0] t0 (0, 0)) ∧ ((w.alloc (.cells #[v0] t0)).alloc (.cells #[v1] t1)).heap[w.heap.size + 1]? = some (.cells #[v1] t1 (0, 0)) := by
  have n : ∀ (W : World) (o : Obj) (k : Nat), W.heap.size = k → (W.alloc o).heap[k]? = some o := fun W o k hk => by subst hk; simpa using heap_alloc_new W o
  exact ⟨blk_alloc (n w _ _ rfl) _, n _ _ _ (by simp)⟩
theorem five_blks (w : World) (o0 o1 o2 o3 o4 : Obj) : Below w.heap.size w (((((w.alloc o0).alloc o1).alloc o2).alloc o3).alloc o4) ∧ (((((w.alloc o0).alloc o1).alloc o2).alloc o3).alloc o4).heap[w.heap.size]? = some o0 ∧ (((((w.alloc o0).alloc o1).alloc o2).alloc o3).alloc o4).heap[w.heap.size + 1]? = some o1 ∧ (((((w.alloc o0).alloc o1).alloc o2).alloc o3).alloc o4).heap[w.heap.size + 1 + 1]? = some o2 ∧ (((((w.alloc o0).alloc o1).alloc o2).alloc o3).alloc o4).heap[w.heap.size + 1 + 1 + 1]? = some o3 ∧ (((((w.alloc o0).alloc o1).alloc o2).alloc o3).alloc o4).heap[w.heap.size + 1 + 1 + 1 + 1]? = some o4 := by
  have n : ∀ (W : World) (o : Obj) (k : Nat), W.heap.size = k → (W.alloc o).heap[k]? = some o := fun W o k hk => by subst hk; simpa using heap_alloc_new W o
  have s1 : (w.alloc o0).heap.size = w.heap.size + 1 := by simp
  have s2 : ((w.alloc o0).alloc o1).heap.size = w.heap.size + 1 + 1 := by simp
  have s3 : (((w.alloc o0).alloc o1).alloc o2).heap.size = w.heap.size + 1 + 1 + 1 := by simp
  have s4 : ((((w.alloc o0).alloc o1).alloc o2).alloc o3).heap.size = w.heap.size + 1 + 1 + 1 + 1 := by simp
  have a : ∀ {W : World} {k : Nat} {o : Obj} (q : Obj), W.heap[k]? = some o → (W.alloc q).heap[k]? = some o := fun {W k o} q hk => ((below_alloc (Below.refl W.heap.size W) q).block k (Array.getElem?_eq_some_iff.1 hk).1).trans hk
  exact ⟨below_alloc (below_alloc (below_alloc (below_alloc (below_alloc (Below.refl _ _) _) _) _) _) _, a _ (a _ (a _ (a _ (n w o0 _ rfl)))), a _ (a _ (a _ (n _ o1 _ s1))), a _ (a _ (n _ o2 _ s2)), a _ (n _ o3 _ s3), n _ o4 _ s4⟩
theorem row_of_blk {W : World} {base g : Nat} {xs : List Int} (hb : W.heap[g]? = some (.cells (xs.map (Value.int .i64)).toArray 3 (0, 0))) (hg : base ≤ g) (hl : xs.length ≤ 9223372036854775807) : Kd.R (Kd.int .i64) 3 W base (fun k_ => k_ = g) (.slice (some ⟨g, 0, none⟩) xs.length xs.length) xs :=
  ⟨fun k hk => by simp [Value.ownBlock] at hk; exact hk.symm, xs.map (Value.int .i64), ⟨by simp [Kd.int, Kd.scalar], .inr ⟨g, xs.length, _, rfl, hg, hb, Nat.le_refl _, hl, by simp [Kd.int, Kd.scalar], by simp [Kd.int, Kd.scalar, List.take_of_length_le]⟩⟩, Kd.reps_scalar _⟩
theorem GInv.start {w w4 : World} {A0 : Option Addr} {c0 : Nat} {l0 : List Int} (hb : Below w.heap.size w w4) (hW : w4.heap[w.heap.size]? = some (.cells #[.slice A0 l0.length c0] 22 (0, 0))) :
    GInv w (w4.heap.size + 1 + 1 + 1) w.heap.size w4.heap.size (w4.heap.size + 1) (w4.heap.size + 1 + 1 + 1 + 1) A0 c0 l0 [] [] true 0 (.slice (some ⟨w4.heap.size + 1 + 1, 0, none⟩) 0 0) (.slice none 0 0)
      (((((w4.alloc (.cells #[.slice none 0 0] 22)).alloc (.cells #[.int .i64 0] 3)).alloc (.cells #[] 3)).alloc (.cells #[.slice (some ⟨w4.heap.size + 1 + 1, 0, none⟩) 0 0] 22)).alloc (.cells #[growFn (w4.heap.size + 1 + 1 + 1) w.heap.size w4.heap.size (w4.heap.size + 1) (w4.heap.size + 1 + 1 + 1 + 1)] 42)) ∧
    Cells5 w (w4.heap.size + 1 + 1 + 1) w.heap.size w4.heap.size (w4.heap.size + 1) (w4.heap.size + 1 + 1 + 1 + 1) := by
  have hlt := blk_lt hW
  have hle := hb.size
  obtain ⟨b5, e0, e1, e2, e3, e4⟩ := five_blks w4 (.cells #[.slice none 0 0] 22) (.cells #[.int .i64 0] 3) (.cells #[] 3) (.cells #[.slice (some ⟨w4.heap.size + 1 + 1, 0, none⟩) 0 0] 22) (.cells #[growFn (w4.heap.size + 1 + 1 + 1) w.heap.size w4.heap.size (w4.heap.size + 1) (w4.heap.size + 1 + 1 + 1 + 1)] 42)
  have eW := (b5.block _ hlt).trans hW
  have hB := below_then hb hle b5
  generalize (((((w4.alloc (.cells #[.slice none 0 0] 22)).alloc (.cells #[.int .i64 0] 3)).alloc (.cells #[] 3)).alloc (.cells #[.slice (some ⟨w4.heap.size + 1 + 1, 0, none⟩) 0 0] 22)).alloc (.cells #[growFn (w4.heap.size + 1 + 1 + 1) w.heap.size w4.heap.size (w4.heap.size + 1) (w4.heap.size + 1 + 1 + 1 + 1)] 42)) = W at *
  have e2' : W.heap[w4.heap.size + 1 + 1]? = some (.cells (([] : List Int).map (Value.int .i64)).toArray 3 (0, 0)) := e2
  refine ⟨⟨e3, eW, e0, e1, e4, ?_, Kd.R_nil _ _ _ _ _, .inl ⟨rfl, rfl⟩, hB⟩, ⟨by omega, by omega, by omega, by omega, by omega, by omega, by omega, by omega, by omega, by omega, by omega, by omega, by omega⟩⟩
  refine Kd.R_mono (row_of_blk (base := w.heap.size) e2' (by omega) (by simp)) (fun k hk => ⟨?_, by simp [Value.ownBlock]⟩)
  subst hk
  rintro (z | z | z | z | z) <;> omega
theorem best_neq_nil (w : World) (n c : Nat) : (binOp .neq 22 (.slice none n c) (.slice none 0 0)).run Try.prog w = .ok (.bool false) w := run_neq_slice_nil w 22 3 none n c (by kernel_rfl)
theorem best_neq_some (w : World) (a : Addr) (n c : Nat) : (binOp .neq 22 (.slice (some a) n c) (.slice none 0 0)).run Try.prog w = .ok (.bool true) w := run_neq_slice_nil w 22 3 (some a) n c (by kernel_rfl)
theorem best_store_func (w : World) (a : Addr) (m : Mode) (fn : Fn) (first captured : Array Value) : (store a (.func fn first captured) m).run Try.prog w = stored Try.prog w a (.func fn first captured) m := run_store Try.prog w a _ m rfl
attribute [local go_sem] best_neq_nil best_neq_some best_store_func
set_option maxHeartbeats 4000000 in
set_option maxRecDepth 100000 in
theorem impl_BestMarker.calls (k : Nat) (A0 : Option Addr) (c0 : Nat) (l0 : List Int) (a1 : Int) (r1 : List Int) (r2 : Bool) (w : World) (hr0 : Kd.C (Kd.int .i64) w A0 l0.length l0) (hc0 : l0.length ≤ c0) (h : impl_BestMarker.f k l0 a1 = some (r1, r2)) :
    Calls Try.prog 19 #[.slice A0 l0.length c0, .int .i64 a1] w fun e w' => ∃ v0_ : Value, e = .returned (.tuple #[v0_, .bool r2]) ∧ Kd.R (Kd.int .i64) 3 w' w.heap.size (fun _ => True) v0_ r1 ∧ Below w.heap.size w w' := by
  have eg : ∀ args w, (callFunc 34 args).run Try.prog w = .ok (.enter 34 args) w := enters_of Try.func34 (by kernel_rfl) rfl
  unfold impl_BestMarker.f at h
  obtain ⟨t, ht, h⟩ := Option.bind_eq_some_iff.1 h
  have HT := Aside0.mk ht
  have HR := Aside0.mk hr0
  have HC := Aside0.mk hc0
  have H := Aside0.mk h
  have hb0 : Below w.heap.size w (w.alloc (.cells #[.slice A0 l0.length c0] 22)) := below_alloc (Below.refl _ _) _
  have HB0 := Aside0.mk hb0
  clear ht hr0 hc0 h hb0
  go_enter Try.func19, Try.ntmps19
  go_wp2_with fail
  refine (impl_WantedOk.calls A0 c0 l0 t _ (Kd.C_below HR.out HB0.out) HC.out HT.out).mono ?_
  rintro e w2 ⟨rfl, hb⟩
  have hW2 : w2.heap[w.heap.size]? = some (.cells #[.slice A0 l0.length c0] 22 (0, 0)) := (hb.block _ (by simp)).trans (by simpa using heap_alloc_new w (.cells #[.slice A0 l0.length c0] 22))
  have HB2 := Aside0.mk (below_then HB0.out HB0.out.size hb)
  have HW2 := Aside0.mk hW2
  have cW2 := (cell_of_1 hW2).1
  have HR2 := Aside0.mk (Kd.C_below HR.out HB2.out)
  clear hW2 hb HB0
  have h := H.out
  clear H
  by_cases c1 : t = true
  · subst c1
    rw [if_pos rfl] at h
    obtain ⟨s, hs, h⟩ := Option.bind_eq_some_iff.1 h
    have HS := Aside0.mk hs
    have H := Aside0.mk h
    clear hs h
    go_wp2_with fail
    refine (impl_sumOf.calls k A0 c0 l0 s _ HR2.out HC.out HS.out).mono ?_
    rintro e w3 ⟨rfl, hd3⟩
    have HB3 : Aside0 (Below w2.heap.size w2 w3) := ⟨by obtain ⟨nd, rfl⟩ := hd3; exact pw_below_drewN (Below.refl _ _) _⟩
    clear hd3
    have h := H.out
    clear H
    by_cases c2 : s = 0
    · subst c2
      rw [if_pos rfl] at h
      have HE := Aside0.mk (Option.some.inj h)
      clear h
      go_wp2
      go_ret2
      have hE1 : r1 = [] := (congrArg Prod.fst HE.out).symm
      have hE2 : r2 = false := (congrArg Prod.snd HE.out).symm
      subst hE1 hE2
      exact ⟨.slice none 0 0, rfl, Kd.R_nil _ _ _ _ _, below_then HB2.out HB2.out.size HB3.out⟩
    · rw [if_neg c2] at h
      have c2b : (s == 0) = false := beq_eq_false_iff_ne.2 c2
      obtain ⟨t2, ht2, h⟩ := Option.bind_eq_some_iff.1 h
      have HT2 := Aside0.mk ht2
      have H := Aside0.mk h
      clear ht2 h c2
      go_wp2_with fail
      refine (impl_within.calls a1 1 8 t2 _ HT2.out).mono ?_
      rintro e w4 ⟨rfl, hd4⟩
      have HB4 : Aside0 (Below w2.heap.size w2 w4) := ⟨by obtain ⟨nd, rfl⟩ := hd4; exact pw_below_drewN HB3.out _⟩
      clear hd4
      have h := H.out
      clear H
      by_cases c3 : t2 = true
      · subst c3
        rw [if_pos rfl] at h
        have H := Aside0.mk h
        clear h cW2
        obtain ⟨e6, e7⟩ := two_cells w4 (.slice none 0 0) (.int .i64 0) 22 3
        have c6 := (cell_of_1 e6).1
        have f6 := (cell_of_1 e6).2
        have e7b := blk_far e7 (p := ⟨w4.heap.size, 0, none⟩) (by simp) (.slice none 0 0)
        have c7 := (cell_of_1 e7b).1
        have f7 := (cell_of_1 e7b).2
        clear e6 e7 e7b
        have hst := GInv.start (A0 := A0) (c0 := c0) (l0 := l0) (w := w) (w4 := w4) (below_then HB2.out HB2.out.size HB4.out) ((HB4.out.block _ (blk_lt HW2.out)).trans HW2.out)
        have HST := Aside0.mk hst
        have e10 := (five_blks w4 (.cells #[.slice none 0 0] 22) (.cells #[.int .i64 0] 3) (.cells #[] 3) (.cells #[.slice (some ⟨w4.heap.size + 1 + 1, 0, none⟩) 0 0] 22) (.cells #[.nilFunc] 42)).2.2.2.2.2
        have c10 := (cell_of_1 e10).1
        have f10 := (cell_of_1 e10).2
        have c11 := (cell_of_1 hst.1.hG).1
        unfold growFn at c11
        obtain ⟨t3, ht3, h3⟩ := Option.bind_eq_some_iff.1 H.out
        have HT3 := Aside0.mk ht3
        have H3 := Aside0.mk (Option.some.inj h3)
        clear hst e10 ht3 h3 H
        go_wp2_with (go_at_fn 34; refine (impl_BestMarker_1.calls w _ _ _ _ _ A0 c0 l0 HST.out.2 HR.out HC.out eg k [] [] a1 true 0 _ _ _ t3 HT3.out HST.out.1).mono ?_; rintro e w7 ⟨rfl, vm7, vb7, hI7⟩; have HI7 := Aside0.mk hI7; have cB7 := (cell_of_1 hI7.hB).1; clear hI7)
        have hn7 := HI7.out.nil
        have hr7 := HI7.out.rB
        have hB7 := HI7.out.below
        have hE1 : t3.1 = r1 := congrArg Prod.fst H3.out
        have hE2 : (!t3.2.1) = r2 := congrArg Prod.snd H3.out
        rcases hn7 with ⟨e1, e2⟩ | ⟨e1, ad, nn, cc, e2⟩
        · rw [e2] at cB7 hr7
          rw [e1] at hE2
          subst hE1 hE2
          have HR7 := Aside0.mk hr7
          have HB7 := Aside0.mk hB7
          clear e1 e2 hr7 hB7 HI7 H3 c10 f10 c11 c6 f6 c7 f7
          go_wp2
          go_quiet (fail)
          all_goals (try go_wp2)
          go_ret2
          exact ⟨.slice none 0 0, rfl, Kd.R_drewN (Kd.R_mono HR7.out (fun _ _ => trivial)) _, pw_below_drewN HB7.out _⟩
        · rw [e2] at cB7 hr7
          rw [e1] at hE2
          subst hE1 hE2
          have HR7 := Aside0.mk hr7
          have HB7 := Aside0.mk hB7
          clear e1 e2 hr7 hB7 HI7 H3 c10 f10 c11 c6 f6 c7 f7
          go_wp2
          go_quiet (fail)
          all_goals (try go_wp2)
          go_ret2
          exact ⟨.slice (some ad) nn cc, rfl, Kd.R_drewN (Kd.R_mono HR7.out (fun _ _ => trivial)) _, pw_below_drewN HB7.out _⟩
      · rw [if_neg c3] at h
        obtain rfl : t2 = false := by simpa using c3
        have HE := Aside0.mk (Option.some.inj h)
        clear h c3
        go_wp2
        go_ret2
        have hE1 : r1 = [] := (congrArg Prod.fst HE.out).symm
        have hE2 : r2 = false := (congrArg Prod.snd HE.out).symm
        subst hE1 hE2
        exact ⟨.slice none 0 0, rfl, Kd.R_nil _ _ _ _ _, below_then HB2.out HB2.out.size HB4.out⟩
  · rw [if_neg c1] at h
    obtain rfl : t = false := by simpa using c1
    have HE := Aside0.mk (Option.some.inj h)
    clear h c1
    go_wp2
    go_ret2
    have hE1 : r1 = [] := (congrArg Prod.fst HE.out).symm
    have hE2 : r2 = false := (congrArg Prod.snd HE.out).symm
    subst hE1 hE2
    exact ⟨.slice none 0 0, rfl, Kd.R_nil _ _ _ _ _, HB2.out⟩

end Go.Proofs.Ytghnaclpjdhilaa.PA
