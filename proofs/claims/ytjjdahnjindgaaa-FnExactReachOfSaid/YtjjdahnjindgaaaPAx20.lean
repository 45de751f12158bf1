-- Written for this claim by a program of this session's (ownprint.py), by way of the kit's print and hand-proved texts. Lean checks it.
import Derived.Test.YtjjdahnjindgaaaPAx0
import Derived.Test.YtjjdahnjindgaaaPAx3
import Derived.Test.YtjjdahnjindgaaaPAx8
import Derived.Test.YtjjdahnjindgaaaPAx12
import Derived.Test.YtjjdahnjindgaaaPAx13
import Derived.Test.YtjjdahnjindgaaaPAx19
namespace Go.Proofs.Ytjjdahnjindgaaa.PA
open Go.RowKit Go.Proofs.YtjjdahnjindgaaaW.PrintWords Go.Proofs.YtjjdahnjindgaaaW.PrintLast Go.Proofs.YtjjdahnjindgaaaW.PrintMore
attribute [local go_sem] max2_int min2_int max_two min_two max_three min_three max_four min_four   -- for this text's walks alone
set_option linter.unusedVariables false
set_option linter.unusedSimpArgs false

/-! ### impl_ReachOf: function 19 (by hand) -/
/-- The load of the captured variable. -/
def reachLoad : Oper := { dst := some 8, op := Op.load 22 (Operand.tmp 2), type := 22, pos := "l22_rulers.go:137", after := #[], guard := none }
attribute [local go_sem] reachLoad
set_option maxHeartbeats 4000000 in
set_option maxRecDepth 100000 in
theorem impl_ReachOf_1.calls (k : Nat) (l0 : List Int) (w : World) (A : Option Addr) (c B B2 j : Nat) (w' : World) (hr0 : Kd.C (Kd.int .i64) w A l0.length l0) (hc0 : l0.length ≤ c) (hA : w'.heap[B]? = some (.cells #[.slice A l0.length c] 22 (0, 0))) (v : Value) (hV : w'.heap[B2]? = some (.cells #[v] 22 (0, 0))) (out : List Int)
    (hR : Kd.R (Kd.int .i64) 3 w' w.heap.size (fun k_ => k_ ≠ B ∧ k_ ≠ B2) v out) (hbe : Below w.heap.size w w') (hbase : w.heap.size ≤ B) (hbase2 : w.heap.size ≤ B2) (hbb : B2 ≠ B) (e : List Int) (he : impl_ends.f k l0 (layS l0.length j) = some e) (h1 : 1 ≤ e.length) (m : Int) (hm : impl_size.f (rd e ((e.length : Int) - 1)) = some m) (ho : out.length < 1048576) :
    Calls Try.prog 33 #[.string (layS l0.length j), .pointer (some ⟨B, 0, none⟩), .pointer (some ⟨B2, 0, none⟩)] w' fun e w'' => e = .returned (.tuple #[]) ∧ w''.heap[B]? = some (.cells #[.slice A l0.length c] 22 (0, 0)) ∧ ∃ v1, w''.heap[B2]? = some (.cells #[v1] 22 (0, 0)) ∧ Kd.R (Kd.int .i64) 3 w'' w.heap.size (fun k_ => k_ ≠ B ∧ k_ ≠ B2) v1 (out ++ [m]) ∧ Below w.heap.size w w'' := by
  obtain ⟨s, hsd⟩ : ∃ s, s = layS l0.length j := ⟨_, rfl⟩
  rw [← hsd] at he ⊢
  have HE := Aside0.mk he
  have HM := Aside0.mk hm
  have HA := Aside0.mk hA
  have HV := Aside0.mk hV
  have HR := Aside0.mk hR
  have HBE := Aside0.mk hbe
  have HCl := Aside0.mk (Kd.C_below hr0 hbe)
  have HC := Aside0.mk hc0
  have cA := (cell_of_one hA).1
  clear hr0 hc0 he hm hA hV hR hbe hsd
  go_enter Try.func33, Try.ntmps33
  go_wp2_with fail
  refine (impl_ends.calls k A c l0 s e _ HCl.out HC.out HE.out).mono ?_
  rintro e1 w1 ⟨v1, rfl, ho1, hb⟩
  obtain ⟨A1, c1, rfl⟩ := Kd.R_slice ho1
  have HO := Aside0.mk ho1
  have HB1 := Aside0.mk hb
  clear ho1 hb cA
  have g2 := (HB1.out.block _ (blk_lt HV.out)).trans HV.out
  have c2 := (cell_of_one g2).1
  have f2 := (cell_of_one g2).2
  obtain ⟨ad, rfl, kz⟩ := Kd.at_int (Kd.R_reads' HO.out).2.2 ((e.length : Int) - 1) (by omega) (by omega)
  obtain ⟨z, hz⟩ : ∃ z, z = rd e ((e.length : Int) - 1) := ⟨_, rfl⟩
  rw [← hz] at kz
  have HM2 : Aside0 (impl_size.f z = some m) := ⟨by rw [hz]; exact HM.out⟩
  clear hz HM
  have i0 : (0 : Int) ≤ (e.length : Int) - 1 := by omega
  have i1 : (e.length : Int) - 1 < (e.length : Int) := by omega
  obtain ⟨ao, co, rfl⟩ := Kd.R_slice HR.out
  have e1 : ad.add (((e.length : Int) - 1).toNat) = ad.add (e.length - 1) := by congr 1; omega
  have hel : e.length ≤ 9223372036854775807 := (Kd.R_reads' HO.out).2.2.2.1
  have hw : IntKind.i64.wrap ((e.length : Int) - 1) = (e.length : Int) - 1 := by rw [IntKind.wrap_i64]; omega
  have hw2 : wrap64 ((e.length : Int) - 1) = (e.length : Int) - 1 := by unfold wrap64; omega
  rw [show (((e.length : Int) - 1).toNat) = e.length - 1 by omega] at kz
  have i2 : (1 ≤ (e.length : Int)) = True := eq_true (by omega)
  have i3 : ((e.length : Int) - 1 < (e.length : Int)) = True := eq_true (by omega)
  have i4 : (0 ≤ (e.length : Int) - 1) = True := eq_true (by omega)
  have i5 : (1 ≤ e.length) = True := eq_true h1
  clear e1 i0 i1
  go_wp2
  have HNE1 : Aside0 (some B2 ≠ (Value.slice ao out.length co).ownBlock) := ⟨fun e_ => (HR.out.1 _ e_.symm).2 rfl⟩
  have HNE0 : Aside0 (some B ≠ (Value.slice ao out.length co).ownBlock) := ⟨fun e_ => (HR.out.1 _ e_.symm).1 rfl⟩
  have HNE2 : Aside0 (some ad.block ≠ (Value.slice ao out.length co).ownBlock) := ⟨fun e_ => by have h1_ := Kd.R_lt HR.out _ e_.symm; have h2_ := Kd.R_base HO.out ad.block rfl; omega⟩
  have S0 : w1.heap[B2]? = some (.cells #[.slice ao out.length co] 22 (0, 0)) ∧ w1.cell? ⟨B2, 0, none⟩ = some (.slice ao out.length co) ∧ w1.frozen? ⟨B2, 0, none⟩ = false ∧ w1.cell? (ad.add (e.length - 1)) = some (.int .i64 z) := ⟨g2, c2, f2, kz⟩
  have HLT : Aside0 (B2 < w1.heap.size ∧ ad.block < w1.heap.size) := ⟨blk_lt g2, Kd.R_lt HO.out ad.block rfl⟩
  have HRW := Aside0.mk (Kd.R_below HR.out HB1.out)
  have HBB := Aside0.mk (below_then HBE.out HBE.out.size HB1.out)
  have eb : Aside0 ((ad.add (e.length - 1)).block = ad.block) := ⟨by simp [Go.Addr.add]; try (split <;> rfl)⟩
  have HNB : Aside0 (ad.block ≠ B2) := ⟨fun e_ => by have h1_ := blk_lt HV.out; have h2_ := Kd.R_base HO.out ad.block rfl; omega⟩
  rw [show ({ dst := some 8, op := Op.load 22 (Operand.tmp 2), type := 22, pos := "l22_rulers.go:137", after := #[], guard := none } : Oper) = reachLoad from rfl]
  go_region_held3 (fun w' => w'.cell? (ad.add (e.length - 1)) = some (.int .i64 z))
    (first | exact kz | (refine (hbs.cell ?_).trans (by assumption); rw [eb.out]; exact HLT.out.2) | (refine ((below_alloc (Below.refl w2.heap.size w2) _).cell (by rw [eb.out]; exact Nat.lt_of_lt_of_le HLT.out.2 hbs.size)).trans ((hbs.cell (by rw [eb.out]; exact HLT.out.2)).trans kz)) | (refine (hg3.cell_far _ (by rw [eb.out]; exact Nat.lt_of_lt_of_le HLT.out.2 hbs.size) (by rw [eb.out]; exact HNE2.out)).trans ?_; refine ((below_alloc (Below.refl w2.heap.size w2) (.cells #[.int .i64 m] 3)).cell ?_).symm.trans (by assumption); rw [eb.out]; exact Nat.lt_of_lt_of_le HLT.out.2 hbs.size) | (refine (World.cell?_of_block (Below.heap_setCell w3 ⟨B2, 0, none⟩ _ _ ?_)).trans (by assumption); rw [eb.out]; exact HNB.out))
    (first | (go_at_call 34; refine (impl_size.calls z m _ HM2.out).mono ?_; rintro e2 w2 ⟨rfl, hbs⟩; have c2b := (hbs.cell (p := ⟨B2, 0, none⟩) HLT.out.1).trans c2; have c2d := ((below_alloc (Below.refl w2.heap.size w2) (.cells #[.int .i64 m] 3)).cell (p := ⟨B2, 0, none⟩) (Nat.lt_of_lt_of_le HLT.out.1 hbs.size)).trans c2b) | (refine Kd.R_append_step (Kd.int .i64) (w0 := w) w.heap.size (by rfl) (.tmp 8) (.tmp 16) 22 3 (.int .i64 0) 8 (by rfl) Try.underlying22 info3 (by rfl) (by decide) (by omega) (.slice ao out.length co) out m [.int .i64 m] (fun k_ => k_ ≠ B ∧ k_ ≠ B2) (fun _ => False) (by rfl) (by rfl) rfl (fun _ hk => hk.elim) ?aF ?aO ?aB ?aS ?aL ?_; (case aF => intro k_ hk_; have h1_ := HLT.out.1; have h2_ : w1.heap.size ≤ w2.heap.size := hbs.size; have h3_ := blk_lt HA.out; have h4_ : w'.heap.size ≤ w1.heap.size := HB1.out.size; exact ⟨by omega, by omega⟩); (case aO => exact Kd.R_below (Kd.R_drew HRW.out) hbs); (case aB => exact below_then (below_drew HBB.out) HBB.out.size hbs); (case aS => exact Nat.le_trans HBB.out.size hbs.size); (case aL => omega); intro v3 w3 ho3 hb3 hg3 hat3; obtain ⟨a3, c3, rfl⟩ := Kd.R_slice ho3; have g3 := blk_grown (w := w2) (g := B2) (o := .cells #[.slice ao out.length co] 22 (0, 0)) ((hbs.block _ HLT.out.1).trans g2) hg3 HNE1.out; have c3c := (cell_of_one g3).1; have f3c := (cell_of_one g3).2))
  all_goals
    have gB := blk_grown (w := w2) (g := B) (o := .cells #[.slice A l0.length c] 22 (0, 0)) ((hbs.block B (Nat.lt_of_lt_of_le (blk_lt HA.out) HB1.out.size)).trans ((HB1.out.block _ (blk_lt HA.out)).trans HA.out)) hg3 HNE0.out
    have gN := blk_grown (w := w2) (g := B2) (o := .cells #[.slice ao out.length co] 22 (0, 0)) ((hbs.block B2 HLT.out.1).trans g2) hg3 HNE1.out
    first | go_end0 | ((try simp only [Exit.inBlock, Exit.then]); refine bodyPost_ret (results_none rfl _ _ _) rfl ?_)
    exact ⟨rfl, blk_far gB (by first | exact hbb | exact hbb.symm | (simp; omega)) _, _, by simpa using blk_set gN 0 (.slice a3 (out.length + 1) c3), Kd.R_far (by simpa using ho3) (fun k_ hk_ => hk_.2) _, below_set hb3 (by omega)⟩
/-- What the first j layings reach. -/
def reachL (k : Nat) (l0 : List Int) (n : Nat) : Nat → Option (List Int)
  | 0 => some []
  | j + 1 => (reachL k l0 n j).bind fun out => (impl_ends.f k l0 (layS n j)).bind fun e => if 1 ≤ e.length ∧ out.length < 1048576 then (impl_size.f (rd e ((e.length : Int) - 1))).bind fun m => some (out ++ [m]) else none
theorem reachL_le {k : Nat} {l0 : List Int} {n : Nat} : ∀ {j i : Nat}, i ≤ j → (∃ b, reachL k l0 n j = some b) → ∃ b, reachL k l0 n i = some b := by
  intro j
  induction j with
  | zero => intro i h hb; rw [Nat.le_zero.1 h]; exact hb
  | succ j ih =>
    intro i h hb
    by_cases e : i = j + 1
    · rw [e]; exact hb
    · obtain ⟨b, hb⟩ := hb
      simp only [reachL] at hb
      obtain ⟨b1, h1, _⟩ := Option.bind_eq_some_iff.1 hb
      exact ih (by omega) ⟨b1, h1⟩
def impl_ReachOf.f (k : Nat) (l0 : List Int) : Option (List Int) := (impl_RulerOk.f l0).bind fun t => if t = true then (if 1 ≤ l0.length ∧ l0.length ≤ 10 then (reachL k l0 l0.length (2 ^ l0.length)).bind fun out => (slices_Sort_int_int.f out).bind fun s => slices_Compact_int_int.f s else none) else some []
theorem reachL_mono : ∀ a0 n j k, LeO (reachL k a0 n j) (reachL (k + 1) a0 n j) := by
  intro a0 n j k
  induction j with
  | zero => exact LeO.refl _
  | succ j ih =>
    simp only [reachL]
    refine LeO.bind ih (fun _ => ?_)
    exact LeO.bind (impl_ends.mono _ _ _) (fun _ => LeO.refl _)
theorem impl_ReachOf.mono : ∀ a0 k, LeO (impl_ReachOf.f k a0) (impl_ReachOf.f (k + 1) a0) := by
  intro a0 k
  unfold impl_ReachOf.f
  refine LeO.bind (LeO.refl _) (fun _ => ?_)
  refine LeO.ite ?_ (LeO.refl _)
  exact LeO.ite (LeO.bind (reachL_mono _ _ _ _) (fun _ => LeO.refl _)) (LeO.refl _)
structure ReachInv (k : Nat) (l0 : List Int) (w : World) (A : Option Addr) (c B B2 j : Nat) (w' : World) : Prop where
  ex : ∃ (out : List Int) (v : Value), reachL k l0 l0.length j = some out ∧ w'.heap[B2]? = some (.cells #[v] 22 (0, 0)) ∧ Kd.R (Kd.int .i64) 3 w' w.heap.size (fun k_ => k_ ≠ B ∧ k_ ≠ B2) v out
  parts : w'.heap[B]? = some (.cells #[.slice A l0.length c] 22 (0, 0))
  below : Below w.heap.size w w'
  base : w.heap.size ≤ B ∧ w.heap.size ≤ B2 ∧ B2 ≠ B
theorem ReachInv.step {k : Nat} {l0 : List Int} {w : World} {A : Option Addr} {c B B2 j : Nat} {w' w'' : World} (h : ReachInv k l0 w A c B B2 j w') (hb : Below w'.heap.size w' w'') : ReachInv k l0 w A c B B2 j w'' := by
  obtain ⟨⟨out, v, h1, h2, h3⟩, h4, h5, h6⟩ := h
  exact ⟨⟨out, v, h1, (hb.block _ (blk_lt h2)).trans h2, Kd.R_below h3 hb⟩, (hb.block _ (blk_lt h4)).trans h4, below_then h5 h5.size hb, h6⟩
theorem ReachInv.next (k : Nat) (l0 : List Int) (w : World) (A : Option Addr) (c B B2 j : Nat) (w' : World) (hr0 : Kd.C (Kd.int .i64) w A l0.length l0) (hc0 : l0.length ≤ c) (hI : ReachInv k l0 w A c B B2 j w') (hs : ∃ b, reachL k l0 l0.length (j + 1) = some b) :
    Calls Try.prog 33 #[.string (layS l0.length j), .pointer (some ⟨B, 0, none⟩), .pointer (some ⟨B2, 0, none⟩)] w' fun e w'' => e = .returned (.tuple #[]) ∧ ReachInv k l0 w A c B B2 (j + 1) w'' := by
  obtain ⟨⟨out, v, h1, h2, h3⟩, h4, h5, h6⟩ := hI
  obtain ⟨b', hb'⟩ := hs
  have hb2 := hb'
  simp only [reachL, h1, Option.bind_some] at hb2
  obtain ⟨e, he, hb2⟩ := Option.bind_eq_some_iff.1 hb2
  by_cases hq : 1 ≤ e.length ∧ out.length < 1048576
  case neg => rw [if_neg hq] at hb2; cases hb2
  rw [if_pos hq] at hb2
  obtain ⟨m, hm, hb2⟩ := Option.bind_eq_some_iff.1 hb2
  obtain rfl := Option.some.inj hb2
  refine (impl_ReachOf_1.calls k l0 w A c B B2 j w' hr0 hc0 h4 v h2 out h3 h5 h6.1 h6.2.1 h6.2.2 e he hq.1 m hm hq.2).mono ?_
  rintro e2 w2 ⟨rfl, g1, v1, g2, g3, g4⟩
  exact ⟨rfl, ⟨_, v1, hb', g2, g3⟩, g1, g4, h6⟩
set_option maxHeartbeats 4000000 in
set_option maxRecDepth 100000 in
theorem impl_ReachOf.calls (k : Nat) (A0 : Option Addr) (c0 : Nat) (l0 : List Int) (r : List Int) (w : World) (hr0 : Kd.C (Kd.int .i64) w A0 l0.length l0) (hc0 : l0.length ≤ c0) (h : impl_ReachOf.f k l0 = some r) :
    Calls Try.prog 19 #[.slice A0 l0.length c0] w fun e w' => ∃ v0_ : Value, e = .returned (v0_) ∧ Kd.R (Kd.int .i64) 3 w' w.heap.size (fun _ => True) v0_ r ∧ Below w.heap.size w w' := by
  unfold impl_ReachOf.f at h
  obtain ⟨t, ht, h⟩ := Option.bind_eq_some_iff.1 h
  have HR0 := Aside0.mk hr0
  have HC0 := Aside0.mk hc0
  have HT := Aside0.mk ht
  have H := Aside0.mk h
  clear h hr0 hc0 ht
  go_enter Try.func19, Try.ntmps19
  go_wp2_with fail
  refine (impl_RulerOk.calls A0 c0 l0 t _ (Kd.C_alloc HR0.out _) HC0.out HT.out).mono ?_
  rintro e w1 ⟨rfl, hb⟩
  have HB := Aside0.mk (below_then (below_alloc (Below.refl _ _) _) (by simp) hb)
  have GA : Aside0 (w1.heap[w.heap.size]? = some (.cells #[.slice A0 l0.length c0] 22 (0, 0))) := ⟨(hb.block _ (by simp)).trans (heap_alloc_new w _)⟩
  clear hb HT
  by_cases ct : t = true
  · subst ct
    have H2 := H.out
    rw [if_pos rfl] at H2
    by_cases hn : 1 ≤ l0.length ∧ l0.length ≤ 10
    case neg => rw [if_neg hn] at H2; cases H2
    rw [if_pos hn] at H2
    obtain ⟨out, hout, H2⟩ := Option.bind_eq_some_iff.1 H2
    obtain ⟨so, hso, H2⟩ := Option.bind_eq_some_iff.1 H2
    have HN := Aside0.mk hn
    have HOUT := Aside0.mk hout
    have HSO := Aside0.mk hso
    have HCO := Aside0.mk H2
    clear H hn hout hso H2
    have eg : ∀ args w, (callFunc 33 args).run Try.prog w = .ok (.enter 33 args) w := enters_of Try.func33 (by kernel_rfl) rfl
    go_wp2_with (first | ((with_reducible refine gate_dst (N := 7) rfl ?_); refine Kd.R_lit (Kd.int .i64) w.heap.size 3 ?hg (N := 7) ?hd (xs := ([] : List Int)) (inner := []) (ok := fun k_ => k_ = w1.heap.size) (okp := fun _ => False) ?hr ?hp (fun _ hk => hk.elim) rfl HB.out HB.out.size (by simp) ?_; (case hd => rfl); (case hg => rfl); (case hr => first | (go_simp; done) | (go_simp; rfl)); (case hp => exact Reps.none _ _); intro v3 w3 ho hb hg_ hnew_; have HO := Aside0.mk ho; have HB3 := Aside0.mk hb; have HG := Aside0.mk hg_; have HNW := Aside0.mk hnew_; have GA3 := Aside0.mk (blk_grown GA.out HG.out (by simp)); obtain ⟨a3, c3, rfl⟩ := Kd.R_slice ho; have c1 := (cell_of_one (blk_alloc GA3.out (.cells #[.slice a3 0 c3] 22))).1; clear ho hb hg_ hnew_))
    have HC := Aside0.mk (impl_eachLaying.calls (ReachInv k l0 w A0 c0 w.heap.size w3.heap.size) 33 #[.pointer (some ⟨w.heap.size, 0, none⟩), .pointer (some ⟨w3.heap.size, 0, none⟩)] eg A0 c0 l0.length)
    refine (HC.out _ HN.out.1 HN.out.2 (fun j w' w'' h hb => h.step hb) (fun j w' hj hI => ReachInv.next k l0 w A0 c0 w.heap.size w3.heap.size j w' HR0.out HC0.out hI (reachL_le hj ⟨_, HOUT.out⟩)) ?_).mono ?_
    · exact ⟨⟨[], _, rfl, heap_alloc_new _ _, Kd.R_alloc (Kd.R_mono (Kd.R_bound HO.out) (fun k_ hk_ => by have h1_ := blk_lt GA.out; have h2_ := hk_.1; have h3_ := hk_.2.2.1; exact ⟨by omega, by omega⟩)) _⟩, blk_alloc GA3.out _, below_alloc HB3.out _, Nat.le_refl _, HB3.out.size, by have h1_ := blk_lt GA3.out; omega⟩
    · rintro e w4 ⟨rfl, hI⟩
      obtain ⟨⟨out2, v, h1, h2, h3⟩, h4, h5, h6⟩ := hI
      obtain rfl : out2 = out := Option.some.inj (h1.symm.trans HOUT.out)
      obtain ⟨a5, c5, rfl⟩ := Kd.R_slice h3
      have c2 := (cell_of_one h2).1
      have G2 := Aside0.mk h2
      have H3 := Aside0.mk h3
      have H5 := Aside0.mk h5
      clear h1 h2 h3 h4 h5 h6 HC HOUT HO GA GA3 HG HNW c1 eg
      obtain ⟨B2, hB2⟩ : ∃ B2, B2 = w3.heap.size := ⟨_, rfl⟩
      rw [← hB2] at c2 G2 H3 ⊢
      clear hB2 HB3
      go_wp2_with fail
      refine (slices_Sort_int_int.calls (fun k_ => k_ ≠ w.heap.size ∧ k_ ≠ B2) _ out2 so w w4 H5.out H3.out HSO.out).mono ?_
      rintro e w5 ⟨rfl, ho5, hb5, hk5⟩
      have c3 := (cell_of_one (blk_kept G2.out hk5 (fun hn_ => hn_.2 rfl))).1
      have HO5 := Aside0.mk ho5
      have HB5 := Aside0.mk hb5
      clear ho5 hb5 hk5 c2
      go_wp2_with fail
      refine (slices_Compact_int_int.calls _ _ so r w w5 HB5.out HO5.out HCO.out).mono ?_
      rintro e w6 ⟨v6, rfl, ho6, hb6, hk6⟩
      have HO6 := Aside0.mk ho6
      have HB6 := Aside0.mk hb6
      clear ho6 hb6 hk6
      go_wp2
      go_ret
      exact ⟨_, rfl, Kd.R_mono HO6.out (fun _ _ => trivial), HB6.out⟩
  · have ct2 : t = false := by cases t <;> simp_all
    subst ct2
    have H2 := H.out
    rw [if_neg (by simp)] at H2
    obtain rfl := Option.some.inj H2
    go_wp2
    go_ret
    exact ⟨_, rfl, Kd.R_nil _ _ _ _ _, HB.out⟩

end Go.Proofs.Ytjjdahnjindgaaa.PA
