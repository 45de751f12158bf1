/- Texts of this claim put together in build order (FnExactFirstStroke). -/
import Derived.Test.YtcdajmbnijmdfaaMFirstStroke0
import Derived.Test.YtcdajmbnijmdfaaMFirstStroke3
import Derived.Test.YtcdajmbnijmdfaaMFirstStroke1
import Derived.Test.YtcdajmbnijmdfaaMFirstStroke2
-- Written for this claim by a program of this session's (ownprint.py), by way of the kit's print and hand-proved texts. Lean checks it.
namespace Go.Proofs.Ytcdajmbnijmdfaa.PA
open Go.RowKit Go.Proofs.YtcdajmbnijmdfaaW.PrintWords Go.Proofs.YtcdajmbnijmdfaaW.PrintLast Go.Proofs.YtcdajmbnijmdfaaW.PrintMore
attribute [local go_sem] max2_int min2_int max_two min_two max_three min_three max_four min_four   -- for this text's walks alone
set_option linter.unusedVariables false
set_option linter.unusedSimpArgs false
mutual
def spec_l23Trace.g : Nat → List (List Int) → Int → Int → List Bool → Option (List Int × Bool × List Bool)
  | 0, _, _, _, _ => none
  | k + 1, ls, a, u, fl => if u = wrap64 ((shl .i64 1 (ls.length : Int)) - 1) then some ([], true, fl) else (if 0 ≤ wrap64 (wrap64 (u * 8) + a) ∧ wrap64 (wrap64 (u * 8) + a) < (fl.length : Int) then (if rdOf false fl (wrap64 (wrap64 (u * 8) + a)) = true then some ([], false, fl) else spec_l23Trace.l k ls a u fl 0) else none)
def spec_l23Trace.l : Nat → List (List Int) → Int → Int → List Bool → Int → Option (List Int × Bool × List Bool)
  | 0, _, _, _, _, _ => none
  | k + 1, ls, a, u, fl, x => if x < (ls.length : Int) then (if 0 ≤ x ∧ (rd_L1 ls x).length = 2 then (if Go.bits .and .i64 (shr .i64 u x) 1 = 1 then spec_l23Trace.l k ls a u fl (wrap64 (x + 1)) else (if rd (rd_L1 ls x) 0 = a ∨ rd (rd_L1 ls x) 1 = a then ((spec_l23Trace.g k ls (wrap64 (wrap64 (rd (rd_L1 ls x) 0 + rd (rd_L1 ls x) 1) - a)) (wrap64 (u + shl .i64 1 x)) fl).bind fun t => if t.2.1 = true then (if t.1.length < 1000 then some (x :: t.1, true, t.2.2) else none) else spec_l23Trace.l k ls a u t.2.2 (wrap64 (x + 1))) else spec_l23Trace.l k ls a u fl (wrap64 (x + 1)))) else none) else (if 0 ≤ wrap64 (wrap64 (u * 8) + a) ∧ wrap64 (wrap64 (u * 8) + a) < (fl.length : Int) then some ([], false, fl.set (wrap64 (wrap64 (u * 8) + a)).toNat true) else none)
end
theorem tr_shl (n : Nat) : shl .i64 1 (n : Int) = wrap64 (2 ^ min n 64) := by
  unfold shl
  rw [Int.toNat_natCast, IntKind.wrap_i64]
  simp [IntKind.bits, wrap64]
theorem tr_shl1 (x : Int) : shl .i64 1 x = wrap64 (2 ^ min x.toNat 64) := by
  unfold shl
  rw [IntKind.wrap_i64]
  simp [IntKind.bits, wrap64]
theorem tr_shr (u x : Int) : shr .i64 u x = u / 2 ^ min x.toNat 64 := rfl
theorem tr_wrap (n : Int) : wrap64 n = IntKind.i64.wrap n := by
  rw [IntKind.wrap_i64]
  unfold wrap64
  omega
theorem tr_row {W : World} {base g : Nat} {xs : List Int} (hb : W.heap[g]? = some (.cells (xs.map (Value.int .i64)).toArray 3 (0, 0))) (hg : base ≤ g) (hl : xs.length ≤ 9223372036854775807) : Kd.R (Kd.int .i64) 3 W base (fun _ => True) (.slice (some ⟨g, 0, none⟩) xs.length xs.length) xs :=
  ⟨fun k hk => trivial, xs.map (Value.int .i64), ⟨by simp [Kd.int, Kd.scalar], .inr ⟨g, xs.length, _, rfl, hg, hb, Nat.le_refl _, hl, by simp [Kd.int, Kd.scalar], by simp [Kd.int, Kd.scalar, List.take_of_length_le]⟩⟩, Kd.reps_scalar _⟩
set_option maxHeartbeats 4000000 in
set_option maxRecDepth 100000 in
theorem spec_l23Trace.calls_g (w0 : World) (g cap : Nat) (A : Option Addr) (c : Nat) (ls : List (List Int)) (hr0 : Kd.C (Kd.slice 3 (Kd.int .i64)) w0 A ls.length ls) (hg0 : w0.heap.size ≤ g) (k : Nat) :
    ∀ (a u : Int) (fl : List Bool) (w : World) (r : List Int × Bool × List Bool), spec_l23Trace.g k ls a u fl = some r → Below w0.heap.size w0 w → Kd.R Kd.bool 4 w w0.heap.size (fun k => k = g) (.slice (some ⟨g, 0, none⟩) fl.length cap) fl →
    Calls Try.prog 51 #[.slice A ls.length c, .int .i64 a, .int .i64 u, .slice (some ⟨g, 0, none⟩) fl.length cap] w fun e w' => ∃ v, e = .returned (.tuple #[v, .bool r.2.1]) ∧ Kd.R (Kd.int .i64) 3 w' w0.heap.size (fun _ => True) v r.1 ∧ Kd.R Kd.bool 4 w' w0.heap.size (fun k => k = g) (.slice (some ⟨g, 0, none⟩) fl.length cap) r.2.2 ∧ r.2.2.length = fl.length ∧ Below w0.heap.size w0 w' := by
  induction k using Nat.strongRecOn with
  | _ k ih =>
  intro a u fl w r h hB hF
  cases k with
  | zero => simp [spec_l23Trace.g] at h
  | succ k =>
  rw [spec_l23Trace.g] at h
  have HR0 := Aside0.mk hr0
  have HG0 := Aside0.mk hg0
  clear hr0 hg0
  by_cases c1 : u = wrap64 ((shl .i64 1 (ls.length : Int)) - 1)
  · rw [if_pos c1] at h
    have c1b : (u == wrap64 (wrap64 (2 ^ min ls.length 64) - 1)) = true := by rw [tr_shl] at c1; exact beq_iff_eq.2 c1
    have HS := Aside0.mk (Option.some.inj h)
    have HB := Aside0.mk hB
    have HF := Aside0.mk hF
    clear hB hF h ih c1
    go_enter Try.func51, Try.ntmps51
    go_wp2
    go_ret2
    rw [← HS.out]
    have hb1 : Below w.heap.size w (w.alloc (.cells #[] 3)) := below_alloc (Below.refl _ _) _
    exact ⟨_, rfl, tr_row (xs := []) (g := w.heap.size) (by simpa using heap_alloc_new w (.cells #[] 3)) HB.out.size (by simp), Kd.R_below HF.out hb1, rfl, below_then HB.out HB.out.size hb1⟩
  · rw [if_neg c1] at h
    have c1b : (u == wrap64 (wrap64 (2 ^ min ls.length 64) - 1)) = false := by rw [tr_shl] at c1; exact beq_eq_false_iff_ne.2 c1
    clear c1
    by_cases c2 : 0 ≤ wrap64 (wrap64 (u * 8) + a) ∧ wrap64 (wrap64 (u * 8) + a) < (fl.length : Int)
    case neg => rw [if_neg c2] at h; cases h
    rw [if_pos c2] at h
    obtain ⟨c2a, c2b⟩ := c2
    obtain ⟨hcell, hfr⟩ := Kd.R_celln false hF (wrap64 (wrap64 (u * 8) + a)) c2a c2b
    clear hfr
    by_cases c3 : rdOf false fl (wrap64 (wrap64 (u * 8) + a)) = true
    · rw [if_pos c3] at h
      rw [c3] at hcell
      have HS := Aside0.mk (Option.some.inj h)
      have HB := Aside0.mk hB
      have HF := Aside0.mk hF
      clear hB hF h ih c3
      go_enter Try.func51, Try.ntmps51
      go_wp2
      go_ret2
      rw [← HS.out]
      exact ⟨_, rfl, Kd.R_nil _ _ _ _ _, HF.out, rfl, HB.out⟩
    · rw [if_neg c3] at h
      replace c3 := Bool.eq_false_iff.mpr c3
      rw [c3] at hcell
      have H := Aside0.mk h
      have HB := Aside0.mk hB
      have HF := Aside0.mk hF
      have IH := Aside0.mk ih
      have C2 := Aside0.mk (And.intro c2a c2b)
      clear hB hF h ih c3
      go_enter Try.func51, Try.ntmps51
      go_wp2
      clear hcell c1b c2a c2b
      go_loopg [30] k (fun kq v30 wr => ∃ (x : Int) (fl2 : List Bool), v30 = .int .i64 x ∧ Aside0 (spec_l23Trace.l kq ls a u fl2 x = some r) ∧ Aside0 (kq ≤ k) ∧ Aside0 (fl2.length = fl.length) ∧ Aside0 (Below w0.heap.size w0 wr) ∧ Aside0 (Kd.R Kd.bool 4 wr w0.heap.size (fun k => k = g) (.slice (some ⟨g, 0, none⟩) fl.length cap) fl2))
      case atStart => exact ⟨0, fl, rfl, H, ⟨Nat.le_refl _⟩, ⟨rfl⟩, HB, HF⟩
      case round =>
        clear HB HF H
        obtain ⟨x, fl2, rfl, HA, HKQ, HL, HB, HF⟩ := hrel
        cases gk with
        | zero => exact absurd HA.out (by simp [spec_l23Trace.l])
        | succ k3 =>
          have h := HA.out
          clear HA
          rw [spec_l23Trace.l] at h
          obtain ⟨wo, rfl⟩ : ∃ x, x = wr := ⟨_, rfl⟩
          by_cases c4 : x < (ls.length : Int)
          · rw [if_pos c4] at h
            by_cases c5 : 0 ≤ x ∧ (rd_L1 ls x).length = 2
            case neg => rw [if_neg c5] at h; cases h
            rw [if_pos c5] at h
            obtain ⟨c5, c52⟩ := c5
            obtain ⟨ad, Ar, cr, e, hx, hl, hi⟩ := at_L1 HR0.out x c5 c4
            cases e
            rw [c52] at hx hl hi
            obtain ⟨ad1, e1, h0⟩ := Kd.at_int hi 0 (by omega) (by omega)
            cases e1
            obtain ⟨ad2, e2, h1⟩ := Kd.at_int hi 1 (by omega) (by omega)
            obtain rfl : ad1 = ad2 := by injection e2
            clear e2 hl hi c52
            rw [show ((0 : Int)).toNat = 0 from rfl, Addr.add_zero'] at h0
            simp only [show (1 : Int).toNat = 1 from rfl, Nat.reduceMul, Nat.reduceEqDiff, Go.Addr.add, ↓reduceIte] at h1
            have H0 := Aside0.mk h0
            have H1 := Aside0.mk h1
            clear h0 h1
            have hx0 := (HB.out.cell (World.block_lt_of_cell? w0 _ H0.out)).trans H0.out
            have hx1 := (HB.out.cell (World.block_lt_of_cell? w0 _ H1.out)).trans H1.out
            replace hx := (HB.out.cell (World.block_lt_of_cell? w0 _ hx)).trans hx
            have p5 := eq_true c5
            by_cases c6 : Go.bits .and .i64 (shr .i64 u x) 1 = 1
            · rw [if_pos c6] at h
              have c6b : (Go.bits .and .i64 (u / 2 ^ min x.toNat 64) 1 == 1) = true := by rw [tr_shr] at c6; exact beq_iff_eq.2 c6
              have HH := Aside0.mk h
              clear h c6
              go_wp2
              go_roundg k3
              case measure => have := HKQ.out; omega
              case rel => exact ⟨wrap64 (x + 1), fl2, rfl, HH, ⟨by have := HKQ.out; omega⟩, HL, HB, HF⟩
            · rw [if_neg c6] at h
              have c6b : (Go.bits .and .i64 (u / 2 ^ min x.toNat 64) 1 == 1) = false := by rw [tr_shr] at c6; exact beq_eq_false_iff_ne.2 c6
              clear c6
              by_cases c7 : rd (rd_L1 ls x) 0 = a
              · rw [if_pos (Or.inl c7)] at h
                have c7b : (rd (rd_L1 ls x) 0 != a) = false := bne_eq_false_iff_eq.2 c7
                have HH := Aside0.mk h
                clear h c7
                go_wp2
                have HHX := HH.out
                obtain ⟨t, ht, h⟩ := Option.bind_eq_some_iff.1 HHX
                obtain ⟨rest, ok2, fl3⟩ := t
                rw [tr_shl1] at ht
                have HIH : Aside0 (∀ W, Below w0.heap.size w0 W → Kd.R Kd.bool 4 W w0.heap.size (fun k => k = g) (.slice (some ⟨g, 0, none⟩) fl.length cap) fl2 → Calls Try.prog 51 #[.slice (some ad) ls.length c, .int .i64 (IntKind.i64.wrap (IntKind.i64.wrap (rd (rd_L1 ls x) 0 + rd (rd_L1 ls x) 1) - a)), .int .i64 (IntKind.i64.wrap (u + IntKind.i64.wrap (2 ^ min x.toNat 64))), .slice (some ⟨g, 0, none⟩) fl.length cap] W fun e w' => ∃ v, e = .returned (.tuple #[v, .bool ok2]) ∧ Kd.R (Kd.int .i64) 3 w' w0.heap.size (fun _ => True) v rest ∧ Kd.R Kd.bool 4 w' w0.heap.size (fun k => k = g) (.slice (some ⟨g, 0, none⟩) fl.length cap) fl3 ∧ fl3.length = fl.length ∧ Below w0.heap.size w0 w') := ⟨fun W hb hf => by
                  have h1_ := IH.out k3 (by have := HKQ.out; omega) _ _ fl2 W _ ht hb (by rw [HL.out]; exact hf)
                  rw [HL.out] at h1_
                  simp only [tr_wrap] at h1_
                  exact h1_⟩
                clear ht HH HHX hx
                cases ok2 with
                | true =>
                  rw [if_pos rfl] at h
                  by_cases c9 : rest.length < 1000
                  case neg => rw [if_neg c9] at h; cases h
                  rw [if_pos c9] at h
                  have HE := Aside0.mk (Option.some.inj h)
                  have HL9 := Aside0.mk c9
                  clear h c9
                  go_region_held3 (fun w' => w'.cell? ad1 = some (.int .i64 (rd (rd_L1 ls x) 0)) ∧ w'.cell? ⟨ad1.block, ad1.off + 1, none⟩ = some (.int .i64 (rd (rd_L1 ls x) 1)))
                    (first | exact ⟨hx0, hx1⟩ | exact ⟨(HB6.out.cell (World.block_lt_of_cell? w0 _ H0.out)).trans H0.out, (HB6.out.cell (World.block_lt_of_cell? w0 _ H1.out)).trans H1.out⟩)
                    (first | (go_simp; go_at_call 51; refine (HIH.out _ ?b1 ?b2).mono ?_; (case b1 => exact below_drew HB.out); (case b2 => exact Kd.R_drew HF.out); rintro e w6 ⟨v6, rfl, hv6, hF6, hl6, hB6⟩; obtain ⟨Av, cv, rfl⟩ := Kd.R_slice hv6; have HV6 := Aside0.mk hv6; have HF6 := Aside0.mk hF6; have HB6 := Aside0.mk hB6; have HL6 := Aside0.mk hl6; clear hv6 hF6 hB6 hl6))
                  go_wp2_with (first | ((with_reducible refine gate_dst (N := 75) rfl ?_); refine Kd.R_lit (Kd.int .i64) _ 3 ?hg (N := 75) ?hd (xs := ([x] : List Int)) (inner := [.int .i64 x]) (ok := fun _ => True) (okp := fun _ => True) ?hr ?hp (fun _ hk => hk) trivial (Below.refl _ _) (Nat.le_refl _) (by simp) ?_; (case hd => rfl); (case hg => rfl); (case hr => first | (go_simp; done) | (go_simp; rfl)); (case hp => exact (Reps.one (show Kd.M (Kd.int .i64) _ _ _ x [.int .i64 x] from rfl) (Reps.none _ _))); intro v75 w7 ho7 hb7 hg7 hn7; clear hg7 hn7; have HO7 := Aside0.mk ho7; have HB7 := Aside0.mk hb7; clear ho7 hb7) | ((with_reducible refine gate_builtin (b := .append) (xs := #[.tmp 75, .tmp 76]) rfl ?_); at_builtin; refine Kd.R_append_rows (Kd.int .i64) (w0 := w6) w6.heap.size rfl (.tmp 75) (.tmp 76) 27 3 (.int .i64 0) 8 rfl Try.underlying27 info3 rfl (by decide) (by omega) v75 [x] rest _ _ _ (fun _ => True) (fun _ => False) rfl rfl ?aO ?aR (fun _ _ h => h) (fun _ h => h.elim) (fun _ _ => trivial) ?aB ?aS ?aL ?_; (case aO => exact HO7.out); (case aR => exact Kd.C_below (Kd.R_reads' HV6.out).2.2 HB7.out); (case aB => exact HB7.out); (case aS => exact HB7.out.size); (case aL => have := HL9.out; simp; omega); intro v8 w8 ho8 hb8 hg8 hat8; have HO8 := Aside0.mk ho8; have HB8 := Aside0.mk hb8; clear ho8 hb8 hg8 hat8))
                  go_ret2
                  rw [← HE.out]
                  exact ⟨_, rfl, Kd.R_lower HO8.out HB6.out.size, Kd.R_below HF6.out HB8.out, HL6.out, below_then HB6.out HB6.out.size HB8.out⟩
                | false =>
                  rw [if_neg (by simp)] at h
                  have HE := Aside0.mk h
                  clear h
                  go_region_held3 (fun w' => w'.cell? ad1 = some (.int .i64 (rd (rd_L1 ls x) 0)) ∧ w'.cell? ⟨ad1.block, ad1.off + 1, none⟩ = some (.int .i64 (rd (rd_L1 ls x) 1)))
                    (first | exact ⟨hx0, hx1⟩ | exact ⟨(HB6.out.cell (World.block_lt_of_cell? w0 _ H0.out)).trans H0.out, (HB6.out.cell (World.block_lt_of_cell? w0 _ H1.out)).trans H1.out⟩)
                    (first | (go_simp; go_at_call 51; refine (HIH.out _ ?b1 ?b2).mono ?_; (case b1 => exact below_drew HB.out); (case b2 => exact Kd.R_drew HF.out); rintro e w6 ⟨v6, rfl, hv6, hF6, hl6, hB6⟩; obtain ⟨Av, cv, rfl⟩ := Kd.R_slice hv6; have HV6 := Aside0.mk hv6; have HF6 := Aside0.mk hF6; have HB6 := Aside0.mk hB6; have HL6 := Aside0.mk hl6; clear hv6 hF6 hB6 hl6))
                  go_wp2
                  go_roundg k3
                  case measure => have := HKQ.out; omega
                  case rel => exact ⟨wrap64 (x + 1), fl3, rfl, HE, ⟨by have := HKQ.out; omega⟩, HL6, HB6, HF6⟩
              · have c7b : (rd (rd_L1 ls x) 0 != a) = true := bne_iff_ne.2 c7
                by_cases c8 : rd (rd_L1 ls x) 1 = a
                · rw [if_pos (Or.inr c8)] at h
                  have c8b : (rd (rd_L1 ls x) 1 != a) = false := bne_eq_false_iff_eq.2 c8
                  have HH := Aside0.mk h
                  clear h c7 c8
                  go_wp2
                  have HHX := HH.out
                  obtain ⟨t, ht, h⟩ := Option.bind_eq_some_iff.1 HHX
                  obtain ⟨rest, ok2, fl3⟩ := t
                  rw [tr_shl1] at ht
                  have HIH : Aside0 (∀ W, Below w0.heap.size w0 W → Kd.R Kd.bool 4 W w0.heap.size (fun k => k = g) (.slice (some ⟨g, 0, none⟩) fl.length cap) fl2 → Calls Try.prog 51 #[.slice (some ad) ls.length c, .int .i64 (IntKind.i64.wrap (IntKind.i64.wrap (rd (rd_L1 ls x) 0 + rd (rd_L1 ls x) 1) - a)), .int .i64 (IntKind.i64.wrap (u + IntKind.i64.wrap (2 ^ min x.toNat 64))), .slice (some ⟨g, 0, none⟩) fl.length cap] W fun e w' => ∃ v, e = .returned (.tuple #[v, .bool ok2]) ∧ Kd.R (Kd.int .i64) 3 w' w0.heap.size (fun _ => True) v rest ∧ Kd.R Kd.bool 4 w' w0.heap.size (fun k => k = g) (.slice (some ⟨g, 0, none⟩) fl.length cap) fl3 ∧ fl3.length = fl.length ∧ Below w0.heap.size w0 w') := ⟨fun W hb hf => by
                    have h1_ := IH.out k3 (by have := HKQ.out; omega) _ _ fl2 W _ ht hb (by rw [HL.out]; exact hf)
                    rw [HL.out] at h1_
                    simp only [tr_wrap] at h1_
                    exact h1_⟩
                  clear ht HH HHX hx
                  cases ok2 with
                  | true =>
                    rw [if_pos rfl] at h
                    by_cases c9 : rest.length < 1000
                    case neg => rw [if_neg c9] at h; cases h
                    rw [if_pos c9] at h
                    have HE := Aside0.mk (Option.some.inj h)
                    have HL9 := Aside0.mk c9
                    clear h c9
                    go_region_held3 (fun w' => w'.cell? ad1 = some (.int .i64 (rd (rd_L1 ls x) 0)) ∧ w'.cell? ⟨ad1.block, ad1.off + 1, none⟩ = some (.int .i64 (rd (rd_L1 ls x) 1)))
                      (first | exact ⟨hx0, hx1⟩ | exact ⟨(HB6.out.cell (World.block_lt_of_cell? w0 _ H0.out)).trans H0.out, (HB6.out.cell (World.block_lt_of_cell? w0 _ H1.out)).trans H1.out⟩)
                      (first | (go_simp; go_at_call 51; refine (HIH.out _ ?b1 ?b2).mono ?_; (case b1 => exact below_drew HB.out); (case b2 => exact Kd.R_drew HF.out); rintro e w6 ⟨v6, rfl, hv6, hF6, hl6, hB6⟩; obtain ⟨Av, cv, rfl⟩ := Kd.R_slice hv6; have HV6 := Aside0.mk hv6; have HF6 := Aside0.mk hF6; have HB6 := Aside0.mk hB6; have HL6 := Aside0.mk hl6; clear hv6 hF6 hB6 hl6))
                    go_wp2_with (first | ((with_reducible refine gate_dst (N := 75) rfl ?_); refine Kd.R_lit (Kd.int .i64) _ 3 ?hg (N := 75) ?hd (xs := ([x] : List Int)) (inner := [.int .i64 x]) (ok := fun _ => True) (okp := fun _ => True) ?hr ?hp (fun _ hk => hk) trivial (Below.refl _ _) (Nat.le_refl _) (by simp) ?_; (case hd => rfl); (case hg => rfl); (case hr => first | (go_simp; done) | (go_simp; rfl)); (case hp => exact (Reps.one (show Kd.M (Kd.int .i64) _ _ _ x [.int .i64 x] from rfl) (Reps.none _ _))); intro v75 w7 ho7 hb7 hg7 hn7; clear hg7 hn7; have HO7 := Aside0.mk ho7; have HB7 := Aside0.mk hb7; clear ho7 hb7) | ((with_reducible refine gate_builtin (b := .append) (xs := #[.tmp 75, .tmp 76]) rfl ?_); at_builtin; refine Kd.R_append_rows (Kd.int .i64) (w0 := w6) w6.heap.size rfl (.tmp 75) (.tmp 76) 27 3 (.int .i64 0) 8 rfl Try.underlying27 info3 rfl (by decide) (by omega) v75 [x] rest _ _ _ (fun _ => True) (fun _ => False) rfl rfl ?aO ?aR (fun _ _ h => h) (fun _ h => h.elim) (fun _ _ => trivial) ?aB ?aS ?aL ?_; (case aO => exact HO7.out); (case aR => exact Kd.C_below (Kd.R_reads' HV6.out).2.2 HB7.out); (case aB => exact HB7.out); (case aS => exact HB7.out.size); (case aL => have := HL9.out; simp; omega); intro v8 w8 ho8 hb8 hg8 hat8; have HO8 := Aside0.mk ho8; have HB8 := Aside0.mk hb8; clear ho8 hb8 hg8 hat8))
                    go_ret2
                    rw [← HE.out]
                    exact ⟨_, rfl, Kd.R_lower HO8.out HB6.out.size, Kd.R_below HF6.out HB8.out, HL6.out, below_then HB6.out HB6.out.size HB8.out⟩
                  | false =>
                    rw [if_neg (by simp)] at h
                    have HE := Aside0.mk h
                    clear h
                    go_region_held3 (fun w' => w'.cell? ad1 = some (.int .i64 (rd (rd_L1 ls x) 0)) ∧ w'.cell? ⟨ad1.block, ad1.off + 1, none⟩ = some (.int .i64 (rd (rd_L1 ls x) 1)))
                      (first | exact ⟨hx0, hx1⟩ | exact ⟨(HB6.out.cell (World.block_lt_of_cell? w0 _ H0.out)).trans H0.out, (HB6.out.cell (World.block_lt_of_cell? w0 _ H1.out)).trans H1.out⟩)
                      (first | (go_simp; go_at_call 51; refine (HIH.out _ ?b1 ?b2).mono ?_; (case b1 => exact below_drew HB.out); (case b2 => exact Kd.R_drew HF.out); rintro e w6 ⟨v6, rfl, hv6, hF6, hl6, hB6⟩; obtain ⟨Av, cv, rfl⟩ := Kd.R_slice hv6; have HV6 := Aside0.mk hv6; have HF6 := Aside0.mk hF6; have HB6 := Aside0.mk hB6; have HL6 := Aside0.mk hl6; clear hv6 hF6 hB6 hl6))
                    go_wp2
                    go_roundg k3
                    case measure => have := HKQ.out; omega
                    case rel => exact ⟨wrap64 (x + 1), fl3, rfl, HE, ⟨by have := HKQ.out; omega⟩, HL6, HB6, HF6⟩
                · rw [if_neg (fun z => z.elim c7 c8)] at h
                  have c8b : (rd (rd_L1 ls x) 1 != a) = true := bne_iff_ne.2 c8
                  have HH := Aside0.mk h
                  clear h c7 c8
                  go_wp2
                  go_roundg k3
                  case measure => have := HKQ.out; omega
                  case rel => exact ⟨wrap64 (x + 1), fl2, rfl, HH, ⟨by have := HKQ.out; omega⟩, HL, HB, HF⟩
          · rw [if_neg c4] at h
            have hc2 := C2.out
            rw [← HL.out] at hc2
            rw [if_pos hc2] at h
            have H1 := Aside0.mk (Option.some.inj h)
            clear h
            obtain ⟨hcell, hfr⟩ := Kd.R_celln false HF.out (wrap64 (wrap64 (u * 8) + a)) hc2.1 (by rw [← HL.out]; exact hc2.2)
            rw [HL.out] at hc2
            obtain ⟨c2a, c2b⟩ := hc2
            have HP := Aside0.mk (Kd.R_putg HF.out (wrap64 (wrap64 (u * 8) + a)) true)
            go_wp2
            go_ret2
            rw [← H1.out]
            exact ⟨_, rfl, Kd.R_nil _ _ _ _ _, HP.out.1, by simp [HL.out], below_set HB.out HG0.out⟩
def spec_FirstStroke.f (k : Nat) (a0 : Int) (l0 : List (List Int)) (a2 : Int) : Option (List Int × Bool) := (spec_IsDrawing.f k a0 l0).bind fun t => if t = true then ((spec_l01In.f a2 0 (wrap64 (a0 - 1))).bind fun t2 => if t2 = true then (if l0.length ≤ 12 then ((spec_l23Trace.g k l0 a2 0 (List.replicate (8 * 2 ^ l0.length) false)).bind fun r => some (r.1, r.2.1)) else none) else some ([], false)) else some ([], false)
theorem tr_eight (n : Nat) (h : n ≤ 12) : wrap64 (8 * 2 ^ min n 64) = ((8 * 2 ^ n : Nat) : Int) ∧ 8 * 2 ^ n ≤ 32768 := by
  have h1 : 2 ^ n ≤ 2 ^ 12 := Nat.pow_le_pow_right (by omega) h
  have h2 : (2 : Nat) ^ 12 = 4096 := rfl
  rw [Nat.min_eq_left (by omega)]
  have e : (8 * 2 ^ n : Int) = ((8 * 2 ^ n : Nat) : Int) := by simp
  rw [e]
  refine ⟨?_, by omega⟩
  generalize hq : 8 * 2 ^ n = q
  have : q ≤ 32768 := by omega
  clear hq e h1 h2
  unfold wrap64
  omega
set_option maxHeartbeats 4000000 in
set_option maxRecDepth 100000 in
theorem spec_FirstStroke.calls (k : Nat) (a0 : Int) (A1 : Option Addr) (c1 : Nat) (l1 : List (List Int)) (a2 : Int) (r1 : List Int) (r2 : Bool) (w : World) (hr1 : Kd.C (Kd.slice 3 (Kd.int .i64)) w A1 l1.length l1) (hc1 : l1.length ≤ c1) (h : spec_FirstStroke.f k a0 l1 a2 = some (r1, r2)) :
    Calls Try.prog 34 #[.int .i64 a0, .slice A1 l1.length c1, .int .i64 a2] w fun e w' => ∃ v0_ : Value, e = .returned (.tuple #[v0_, .bool r2]) ∧ Kd.R (Kd.int .i64) 3 w' w.heap.size (fun _ => True) v0_ r1 ∧ Below w.heap.size w w' := by
  unfold spec_FirstStroke.f at h
  obtain ⟨t, ht, h⟩ := Option.bind_eq_some_iff.1 h
  have HT := Aside0.mk ht
  have HR := Aside0.mk hr1
  have HC := Aside0.mk hc1
  have H := Aside0.mk h
  clear ht hr1 hc1 h
  go_enter Try.func34, Try.ntmps34
  go_wp2_with fail
  refine (spec_IsDrawing.calls k a0 A1 c1 l1 t _ HR.out HC.out HT.out).mono ?_
  rintro e w2 ⟨rfl, hb⟩
  have HB2 := Aside0.mk hb
  clear hb
  have h := H.out
  clear H
  by_cases c1 : t = true
  · subst c1
    rw [if_pos rfl] at h
    obtain ⟨t2, ht2, h⟩ := Option.bind_eq_some_iff.1 h
    have HT2 := Aside0.mk ht2
    have H := Aside0.mk h
    clear ht2 h
    go_wp2_with fail
    refine (spec_l01In.calls a2 0 (wrap64 (a0 - 1)) t2 _ HT2.out).mono ?_
    rintro e w4 ⟨rfl, hd4⟩
    have HB4 : Aside0 (Below w.heap.size w w4) := ⟨below_then HB2.out HB2.out.size hd4.below⟩
    clear hd4
    have h := H.out
    clear H
    by_cases c3 : t2 = true
    · subst c3
      rw [if_pos rfl] at h
      by_cases c4 : l1.length ≤ 12
      case neg => rw [if_neg c4] at h; cases h
      rw [if_pos c4] at h
      obtain ⟨r, hr, h3⟩ := Option.bind_eq_some_iff.1 h
      obtain ⟨st3, ok, fl3⟩ := r
      have HG := Aside0.mk hr
      have HE := Aside0.mk (Option.some.inj h3)
      have HR4 := Aside0.mk (Kd.C_below HR.out HB4.out)
      obtain ⟨he, hle⟩ := tr_eight l1.length c4
      obtain ⟨q, hq⟩ : ∃ q : Nat, q = 8 * 2 ^ l1.length := ⟨_, rfl⟩
      rw [← hq] at he hle
      have HG2 : Aside0 (spec_l23Trace.g k l1 a2 0 (List.replicate q false) = some (st3, ok, fl3)) := ⟨by rw [hq]; exact HG.out⟩
      have hq0 : 0 ≤ (q : Int) := by omega
      have hqp : Aside0 (0 < q) := ⟨by rw [hq]; have := Nat.two_pow_pos l1.length; omega⟩
      clear hr h3 h c4 HG hq HB2
      go_wp2_with (first | ((with_reducible refine gate_dst (N := 24) rfl ?_); refine Kd.R_make Kd.bool _ 4 rfl (N := 24) rfl 51 _ _ rfl (q : Int) (by go_simp; (try rw [he])) (by go_simp; (try rw [he])) Try.underlying51 (.bool false) 1 info4 rfl (by decide) (by omega) false (ok := fun _ => True) (okp := fun _ => True) rfl (fun _ hk => hk) trivial (by omega) (by omega) (Below.refl _ _) (Nat.le_refl _) ?_; intro v24 w5 ho hb hg_ hnew_; clear hg_ hnew_; rw [Int.toNat_natCast] at ho; obtain ⟨g, cap, rfl, hg0, hg1, hg2⟩ := Kd.R_form ho (by rw [List.length_replicate]; exact hqp.out); have hF := Kd.R_reok rfl ho (ok := fun k => k = g) (fun k hk => by simpa [Value.ownBlock] using hk.symm); have HF := Aside0.mk (Kd.R_lower hF HB4.out.size); have HB5 := Aside0.mk (below_then HB4.out HB4.out.size hb); have HG0 := Aside0.mk (Nat.le_trans HB4.out.size hg0); clear ho hb hF hg0 hg1 hg2) | (go_at_call 51; have hc := spec_l23Trace.calls_g w g cap A1 c1 l1 HR.out HG0.out k a2 0 (List.replicate q false) w5 _ HG2.out HB5.out HF.out; simp only [List.length_replicate] at hc; refine hc.mono ?_; rintro e w6 ⟨v6, rfl, hv6, hF6, hl6, hB6⟩; have HV6 := Aside0.mk hv6; have HB6 := Aside0.mk hB6; clear hc hv6 hF6 hl6 hB6))
      go_ret2
      have hE1 : st3 = r1 := congrArg Prod.fst HE.out
      have hE2 : ok = r2 := congrArg Prod.snd HE.out
      subst hE1 hE2
      exact ⟨v6, rfl, HV6.out, HB6.out⟩
    · rw [if_neg c3] at h
      obtain rfl : t2 = false := by simpa using c3
      have HE := Aside0.mk (Option.some.inj h)
      clear h c3
      go_wp2
      go_ret2
      have hE1 : r1 = [] := (congrArg Prod.fst HE.out).symm
      have hE2 : r2 = false := (congrArg Prod.snd HE.out).symm
      subst hE1 hE2
      exact ⟨.slice none 0 0, rfl, Kd.R_nil _ _ _ _ _, HB4.out⟩
  · rw [if_neg c1] at h
    obtain rfl : t = false := by simpa using c1
    have HE := Aside0.mk (Option.some.inj h)
    clear h c1
    go_wp2
    go_ret2
    have hE1 : r1 = [] := (congrArg Prod.fst HE.out).symm
    have hE2 : r2 = false := (congrArg Prod.snd HE.out).symm
    subst hE1 hE2
    exact ⟨.slice none 0 0, rfl, Kd.R_nil _ _ _ _ _, HB2.out⟩
end Go.Proofs.Ytcdajmbnijmdfaa.PA
-- Written for this claim by a program of this session's (ownprint.py), by way of the kit's print and hand-proved texts. Lean checks it.
namespace Go.Proofs.Ytcdajmbnijmdfaa.PA
open Go.RowKit Go.Proofs.YtcdajmbnijmdfaaW.PrintWords Go.Proofs.YtcdajmbnijmdfaaW.PrintLast Go.Proofs.YtcdajmbnijmdfaaW.PrintMore
attribute [local go_sem] max2_int min2_int max_two min_two max_three min_three max_four min_four   -- for this text's walks alone
set_option linter.unusedVariables false
set_option linter.unusedSimpArgs false
def impl_has.f (a0 : Int) (a1 : Int) : Option (Bool) := if 0 ≤ a1 then (some ((Go.bits .and .i64 (shr .i64 a0 a1) 1) == 1)) else (none)
set_option maxHeartbeats 8000000 in
set_option maxRecDepth 100000 in
theorem impl_has.calls (a0 : Int) (a1 : Int) (r : Bool) (w : World) (h : impl_has.f a0 a1 = some r) :
    Calls Try.prog 46 #[.int .i64 a0, .int .i64 a1] w fun e w' => e = .returned (.bool r) ∧ Drawn0 w w' := by
  have H : (if 0 ≤ a1 then (some ((Go.bits .and .i64 (shr .i64 a0 a1) 1) == 1)) else (none)) = some r := h
  clear h
  by_cases c3 : 0 ≤ a1
  · rw [if_pos c3] at H
    have c3b0 := eq_true c3
    have c3b1 : decide (0 ≤ a1) = true := decide_eq_true c3
    clear c3
    obtain ⟨ji4, hji4⟩ : ∃ j_ : Int, (shr .i64 a0 a1) = j_ := ⟨_, rfl⟩
    replace H : (some ((Go.bits .and .i64 (ji4) 1) == 1)) = some r := by first | (rw [hji4] at H; exact H) | (simp only [hji4] at H ⊢; exact H)
    have hji4_ : (a0 / 2 ^ min a1.toNat 64) = ji4 := hji4
    have hji4z : a1 ≤ 64 → (a0 / 2 ^ a1.toNat) = ji4 := shr_small hji4
    obtain rfl := Option.some.inj H
    go_enter Try.func46, Try.ntmps46
    go_wp2
    go_ret
    exact ⟨by first | rfl | (simp; done) | (simp only [← hji4] <;> (first | rfl | simp)) | (simp [*]; done), by repeat (first | exact Drawn0.refl _ | apply Drawn0.step)⟩
  · rw [if_neg c3] at H
    exact absurd H (by simp)
def impl_along.f (l0 : List Int) (a1 : Int) : Option (Int × Bool) := if 0 < (l0.length : Int) then (if a1 = (rd l0 0) then (if 1 < (l0.length : Int) then (some (rd l0 1, true)) else (none)) else (if 1 < (l0.length : Int) then (if a1 = (rd l0 1) then (some (rd l0 0, true)) else (some (0, false))) else (none))) else (none)
set_option maxHeartbeats 8000000 in
set_option maxRecDepth 100000 in
theorem impl_along.calls (A0 : Option Addr) (c0 : Nat) (l0 : List Int) (a1 : Int) (r1 : Int) (r2 : Bool) (w : World) (hr0 : Kd.C (Kd.int .i64) w A0 l0.length l0) (hc0 : l0.length ≤ c0) (h : impl_along.f l0 a1 = some (r1, r2)) :
    Calls Try.prog 47 #[.slice A0 l0.length c0, .int .i64 a1] w fun e w' => e = .returned (.tuple #[.int .i64 r1, .bool r2]) ∧ Drawn0 w w' := by
  have HR0 := Aside0.mk hr0
  have HC0 := Aside0.mk hc0
  clear hr0 hc0
  have H : (if 0 < (l0.length : Int) then (if a1 = (rd l0 0) then (if 1 < (l0.length : Int) then (some (rd l0 1, true)) else (none)) else (if 1 < (l0.length : Int) then (if a1 = (rd l0 1) then (some (rd l0 0, true)) else (some (0, false))) else (none))) else (none)) = some (r1, r2) := h
  clear h
  by_cases c3 : 0 < (l0.length : Int)
  · rw [if_pos c3] at H
    have c3b0 : decide (0 < (l0.length : Int)) = true := decide_eq_true c3
    have c3b1 : decide (0 < l0.length) = true := decide_eq_true (by omega)
    clear c3
    by_cases c4 : a1 = (rd l0 0)
    · rw [if_pos c4] at H
      have c4b0 : (a1 == (rd l0 0)) = true := beq_iff_eq.mpr c4
      have c4b1 : (a1 != (rd l0 0)) = false := bne_eq_false_iff_eq.mpr c4
      clear c4
      by_cases c5 : 1 < (l0.length : Int)
      · rw [if_pos c5] at H
        have c5b0 : decide (1 < (l0.length : Int)) = true := decide_eq_true c5
        have c5b1 : decide (1 < l0.length) = true := decide_eq_true (by omega)
        clear c5
        simp only [Option.some.injEq, Prod.mk.injEq] at H
        obtain ⟨rfl, rfl⟩ := H
        have p162 : 0 ≤ (0 : Int) := (by omega)
        have q162 : 0 < (l0.length : Int) := of_decide_eq_true (by first | (with_reducible assumption) | assumption)
        obtain ⟨ad162, e162, hx162_0⟩ := Kd.at_int HR0.out 0 p162 q162
        cases e162
        have qi162 : (0 < l0.length) = True := eq_true (by omega)
        (try rw [show ((0 : Int)).toNat = 0 from rfl] at hx162_0)
        (try rw [Addr.add_zero'] at hx162_0)
        replace p162 := eq_true p162
        replace q162 := eq_true q162
        have p163 : 0 ≤ (1 : Int) := (by omega)
        have q163 : 1 < (l0.length : Int) := of_decide_eq_true (by first | (with_reducible assumption) | assumption)
        obtain ⟨ad163, e163, hx163_0⟩ := Kd.at_int HR0.out 1 p163 q163
        obtain rfl : ad162 = ad163 := (by injection e163)
        (try simp only [show (1 : Int).toNat = 1 from rfl, Nat.reduceMul, Nat.reduceEqDiff, Go.Addr.add, ↓reduceIte] at hx163_0)
        have qi163 : (1 < l0.length) = True := eq_true (by omega)
        (try rw [show ((1 : Int)).toNat = 1 from rfl] at hx163_0)
        replace p163 := eq_true p163
        replace q163 := eq_true q163
        go_enter Try.func47, Try.ntmps47
        go_wp2
        go_ret2
        exact ⟨by first | rfl | (simp; done) | (simp [*]; done), by repeat (first | exact Drawn0.refl _ | apply Drawn0.step)⟩
      · rw [if_neg c5] at H
        exact absurd H (by simp)
    · rw [if_neg c4] at H
      have c4b0 : (a1 == (rd l0 0)) = false := beq_eq_false_iff_ne.mpr c4
      have c4b1 : (a1 != (rd l0 0)) = true := bne_iff_ne.mpr c4
      by_cases c6 : 1 < (l0.length : Int)
      · rw [if_pos c6] at H
        have c6b0 : decide (1 < (l0.length : Int)) = true := decide_eq_true c6
        have c6b1 : decide (1 < l0.length) = true := decide_eq_true (by omega)
        clear c6
        by_cases c7 : a1 = (rd l0 1)
        · rw [if_pos c7] at H
          have c7b0 : (a1 == (rd l0 1)) = true := beq_iff_eq.mpr c7
          have c7b1 : (a1 != (rd l0 1)) = false := bne_eq_false_iff_eq.mpr c7
          clear c7
          simp only [Option.some.injEq, Prod.mk.injEq] at H
          obtain ⟨rfl, rfl⟩ := H
          have p162 : 0 ≤ (0 : Int) := (by omega)
          have q162 : 0 < (l0.length : Int) := of_decide_eq_true (by first | (with_reducible assumption) | assumption)
          obtain ⟨ad162, e162, hx162_0⟩ := Kd.at_int HR0.out 0 p162 q162
          cases e162
          have qi162 : (0 < l0.length) = True := eq_true (by omega)
          (try rw [show ((0 : Int)).toNat = 0 from rfl] at hx162_0)
          (try rw [Addr.add_zero'] at hx162_0)
          replace p162 := eq_true p162
          replace q162 := eq_true q162
          have p164 : 0 ≤ (1 : Int) := (by omega)
          have q164 : 1 < (l0.length : Int) := of_decide_eq_true (by first | (with_reducible assumption) | assumption)
          obtain ⟨ad164, e164, hx164_0⟩ := Kd.at_int HR0.out 1 p164 q164
          obtain rfl : ad162 = ad164 := (by injection e164)
          (try simp only [show (1 : Int).toNat = 1 from rfl, Nat.reduceMul, Nat.reduceEqDiff, Go.Addr.add, ↓reduceIte] at hx164_0)
          have qi164 : (1 < l0.length) = True := eq_true (by omega)
          (try rw [show ((1 : Int)).toNat = 1 from rfl] at hx164_0)
          replace p164 := eq_true p164
          replace q164 := eq_true q164
          have p165 : 0 ≤ (0 : Int) := (by omega)
          have q165 : 0 < (l0.length : Int) := of_decide_eq_true (by first | (with_reducible assumption) | assumption)
          obtain ⟨ad165, e165, hx165_0⟩ := Kd.at_int HR0.out 0 p165 q165
          obtain rfl : ad162 = ad165 := (by injection e165)
          have qi165 : (0 < l0.length) = True := eq_true (by omega)
          (try rw [show ((0 : Int)).toNat = 0 from rfl] at hx165_0)
          (try rw [Addr.add_zero'] at hx165_0)
          replace p165 := eq_true p165
          replace q165 := eq_true q165
          go_enter Try.func47, Try.ntmps47
          go_wp2
          go_ret2
          exact ⟨by first | rfl | (simp; done) | (simp [*]; done), by repeat (first | exact Drawn0.refl _ | apply Drawn0.step)⟩
        · rw [if_neg c7] at H
          have c7b0 : (a1 == (rd l0 1)) = false := beq_eq_false_iff_ne.mpr c7
          have c7b1 : (a1 != (rd l0 1)) = true := bne_iff_ne.mpr c7
          simp only [Option.some.injEq, Prod.mk.injEq] at H
          obtain ⟨rfl, rfl⟩ := H
          have p162 : 0 ≤ (0 : Int) := (by omega)
          have q162 : 0 < (l0.length : Int) := of_decide_eq_true (by first | (with_reducible assumption) | assumption)
          obtain ⟨ad162, e162, hx162_0⟩ := Kd.at_int HR0.out 0 p162 q162
          cases e162
          have qi162 : (0 < l0.length) = True := eq_true (by omega)
          (try rw [show ((0 : Int)).toNat = 0 from rfl] at hx162_0)
          (try rw [Addr.add_zero'] at hx162_0)
          replace p162 := eq_true p162
          replace q162 := eq_true q162
          have p164 : 0 ≤ (1 : Int) := (by omega)
          have q164 : 1 < (l0.length : Int) := of_decide_eq_true (by first | (with_reducible assumption) | assumption)
          obtain ⟨ad164, e164, hx164_0⟩ := Kd.at_int HR0.out 1 p164 q164
          obtain rfl : ad162 = ad164 := (by injection e164)
          (try simp only [show (1 : Int).toNat = 1 from rfl, Nat.reduceMul, Nat.reduceEqDiff, Go.Addr.add, ↓reduceIte] at hx164_0)
          have qi164 : (1 < l0.length) = True := eq_true (by omega)
          (try rw [show ((1 : Int)).toNat = 1 from rfl] at hx164_0)
          replace p164 := eq_true p164
          replace q164 := eq_true q164
          go_enter Try.func47, Try.ntmps47
          go_wp2
          go_ret2
          exact ⟨by first | rfl | (simp; done) | (simp [*]; done), by repeat (first | exact Drawn0.refl _ | apply Drawn0.step)⟩
      · rw [if_neg c6] at H
        exact absurd H (by simp)
  · rw [if_neg c3] at H
    exact absurd H (by simp)
end Go.Proofs.Ytcdajmbnijmdfaa.PA
-- Written for this claim by a program of this session's (ownprint.py), by way of the kit's print and hand-proved texts. Lean checks it.
namespace Go.Proofs.Ytcdajmbnijmdfaa.PA
open Go.RowKit Go.Proofs.YtcdajmbnijmdfaaW.PrintWords Go.Proofs.YtcdajmbnijmdfaaW.PrintLast Go.Proofs.YtcdajmbnijmdfaaW.PrintMore
attribute [local go_sem] max2_int min2_int max_two min_two max_three min_three max_four min_four   -- for this text's walks alone
set_option linter.unusedVariables false
set_option linter.unusedSimpArgs false
section
open Go.Maps (Keyed IsMap)
variable {P : Program} {K e : TypeId} {w : World} {b n : Nat} {D : DataW Unit}
theorem plainElem_bool_inv {H : Type} {P : Program} {e : TypeId} (he : P.underlying e = some .bool) {v : Value} {z : DataW H × List MemPlace} (h : plainElem P e v = some z) : ∃ x, v = .bool x ∧ z = (.lit (.bool x), []) := by
  unfold plainElem at h
  rw [he] at h
  cases v <;> simp at h
  exact ⟨_, rfl, h.symm⟩
/-- Block b is a map from pairs of numbers to truth values, of at most n entries, that reads as F. -/
structure PairMap (P : Program) (K e : TypeId) (w : World) (b n : Nat) (F : Int → Int → Bool) : Prop where
  ex : ∃ D : DataW Unit, w.ownsMap P K (plainElem P e) b n D ∧ ∀ (u a : Int) (l : Lit), keyOf P K (.agg #[.int .i64 u, .int .i64 a]) = some l → D.atKey l (.lit (.bool false)) = .lit (.bool (F u a))
def upd (F : Int → Int → Bool) (u a : Int) : Int → Int → Bool := fun u' a' => if u' = u ∧ a' = a then true else F u' a'
theorem PairMap.made (w : World) : PairMap P K e (w.alloc (.map #[] 0)) w.heap.size 0 (fun _ _ => false) :=
  ⟨.map [], World.ownsMap_made w P K _, fun u a l _ => rfl⟩
theorem PairMap.kept {F : Int → Int → Bool} {w' : World} {row : Option Nat} (h : PairMap P K e w b n F) (hg : w.grownBy w' row) (hne : some b ≠ row) : PairMap P K e w' b n F := by
  obtain ⟨D, h1, h2⟩ := h.ex
  exact ⟨D, h1.kept hg hne, h2⟩
theorem PairMap.mono {F : Int → Int → Bool} (h : PairMap P K e w b n F) {n' : Nat} (hn : n ≤ n') : PairMap P K e w b n' F := by
  obtain ⟨D, h1, h2⟩ := h.ex
  exact ⟨D, h1.mono hn, h2⟩
theorem PairMap.look {F : Int → Int → Bool} (h : PairMap P K e w b n F) (hK : Keyed P K) {t : TypeId} (ht : P.underlying t = some (.map K e)) (he : P.underlying e = some .bool) (hz : (zeroValue e).run P w = .ok (.bool false) w) (u a : Int) (hk : ∃ l, keyOf P K (.agg #[.int .i64 u, .int .i64 a]) = some l) :
    (Instr.lookup t (.map (some b)) (.agg #[.int .i64 u, .int .i64 a]) false).run P w = .ok (.bool (F u a)) w := by
  obtain ⟨D, h1, h2⟩ := h.ex
  obtain ⟨l, hl⟩ := hk
  obtain ⟨v, ps, hrun, hv⟩ := h1.lookup hK ht hz (plainElem_bool he false) hl
  obtain ⟨x, rfl, hx⟩ := plainElem_bool_inv he hv
  rw [h2 u a l hl] at hx
  simp only [Prod.mk.injEq] at hx
  have : F u a = x := by simpa using hx.1
  rw [this]
  exact hrun
theorem PairMap.store {F : Int → Int → Bool} (h : PairMap P K e w b n F) (hK : Keyed P K) {t : TypeId} (ht : P.underlying t = some (.map K e)) (he : P.underlying e = some .bool) (hn : n < maxLen) (u a : Int) (hk : ∃ l, keyOf P K (.agg #[.int .i64 u, .int .i64 a]) = some l) :
    ∃ w', (Instr.mapUpdate t (.map (some b)) (.agg #[.int .i64 u, .int .i64 a]) (.bool true)).run P w = .ok () w' ∧ PairMap P K e w' b (n + 1) (upd F u a) ∧ w.grownBy w' (some b) := by
  obtain ⟨D, h1, h2⟩ := h.ex
  obtain ⟨l, hl⟩ := hk
  have hm := h1.isMap
  obtain ⟨w', hrun, g1, g2⟩ := h1.update hK ht hn hl (plainElem_bool he true)
  refine ⟨w', hrun, ⟨_, g1, fun u' a' l' hl' => ?_⟩, g2⟩
  unfold upd
  by_cases c : u' = u ∧ a' = a
  · obtain ⟨rfl, rfl⟩ := c
    rw [if_pos ⟨rfl, rfl⟩]
    rw [hl] at hl'
    cases hl'
    exact Go.Maps.atKey_put_same hm (hK.key hl) _ _
  · rw [if_neg c]
    have hne : l' ≠ l := by
      rintro rfl
      have := hK.inj hl hl'
      simp at this
      exact c ⟨this.1.symm, this.2.symm⟩
    rw [Go.Maps.atKey_put_other hne]
    exact h2 u' a' l' hl'
theorem wpList_look_pair {F : Int → Int → Bool} {ops : Array Oper} {rest : List Oper} {o : Oper} {a : Act} {Q : Exit → Act → World → Prop}
    (hg : o.guard = none) (m x : Operand) (t : TypeId) (hop : o.op = Op.lookup t m x false) (hK : Keyed P K) (ht : P.underlying t = some (.map K e)) (he : P.underlying e = some .bool) (hz : (zeroValue e).run P w = .ok (.bool false) w)
    (hm : a.eval m = .map (some b)) (h : PairMap P K e w b n F) (u v : Int) (hx : a.eval x = .agg #[.int .i64 u, .int .i64 v]) (hk : ∃ l, keyOf P K (.agg #[.int .i64 u, .int .i64 v]) = some l)
    (hN : wpList P ops Q rest (a.put o.dst (.bool (F u v))) w) : wpList P ops Q (o :: rest) a w := by
  refine wpList_plain hg fun K' hK' => ?_
  have hrun := h.look hK ht he hz u v hk
  unfold Oper.wp
  simp [execOp, hop, hm, hx, hrun, Result.andThen]
  exact hK' _ _ hN
theorem wpList_store_pair {F : Int → Int → Bool} {ops : Array Oper} {rest : List Oper} {o : Oper} {a : Act} {Q : Exit → Act → World → Prop}
    (hg : o.guard = none) (m x y : Operand) (t : TypeId) (hop : o.op = Op.mapUpdate t m x y) (hK : Keyed P K) (ht : P.underlying t = some (.map K e)) (he : P.underlying e = some .bool)
    (hm : a.eval m = .map (some b)) (h : PairMap P K e w b n F) (hn : n < maxLen) (u v : Int) (hx : a.eval x = .agg #[.int .i64 u, .int .i64 v]) (hy : a.eval y = .bool true) (hk : ∃ l, keyOf P K (.agg #[.int .i64 u, .int .i64 v]) = some l)
    (hN : ∀ w', PairMap P K e w' b (n + 1) (upd F u v) → w.grownBy w' (some b) → wpList P ops Q rest (a.put o.dst undef) w') : wpList P ops Q (o :: rest) a w := by
  refine wpList_plain hg fun K' hK' => ?_
  obtain ⟨w', hrun, r1, r2⟩ := h.store hK ht he hn u v hk
  unfold Oper.wp
  simp [execOp, hop, hm, hx, hy, hrun, Result.andThen]
  exact hK' _ _ (hN w' r1 r2)
end
theorem fs_laid : laidOutB Try.prog = true := by kernel_rfl
theorem fs_wide : (match Try.prog.underlying 53 with | some (.array _ _) | some (.struct _) => true | _ => false) = true := by rw [Try.underlying53]
theorem fs_keyed : Go.Maps.Keyed Try.prog 53 := Go.Maps.Keyed.of_law (deep_law_laid fs_laid (m := 2) (by omega) (of_decide_eq_true (by kernel_rfl)) (by kernel_rfl) fs_wide)
theorem fs_cells : Try.prog.cellsOf 53 = 2 := by kernel_rfl
theorem fs_cells1 : Try.prog.cellsOf 3 = 1 := by kernel_rfl
theorem fs_kt : Try.prog.keyType 53 = true := by kernel_rfl
theorem fs_zero (w : World) : (zeroValue 4).run Try.prog w = .ok (.bool false) w := by kernel_rfl
theorem fs_size : ∃ m, Try.prog.types.size = m + 1 := ⟨Try.prog.types.size - 1, by
  have : 0 < Try.prog.types.size := of_decide_eq_true (by kernel_rfl)
  omega⟩
theorem fs_key (u a : Int) (hu : 0 ≤ u ∧ u < 65536) (ha : 0 ≤ a ∧ a < 65536) : ∃ l, keyOf Try.prog 53 (.agg #[.int .i64 u, .int .i64 a]) = some l := by
  have h1 : (Lit.int .i64 u).wf = true := WalkArith.wf_i64 (by omega)
  have h2 : (Lit.int .i64 a).wf = true := WalkArith.wf_i64 (by omega)
  obtain ⟨m, hm⟩ := fs_size
  unfold keyOf
  rw [Try.underlying53, fs_kt]
  simp only [hm]
  refine ⟨.string (keyBytes [.int .i64 u, .int .i64 a]), ?_⟩
  simp [Value.formed, Value.cells, Program.keyLits, Try.underlying53, Try.underlying3, fs_cells, fs_cells1, h1, h2, List.range_succ]
mutual
def impl_FirstStroke.g : Nat → List (List Int) → Int → Int → (Int → Int → Bool) → Nat → List Int → Option (Bool × (Int → Int → Bool) × Nat × List Int)
  | 0, _, _, _, _, _, _ => none
  | k + 1, ls, u, a, F, n, st => if u = wrap64 ((shl .i64 1 (ls.length : Int)) - 1) then some (true, F, n, st) else (if (0 ≤ u ∧ u < 65536) ∧ (0 ≤ a ∧ a < 65536) then (if F u a = true then some (false, F, n, st) else impl_FirstStroke.l k ls u a F n st 0) else none)
def impl_FirstStroke.l : Nat → List (List Int) → Int → Int → (Int → Int → Bool) → Nat → List Int → Int → Option (Bool × (Int → Int → Bool) × Nat × List Int)
  | 0, _, _, _, _, _, _, _ => none
  | k + 1, ls, u, a, F, n, st, x => if x < (ls.length : Int) then (if 0 ≤ x then ((impl_along.f (rd_L1 ls x) a).bind fun t => if t.2 = true then ((impl_has.f u x).bind fun hh => if hh = true then impl_FirstStroke.l k ls u a F n st (wrap64 (x + 1)) else (if st.length < 1000 then ((impl_FirstStroke.g k ls (Go.bits .or .i64 u (shl .i64 1 x)) t.1 F n (st ++ [x])).bind fun r => if r.1 = true then some r else (if 0 < r.2.2.2.length ∧ r.2.2.2.length < 1000 then impl_FirstStroke.l k ls u a r.2.1 r.2.2.1 (r.2.2.2.take (r.2.2.2.length - 1)) (wrap64 (x + 1)) else none)) else none)) else impl_FirstStroke.l k ls u a F n st (wrap64 (x + 1))) else none) else (if n < 1000000000000000000 then some (false, upd F u a, n + 1, st) else none)
end
def impl_FirstStroke.f (k : Nat) (a0 : Int) (l0 : List (List Int)) (a2 : Int) : Option (List Int × Bool) := (impl_IsDrawing.f k a0 l0).bind fun t => if t = true then ((impl_within.f a2 0 (wrap64 (a0 - 1))).bind fun t2 => if t2 = true then ((impl_FirstStroke.g k l0 0 a2 (fun _ _ => false) 0 []).bind fun r => if r.1 = true then some (r.2.2.2, true) else some ([], false)) else some ([], false)) else some ([], false)
/-- The four cells and the map that the closure holds. -/
structure FsB (w0 : World) (bA bF bS bG bm : Nat) : Prop where
  af : bA ≠ bF
  as_ : bA ≠ bS
  ag : bA ≠ bG
  am : bA ≠ bm
  fs : bF ≠ bS
  fg : bF ≠ bG
  fm : bF ≠ bm
  sg : bS ≠ bG
  sm : bS ≠ bm
  gm : bG ≠ bm
  s0 : w0.heap.size ≤ bS
  m0 : w0.heap.size ≤ bm
def fsBlk (bA bF bS bG bm k : Nat) : Prop := k = bA ∨ k = bF ∨ k = bS ∨ k = bG ∨ k = bm
def fsFn (bA bF bS bG : Nat) : Value := .func (.func 52) #[] #[.pointer (some ⟨bA, 0, none⟩), .pointer (some ⟨bF, 0, none⟩), .pointer (some ⟨bS, 0, none⟩), .pointer (some ⟨bG, 0, none⟩)]
structure FsInv (w0 : World) (bA bF bS bG bm : Nat) (A : Option Addr) (c : Nat) (ls : List (List Int)) (F : Int → Int → Bool) (n : Nat) (st : List Int) (vs : Value) (w : World) : Prop where
  hA : w.heap[bA]? = some (.cells #[.slice A ls.length c] 22 (0, 0))
  hF : w.heap[bF]? = some (.cells #[.map (some bm)] 52 (0, 0))
  hS : w.heap[bS]? = some (.cells #[vs] 27 (0, 0))
  hG : w.heap[bG]? = some (.cells #[fsFn bA bF bS bG] 47 (0, 0))
  map : PairMap Try.prog 53 4 w bm n F
  rS : Kd.R (Kd.int .i64) 3 w w0.heap.size (fun k => ¬ fsBlk bA bF bS bG bm k) vs st
  below : Below w0.heap.size w0 w
theorem PairMap.lt {P : Program} {K e : TypeId} {w : World} {b n : Nat} {F : Int → Int → Bool} (h : PairMap P K e w b n F) : b < w.heap.size := by
  obtain ⟨D, h1, _⟩ := h.ex
  exact h1.lt
theorem grown_set (w : World) (g i : Nat) (u : Value) : w.grownBy (w.setCell ⟨g, i, none⟩ u) (some g) := by
  refine ⟨?_, ?_, ?_, ?_, fun k _ hk => Below.heap_setCell w ⟨g, i, none⟩ u k (fun e => hk (by rw [e]))⟩
  all_goals (unfold World.setCell; split <;> first | rfl | simp)
section
variable {w0 w w1 : World} {bA bF bS bG bm : Nat} {A : Option Addr} {c : Nat} {ls : List (List Int)} {F : Int → Int → Bool} {n : Nat} {st : List Int} {vs : Value}
theorem FsInv.step (h : FsInv w0 bA bF bS bG bm A c ls F n st vs w) (hb : Below w.heap.size w w1) : FsInv w0 bA bF bS bG bm A c ls F n st vs w1 :=
  ⟨(hb.block _ (blk_lt h.hA)).trans h.hA, (hb.block _ (blk_lt h.hF)).trans h.hF, (hb.block _ (blk_lt h.hS)).trans h.hS, (hb.block _ (blk_lt h.hG)).trans h.hG, h.map.kept (grown_of_below hb none) (by simp), Kd.R_below h.rS hb, below_then h.below h.below.size hb⟩
theorem FsInv.app (h : FsInv w0 bA bF bS bG bm A c ls F n st vs w) (D : FsB w0 bA bF bS bG bm) {v' : Value} {st' : List Int} (ho : Kd.R (Kd.int .i64) 3 w1 w0.heap.size (fun k => ¬ fsBlk bA bF bS bG bm k) v' st') (hg : w.grownBy w1 vs.ownBlock) (hb : Below w0.heap.size w0 w1) :
    FsInv w0 bA bF bS bG bm A c ls F n st' v' (w1.setCell ⟨bS, 0, none⟩ v') := by
  have hne : ∀ k, fsBlk bA bF bS bG bm k → some k ≠ vs.ownBlock := fun k hk e => (h.rS.1 k e.symm) hk
  have eA := (hg.block _ (blk_lt h.hA) (hne _ (.inl rfl))).trans h.hA
  have eF := (hg.block _ (blk_lt h.hF) (hne _ (.inr (.inl rfl)))).trans h.hF
  have eS := (hg.block _ (blk_lt h.hS) (hne _ (.inr (.inr (.inl rfl))))).trans h.hS
  have eG := (hg.block _ (blk_lt h.hG) (hne _ (.inr (.inr (.inr (.inl rfl)))))).trans h.hG
  have eM := h.map.kept hg (hne _ (.inr (.inr (.inr (.inr rfl)))))
  exact ⟨blk_far eA D.as_ _, blk_far eF D.fs _, by simpa using blk_set eS 0 v', blk_far eG D.sg.symm _, eM.kept (grown_set _ _ _ _) (by simpa using D.sm.symm), Kd.R_far ho (fun k hk e => hk (.inr (.inr (.inl e)))) _, below_set hb D.s0⟩
theorem FsInv.cut (D : FsB w0 bA bF bS bG bm) {A1 : Option Addr} {m cc j : Nat} (h : FsInv w0 bA bF bS bG bm A c ls F n st (.slice A1 m cc) w) (hj : j ≤ st.length) :
    FsInv w0 bA bF bS bG bm A c ls F n (st.take j) (.slice A1 j cc) (w.setCell ⟨bS, 0, none⟩ (.slice A1 j cc)) :=
  ⟨blk_far h.hA D.as_ _, blk_far h.hF D.fs _, by simpa using blk_set h.hS 0 (.slice A1 j cc), blk_far h.hG D.sg.symm _, h.map.kept (grown_set _ _ _ _) (by simpa using D.sm.symm), Kd.R_far (Kd.R_take h.rS hj) (fun k hk e => hk (.inr (.inr (.inl e)))) _, below_set h.below D.s0⟩
theorem FsInv.put (h : FsInv w0 bA bF bS bG bm A c ls F n st vs w) (D : FsB w0 bA bF bS bG bm) {F' : Int → Int → Bool} {n' : Nat} (hm : PairMap Try.prog 53 4 w1 bm n' F') (hg : w.grownBy w1 (some bm)) :
    FsInv w0 bA bF bS bG bm A c ls F' n' st vs w1 :=
  ⟨(hg.block _ (blk_lt h.hA) (by simpa using D.am)).trans h.hA, (hg.block _ (blk_lt h.hF) (by simpa using D.fm)).trans h.hF, (hg.block _ (blk_lt h.hS) (by simpa using D.sm)).trans h.hS, (hg.block _ (blk_lt h.hG) (by simpa using D.gm)).trans h.hG, hm, Kd.R_grown h.rS hg (fun k hk e => hk (.inr (.inr (.inr (.inr (by simpa using e)))))), pw_below_grown h.below _ h.below.size hg (fun k e => by cases e; exact D.m0)⟩
theorem FsInv.fresh (h : FsInv w0 bA bF bS bG bm A c ls F n st vs w) : ∀ k, w.heap.size ≤ k → ¬ fsBlk bA bF bS bG bm k := by
  intro k hk
  rintro (rfl | rfl | rfl | rfl | rfl)
  · have := blk_lt h.hA; omega
  · have := blk_lt h.hF; omega
  · have := blk_lt h.hS; omega
  · have := blk_lt h.hG; omega
  · have := h.map.lt; omega
theorem FsInv.keepS (h : FsInv w0 bA bF bS bG bm A c ls F n st vs w) (hg : w.grownBy w1 vs.ownBlock) : w1.heap[bS]? = some (.cells #[vs] 27 (0, 0)) :=
  (hg.block _ (blk_lt h.hS) (fun e => (h.rS.1 _ e.symm) (.inr (.inr (.inl rfl))))).trans h.hS
end
theorem fs_cell {w : World} {g t : Nat} {v : Value} (h : w.heap[g]? = some (.cells #[v] t (0, 0))) : w.cell? ⟨g, 0, none⟩ = some v ∧ w.frozen? ⟨g, 0, none⟩ = false := by
  constructor
  · simp [World.cell?, h]
  · simp [World.frozen?, h]
theorem fs_shl1 (x : Int) : shl .i64 1 x = wrap64 (2 ^ min x.toNat 64) := by
  unfold shl
  rw [IntKind.wrap_i64]
  simp [IntKind.bits, wrap64]
theorem fs_shl (n : Nat) : shl .i64 1 (n : Int) = wrap64 (2 ^ min n 64) := by
  unfold shl
  rw [Int.toNat_natCast, IntKind.wrap_i64]
  simp [IntKind.bits, wrap64]
set_option maxHeartbeats 4000000 in
set_option maxRecDepth 100000 in
theorem impl_FirstStroke_1.calls (w0 : World) (bA bF bS bG bm : Nat) (A : Option Addr) (c : Nat) (ls : List (List Int)) (D : FsB w0 bA bF bS bG bm) (hr0 : Kd.C (Kd.slice 3 (Kd.int .i64)) w0 A ls.length ls) (eg : ∀ args w, (callFunc 52 args).run Try.prog w = .ok (.enter 52 args) w) (k : Nat) :
    ∀ (u a : Int) (F : Int → Int → Bool) (n : Nat) (st : List Int) (vs : Value) (w : World) (r : Bool × (Int → Int → Bool) × Nat × List Int), impl_FirstStroke.g k ls u a F n st = some r → FsInv w0 bA bF bS bG bm A c ls F n st vs w →
    Calls Try.prog 52 #[.int .i64 u, .int .i64 a, .pointer (some ⟨bA, 0, none⟩), .pointer (some ⟨bF, 0, none⟩), .pointer (some ⟨bS, 0, none⟩), .pointer (some ⟨bG, 0, none⟩)] w fun e w' => e = .returned (.bool r.1) ∧ ∃ vs', FsInv w0 bA bF bS bG bm A c ls r.2.1 r.2.2.1 r.2.2.2 vs' w' := by
  induction k using Nat.strongRecOn with
  | _ k ih =>
  intro u a F n st vs w r h hI
  cases k with
  | zero => simp [impl_FirstStroke.g] at h
  | succ k =>
  rw [impl_FirstStroke.g] at h
  have cA := (fs_cell hI.hA).1
  have HR0 := Aside0.mk hr0
  clear hr0
  by_cases c1 : u = wrap64 ((shl .i64 1 (ls.length : Int)) - 1)
  · rw [if_pos c1] at h
    have c1b : (u == wrap64 (wrap64 (2 ^ min ls.length 64) - 1)) = true := by rw [fs_shl]at c1; exact beq_iff_eq.2 c1
    have HS := Aside0.mk (Option.some.inj h)
    have HI := Aside0.mk hI
    clear hI h ih c1
    go_enter Try.func52, Try.ntmps52
    go_wp2
    go_ret
    rw [← HS.out]
    exact ⟨rfl, _, HI.out⟩
  · rw [if_neg c1] at h
    have c1b : (u == wrap64 (wrap64 (2 ^ min ls.length 64) - 1)) = false := by rw [fs_shl] at c1; exact beq_eq_false_iff_ne.2 c1
    clear c1
    by_cases c2 : (0 ≤ u ∧ u < 65536) ∧ (0 ≤ a ∧ a < 65536)
    case neg => rw [if_neg c2] at h; cases h
    rw [if_pos c2] at h
    have cF := (fs_cell hI.hF).1
    have HK := Aside0.mk (fs_key u a c2.1 c2.2)
    clear c2
    by_cases c3 : F u a = true
    · rw [if_pos c3] at h
      have HS := Aside0.mk (Option.some.inj h)
      have HI := Aside0.mk hI
      clear hI h ih
      go_enter Try.func52, Try.ntmps52
      go_wp2_with (at_lookup; refine wpList_look_pair rfl _ _ 52 rfl fs_keyed Try.underlying52 Try.underlying4 (fs_zero _) rfl HI.out.map u a rfl HK.out ?_; rw [c3])
      go_ret
      rw [← HS.out]
      exact ⟨rfl, _, HI.out⟩
    · rw [if_neg c3] at h
      replace c3 := Bool.eq_false_iff.mpr c3
      have H := Aside0.mk h
      have HI := Aside0.mk hI
      have IH := Aside0.mk ih
      clear hI h ih
      go_enter Try.func52, Try.ntmps52
      go_wp2_with (at_lookup; refine wpList_look_pair rfl _ _ 52 rfl fs_keyed Try.underlying52 Try.underlying4 (fs_zero _) rfl HI.out.map u a rfl HK.out ?_; rw [c3])
      clear cA cF c3 c1b
      go_loopg [26] k (fun kq v26 wr => ∃ (x : Int) (F2 : Int → Int → Bool) (n2 : Nat) (st2 : List Int) (vs2 : Value), v26 = .int .i64 x ∧ Aside0 (impl_FirstStroke.l kq ls u a F2 n2 st2 x = some r) ∧ Aside0 (kq ≤ k) ∧ Aside0 (FsInv w0 bA bF bS bG bm A c ls F2 n2 st2 vs2 wr))
      case atStart => exact ⟨0, F, n, st, vs, rfl, H, ⟨Nat.le_refl _⟩, HI⟩
      case round =>
        clear HI H
        obtain ⟨x, F2, n2, st2, vs2, rfl, HA, HKQ, HI⟩ := hrel
        cases gk with
        | zero => exact absurd HA.out (by simp [impl_FirstStroke.l])
        | succ k3 =>
          have h := HA.out
          clear HA
          rw [impl_FirstStroke.l] at h
          obtain ⟨wo, rfl⟩ : ∃ x, x = wr := ⟨_, rfl⟩
          by_cases c4 : x < (ls.length : Int)
          · rw [if_pos c4] at h
            by_cases c5 : 0 ≤ x
            case neg => rw [if_neg c5] at h; cases h
            rw [if_pos c5] at h
            obtain ⟨t, ht, h⟩ := Option.bind_eq_some_iff.1 h
            obtain ⟨p, ok⟩ := t
            have HT := Aside0.mk ht
            have H := Aside0.mk h
            clear ht h
            obtain ⟨ad, Ar, cr, e, hx, hl, hi⟩ := at_L1 HR0.out x c5 c4
            cases e
            replace hx := (HI.out.below.cell (World.block_lt_of_cell? w0 _ hx)).trans hx
            have HRW := Aside0.mk (Kd.C_below hi HI.out.below)
            have HLW := Aside0.mk hl
            clear hi hl
            replace c5 := eq_true c5
            go_wp2_with fail
            refine (impl_along.calls Ar cr _ a p ok _ HRW.out HLW.out HT.out).mono ?_
            rintro e w1 ⟨rfl, hd⟩
            have HI1 := Aside0.mk (HI.out.step hd.below)
            clear HI hd hx HRW
            cases ok with
            | false =>
              have h := H.out
              rw [if_neg (by simp)] at h
              have H1 := Aside0.mk h
              clear h H
              go_wp2
              go_roundg k3
              case measure => have := HKQ.out; omega
              case rel => exact ⟨wrap64 (x + 1), F2, n2, st2, vs2, rfl, H1, ⟨by have := HKQ.out; omega⟩, HI1⟩
            | true =>
              have h := H.out
              rw [if_pos rfl] at h
              obtain ⟨hh, hh1, h⟩ := Option.bind_eq_some_iff.1 h
              have HH := Aside0.mk hh1
              have H1 := Aside0.mk h
              clear h H hh1
              go_wp2_with fail
              refine (impl_has.calls u x hh _ HH.out).mono ?_
              rintro e w2 ⟨rfl, hd⟩
              have HI2 := Aside0.mk (HI1.out.step hd.below)
              clear HI1 hd
              cases hh with
              | true =>
                have h := H1.out
                rw [if_pos rfl] at h
                have H2 := Aside0.mk h
                clear h H1
                go_wp2
                go_roundg k3
                case measure => have := HKQ.out; omega
                case rel => exact ⟨wrap64 (x + 1), F2, n2, st2, vs2, rfl, H2, ⟨by have := HKQ.out; omega⟩, HI2⟩
              | false =>
                have h := H1.out
                rw [if_neg (by simp)] at h
                by_cases c6 : st2.length < 1000
                case neg => rw [if_neg c6] at h; cases h
                rw [if_pos c6] at h
                obtain ⟨t2, ht2, h⟩ := Option.bind_eq_some_iff.1 h
                obtain ⟨ok2, F3, n3, st3⟩ := t2
                rw [fs_shl1] at ht2
                have HT2 := Aside0.mk ht2
                have H2 := Aside0.mk h
                clear ht2 h H1
                have cS := (fs_cell HI2.out.hS).1
                go_wp2_with (first | ((with_reducible refine gate_builtin (b := .append) (xs := #[.tmp 44, .tmp 46]) rfl ?_); at_builtin; refine Kd.R_append (Kd.int .i64) (w0 := w0) w0.heap.size rfl (.tmp 44) (.tmp 46) 27 3 (.int .i64 0) 8 rfl Try.underlying27 info3 rfl (by decide) (by omega) vs2 st2 x [.int .i64 x] (fun k => ¬ fsBlk bA bF bS bG bm k) (fun _ => False) rfl rfl ?aP (fun _ hk => hk.elim) ?aF ?aO ?aB ?aS ?aL ?_; (case aP => exact rfl); (case aF => exact HI2.out.fresh); (case aO => exact HI2.out.rS); (case aB => exact HI2.out.below); (case aS => exact HI2.out.below.size); (case aL => omega); intro v1 w3 ho hb hg hat; obtain ⟨Av, cv, rfl⟩ := Kd.R_slice ho; rw [show (st2 ++ [x]).length = st2.length + 1 by simp] at ho hat; have fS := (fs_cell (HI2.out.keepS hg)).2; have cS1 := (fs_cell (HI2.out.keepS hg)).1; have HF := Aside0.mk (HI2.out.app D ho hg hb); have cG := (fs_cell HF.out.hG).1; unfold fsFn at cG; clear ho hb hg hat))
                generalize (w3.setCell ⟨bS, 0, none⟩ (.slice Av (st2.length + 1) cv)) = w4 at HF cG
                have HF5 := Aside0.mk (HF.out.step (below_drew (Below.refl w4.heap.size w4)))
                clear HF cG fS cS1 cS
                refine wp_region_still_tail 6 (by kernel_rfl) (by kernel_rfl) ?_
                change wpStill _ _ w4.drew (fun a' => wpList _ _ _ _ a' w4.drew) _ _
                generalize w4.drew = w5 at HF5
                have cG := (fs_cell HF5.out.hG).1
                unfold fsFn at cG
                simp only [List.take_succ_cons, List.take_zero, List.drop_succ_cons, List.drop_zero]
                repeat still_step
                refine wpStill_nil ?_
                cases ok2 with
                | true =>
                  have h := H2.out
                  rw [if_pos rfl] at h
                  have H3 := Aside0.mk (Option.some.inj h)
                  clear h H2
                  go_wp2_with (go_at_fn 52; refine (IH.out k3 (by have := HKQ.out; omega) _ p F2 n2 (st2 ++ [x]) _ w5 _ HT2.out HF5.out).mono ?_; rintro e w6 ⟨rfl, vs3, hI3⟩; have HI3 := Aside0.mk hI3; clear hI3)
                  go_ret
                  rw [← H3.out]
                  exact ⟨rfl, _, HI3.out⟩
                | false =>
                  have h := H2.out
                  rw [if_neg (by simp)] at h
                  by_cases c7 : 0 < st3.length ∧ st3.length < 1000
                  case neg => rw [if_neg c7] at h; cases h
                  rw [if_pos c7] at h
                  obtain ⟨q, hq⟩ : ∃ q, st3.length = q + 1 := ⟨st3.length - 1, by omega⟩
                  rw [hq, Nat.add_sub_cancel] at h
                  have H3 := Aside0.mk h
                  have HQ := Aside0.mk hq
                  have c7b : q < 1000 := by omega
                  clear h H2 c7 hq
                  go_wp2_with (go_at_fn 52; refine (IH.out k3 (by have := HKQ.out; omega) _ p F2 n2 (st2 ++ [x]) _ w5 _ HT2.out HF5.out).mono ?_; rintro e w6 ⟨rfl, vs3, hI3⟩; obtain ⟨A3, c3', rfl⟩ := Kd.R_slice hI3.rS; have hcc := (Kd.R_reads' hI3.rS).2.1; dsimp only at hI3 hcc ⊢; rw [HQ.out] at hI3 hcc; have cS3 := (fs_cell hI3.hS).1; have fS3 := (fs_cell hI3.hS).2; obtain ⟨i0, hi0, _, hsz, _⟩ := info_parts info3; have hcut := cut_to (P := Try.prog) 27 3 .i64 Try.underlying27 hi0 A3 (q + 1) c3' (q : Int) (by omega) (by omega) hcc; have hw3 : wrap64 (((q + 1 : Nat) : Int) - 1) = (q : Int) := (by unfold wrap64; omega); have HI3 := Aside0.mk hI3; clear hI3 hi0 hsz hcc)
                  have HC3 := Aside0.mk (FsInv.cut D HI3.out (j := q) (by have := HQ.out; omega))
                  go_roundg k3
                  case measure => have := HKQ.out; omega
                  case rel => exact ⟨wrap64 (x + 1), F3, n3, _, _, rfl, H3, ⟨by have := HKQ.out; omega⟩, HC3⟩
          · rw [if_neg c4] at h
            by_cases c5 : n2 < 1000000000000000000
            case neg => rw [if_neg c5] at h; cases h
            rw [if_pos c5] at h
            have H1 := Aside0.mk (Option.some.inj h)
            have HN := Aside0.mk c5
            clear h c5
            have cF := (fs_cell HI.out.hF).1
            go_wp2_with (at_mapUpdate; refine wpList_store_pair rfl _ _ _ 52 rfl fs_keyed Try.underlying52 Try.underlying4 rfl HI.out.map (by have := HN.out; unfold maxLen; omega) u a rfl rfl HK.out ?_; intro w2 hm hg; have HI2 := Aside0.mk (HI.out.put D hm hg); clear hm hg)
            go_ret
            rw [← H1.out]
            exact ⟨rfl, _, HI2.out⟩
theorem fs_store_func (w : World) (a : Addr) (m : Mode) (fn : Fn) (first captured : Array Value) : (store a (.func fn first captured) m).run Try.prog w = stored Try.prog w a (.func fn first captured) m := run_store Try.prog w a _ m rfl
attribute [local go_sem] fs_store_func
theorem fs_blks (w : World) (o0 o1 o2 o3 o4 : Obj) : Below w.heap.size w (((((w.alloc o0).alloc o1).alloc o2).alloc o3).alloc o4) ∧ (((((w.alloc o0).alloc o1).alloc o2).alloc o3).alloc o4).heap[w.heap.size]? = some o0 ∧ (((((w.alloc o0).alloc o1).alloc o2).alloc o3).alloc o4).heap[w.heap.size + 1]? = some o1 ∧ (((((w.alloc o0).alloc o1).alloc o2).alloc o3).alloc o4).heap[w.heap.size + 1 + 1]? = some o2 ∧ (((((w.alloc o0).alloc o1).alloc o2).alloc o3).alloc o4).heap[w.heap.size + 1 + 1 + 1]? = some o3 ∧ (((((w.alloc o0).alloc o1).alloc o2).alloc o3).alloc o4).heap[w.heap.size + 1 + 1 + 1 + 1]? = some o4 := by
  have n : ∀ (W : World) (o : Obj) (k : Nat), W.heap.size = k → (W.alloc o).heap[k]? = some o := fun W o k hk => by subst hk; simpa using heap_alloc_new W o
  have s1 : (w.alloc o0).heap.size = w.heap.size + 1 := by simp
  have s2 : ((w.alloc o0).alloc o1).heap.size = w.heap.size + 1 + 1 := by simp
  have s3 : (((w.alloc o0).alloc o1).alloc o2).heap.size = w.heap.size + 1 + 1 + 1 := by simp
  have s4 : ((((w.alloc o0).alloc o1).alloc o2).alloc o3).heap.size = w.heap.size + 1 + 1 + 1 + 1 := by simp
  have a : ∀ {W : World} {k : Nat} {o : Obj} (q : Obj), W.heap[k]? = some o → (W.alloc q).heap[k]? = some o := fun {W k o} q hk => ((below_alloc (Below.refl W.heap.size W) q).block k (Array.getElem?_eq_some_iff.1 hk).1).trans hk
  exact ⟨below_alloc (below_alloc (below_alloc (below_alloc (below_alloc (Below.refl _ _) _) _) _) _) _, a _ (a _ (a _ (a _ (n w o0 _ rfl)))), a _ (a _ (a _ (n _ o1 _ s1))), a _ (a _ (n _ o2 _ s2)), a _ (n _ o3 _ s3), n _ o4 _ s4⟩
theorem fs_row {W : World} {base g : Nat} {xs : List Int} (hb : W.heap[g]? = some (.cells (xs.map (Value.int .i64)).toArray 3 (0, 0))) (hg : base ≤ g) (hl : xs.length ≤ 9223372036854775807) : Kd.R (Kd.int .i64) 3 W base (fun k_ => k_ = g) (.slice (some ⟨g, 0, none⟩) xs.length xs.length) xs :=
  ⟨fun k hk => by simp [Value.ownBlock] at hk; exact hk.symm, xs.map (Value.int .i64), ⟨by simp [Kd.int, Kd.scalar], .inr ⟨g, xs.length, _, rfl, hg, hb, Nat.le_refl _, hl, by simp [Kd.int, Kd.scalar], by simp [Kd.int, Kd.scalar, List.take_of_length_le]⟩⟩, Kd.reps_scalar _⟩
theorem FsInv.start {w w4 : World} {A0 : Option Addr} {c0 : Nat} {ls : List (List Int)} (hb : Below w.heap.size w w4) (hW : w4.heap[w.heap.size]? = some (.cells #[.slice A0 ls.length c0] 22 (0, 0))) :
    FsInv w w.heap.size (w4.heap.size + 1 + 1) (w4.heap.size + 1 + 1 + 1) (w4.heap.size + 1 + 1 + 1 + 1) w4.heap.size A0 c0 ls (fun _ _ => false) 0 [] (.slice (some ⟨w4.heap.size + 1, 0, none⟩) 0 0)
      (((((w4.alloc (.map #[] 0)).alloc (.cells #[] 3)).alloc (.cells #[.map (some w4.heap.size)] 52)).alloc (.cells #[.slice (some ⟨w4.heap.size + 1, 0, none⟩) 0 0] 27)).alloc (.cells #[fsFn w.heap.size (w4.heap.size + 1 + 1) (w4.heap.size + 1 + 1 + 1) (w4.heap.size + 1 + 1 + 1 + 1)] 47)) ∧
    FsB w w.heap.size (w4.heap.size + 1 + 1) (w4.heap.size + 1 + 1 + 1) (w4.heap.size + 1 + 1 + 1 + 1) w4.heap.size := by
  have hlt := blk_lt hW
  have hle := hb.size
  obtain ⟨b5, e0, e1, e2, e3, e4⟩ := fs_blks w4 (.map #[] 0) (.cells #[] 3) (.cells #[.map (some w4.heap.size)] 52) (.cells #[.slice (some ⟨w4.heap.size + 1, 0, none⟩) 0 0] 27) (.cells #[fsFn w.heap.size (w4.heap.size + 1 + 1) (w4.heap.size + 1 + 1 + 1) (w4.heap.size + 1 + 1 + 1 + 1)] 47)
  have eW := (b5.block _ hlt).trans hW
  have hB := below_then hb hle b5
  have hM := (PairMap.made (P := Try.prog) (K := 53) (e := 4) w4).kept (grown_of_below (below_alloc (below_alloc (below_alloc (below_alloc (Below.refl _ _) (.cells #[] 3)) (.cells #[.map (some w4.heap.size)] 52)) (.cells #[.slice (some ⟨w4.heap.size + 1, 0, none⟩) 0 0] 27)) (.cells #[fsFn w.heap.size (w4.heap.size + 1 + 1) (w4.heap.size + 1 + 1 + 1) (w4.heap.size + 1 + 1 + 1 + 1)] 47)) none) (by simp)
  generalize (((((w4.alloc (.map #[] 0)).alloc (.cells #[] 3)).alloc (.cells #[.map (some w4.heap.size)] 52)).alloc (.cells #[.slice (some ⟨w4.heap.size + 1, 0, none⟩) 0 0] 27)).alloc (.cells #[fsFn w.heap.size (w4.heap.size + 1 + 1) (w4.heap.size + 1 + 1 + 1) (w4.heap.size + 1 + 1 + 1 + 1)] 47)) = W at *
  have e1' : W.heap[w4.heap.size + 1]? = some (.cells (([] : List Int).map (Value.int .i64)).toArray 3 (0, 0)) := e1
  refine ⟨⟨eW, e2, e3, e4, hM, ?_, hB⟩, ⟨by omega, by omega, by omega, by omega, by omega, by omega, by omega, by omega, by omega, by omega, by omega, by omega⟩⟩
  refine Kd.R_mono (fs_row (base := w.heap.size) e1' (by omega) (by simp)) (fun k hk => ?_)
  subst hk
  rintro (z | z | z | z | z) <;> omega
set_option maxHeartbeats 4000000 in
set_option maxRecDepth 100000 in
theorem impl_FirstStroke.calls (k : Nat) (a0 : Int) (A1 : Option Addr) (c1 : Nat) (l1 : List (List Int)) (a2 : Int) (r1 : List Int) (r2 : Bool) (w : World) (hr1 : Kd.C (Kd.slice 3 (Kd.int .i64)) w A1 l1.length l1) (hc1 : l1.length ≤ c1) (h : impl_FirstStroke.f k a0 l1 a2 = some (r1, r2)) :
    Calls Try.prog 35 #[.int .i64 a0, .slice A1 l1.length c1, .int .i64 a2] w fun e w' => ∃ v0_ : Value, e = .returned (.tuple #[v0_, .bool r2]) ∧ Kd.R (Kd.int .i64) 3 w' w.heap.size (fun _ => True) v0_ r1 ∧ Below w.heap.size w w' := by
  have eg : ∀ args w, (callFunc 52 args).run Try.prog w = .ok (.enter 52 args) w := enters_of Try.func52 (by kernel_rfl) rfl
  unfold impl_FirstStroke.f at h
  obtain ⟨t, ht, h⟩ := Option.bind_eq_some_iff.1 h
  have HT := Aside0.mk ht
  have HR := Aside0.mk hr1
  have HC := Aside0.mk hc1
  have H := Aside0.mk h
  have hb0 : Below w.heap.size w (w.alloc (.cells #[.slice A1 l1.length c1] 22)) := below_alloc (Below.refl _ _) _
  have HB0 := Aside0.mk hb0
  clear ht hr1 hc1 h hb0
  go_enter Try.func35, Try.ntmps35
  go_wp2_with fail
  refine (impl_IsDrawing.calls k a0 A1 c1 l1 t _ (Kd.C_below HR.out HB0.out) HC.out HT.out).mono ?_
  rintro e w2 ⟨rfl, hb⟩
  have hW2 : w2.heap[w.heap.size]? = some (.cells #[.slice A1 l1.length c1] 22 (0, 0)) := (hb.block _ (by simp)).trans (by simpa using heap_alloc_new w (.cells #[.slice A1 l1.length c1] 22))
  have HB2 := Aside0.mk (below_then HB0.out HB0.out.size hb)
  have HW2 := Aside0.mk hW2
  have cW2 := (fs_cell hW2).1
  have HR2 := Aside0.mk (Kd.C_below HR.out HB2.out)
  clear hW2 hb HB0
  have h := H.out
  clear H
  by_cases c1 : t = true
  · subst c1
    rw [if_pos rfl] at h
    obtain ⟨t2, ht2, h⟩ := Option.bind_eq_some_iff.1 h
    have HT2 := Aside0.mk ht2
    have H := Aside0.mk h
    clear ht2 h
    go_wp2_with fail
    refine (impl_within.calls a2 0 (wrap64 (a0 - 1)) t2 _ HT2.out).mono ?_
    rintro e w4 ⟨rfl, hd4⟩
    have HB4 : Aside0 (Below w2.heap.size w2 w4) := ⟨hd4.below⟩
    clear hd4
    have h := H.out
    clear H
    by_cases c3 : t2 = true
    · subst c3
      rw [if_pos rfl] at h
      have H := Aside0.mk h
      clear h cW2
      have hmm := @run_makeMap Try.prog
      have hst := FsInv.start (A0 := A1) (c0 := c1) (ls := l1) (w := w) (w4 := w4) (below_then HB2.out HB2.out.size HB4.out) ((HB4.out.block _ (blk_lt HW2.out)).trans HW2.out)
      have HST := Aside0.mk hst
      obtain ⟨r, hr, h3⟩ := Option.bind_eq_some_iff.1 H.out
      obtain ⟨ok, F3, n3, st3⟩ := r
      have HG := Aside0.mk hr
      have H3 := Aside0.mk h3
      clear hst hr h3 H
      cases ok with
      | true =>
        have HE := Aside0.mk (Option.some.inj H3.out)
        clear H3
        go_wp2_with (go_at_fn 52; refine (impl_FirstStroke_1.calls w _ _ _ _ _ A1 c1 l1 HST.out.2 HR.out eg k 0 a2 _ 0 [] _ _ _ HG.out HST.out.1).mono ?_; rintro e w7 ⟨rfl, vs7, hI7⟩; have HI7 := Aside0.mk hI7; have cS7 := (fs_cell hI7.hS).1; clear hI7)
        go_ret2
        have hE1 : st3 = r1 := congrArg Prod.fst HE.out
        have hE2 : true = r2 := congrArg Prod.snd HE.out
        subst hE1 hE2
        exact ⟨vs7, rfl, Kd.R_mono HI7.out.rS (fun _ _ => trivial), HI7.out.below⟩
      | false =>
        have HE := Aside0.mk (Option.some.inj H3.out)
        clear H3
        go_wp2_with (go_at_fn 52; refine (impl_FirstStroke_1.calls w _ _ _ _ _ A1 c1 l1 HST.out.2 HR.out eg k 0 a2 _ 0 [] _ _ _ HG.out HST.out.1).mono ?_; rintro e w7 ⟨rfl, vs7, hI7⟩; have HI7 := Aside0.mk hI7; clear hI7)
        go_ret2
        have hE1 : r1 = [] := (congrArg Prod.fst HE.out).symm
        have hE2 : r2 = false := (congrArg Prod.snd HE.out).symm
        subst hE1 hE2
        exact ⟨.slice none 0 0, rfl, Kd.R_nil _ _ _ _ _, HI7.out.below⟩
    · rw [if_neg c3] at h
      obtain rfl : t2 = false := by simpa using c3
      have HE := Aside0.mk (Option.some.inj h)
      clear h c3
      go_wp2
      go_ret2
      have hE1 : r1 = [] := (congrArg Prod.fst HE.out).symm
      have hE2 : r2 = false := (congrArg Prod.snd HE.out).symm
      subst hE1 hE2
      exact ⟨.slice none 0 0, rfl, Kd.R_nil _ _ _ _ _, below_then HB2.out HB2.out.size HB4.out⟩
  · rw [if_neg c1] at h
    obtain rfl : t = false := by simpa using c1
    have HE := Aside0.mk (Option.some.inj h)
    clear h c1
    go_wp2
    go_ret2
    have hE1 : r1 = [] := (congrArg Prod.fst HE.out).symm
    have hE2 : r2 = false := (congrArg Prod.snd HE.out).symm
    subst hE1 hE2
    exact ⟨.slice none 0 0, rfl, Kd.R_nil _ _ _ _ _, HB2.out⟩
end Go.Proofs.Ytcdajmbnijmdfaa.PA
-- Written for this claim by a program of this session's (ownprint.py), by way of the kit's print and hand-proved texts. Lean checks it.
namespace Go.Proofs.Ytcdajmbnijmdfaa.PA
open Go.RowKit Go.Proofs.YtcdajmbnijmdfaaW.PrintWords Go.Proofs.YtcdajmbnijmdfaaW.PrintLast Go.Proofs.YtcdajmbnijmdfaaW.PrintMore
attribute [local go_sem] max2_int min2_int max_two min_two max_three min_three max_four min_four   -- for this text's walks alone
set_option linter.unusedVariables false
set_option linter.unusedSimpArgs false
def laws_eqIntS.l0 : Nat → List Int → List Int → Int → Option (Bool)
  | 0, _, _, _ => none
  | k + 1, x0, x1, x5 => if x5 < (x0.length : Int) then (if 0 ≤ x5 then (if x5 < (x1.length : Int) then (if (rd x0 x5) = (rd x1 x5) then (laws_eqIntS.l0 k x0 x1 (wrap64 (x5 + 1))) else (some false)) else (none)) else (none)) else (some true)
def laws_eqIntS.f (k : Nat) (l0 : List Int) (l1 : List Int) : Option (Bool) := if (l0.length : Int) = (l1.length : Int) then (laws_eqIntS.l0 k l0 l1 0) else (some false)
set_option maxHeartbeats 8000000 in
set_option maxRecDepth 100000 in
theorem laws_eqIntS.calls (k : Nat) (A0 : Option Addr) (c0 : Nat) (l0 : List Int) (A1 : Option Addr) (c1 : Nat) (l1 : List Int) (r : Bool) (w : World) (hr0 : Kd.C (Kd.int .i64) w A0 l0.length l0) (hc0 : l0.length ≤ c0) (hr1 : Kd.C (Kd.int .i64) w A1 l1.length l1) (hc1 : l1.length ≤ c1) (h : laws_eqIntS.f k l0 l1 = some r) :
    Calls Try.prog 21 #[.slice A0 l0.length c0, .slice A1 l1.length c1] w fun e w' => e = .returned (.bool r) ∧ Drawn0 w w' := by
  have HR0 := Aside0.mk hr0
  have HC0 := Aside0.mk hc0
  clear hr0 hc0
  have HR1 := Aside0.mk hr1
  have HC1 := Aside0.mk hc1
  clear hr1 hc1
  have H : (if (l0.length : Int) = (l1.length : Int) then (laws_eqIntS.l0 k l0 l1 0) else (some false)) = some r := h
  clear h
  by_cases c3 : (l0.length : Int) = (l1.length : Int)
  · rw [if_pos c3] at H
    have c3b0 : ((l0.length : Int) == (l1.length : Int)) = true := beq_iff_eq.mpr c3
    have c3b1 : ((l0.length : Int) != (l1.length : Int)) = false := bne_eq_false_iff_eq.mpr c3
    have c3b2 : (l0.length == l1.length) = true := by first | simpa using c3 | (simp at c3 ⊢; omega)
    clear c3
    have H' := Aside0.mk H
    clear H
    go_enter Try.func21, Try.ntmps21
    go_wp2
    repeat (go_quiet (fail); try go_wp2)
    go_loopg [5] k (fun kq v5 w' => ∃ (x5_1 : Int), v5 = .int .i64 x5_1 ∧ Aside0 (laws_eqIntS.l0 kq l0 l1 x5_1 = some r) ∧ Aside0 (kq ≤ k) ∧ Drawn0 w w')
    case atStart => exact ⟨(0), (by first | rfl | (simp; done) | (simp [*]; done)), H', ⟨Nat.le_refl _⟩, by repeat (first | exact Drawn0.refl _ | apply Drawn0.step)⟩
    case round =>
      clear H'
      try clear c1
      try clear c2
      try clear p2
      try clear c3
      try clear c3b0
      try clear c3b1
      try clear c3b2
      obtain ⟨x5_1, rfl, HA, HK1, ⟨m1, rfl⟩⟩ := hrel
      cases gk with
      | zero => exact absurd HA.out (by simp [laws_eqIntS.l0])
      | succ k1 =>
        have H := HA.out
        clear HA
        simp only [laws_eqIntS.l0] at H
        by_cases c4 : x5_1 < (l0.length : Int)
        · rw [if_pos c4] at H
          have c4b0 : decide (x5_1 < (l0.length : Int)) = true := decide_eq_true c4
          clear c4
          by_cases c5 : 0 ≤ x5_1
          · rw [if_pos c5] at H
            have c5b0 : decide (0 ≤ x5_1) = true := decide_eq_true c5
            clear c5
            by_cases c6 : x5_1 < (l1.length : Int)
            · rw [if_pos c6] at H
              have c6b0 : decide (x5_1 < (l1.length : Int)) = true := decide_eq_true c6
              clear c6
              by_cases c7 : (rd l0 x5_1) = (rd l1 x5_1)
              · rw [if_pos c7] at H
                have c7b0 : ((rd l0 x5_1) == (rd l1 x5_1)) = true := beq_iff_eq.mpr c7
                have c7b1 : ((rd l0 x5_1) != (rd l1 x5_1)) = false := bne_eq_false_iff_eq.mpr c7
                clear c7
                have H' := Aside0.mk H
                clear H
                have p132 : 0 ≤ (x5_1 : Int) := of_decide_eq_true (by first | (with_reducible assumption) | assumption)
                have q132 : x5_1 < (l0.length : Int) := of_decide_eq_true (by first | (with_reducible assumption) | assumption)
                obtain ⟨ad132, e132, hx132_0⟩ := Kd.at_int HR0.out x5_1 p132 q132
                cases e132
                replace p132 := eq_true p132
                replace q132 := eq_true q132
                have p133 : 0 ≤ (x5_1 : Int) := of_decide_eq_true (by first | (with_reducible assumption) | assumption)
                have q133 : x5_1 < (l1.length : Int) := of_decide_eq_true (by first | (with_reducible assumption) | assumption)
                obtain ⟨ad133, e133, hx133_0⟩ := Kd.at_int HR1.out x5_1 p133 q133
                cases e133
                replace p133 := eq_true p133
                replace q133 := eq_true q133
                go_wp2
                repeat (go_quiet (fail); try go_wp2)
                go_roundg k1
                case measure => have := HK1.out; omega
                case rel => exact ⟨(wrap64 (x5_1 + 1)), (by first | rfl | (simp; done) | (simp [*]; done)), H', ⟨by have := HK1.out; omega⟩, by repeat (first | exact Drawn0.refl _ | apply Drawn0.step)⟩
              · rw [if_neg c7] at H
                have c7b0 : ((rd l0 x5_1) == (rd l1 x5_1)) = false := beq_eq_false_iff_ne.mpr c7
                have c7b1 : ((rd l0 x5_1) != (rd l1 x5_1)) = true := bne_iff_ne.mpr c7
                obtain rfl := Option.some.inj H
                have p132 : 0 ≤ (x5_1 : Int) := of_decide_eq_true (by first | (with_reducible assumption) | assumption)
                have q132 : x5_1 < (l0.length : Int) := of_decide_eq_true (by first | (with_reducible assumption) | assumption)
                obtain ⟨ad132, e132, hx132_0⟩ := Kd.at_int HR0.out x5_1 p132 q132
                cases e132
                replace p132 := eq_true p132
                replace q132 := eq_true q132
                have p133 : 0 ≤ (x5_1 : Int) := of_decide_eq_true (by first | (with_reducible assumption) | assumption)
                have q133 : x5_1 < (l1.length : Int) := of_decide_eq_true (by first | (with_reducible assumption) | assumption)
                obtain ⟨ad133, e133, hx133_0⟩ := Kd.at_int HR1.out x5_1 p133 q133
                cases e133
                replace p133 := eq_true p133
                replace q133 := eq_true q133
                go_wp2
                repeat (go_quiet (fail); try go_wp2)
                go_ret
                exact ⟨by first | rfl | (simp; done) | (simp [*]; done), by repeat (first | exact Drawn0.refl _ | apply Drawn0.step)⟩
            · rw [if_neg c6] at H
              exact absurd H (by simp)
          · rw [if_neg c5] at H
            exact absurd H (by simp)
        · rw [if_neg c4] at H
          have c4b0 : decide (x5_1 < (l0.length : Int)) = false := decide_eq_false c4
          clear c4
          obtain rfl := Option.some.inj H
          go_wp2
          repeat (go_quiet (fail); try go_wp2)
          go_ret
          exact ⟨by first | rfl | (simp; done) | (simp [*]; done), by repeat (first | exact Drawn0.refl _ | apply Drawn0.step)⟩
  · rw [if_neg c3] at H
    have c3b0 : ((l0.length : Int) == (l1.length : Int)) = false := beq_eq_false_iff_ne.mpr c3
    have c3b1 : ((l0.length : Int) != (l1.length : Int)) = true := bne_iff_ne.mpr c3
    have c3b2 : (l0.length == l1.length) = false := by first | simpa using c3 | (simp at c3 ⊢; omega)
    obtain rfl := Option.some.inj H
    go_enter Try.func21, Try.ntmps21
    go_wp2
    repeat (go_quiet (fail); try go_wp2)
    go_ret
    exact ⟨by first | rfl | (simp; done) | (simp [*]; done), by repeat (first | exact Drawn0.refl _ | apply Drawn0.step)⟩
end Go.Proofs.Ytcdajmbnijmdfaa.PA
-- Written for this claim by a program of this session's (ownprint.py), by way of the kit's print and hand-proved texts. Lean checks it.
namespace Go.Proofs.Ytcdajmbnijmdfaa.PA
open Go.RowKit Go.Proofs.YtcdajmbnijmdfaaW.PrintWords Go.Proofs.YtcdajmbnijmdfaaW.PrintLast Go.Proofs.YtcdajmbnijmdfaaW.PrintMore
attribute [local go_sem] max2_int min2_int max_two min_two max_three min_three max_four min_four   -- for this text's walks alone
set_option linter.unusedVariables false
set_option linter.unusedSimpArgs false
def laws_eqIntSS.l0 : Nat → List (List Int) → List (List Int) → Int → Option (Bool)
  | 0, _, _, _ => none
  | k + 1, x0, x1, x5 => if x5 < (x0.length : Int) then (if 0 ≤ x5 then (if x5 < (x1.length : Int) then ((laws_eqIntS.f k (rd_L1 x0 x5) (rd_L1 x1 x5)).bind fun t136 => (if t136 = true then (laws_eqIntSS.l0 k x0 x1 (wrap64 (x5 + 1))) else (some false))) else (none)) else (none)) else (some true)
def laws_eqIntSS.f (k : Nat) (l0 : List (List Int)) (l1 : List (List Int)) : Option (Bool) := if (l0.length : Int) = (l1.length : Int) then (laws_eqIntSS.l0 k l0 l1 0) else (some false)
set_option maxHeartbeats 8000000 in
set_option maxRecDepth 100000 in
theorem laws_eqIntSS.calls (k : Nat) (A0 : Option Addr) (c0 : Nat) (l0 : List (List Int)) (A1 : Option Addr) (c1 : Nat) (l1 : List (List Int)) (r : Bool) (w : World) (hr0 : Kd.C (Kd.slice 3 (Kd.int .i64)) w A0 l0.length l0) (hc0 : l0.length ≤ c0) (hr1 : Kd.C (Kd.slice 3 (Kd.int .i64)) w A1 l1.length l1) (hc1 : l1.length ≤ c1) (h : laws_eqIntSS.f k l0 l1 = some r) :
    Calls Try.prog 17 #[.slice A0 l0.length c0, .slice A1 l1.length c1] w fun e w' => e = .returned (.bool r) ∧ Drawn0 w w' := by
  have HR0 := Aside0.mk hr0
  have HC0 := Aside0.mk hc0
  clear hr0 hc0
  have HR1 := Aside0.mk hr1
  have HC1 := Aside0.mk hc1
  clear hr1 hc1
  have H : (if (l0.length : Int) = (l1.length : Int) then (laws_eqIntSS.l0 k l0 l1 0) else (some false)) = some r := h
  clear h
  by_cases c3 : (l0.length : Int) = (l1.length : Int)
  · rw [if_pos c3] at H
    have c3b0 : ((l0.length : Int) == (l1.length : Int)) = true := beq_iff_eq.mpr c3
    have c3b1 : ((l0.length : Int) != (l1.length : Int)) = false := bne_eq_false_iff_eq.mpr c3
    have c3b2 : (l0.length == l1.length) = true := by first | simpa using c3 | (simp at c3 ⊢; omega)
    clear c3
    have H' := Aside0.mk H
    clear H
    go_enter Try.func17, Try.ntmps17
    go_wp2
    repeat (go_quiet (fail); try go_wp2)
    go_loopg [5] k (fun kq v5 w' => ∃ (x5_1 : Int), v5 = .int .i64 x5_1 ∧ Aside0 (laws_eqIntSS.l0 kq l0 l1 x5_1 = some r) ∧ Aside0 (kq ≤ k) ∧ Drawn0 w w')
    case atStart => exact ⟨(0), (by first | rfl | (simp; done) | (simp [*]; done)), H', ⟨Nat.le_refl _⟩, by repeat (first | exact Drawn0.refl _ | apply Drawn0.step)⟩
    case round =>
      clear H'
      try clear c1
      try clear p2
      try clear c3
      try clear c3b0
      try clear c3b1
      try clear c3b2
      obtain ⟨x5_1, rfl, HA, HK1, ⟨m1, rfl⟩⟩ := hrel
      cases gk with
      | zero => exact absurd HA.out (by simp [laws_eqIntSS.l0])
      | succ k1 =>
        have H := HA.out
        clear HA
        simp only [laws_eqIntSS.l0] at H
        by_cases c4 : x5_1 < (l0.length : Int)
        · rw [if_pos c4] at H
          have c4b0 : decide (x5_1 < (l0.length : Int)) = true := decide_eq_true c4
          clear c4
          by_cases c5 : 0 ≤ x5_1
          · rw [if_pos c5] at H
            have c5b0 : decide (0 ≤ x5_1) = true := decide_eq_true c5
            clear c5
            by_cases c6 : x5_1 < (l1.length : Int)
            · rw [if_pos c6] at H
              have c6b0 : decide (x5_1 < (l1.length : Int)) = true := decide_eq_true c6
              clear c6
              replace H := Option.bind_eq_some_iff.mp H
              obtain ⟨t136, A70, H⟩ := H
              replace H : (if t136 = true then (laws_eqIntSS.l0 k1 l0 l1 (wrap64 (x5_1 + 1))) else (some false)) = some r := H
              have A7 := Aside0.mk A70
              clear A70
              by_cases c8 : t136 = true
              · subst c8
                have H1 : (laws_eqIntSS.l0 k1 l0 l1 (wrap64 (x5_1 + 1))) = some r := by rw [if_pos rfl] at H; exact H
                clear H
                have H := H1
                clear H1
                have H' := Aside0.mk H
                clear H
                have p134 : 0 ≤ (x5_1 : Int) := of_decide_eq_true (by first | (with_reducible assumption) | assumption)
                have q134 : x5_1 < (l0.length : Int) := of_decide_eq_true (by first | (with_reducible assumption) | assumption)
                obtain ⟨ad134, A134_0, c134_0, e134, hx134_0, hl134_0, hi134_0⟩ := at_L1 HR0.out x5_1 p134 q134
                cases e134
                have HR134_0 := Aside0.mk hi134_0
                have HC134_0 := Aside0.mk hl134_0
                clear hi134_0 hl134_0
                replace p134 := eq_true p134
                replace q134 := eq_true q134
                have p135 : 0 ≤ (x5_1 : Int) := of_decide_eq_true (by first | (with_reducible assumption) | assumption)
                have q135 : x5_1 < (l1.length : Int) := of_decide_eq_true (by first | (with_reducible assumption) | assumption)
                obtain ⟨ad135, A135_0, c135_0, e135, hx135_0, hl135_0, hi135_0⟩ := at_L1 HR1.out x5_1 p135 q135
                cases e135
                have HR135_0 := Aside0.mk hi135_0
                have HC135_0 := Aside0.mk hl135_0
                clear hi135_0 hl135_0
                replace p135 := eq_true p135
                replace q135 := eq_true q135
                go_wp2_with (first | (go_at_call 21; (with_reducible refine (laws_eqIntS.calls k1 _ _ (rd_L1 l0 x5_1) _ _ (rd_L1 l1 x5_1) true _ ?side1 ?side2 ?side3 ?side4 A7.out).mono ?_); (case side1 => repeat (first | exact HR134_0.out | (with_reducible refine Kd.C_alloc ?_ _) | (with_reducible refine Kd.C_drewN ?_ _) | (with_reducible refine Kd.C_drew ?_))); (case side2 => exact HC134_0.out); (case side3 => repeat (first | exact HR135_0.out | (with_reducible refine Kd.C_alloc ?_ _) | (with_reducible refine Kd.C_drewN ?_ _) | (with_reducible refine Kd.C_drew ?_))); (case side4 => exact HC135_0.out); rintro e w' ⟨rfl, ⟨nd, rfl⟩⟩; (try first | exact ⟨rfl, _, World.drewN_drewN _ _ _⟩ | exact ⟨rfl, _, Eq.trans (World.drewN_drewN _ _ _) (congrArg (World.drewN _) (Nat.add_assoc _ _ _))⟩)))
                repeat (go_quiet (first | (go_at_call 21; (with_reducible refine (laws_eqIntS.calls k1 _ _ (rd_L1 l0 x5_1) _ _ (rd_L1 l1 x5_1) true _ ?side1 ?side2 ?side3 ?side4 A7.out).mono ?_); (case side1 => repeat (first | exact HR134_0.out | (with_reducible refine Kd.C_alloc ?_ _) | (with_reducible refine Kd.C_drewN ?_ _) | (with_reducible refine Kd.C_drew ?_))); (case side2 => exact HC134_0.out); (case side3 => repeat (first | exact HR135_0.out | (with_reducible refine Kd.C_alloc ?_ _) | (with_reducible refine Kd.C_drewN ?_ _) | (with_reducible refine Kd.C_drew ?_))); (case side4 => exact HC135_0.out); rintro e w' ⟨rfl, ⟨nd, rfl⟩⟩; (try first | exact ⟨rfl, _, World.drewN_drewN _ _ _⟩ | exact ⟨rfl, _, Eq.trans (World.drewN_drewN _ _ _) (congrArg (World.drewN _) (Nat.add_assoc _ _ _))⟩))); try go_wp2_with (first | (go_at_call 21; (with_reducible refine (laws_eqIntS.calls k1 _ _ (rd_L1 l0 x5_1) _ _ (rd_L1 l1 x5_1) true _ ?side1 ?side2 ?side3 ?side4 A7.out).mono ?_); (case side1 => repeat (first | exact HR134_0.out | (with_reducible refine Kd.C_alloc ?_ _) | (with_reducible refine Kd.C_drewN ?_ _) | (with_reducible refine Kd.C_drew ?_))); (case side2 => exact HC134_0.out); (case side3 => repeat (first | exact HR135_0.out | (with_reducible refine Kd.C_alloc ?_ _) | (with_reducible refine Kd.C_drewN ?_ _) | (with_reducible refine Kd.C_drew ?_))); (case side4 => exact HC135_0.out); rintro e w' ⟨rfl, ⟨nd, rfl⟩⟩; (try first | exact ⟨rfl, _, World.drewN_drewN _ _ _⟩ | exact ⟨rfl, _, Eq.trans (World.drewN_drewN _ _ _) (congrArg (World.drewN _) (Nat.add_assoc _ _ _))⟩))))
                go_roundg k1
                case measure => have := HK1.out; omega
                case rel => exact ⟨(wrap64 (x5_1 + 1)), (by first | rfl | (simp; done) | (simp [*]; done)), H', ⟨by have := HK1.out; omega⟩, by repeat (first | exact Drawn0.refl _ | apply Drawn0.step)⟩
              · replace c8 := Bool.eq_false_iff.mpr c8
                subst c8
                have H1 : (some false) = some r := by rw [if_neg (show ¬ (false = true) by decide)] at H; exact H
                clear H
                have H := H1
                clear H1
                obtain rfl := Option.some.inj H
                have p134 : 0 ≤ (x5_1 : Int) := of_decide_eq_true (by first | (with_reducible assumption) | assumption)
                have q134 : x5_1 < (l0.length : Int) := of_decide_eq_true (by first | (with_reducible assumption) | assumption)
                obtain ⟨ad134, A134_0, c134_0, e134, hx134_0, hl134_0, hi134_0⟩ := at_L1 HR0.out x5_1 p134 q134
                cases e134
                have HR134_0 := Aside0.mk hi134_0
                have HC134_0 := Aside0.mk hl134_0
                clear hi134_0 hl134_0
                replace p134 := eq_true p134
                replace q134 := eq_true q134
                have p135 : 0 ≤ (x5_1 : Int) := of_decide_eq_true (by first | (with_reducible assumption) | assumption)
                have q135 : x5_1 < (l1.length : Int) := of_decide_eq_true (by first | (with_reducible assumption) | assumption)
                obtain ⟨ad135, A135_0, c135_0, e135, hx135_0, hl135_0, hi135_0⟩ := at_L1 HR1.out x5_1 p135 q135
                cases e135
                have HR135_0 := Aside0.mk hi135_0
                have HC135_0 := Aside0.mk hl135_0
                clear hi135_0 hl135_0
                replace p135 := eq_true p135
                replace q135 := eq_true q135
                go_wp2_with (first | (go_at_call 21; (with_reducible refine (laws_eqIntS.calls k1 _ _ (rd_L1 l0 x5_1) _ _ (rd_L1 l1 x5_1) false _ ?side1 ?side2 ?side3 ?side4 A7.out).mono ?_); (case side1 => repeat (first | exact HR134_0.out | (with_reducible refine Kd.C_alloc ?_ _) | (with_reducible refine Kd.C_drewN ?_ _) | (with_reducible refine Kd.C_drew ?_))); (case side2 => exact HC134_0.out); (case side3 => repeat (first | exact HR135_0.out | (with_reducible refine Kd.C_alloc ?_ _) | (with_reducible refine Kd.C_drewN ?_ _) | (with_reducible refine Kd.C_drew ?_))); (case side4 => exact HC135_0.out); rintro e w' ⟨rfl, ⟨nd, rfl⟩⟩; (try first | exact ⟨rfl, _, World.drewN_drewN _ _ _⟩ | exact ⟨rfl, _, Eq.trans (World.drewN_drewN _ _ _) (congrArg (World.drewN _) (Nat.add_assoc _ _ _))⟩)))
                repeat (go_quiet (first | (go_at_call 21; (with_reducible refine (laws_eqIntS.calls k1 _ _ (rd_L1 l0 x5_1) _ _ (rd_L1 l1 x5_1) false _ ?side1 ?side2 ?side3 ?side4 A7.out).mono ?_); (case side1 => repeat (first | exact HR134_0.out | (with_reducible refine Kd.C_alloc ?_ _) | (with_reducible refine Kd.C_drewN ?_ _) | (with_reducible refine Kd.C_drew ?_))); (case side2 => exact HC134_0.out); (case side3 => repeat (first | exact HR135_0.out | (with_reducible refine Kd.C_alloc ?_ _) | (with_reducible refine Kd.C_drewN ?_ _) | (with_reducible refine Kd.C_drew ?_))); (case side4 => exact HC135_0.out); rintro e w' ⟨rfl, ⟨nd, rfl⟩⟩; (try first | exact ⟨rfl, _, World.drewN_drewN _ _ _⟩ | exact ⟨rfl, _, Eq.trans (World.drewN_drewN _ _ _) (congrArg (World.drewN _) (Nat.add_assoc _ _ _))⟩))); try go_wp2_with (first | (go_at_call 21; (with_reducible refine (laws_eqIntS.calls k1 _ _ (rd_L1 l0 x5_1) _ _ (rd_L1 l1 x5_1) false _ ?side1 ?side2 ?side3 ?side4 A7.out).mono ?_); (case side1 => repeat (first | exact HR134_0.out | (with_reducible refine Kd.C_alloc ?_ _) | (with_reducible refine Kd.C_drewN ?_ _) | (with_reducible refine Kd.C_drew ?_))); (case side2 => exact HC134_0.out); (case side3 => repeat (first | exact HR135_0.out | (with_reducible refine Kd.C_alloc ?_ _) | (with_reducible refine Kd.C_drewN ?_ _) | (with_reducible refine Kd.C_drew ?_))); (case side4 => exact HC135_0.out); rintro e w' ⟨rfl, ⟨nd, rfl⟩⟩; (try first | exact ⟨rfl, _, World.drewN_drewN _ _ _⟩ | exact ⟨rfl, _, Eq.trans (World.drewN_drewN _ _ _) (congrArg (World.drewN _) (Nat.add_assoc _ _ _))⟩))))
                go_ret
                exact ⟨by first | rfl | (simp; done) | (simp [*]; done), by repeat (first | exact Drawn0.refl _ | apply Drawn0.step)⟩
            · rw [if_neg c6] at H
              exact absurd H (by simp)
          · rw [if_neg c5] at H
            exact absurd H (by simp)
        · rw [if_neg c4] at H
          have c4b0 : decide (x5_1 < (l0.length : Int)) = false := decide_eq_false c4
          clear c4
          obtain rfl := Option.some.inj H
          go_wp2
          repeat (go_quiet (fail); try go_wp2)
          go_ret
          exact ⟨by first | rfl | (simp; done) | (simp [*]; done), by repeat (first | exact Drawn0.refl _ | apply Drawn0.step)⟩
  · rw [if_neg c3] at H
    have c3b0 : ((l0.length : Int) == (l1.length : Int)) = false := beq_eq_false_iff_ne.mpr c3
    have c3b1 : ((l0.length : Int) != (l1.length : Int)) = true := bne_iff_ne.mpr c3
    have c3b2 : (l0.length == l1.length) = false := by first | simpa using c3 | (simp at c3 ⊢; omega)
    obtain rfl := Option.some.inj H
    go_enter Try.func17, Try.ntmps17
    go_wp2
    repeat (go_quiet (fail); try go_wp2)
    go_ret
    exact ⟨by first | rfl | (simp; done) | (simp [*]; done), by repeat (first | exact Drawn0.refl _ | apply Drawn0.step)⟩
end Go.Proofs.Ytcdajmbnijmdfaa.PA
/- The walk of the law FnExactFirstStroke with its marks: where the chain of its callees' functions ends in 'true', the machine's call returns true and nothing that was there is turned. Written by a program of this session's (lawwalk.py). -/
namespace Go.Proofs.Ytcdajmbnijmdfaa.PA
open Go.RowKit Go.Proofs.YtcdajmbnijmdfaaW.PrintWords Go.Proofs.YtcdajmbnijmdfaaW.PrintLast Go.Proofs.YtcdajmbnijmdfaaW.PrintMore
set_option linter.unusedVariables false
set_option linter.unusedSimpArgs false
def laws_FnExactFirstStroke.f (k : Nat) (a0 : Int) (l1 : List (List Int)) (a2 : Int) : Option Bool := (laws_szIntSS.f k l1 1048576).bind fun s1 => if s1 < 0 then some true else ((laws_toIntSS.f k l1).bind fun u1 => ((spec_FirstStroke.f k a0 u1 a2).bind fun W => ((laws_toIntSS.f k l1).bind fun x1 => ((impl_FirstStroke.f k a0 x1 a2).bind fun G => ((laws_eqIntS.f k G.1 W.1).bind fun e0 => if e0 = true then (if G.2 = W.2 then ((laws_toIntSS.f k l1).bind fun y1 => (laws_eqIntSS.f k x1 y1).bind fun f1 => if f1 = true then ((laws_markIntSS.f k x1 1).bind fun M1 => (if 0 ≤ M1.1 then ((laws_markIntS.f k G.1 1).bind fun N0 => ((laws_heldIntS.f k N0.2 1).bind fun q0 => if 0 ≤ q0 then (if q0 = N0.1 then ((laws_toIntSS.f k l1).bind fun z1 => ((impl_FirstStroke.f k a0 z1 a2).bind fun H => ((laws_eqIntS.f k H.1 W.1).bind fun d0 => if d0 = true then (if H.2 = W.2 then (some true) else none) else none))) else none) else none)) else none)) else none) else none) else none)))))
set_option maxHeartbeats 8000000 in
set_option maxRecDepth 100000 in
theorem laws_FnExactFirstStroke.calls (k : Nat) (a0 : Int) (A1 : Option Addr) (c1 : Nat) (l1 : List (List Int)) (a2 : Int) (r : Bool) (w : World) (hr1 : Kd.C (Kd.slice 3 (Kd.int .i64)) w A1 l1.length l1) (hc1 : l1.length ≤ c1) (h : laws_FnExactFirstStroke.f k a0 l1 a2 = some r) :
    Calls Try.prog 9 #[.int .i64 a0, .slice A1 l1.length c1, .int .i64 a2] w fun e w' => e = .returned (.bool r) ∧ Below w.heap.size w w' := by
  unfold laws_FnExactFirstStroke.f at h
  have HR1 := Aside0.mk hr1
  have HC1 := Aside0.mk hc1
  clear hr1 hc1
  replace h := Option.bind_eq_some_iff.1 h
  obtain ⟨s1, b_s1, h⟩ := h
  have Q_s1 := Aside0.mk b_s1
  clear b_s1
  by_cases m1 : s1 < 0
  · rw [if_pos m1] at h
    obtain rfl := Option.some.inj h
    clear h
    go_enter Try.func9, Try.ntmps9
    go_wp2_with fail
    refine (laws_szIntSS.calls k _ _ l1 1048576 s1 _ HR1.out HC1.out Q_s1.out).mono ?_
    rintro e w1 ⟨rfl, hd⟩
    have B1 := Aside0.mk hd.below
    clear hd
    go_wp2_with fail
    go_ret
    exact ⟨rfl, B1.out⟩
  rw [if_neg m1] at h
  replace h := Option.bind_eq_some_iff.1 h
  obtain ⟨u1, b_u1, h⟩ := h
  have Q_u1 := Aside0.mk b_u1
  clear b_u1
  replace h := Option.bind_eq_some_iff.1 h
  obtain ⟨W, b_W, h⟩ := h
  have Q_W := Aside0.mk b_W
  clear b_W
  replace h := Option.bind_eq_some_iff.1 h
  obtain ⟨x1, b_x1, h⟩ := h
  have Q_x1 := Aside0.mk b_x1
  clear b_x1
  replace h := Option.bind_eq_some_iff.1 h
  obtain ⟨G, b_G, h⟩ := h
  have Q_G := Aside0.mk b_G
  clear b_G
  obtain ⟨W0, W1⟩ := W
  obtain ⟨G0, G1⟩ := G
  replace h := Option.bind_eq_some_iff.1 h
  obtain ⟨e0, b_e0, h⟩ := h
  have Q_e0 := Aside0.mk b_e0
  clear b_e0
  by_cases t_e0 : e0 = true
  case neg => rw [if_neg t_e0] at h; cases h
  rw [if_pos t_e0] at h
  subst t_e0
  by_cases t_G1 : G1 = W1
  case neg => rw [if_neg t_G1] at h; cases h
  rw [if_pos t_G1] at h
  subst t_G1
  replace h := Option.bind_eq_some_iff.1 h
  obtain ⟨y1, b_y1, h⟩ := h
  have Q_y1 := Aside0.mk b_y1
  clear b_y1
  replace h := Option.bind_eq_some_iff.1 h
  obtain ⟨f1, b_f1, h⟩ := h
  have Q_f1 := Aside0.mk b_f1
  clear b_f1
  by_cases t_f1 : f1 = true
  case neg => rw [if_neg t_f1] at h; cases h
  rw [if_pos t_f1] at h
  subst t_f1
  replace h := Option.bind_eq_some_iff.1 h
  obtain ⟨⟨m1a, m1b⟩, b_M1, h⟩ := h
  dsimp only at h
  have Q_M1 := Aside0.mk b_M1
  clear b_M1
  by_cases g_0 : 0 ≤ m1a
  case neg => rw [if_neg g_0] at h; cases h
  rw [if_pos g_0] at h
  replace h := Option.bind_eq_some_iff.1 h
  obtain ⟨⟨n0a, n0b⟩, b_N0, h⟩ := h
  dsimp only at h
  have Q_N0 := Aside0.mk b_N0
  clear b_N0
  replace h := Option.bind_eq_some_iff.1 h
  obtain ⟨q0, b_q0, h⟩ := h
  have Q_q0 := Aside0.mk b_q0
  clear b_q0
  by_cases g_q0 : 0 ≤ q0
  case neg => rw [if_neg g_q0] at h; cases h
  rw [if_pos g_q0] at h
  by_cases t_q : q0 = n0a
  case neg => rw [if_neg t_q] at h; cases h
  rw [if_pos t_q] at h
  subst t_q
  replace h := Option.bind_eq_some_iff.1 h
  obtain ⟨z1, b_z1, h⟩ := h
  have Q_z1 := Aside0.mk b_z1
  clear b_z1
  replace h := Option.bind_eq_some_iff.1 h
  obtain ⟨H, b_H, h⟩ := h
  have Q_H := Aside0.mk b_H
  clear b_H
  obtain ⟨H0, H1⟩ := H
  replace h := Option.bind_eq_some_iff.1 h
  obtain ⟨d0, b_d0, h⟩ := h
  have Q_d0 := Aside0.mk b_d0
  clear b_d0
  by_cases t_d0 : d0 = true
  case neg => rw [if_neg t_d0] at h; cases h
  rw [if_pos t_d0] at h
  subst t_d0
  by_cases t_H1 : H1 = G1
  case neg => rw [if_neg t_H1] at h; cases h
  rw [if_pos t_H1] at h
  subst t_H1
  obtain rfl := Option.some.inj h
  clear h
  go_enter Try.func9, Try.ntmps9
  go_wp2_with fail
  refine (laws_szIntSS.calls k _ _ l1 1048576 s1 w HR1.out HC1.out Q_s1.out).mono ?_
  rintro e w1 ⟨rfl, hd⟩
  have hb := hd.below
  clear hd
  have Z1 := Aside0.mk hb.size
  have B1 := Aside0.mk hb
  clear hb
  go_wp2_with fail
  refine (laws_toIntSS.calls k _ _ l1 u1 w1 (Kd.C_below HR1.out B1.out) HC1.out Q_u1.out).mono ?_
  rintro e w2 ⟨v_u1, rfl, ho_u1, hb⟩
  have Z2 := Aside0.mk hb.size
  have B2 := Aside0.mk (below_then B1.out B1.out.size hb)
  obtain ⟨A_u1, c_u1, rfl, hl_u1, hC_u1⟩ := Kd.S_reads ho_u1
  clear hl_u1 hC_u1
  have F_u1 : Aside0 (Kd.S (Kd.slice 3 (Kd.int .i64)) 27 w2 w1.heap.size (fun k_ => k_ < w2.heap.size) (.slice A_u1 u1.length c_u1) u1) := ⟨Kd.S_mono (Kd.S_bound ho_u1) (fun _ hk => hk.2.2.1)⟩
  clear ho_u1
  clear hb
  go_wp2_with fail
  refine (spec_FirstStroke.calls k a0 _ _ u1 a2 W0 H1 w2 (Kd.S_reads' F_u1.out).2.2 (Kd.S_reads' F_u1.out).2.1 Q_W.out).mono ?_
  rintro e w3 ⟨v_W0, rfl, ho_W0, hb⟩
  have Z3 := Aside0.mk hb.size
  have B3 := Aside0.mk (below_then B2.out B2.out.size hb)
  obtain ⟨A_W0, c_W0, rfl, hl_W0, hC_W0⟩ := Kd.R_reads ho_W0
  clear hl_W0 hC_W0
  have F_W0 : Aside0 (Kd.R (Kd.int .i64) 3 w3 w2.heap.size (fun k_ => k_ < w3.heap.size) (.slice A_W0 W0.length c_W0) W0) := ⟨Kd.R_mono (Kd.R_bound ho_W0) (fun _ hk => hk.2.2.1)⟩
  clear ho_W0
  have T_u1 := Aside0.mk (Kd.S_below F_u1.out hb)
  clear F_u1
  have F_u1 : Aside0 (Kd.S (Kd.slice 3 (Kd.int .i64)) 27 w3 w1.heap.size (fun k_ => k_ < w2.heap.size) (.slice A_u1 u1.length c_u1) u1) := T_u1
  clear T_u1
  clear hb
  clear F_u1
  go_wp2_with fail
  refine (laws_toIntSS.calls k _ _ l1 x1 w3 (Kd.C_below HR1.out B3.out) HC1.out Q_x1.out).mono ?_
  rintro e w4 ⟨v_x1, rfl, ho_x1, hb⟩
  have Z4 := Aside0.mk hb.size
  have B4 := Aside0.mk (below_then B3.out B3.out.size hb)
  obtain ⟨A_x1, c_x1, rfl, hl_x1, hC_x1⟩ := Kd.S_reads ho_x1
  clear hl_x1 hC_x1
  have F_x1 : Aside0 (Kd.S (Kd.slice 3 (Kd.int .i64)) 27 w4 w3.heap.size (fun k_ => k_ < w4.heap.size) (.slice A_x1 x1.length c_x1) x1) := ⟨Kd.S_mono (Kd.S_bound ho_x1) (fun _ hk => hk.2.2.1)⟩
  clear ho_x1
  have T_W0 := Aside0.mk (Kd.R_below F_W0.out hb)
  clear F_W0
  have F_W0 : Aside0 (Kd.R (Kd.int .i64) 3 w4 w2.heap.size (fun k_ => k_ < w3.heap.size) (.slice A_W0 W0.length c_W0) W0) := T_W0
  clear T_W0
  clear hb
  go_wp2_with fail
  refine (impl_FirstStroke.calls k a0 _ _ x1 a2 G0 H1 w4 (Kd.S_reads' F_x1.out).2.2 (Kd.S_reads' F_x1.out).2.1 Q_G.out).mono ?_
  rintro e w5 ⟨v_G0, rfl, ho_G0, hb⟩
  have Z5 := Aside0.mk hb.size
  have B5 := Aside0.mk (below_then B4.out B4.out.size hb)
  obtain ⟨A_G0, c_G0, rfl, hl_G0, hC_G0⟩ := Kd.R_reads ho_G0
  clear hl_G0 hC_G0
  have F_G0 : Aside0 (Kd.R (Kd.int .i64) 3 w5 w4.heap.size (fun k_ => k_ < w5.heap.size) (.slice A_G0 G0.length c_G0) G0) := ⟨Kd.R_mono (Kd.R_bound ho_G0) (fun _ hk => hk.2.2.1)⟩
  clear ho_G0
  have T_W0 := Aside0.mk (Kd.R_below F_W0.out hb)
  clear F_W0
  have F_W0 : Aside0 (Kd.R (Kd.int .i64) 3 w5 w2.heap.size (fun k_ => k_ < w3.heap.size) (.slice A_W0 W0.length c_W0) W0) := T_W0
  clear T_W0
  have T_x1 := Aside0.mk (Kd.S_below F_x1.out hb)
  clear F_x1
  have F_x1 : Aside0 (Kd.S (Kd.slice 3 (Kd.int .i64)) 27 w5 w3.heap.size (fun k_ => k_ < w4.heap.size) (.slice A_x1 x1.length c_x1) x1) := T_x1
  clear T_x1
  clear hb
  go_wp2_with fail
  refine (laws_eqIntS.calls k _ _ G0 _ _ W0 true w5 (Kd.R_reads' F_G0.out).2.2 (Kd.R_reads' F_G0.out).2.1 (Kd.R_reads' F_W0.out).2.2 (Kd.R_reads' F_W0.out).2.1 Q_e0.out).mono ?_
  rintro e w6 ⟨rfl, hd⟩
  have hb := hd.below
  clear hd
  have Z6 := Aside0.mk hb.size
  have B6 := Aside0.mk (below_then B5.out B5.out.size hb)
  have T_W0 := Aside0.mk (Kd.R_below F_W0.out hb)
  clear F_W0
  have F_W0 : Aside0 (Kd.R (Kd.int .i64) 3 w6 w2.heap.size (fun k_ => k_ < w3.heap.size) (.slice A_W0 W0.length c_W0) W0) := T_W0
  clear T_W0
  have T_x1 := Aside0.mk (Kd.S_below F_x1.out hb)
  clear F_x1
  have F_x1 : Aside0 (Kd.S (Kd.slice 3 (Kd.int .i64)) 27 w6 w3.heap.size (fun k_ => k_ < w4.heap.size) (.slice A_x1 x1.length c_x1) x1) := T_x1
  clear T_x1
  have T_G0 := Aside0.mk (Kd.R_below F_G0.out hb)
  clear F_G0
  have F_G0 : Aside0 (Kd.R (Kd.int .i64) 3 w6 w4.heap.size (fun k_ => k_ < w5.heap.size) (.slice A_G0 G0.length c_G0) G0) := T_G0
  clear T_G0
  clear hb
  go_wp2_with fail
  refine (laws_toIntSS.calls k _ _ l1 y1 w6 (Kd.C_below HR1.out B6.out) HC1.out Q_y1.out).mono ?_
  rintro e w7 ⟨v_y1, rfl, ho_y1, hb⟩
  have Z7 := Aside0.mk hb.size
  have B7 := Aside0.mk (below_then B6.out B6.out.size hb)
  obtain ⟨A_y1, c_y1, rfl, hl_y1, hC_y1⟩ := Kd.S_reads ho_y1
  clear hl_y1 hC_y1
  have F_y1 : Aside0 (Kd.S (Kd.slice 3 (Kd.int .i64)) 27 w7 w6.heap.size (fun k_ => k_ < w7.heap.size) (.slice A_y1 y1.length c_y1) y1) := ⟨Kd.S_mono (Kd.S_bound ho_y1) (fun _ hk => hk.2.2.1)⟩
  clear ho_y1
  have T_W0 := Aside0.mk (Kd.R_below F_W0.out hb)
  clear F_W0
  have F_W0 : Aside0 (Kd.R (Kd.int .i64) 3 w7 w2.heap.size (fun k_ => k_ < w3.heap.size) (.slice A_W0 W0.length c_W0) W0) := T_W0
  clear T_W0
  have T_x1 := Aside0.mk (Kd.S_below F_x1.out hb)
  clear F_x1
  have F_x1 : Aside0 (Kd.S (Kd.slice 3 (Kd.int .i64)) 27 w7 w3.heap.size (fun k_ => k_ < w4.heap.size) (.slice A_x1 x1.length c_x1) x1) := T_x1
  clear T_x1
  have T_G0 := Aside0.mk (Kd.R_below F_G0.out hb)
  clear F_G0
  have F_G0 : Aside0 (Kd.R (Kd.int .i64) 3 w7 w4.heap.size (fun k_ => k_ < w5.heap.size) (.slice A_G0 G0.length c_G0) G0) := T_G0
  clear T_G0
  clear hb
  go_wp2_with fail
  refine (laws_eqIntSS.calls k _ _ x1 _ _ y1 true w7 (Kd.S_reads' F_x1.out).2.2 (Kd.S_reads' F_x1.out).2.1 (Kd.S_reads' F_y1.out).2.2 (Kd.S_reads' F_y1.out).2.1 Q_f1.out).mono ?_
  rintro e w8 ⟨rfl, hd⟩
  have hb := hd.below
  clear hd
  have Z8 := Aside0.mk hb.size
  have B8 := Aside0.mk (below_then B7.out B7.out.size hb)
  have T_W0 := Aside0.mk (Kd.R_below F_W0.out hb)
  clear F_W0
  have F_W0 : Aside0 (Kd.R (Kd.int .i64) 3 w8 w2.heap.size (fun k_ => k_ < w3.heap.size) (.slice A_W0 W0.length c_W0) W0) := T_W0
  clear T_W0
  have T_x1 := Aside0.mk (Kd.S_below F_x1.out hb)
  clear F_x1
  have F_x1 : Aside0 (Kd.S (Kd.slice 3 (Kd.int .i64)) 27 w8 w3.heap.size (fun k_ => k_ < w4.heap.size) (.slice A_x1 x1.length c_x1) x1) := T_x1
  clear T_x1
  have T_G0 := Aside0.mk (Kd.R_below F_G0.out hb)
  clear F_G0
  have F_G0 : Aside0 (Kd.R (Kd.int .i64) 3 w8 w4.heap.size (fun k_ => k_ < w5.heap.size) (.slice A_G0 G0.length c_G0) G0) := T_G0
  clear T_G0
  have T_y1 := Aside0.mk (Kd.S_below F_y1.out hb)
  clear F_y1
  have F_y1 : Aside0 (Kd.S (Kd.slice 3 (Kd.int .i64)) 27 w8 w6.heap.size (fun k_ => k_ < w7.heap.size) (.slice A_y1 y1.length c_y1) y1) := T_y1
  clear T_y1
  clear hb
  clear F_y1
  go_wp2_with fail
  refine (laws_markIntSS.calls k w3.heap.size w4.heap.size _ x1 1 m1a m1b w w8 B8.out (by have y1 := Z1.out; have y2 := Z2.out; have y3 := Z3.out; have y4 := Z4.out; have y5 := Z5.out; have y6 := Z6.out; have y7 := Z7.out; have y8 := Z8.out; omega) (Kd.S_mono (Kd.S_lower (Kd.S_bound F_x1.out) (by have y1 := Z1.out; have y2 := Z2.out; have y3 := Z3.out; have y4 := Z4.out; have y5 := Z5.out; have y6 := Z6.out; have y7 := Z7.out; have y8 := Z8.out; omega)) (fun k_ hk => ⟨hk.2.1, hk.1⟩)) Q_M1.out).mono ?_
  rintro e w9 ⟨rfl, ho, hb, hkp⟩
  have Z9 := Aside0.mk hkp.1
  have B9 := Aside0.mk hb
  have T_W0 := Aside0.mk (Kd.R_mono (Kd.R_step (Kd.R_bound F_W0.out) (fun k_ hk hs => hkp.2 k_ hs (fun z => by have z1 := z.1; have z2 := z.2; have z3 := hk.1; have z4 := hk.2.1; have y1 := Z1.out; have y2 := Z2.out; have y3 := Z3.out; have y4 := Z4.out; have y5 := Z5.out; have y6 := Z6.out; have y7 := Z7.out; have y8 := Z8.out; omega))) (fun _ hk => hk.1))
  clear F_W0
  have F_W0 : Aside0 (Kd.R (Kd.int .i64) 3 w9 w2.heap.size (fun k_ => k_ < w3.heap.size) (.slice A_W0 W0.length c_W0) W0) := T_W0
  clear T_W0
  have T_G0 := Aside0.mk (Kd.R_mono (Kd.R_step (Kd.R_bound F_G0.out) (fun k_ hk hs => hkp.2 k_ hs (fun z => by have z1 := z.1; have z2 := z.2; have z3 := hk.1; have z4 := hk.2.1; have y1 := Z1.out; have y2 := Z2.out; have y3 := Z3.out; have y4 := Z4.out; have y5 := Z5.out; have y6 := Z6.out; have y7 := Z7.out; have y8 := Z8.out; omega))) (fun _ hk => hk.1))
  clear F_G0
  have F_G0 : Aside0 (Kd.R (Kd.int .i64) 3 w9 w4.heap.size (fun k_ => k_ < w5.heap.size) (.slice A_G0 G0.length c_G0) G0) := T_G0
  clear T_G0
  clear F_x1 ho
  clear hb hkp
  go_wp2_with fail
  refine (laws_eqIntS.calls k _ _ G0 _ _ W0 true w9 (Kd.R_reads' F_G0.out).2.2 (Kd.R_reads' F_G0.out).2.1 (Kd.R_reads' F_W0.out).2.2 (Kd.R_reads' F_W0.out).2.1 Q_e0.out).mono ?_
  rintro e w10 ⟨rfl, hd⟩
  have hb := hd.below
  clear hd
  have Z10 := Aside0.mk hb.size
  have B10 := Aside0.mk (below_then B9.out B9.out.size hb)
  have T_W0 := Aside0.mk (Kd.R_below F_W0.out hb)
  clear F_W0
  have F_W0 : Aside0 (Kd.R (Kd.int .i64) 3 w10 w2.heap.size (fun k_ => k_ < w3.heap.size) (.slice A_W0 W0.length c_W0) W0) := T_W0
  clear T_W0
  have T_G0 := Aside0.mk (Kd.R_below F_G0.out hb)
  clear F_G0
  have F_G0 : Aside0 (Kd.R (Kd.int .i64) 3 w10 w4.heap.size (fun k_ => k_ < w5.heap.size) (.slice A_G0 G0.length c_G0) G0) := T_G0
  clear T_G0
  clear hb
  go_wp2_with fail
  refine (laws_markIntS.calls k (fun k_ => w4.heap.size ≤ k_ ∧ k_ < w5.heap.size) _ G0 1 q0 n0b w w10 B10.out (Kd.R_mono (Kd.R_lower (Kd.R_bound F_G0.out) (by have y1 := Z1.out; have y2 := Z2.out; have y3 := Z3.out; have y4 := Z4.out; have y5 := Z5.out; have y6 := Z6.out; have y7 := Z7.out; have y8 := Z8.out; have y9 := Z9.out; have y10 := Z10.out; omega)) (fun k_ hk => ⟨hk.2.1, hk.1⟩)) Q_N0.out).mono ?_
  rintro e w11 ⟨rfl, ho, hb, hkp⟩
  have Z11 := Aside0.mk hkp.1
  have B11 := Aside0.mk hb
  have T_W0 := Aside0.mk (Kd.R_mono (Kd.R_step (Kd.R_bound F_W0.out) (fun k_ hk hs => hkp.2 k_ hs (fun z => by have z1 := z.1; have z2 := z.2; have z3 := hk.1; have z4 := hk.2.1; have y1 := Z1.out; have y2 := Z2.out; have y3 := Z3.out; have y4 := Z4.out; have y5 := Z5.out; have y6 := Z6.out; have y7 := Z7.out; have y8 := Z8.out; have y9 := Z9.out; have y10 := Z10.out; omega))) (fun _ hk => hk.1))
  clear F_W0
  have F_W0 : Aside0 (Kd.R (Kd.int .i64) 3 w11 w2.heap.size (fun k_ => k_ < w3.heap.size) (.slice A_W0 W0.length c_W0) W0) := T_W0
  clear T_W0
  have T_ : Aside0 (Kd.R (Kd.int .i64) 3 w11 w.heap.size (fun k_ => k_ < w5.heap.size) (.slice A_G0 G0.length c_G0) n0b) := ⟨Kd.R_mono (Kd.R_tight rfl ho) (fun k_ hk => F_G0.out.1 k_ hk.symm)⟩
  clear F_G0 ho
  have EL : G0.length = n0b.length := (Kd.R_reads' T_.out).1
  rw [EL] at T_
  rw [EL]
  clear EL
  have F_G0 : Aside0 (Kd.R (Kd.int .i64) 3 w11 w.heap.size (fun k_ => k_ < w5.heap.size) (.slice A_G0 n0b.length c_G0) n0b) := T_
  clear T_
  clear hb hkp
  go_wp2_with fail
  refine (laws_heldIntS.calls k _ _ n0b 1 q0 w11 (Kd.R_reads' F_G0.out).2.2 (Kd.R_reads' F_G0.out).2.1 Q_q0.out).mono ?_
  rintro e w12 ⟨rfl, hd⟩
  have hb := hd.below
  clear hd
  have Z12 := Aside0.mk hb.size
  have B12 := Aside0.mk (below_then B11.out B11.out.size hb)
  have T_W0 := Aside0.mk (Kd.R_below F_W0.out hb)
  clear F_W0
  have F_W0 : Aside0 (Kd.R (Kd.int .i64) 3 w12 w2.heap.size (fun k_ => k_ < w3.heap.size) (.slice A_W0 W0.length c_W0) W0) := T_W0
  clear T_W0
  have T_G0 := Aside0.mk (Kd.R_below F_G0.out hb)
  clear F_G0
  have F_G0 : Aside0 (Kd.R (Kd.int .i64) 3 w12 w.heap.size (fun k_ => k_ < w5.heap.size) (.slice A_G0 n0b.length c_G0) n0b) := T_G0
  clear T_G0
  clear hb
  go_wp2_with fail
  refine (laws_toIntSS.calls k _ _ l1 z1 w12 (Kd.C_below HR1.out B12.out) HC1.out Q_z1.out).mono ?_
  rintro e w13 ⟨v_z1, rfl, ho_z1, hb⟩
  have Z13 := Aside0.mk hb.size
  have B13 := Aside0.mk (below_then B12.out B12.out.size hb)
  obtain ⟨A_z1, c_z1, rfl, hl_z1, hC_z1⟩ := Kd.S_reads ho_z1
  clear hl_z1 hC_z1
  have F_z1 : Aside0 (Kd.S (Kd.slice 3 (Kd.int .i64)) 27 w13 w12.heap.size (fun k_ => k_ < w13.heap.size) (.slice A_z1 z1.length c_z1) z1) := ⟨Kd.S_mono (Kd.S_bound ho_z1) (fun _ hk => hk.2.2.1)⟩
  clear ho_z1
  have T_W0 := Aside0.mk (Kd.R_below F_W0.out hb)
  clear F_W0
  have F_W0 : Aside0 (Kd.R (Kd.int .i64) 3 w13 w2.heap.size (fun k_ => k_ < w3.heap.size) (.slice A_W0 W0.length c_W0) W0) := T_W0
  clear T_W0
  have T_G0 := Aside0.mk (Kd.R_below F_G0.out hb)
  clear F_G0
  have F_G0 : Aside0 (Kd.R (Kd.int .i64) 3 w13 w.heap.size (fun k_ => k_ < w5.heap.size) (.slice A_G0 n0b.length c_G0) n0b) := T_G0
  clear T_G0
  clear hb
  go_wp2_with fail
  refine (impl_FirstStroke.calls k a0 _ _ z1 a2 H0 H1 w13 (Kd.S_reads' F_z1.out).2.2 (Kd.S_reads' F_z1.out).2.1 Q_H.out).mono ?_
  rintro e w14 ⟨v_H0, rfl, ho_H0, hb⟩
  have Z14 := Aside0.mk hb.size
  have B14 := Aside0.mk (below_then B13.out B13.out.size hb)
  obtain ⟨A_H0, c_H0, rfl, hl_H0, hC_H0⟩ := Kd.R_reads ho_H0
  clear hl_H0 hC_H0
  have F_H0 : Aside0 (Kd.R (Kd.int .i64) 3 w14 w13.heap.size (fun k_ => k_ < w14.heap.size) (.slice A_H0 H0.length c_H0) H0) := ⟨Kd.R_mono (Kd.R_bound ho_H0) (fun _ hk => hk.2.2.1)⟩
  clear ho_H0
  have T_W0 := Aside0.mk (Kd.R_below F_W0.out hb)
  clear F_W0
  have F_W0 : Aside0 (Kd.R (Kd.int .i64) 3 w14 w2.heap.size (fun k_ => k_ < w3.heap.size) (.slice A_W0 W0.length c_W0) W0) := T_W0
  clear T_W0
  have T_G0 := Aside0.mk (Kd.R_below F_G0.out hb)
  clear F_G0
  have F_G0 : Aside0 (Kd.R (Kd.int .i64) 3 w14 w.heap.size (fun k_ => k_ < w5.heap.size) (.slice A_G0 n0b.length c_G0) n0b) := T_G0
  clear T_G0
  have T_z1 := Aside0.mk (Kd.S_below F_z1.out hb)
  clear F_z1
  have F_z1 : Aside0 (Kd.S (Kd.slice 3 (Kd.int .i64)) 27 w14 w12.heap.size (fun k_ => k_ < w13.heap.size) (.slice A_z1 z1.length c_z1) z1) := T_z1
  clear T_z1
  clear hb
  clear F_z1
  go_wp2_with fail
  refine (laws_eqIntS.calls k _ _ H0 _ _ W0 true w14 (Kd.R_reads' F_H0.out).2.2 (Kd.R_reads' F_H0.out).2.1 (Kd.R_reads' F_W0.out).2.2 (Kd.R_reads' F_W0.out).2.1 Q_d0.out).mono ?_
  rintro e w15 ⟨rfl, hd⟩
  have hb := hd.below
  clear hd
  have Z15 := Aside0.mk hb.size
  have B15 := Aside0.mk (below_then B14.out B14.out.size hb)
  have T_W0 := Aside0.mk (Kd.R_below F_W0.out hb)
  clear F_W0
  have F_W0 : Aside0 (Kd.R (Kd.int .i64) 3 w15 w2.heap.size (fun k_ => k_ < w3.heap.size) (.slice A_W0 W0.length c_W0) W0) := T_W0
  clear T_W0
  have T_G0 := Aside0.mk (Kd.R_below F_G0.out hb)
  clear F_G0
  have F_G0 : Aside0 (Kd.R (Kd.int .i64) 3 w15 w.heap.size (fun k_ => k_ < w5.heap.size) (.slice A_G0 n0b.length c_G0) n0b) := T_G0
  clear T_G0
  have T_H0 := Aside0.mk (Kd.R_below F_H0.out hb)
  clear F_H0
  have F_H0 : Aside0 (Kd.R (Kd.int .i64) 3 w15 w13.heap.size (fun k_ => k_ < w14.heap.size) (.slice A_H0 H0.length c_H0) H0) := T_H0
  clear T_H0
  clear hb
  go_wp2_with fail
  refine (laws_heldIntS.calls k _ _ n0b 1 q0 w15 (Kd.R_reads' F_G0.out).2.2 (Kd.R_reads' F_G0.out).2.1 Q_q0.out).mono ?_
  rintro e w16 ⟨rfl, hd⟩
  have hb := hd.below
  clear hd
  have Z16 := Aside0.mk hb.size
  have B16 := Aside0.mk (below_then B15.out B15.out.size hb)
  have T_W0 := Aside0.mk (Kd.R_below F_W0.out hb)
  clear F_W0
  have F_W0 : Aside0 (Kd.R (Kd.int .i64) 3 w16 w2.heap.size (fun k_ => k_ < w3.heap.size) (.slice A_W0 W0.length c_W0) W0) := T_W0
  clear T_W0
  have T_G0 := Aside0.mk (Kd.R_below F_G0.out hb)
  clear F_G0
  have F_G0 : Aside0 (Kd.R (Kd.int .i64) 3 w16 w.heap.size (fun k_ => k_ < w5.heap.size) (.slice A_G0 n0b.length c_G0) n0b) := T_G0
  clear T_G0
  have T_H0 := Aside0.mk (Kd.R_below F_H0.out hb)
  clear F_H0
  have F_H0 : Aside0 (Kd.R (Kd.int .i64) 3 w16 w13.heap.size (fun k_ => k_ < w14.heap.size) (.slice A_H0 H0.length c_H0) H0) := T_H0
  clear T_H0
  clear hb
  go_wp2_with fail
  go_ret
  exact ⟨rfl, B16.out⟩
end Go.Proofs.Ytcdajmbnijmdfaa.PA
