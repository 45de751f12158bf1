/- Texts of this claim put together in build order (FnExactCanTrace). -/
import Derived.Test.YtcdajmbnijmdfaaMCanTrace0
import Derived.Test.YtcdajmbnijmdfaaMCanTrace1
-- Written for this claim by a program of this session's (ownprint.py), by way of the kit's print and hand-proved texts. Lean checks it.
namespace Go.Proofs.Ytcdajmbnijmdfaa.PA
open Go.RowKit Go.Proofs.YtcdajmbnijmdfaaW.PrintWords Go.Proofs.YtcdajmbnijmdfaaW.PrintLast Go.Proofs.YtcdajmbnijmdfaaW.PrintMore
attribute [local go_sem] max2_int min2_int max_two min_two max_three min_three max_four min_four   -- for this text's walks alone
set_option linter.unusedVariables false
set_option linter.unusedSimpArgs false
mutual
def spec_l23Trace.g : Nat → List (List Int) → Int → Int → List Bool → Option (List Int × Bool × List Bool)
  | 0, _, _, _, _ => none
  | k + 1, ls, a, u, fl => if u = wrap64 ((shl .i64 1 (ls.length : Int)) - 1) then some ([], true, fl) else (if 0 ≤ wrap64 (wrap64 (u * 8) + a) ∧ wrap64 (wrap64 (u * 8) + a) < (fl.length : Int) then (if rdOf false fl (wrap64 (wrap64 (u * 8) + a)) = true then some ([], false, fl) else spec_l23Trace.l k ls a u fl 0) else none)
def spec_l23Trace.l : Nat → List (List Int) → Int → Int → List Bool → Int → Option (List Int × Bool × List Bool)
  | 0, _, _, _, _, _ => none
  | k + 1, ls, a, u, fl, x => if x < (ls.length : Int) then (if 0 ≤ x ∧ (rd_L1 ls x).length = 2 then (if Go.bits .and .i64 (shr .i64 u x) 1 = 1 then spec_l23Trace.l k ls a u fl (wrap64 (x + 1)) else (if rd (rd_L1 ls x) 0 = a ∨ rd (rd_L1 ls x) 1 = a then ((spec_l23Trace.g k ls (wrap64 (wrap64 (rd (rd_L1 ls x) 0 + rd (rd_L1 ls x) 1) - a)) (wrap64 (u + shl .i64 1 x)) fl).bind fun t => if t.2.1 = true then (if t.1.length < 1000 then some (x :: t.1, true, t.2.2) else none) else spec_l23Trace.l k ls a u t.2.2 (wrap64 (x + 1))) else spec_l23Trace.l k ls a u fl (wrap64 (x + 1)))) else none) else (if 0 ≤ wrap64 (wrap64 (u * 8) + a) ∧ wrap64 (wrap64 (u * 8) + a) < (fl.length : Int) then some ([], false, fl.set (wrap64 (wrap64 (u * 8) + a)).toNat true) else none)
end
theorem tr_shl (n : Nat) : shl .i64 1 (n : Int) = wrap64 (2 ^ min n 64) := by
  unfold shl
  rw [Int.toNat_natCast, IntKind.wrap_i64]
  simp [IntKind.bits, wrap64]
theorem tr_shl1 (x : Int) : shl .i64 1 x = wrap64 (2 ^ min x.toNat 64) := by
  unfold shl
  rw [IntKind.wrap_i64]
  simp [IntKind.bits, wrap64]
theorem tr_shr (u x : Int) : shr .i64 u x = u / 2 ^ min x.toNat 64 := rfl
theorem tr_wrap (n : Int) : wrap64 n = IntKind.i64.wrap n := by
  rw [IntKind.wrap_i64]
  unfold wrap64
  omega
theorem tr_row {W : World} {base g : Nat} {xs : List Int} (hb : W.heap[g]? = some (.cells (xs.map (Value.int .i64)).toArray 3 (0, 0))) (hg : base ≤ g) (hl : xs.length ≤ 9223372036854775807) : Kd.R (Kd.int .i64) 3 W base (fun _ => True) (.slice (some ⟨g, 0, none⟩) xs.length xs.length) xs :=
  ⟨fun k hk => trivial, xs.map (Value.int .i64), ⟨by simp [Kd.int, Kd.scalar], .inr ⟨g, xs.length, _, rfl, hg, hb, Nat.le_refl _, hl, by simp [Kd.int, Kd.scalar], by simp [Kd.int, Kd.scalar, List.take_of_length_le]⟩⟩, Kd.reps_scalar _⟩
set_option maxHeartbeats 4000000 in
set_option maxRecDepth 100000 in
theorem spec_l23Trace.calls_g (w0 : World) (g cap : Nat) (A : Option Addr) (c : Nat) (ls : List (List Int)) (hr0 : Kd.C (Kd.slice 3 (Kd.int .i64)) w0 A ls.length ls) (hg0 : w0.heap.size ≤ g) (k : Nat) :
    ∀ (a u : Int) (fl : List Bool) (w : World) (r : List Int × Bool × List Bool), spec_l23Trace.g k ls a u fl = some r → Below w0.heap.size w0 w → Kd.R Kd.bool 4 w w0.heap.size (fun k => k = g) (.slice (some ⟨g, 0, none⟩) fl.length cap) fl →
    Calls Try.prog 51 #[.slice A ls.length c, .int .i64 a, .int .i64 u, .slice (some ⟨g, 0, none⟩) fl.length cap] w fun e w' => ∃ v, e = .returned (.tuple #[v, .bool r.2.1]) ∧ Kd.R (Kd.int .i64) 3 w' w0.heap.size (fun _ => True) v r.1 ∧ Kd.R Kd.bool 4 w' w0.heap.size (fun k => k = g) (.slice (some ⟨g, 0, none⟩) fl.length cap) r.2.2 ∧ r.2.2.length = fl.length ∧ Below w0.heap.size w0 w' := by
  induction k using Nat.strongRecOn with
  | _ k ih =>
  intro a u fl w r h hB hF
  cases k with
  | zero => simp [spec_l23Trace.g] at h
  | succ k =>
  rw [spec_l23Trace.g] at h
  have HR0 := Aside0.mk hr0
  have HG0 := Aside0.mk hg0
  clear hr0 hg0
  by_cases c1 : u = wrap64 ((shl .i64 1 (ls.length : Int)) - 1)
  · rw [if_pos c1] at h
    have c1b : (u == wrap64 (wrap64 (2 ^ min ls.length 64) - 1)) = true := by rw [tr_shl] at c1; exact beq_iff_eq.2 c1
    have HS := Aside0.mk (Option.some.inj h)
    have HB := Aside0.mk hB
    have HF := Aside0.mk hF
    clear hB hF h ih c1
    go_enter Try.func51, Try.ntmps51
    go_wp2
    go_ret2
    rw [← HS.out]
    have hb1 : Below w.heap.size w (w.alloc (.cells #[] 3)) := below_alloc (Below.refl _ _) _
    exact ⟨_, rfl, tr_row (xs := []) (g := w.heap.size) (by simpa using heap_alloc_new w (.cells #[] 3)) HB.out.size (by simp), Kd.R_below HF.out hb1, rfl, below_then HB.out HB.out.size hb1⟩
  · rw [if_neg c1] at h
    have c1b : (u == wrap64 (wrap64 (2 ^ min ls.length 64) - 1)) = false := by rw [tr_shl] at c1; exact beq_eq_false_iff_ne.2 c1
    clear c1
    by_cases c2 : 0 ≤ wrap64 (wrap64 (u * 8) + a) ∧ wrap64 (wrap64 (u * 8) + a) < (fl.length : Int)
    case neg => rw [if_neg c2] at h; cases h
    rw [if_pos c2] at h
    obtain ⟨c2a, c2b⟩ := c2
    obtain ⟨hcell, hfr⟩ := Kd.R_celln false hF (wrap64 (wrap64 (u * 8) + a)) c2a c2b
    clear hfr
    by_cases c3 : rdOf false fl (wrap64 (wrap64 (u * 8) + a)) = true
    · rw [if_pos c3] at h
      rw [c3] at hcell
      have HS := Aside0.mk (Option.some.inj h)
      have HB := Aside0.mk hB
      have HF := Aside0.mk hF
      clear hB hF h ih c3
      go_enter Try.func51, Try.ntmps51
      go_wp2
      go_ret2
      rw [← HS.out]
      exact ⟨_, rfl, Kd.R_nil _ _ _ _ _, HF.out, rfl, HB.out⟩
    · rw [if_neg c3] at h
      replace c3 := Bool.eq_false_iff.mpr c3
      rw [c3] at hcell
      have H := Aside0.mk h
      have HB := Aside0.mk hB
      have HF := Aside0.mk hF
      have IH := Aside0.mk ih
      have C2 := Aside0.mk (And.intro c2a c2b)
      clear hB hF h ih c3
      go_enter Try.func51, Try.ntmps51
      go_wp2
      clear hcell c1b c2a c2b
      go_loopg [30] k (fun kq v30 wr => ∃ (x : Int) (fl2 : List Bool), v30 = .int .i64 x ∧ Aside0 (spec_l23Trace.l kq ls a u fl2 x = some r) ∧ Aside0 (kq ≤ k) ∧ Aside0 (fl2.length = fl.length) ∧ Aside0 (Below w0.heap.size w0 wr) ∧ Aside0 (Kd.R Kd.bool 4 wr w0.heap.size (fun k => k = g) (.slice (some ⟨g, 0, none⟩) fl.length cap) fl2))
      case atStart => exact ⟨0, fl, rfl, H, ⟨Nat.le_refl _⟩, ⟨rfl⟩, HB, HF⟩
      case round =>
        clear HB HF H
        obtain ⟨x, fl2, rfl, HA, HKQ, HL, HB, HF⟩ := hrel
        cases gk with
        | zero => exact absurd HA.out (by simp [spec_l23Trace.l])
        | succ k3 =>
          have h := HA.out
          clear HA
          rw [spec_l23Trace.l] at h
          obtain ⟨wo, rfl⟩ : ∃ x, x = wr := ⟨_, rfl⟩
          by_cases c4 : x < (ls.length : Int)
          · rw [if_pos c4] at h
            by_cases c5 : 0 ≤ x ∧ (rd_L1 ls x).length = 2
            case neg => rw [if_neg c5] at h; cases h
            rw [if_pos c5] at h
            obtain ⟨c5, c52⟩ := c5
            obtain ⟨ad, Ar, cr, e, hx, hl, hi⟩ := at_L1 HR0.out x c5 c4
            cases e
            rw [c52] at hx hl hi
            obtain ⟨ad1, e1, h0⟩ := Kd.at_int hi 0 (by omega) (by omega)
            cases e1
            obtain ⟨ad2, e2, h1⟩ := Kd.at_int hi 1 (by omega) (by omega)
            obtain rfl : ad1 = ad2 := by injection e2
            clear e2 hl hi c52
            rw [show ((0 : Int)).toNat = 0 from rfl, Addr.add_zero'] at h0
            simp only [show (1 : Int).toNat = 1 from rfl, Nat.reduceMul, Nat.reduceEqDiff, Go.Addr.add, ↓reduceIte] at h1
            have H0 := Aside0.mk h0
            have H1 := Aside0.mk h1
            clear h0 h1
            have hx0 := (HB.out.cell (World.block_lt_of_cell? w0 _ H0.out)).trans H0.out
            have hx1 := (HB.out.cell (World.block_lt_of_cell? w0 _ H1.out)).trans H1.out
            replace hx := (HB.out.cell (World.block_lt_of_cell? w0 _ hx)).trans hx
            have p5 := eq_true c5
            by_cases c6 : Go.bits .and .i64 (shr .i64 u x) 1 = 1
            · rw [if_pos c6] at h
              have c6b : (Go.bits .and .i64 (u / 2 ^ min x.toNat 64) 1 == 1) = true := by rw [tr_shr] at c6; exact beq_iff_eq.2 c6
              have HH := Aside0.mk h
              clear h c6
              go_wp2
              go_roundg k3
              case measure => have := HKQ.out; omega
              case rel => exact ⟨wrap64 (x + 1), fl2, rfl, HH, ⟨by have := HKQ.out; omega⟩, HL, HB, HF⟩
            · rw [if_neg c6] at h
              have c6b : (Go.bits .and .i64 (u / 2 ^ min x.toNat 64) 1 == 1) = false := by rw [tr_shr] at c6; exact beq_eq_false_iff_ne.2 c6
              clear c6
              by_cases c7 : rd (rd_L1 ls x) 0 = a
              · rw [if_pos (Or.inl c7)] at h
                have c7b : (rd (rd_L1 ls x) 0 != a) = false := bne_eq_false_iff_eq.2 c7
                have HH := Aside0.mk h
                clear h c7
                go_wp2
                have HHX := HH.out
                obtain ⟨t, ht, h⟩ := Option.bind_eq_some_iff.1 HHX
                obtain ⟨rest, ok2, fl3⟩ := t
                rw [tr_shl1] at ht
                have HIH : Aside0 (∀ W, Below w0.heap.size w0 W → Kd.R Kd.bool 4 W w0.heap.size (fun k => k = g) (.slice (some ⟨g, 0, none⟩) fl.length cap) fl2 → Calls Try.prog 51 #[.slice (some ad) ls.length c, .int .i64 (IntKind.i64.wrap (IntKind.i64.wrap (rd (rd_L1 ls x) 0 + rd (rd_L1 ls x) 1) - a)), .int .i64 (IntKind.i64.wrap (u + IntKind.i64.wrap (2 ^ min x.toNat 64))), .slice (some ⟨g, 0, none⟩) fl.length cap] W fun e w' => ∃ v, e = .returned (.tuple #[v, .bool ok2]) ∧ Kd.R (Kd.int .i64) 3 w' w0.heap.size (fun _ => True) v rest ∧ Kd.R Kd.bool 4 w' w0.heap.size (fun k => k = g) (.slice (some ⟨g, 0, none⟩) fl.length cap) fl3 ∧ fl3.length = fl.length ∧ Below w0.heap.size w0 w') := ⟨fun W hb hf => by
                  have h1_ := IH.out k3 (by have := HKQ.out; omega) _ _ fl2 W _ ht hb (by rw [HL.out]; exact hf)
                  rw [HL.out] at h1_
                  simp only [tr_wrap] at h1_
                  exact h1_⟩
                clear ht HH HHX hx
                cases ok2 with
                | true =>
                  rw [if_pos rfl] at h
                  by_cases c9 : rest.length < 1000
                  case neg => rw [if_neg c9] at h; cases h
                  rw [if_pos c9] at h
                  have HE := Aside0.mk (Option.some.inj h)
                  have HL9 := Aside0.mk c9
                  clear h c9
                  go_region_held3 (fun w' => w'.cell? ad1 = some (.int .i64 (rd (rd_L1 ls x) 0)) ∧ w'.cell? ⟨ad1.block, ad1.off + 1, none⟩ = some (.int .i64 (rd (rd_L1 ls x) 1)))
                    (first | exact ⟨hx0, hx1⟩ | exact ⟨(HB6.out.cell (World.block_lt_of_cell? w0 _ H0.out)).trans H0.out, (HB6.out.cell (World.block_lt_of_cell? w0 _ H1.out)).trans H1.out⟩)
                    (first | (go_simp; go_at_call 51; refine (HIH.out _ ?b1 ?b2).mono ?_; (case b1 => exact below_drew HB.out); (case b2 => exact Kd.R_drew HF.out); rintro e w6 ⟨v6, rfl, hv6, hF6, hl6, hB6⟩; obtain ⟨Av, cv, rfl⟩ := Kd.R_slice hv6; have HV6 := Aside0.mk hv6; have HF6 := Aside0.mk hF6; have HB6 := Aside0.mk hB6; have HL6 := Aside0.mk hl6; clear hv6 hF6 hB6 hl6))
                  go_wp2_with (first | ((with_reducible refine gate_dst (N := 75) rfl ?_); refine Kd.R_lit (Kd.int .i64) _ 3 ?hg (N := 75) ?hd (xs := ([x] : List Int)) (inner := [.int .i64 x]) (ok := fun _ => True) (okp := fun _ => True) ?hr ?hp (fun _ hk => hk) trivial (Below.refl _ _) (Nat.le_refl _) (by simp) ?_; (case hd => rfl); (case hg => rfl); (case hr => first | (go_simp; done) | (go_simp; rfl)); (case hp => exact (Reps.one (show Kd.M (Kd.int .i64) _ _ _ x [.int .i64 x] from rfl) (Reps.none _ _))); intro v75 w7 ho7 hb7 hg7 hn7; clear hg7 hn7; have HO7 := Aside0.mk ho7; have HB7 := Aside0.mk hb7; clear ho7 hb7) | ((with_reducible refine gate_builtin (b := .append) (xs := #[.tmp 75, .tmp 76]) rfl ?_); at_builtin; refine Kd.R_append_rows (Kd.int .i64) (w0 := w6) w6.heap.size rfl (.tmp 75) (.tmp 76) 27 3 (.int .i64 0) 8 rfl Try.underlying27 info3 rfl (by decide) (by omega) v75 [x] rest _ _ _ (fun _ => True) (fun _ => False) rfl rfl ?aO ?aR (fun _ _ h => h) (fun _ h => h.elim) (fun _ _ => trivial) ?aB ?aS ?aL ?_; (case aO => exact HO7.out); (case aR => exact Kd.C_below (Kd.R_reads' HV6.out).2.2 HB7.out); (case aB => exact HB7.out); (case aS => exact HB7.out.size); (case aL => have := HL9.out; simp; omega); intro v8 w8 ho8 hb8 hg8 hat8; have HO8 := Aside0.mk ho8; have HB8 := Aside0.mk hb8; clear ho8 hb8 hg8 hat8))
                  go_ret2
                  rw [← HE.out]
                  exact ⟨_, rfl, Kd.R_lower HO8.out HB6.out.size, Kd.R_below HF6.out HB8.out, HL6.out, below_then HB6.out HB6.out.size HB8.out⟩
                | false =>
                  rw [if_neg (by simp)] at h
                  have HE := Aside0.mk h
                  clear h
                  go_region_held3 (fun w' => w'.cell? ad1 = some (.int .i64 (rd (rd_L1 ls x) 0)) ∧ w'.cell? ⟨ad1.block, ad1.off + 1, none⟩ = some (.int .i64 (rd (rd_L1 ls x) 1)))
                    (first | exact ⟨hx0, hx1⟩ | exact ⟨(HB6.out.cell (World.block_lt_of_cell? w0 _ H0.out)).trans H0.out, (HB6.out.cell (World.block_lt_of_cell? w0 _ H1.out)).trans H1.out⟩)
                    (first | (go_simp; go_at_call 51; refine (HIH.out _ ?b1 ?b2).mono ?_; (case b1 => exact below_drew HB.out); (case b2 => exact Kd.R_drew HF.out); rintro e w6 ⟨v6, rfl, hv6, hF6, hl6, hB6⟩; obtain ⟨Av, cv, rfl⟩ := Kd.R_slice hv6; have HV6 := Aside0.mk hv6; have HF6 := Aside0.mk hF6; have HB6 := Aside0.mk hB6; have HL6 := Aside0.mk hl6; clear hv6 hF6 hB6 hl6))
                  go_wp2
                  go_roundg k3
                  case measure => have := HKQ.out; omega
                  case rel => exact ⟨wrap64 (x + 1), fl3, rfl, HE, ⟨by have := HKQ.out; omega⟩, HL6, HB6, HF6⟩
              · have c7b : (rd (rd_L1 ls x) 0 != a) = true := bne_iff_ne.2 c7
                by_cases c8 : rd (rd_L1 ls x) 1 = a
                · rw [if_pos (Or.inr c8)] at h
                  have c8b : (rd (rd_L1 ls x) 1 != a) = false := bne_eq_false_iff_eq.2 c8
                  have HH := Aside0.mk h
                  clear h c7 c8
                  go_wp2
                  have HHX := HH.out
                  obtain ⟨t, ht, h⟩ := Option.bind_eq_some_iff.1 HHX
                  obtain ⟨rest, ok2, fl3⟩ := t
                  rw [tr_shl1] at ht
                  have HIH : Aside0 (∀ W, Below w0.heap.size w0 W → Kd.R Kd.bool 4 W w0.heap.size (fun k => k = g) (.slice (some ⟨g, 0, none⟩) fl.length cap) fl2 → Calls Try.prog 51 #[.slice (some ad) ls.length c, .int .i64 (IntKind.i64.wrap (IntKind.i64.wrap (rd (rd_L1 ls x) 0 + rd (rd_L1 ls x) 1) - a)), .int .i64 (IntKind.i64.wrap (u + IntKind.i64.wrap (2 ^ min x.toNat 64))), .slice (some ⟨g, 0, none⟩) fl.length cap] W fun e w' => ∃ v, e = .returned (.tuple #[v, .bool ok2]) ∧ Kd.R (Kd.int .i64) 3 w' w0.heap.size (fun _ => True) v rest ∧ Kd.R Kd.bool 4 w' w0.heap.size (fun k => k = g) (.slice (some ⟨g, 0, none⟩) fl.length cap) fl3 ∧ fl3.length = fl.length ∧ Below w0.heap.size w0 w') := ⟨fun W hb hf => by
                    have h1_ := IH.out k3 (by have := HKQ.out; omega) _ _ fl2 W _ ht hb (by rw [HL.out]; exact hf)
                    rw [HL.out] at h1_
                    simp only [tr_wrap] at h1_
                    exact h1_⟩
                  clear ht HH HHX hx
                  cases ok2 with
                  | true =>
                    rw [if_pos rfl] at h
                    by_cases c9 : rest.length < 1000
                    case neg => rw [if_neg c9] at h; cases h
                    rw [if_pos c9] at h
                    have HE := Aside0.mk (Option.some.inj h)
                    have HL9 := Aside0.mk c9
                    clear h c9
                    go_region_held3 (fun w' => w'.cell? ad1 = some (.int .i64 (rd (rd_L1 ls x) 0)) ∧ w'.cell? ⟨ad1.block, ad1.off + 1, none⟩ = some (.int .i64 (rd (rd_L1 ls x) 1)))
                      (first | exact ⟨hx0, hx1⟩ | exact ⟨(HB6.out.cell (World.block_lt_of_cell? w0 _ H0.out)).trans H0.out, (HB6.out.cell (World.block_lt_of_cell? w0 _ H1.out)).trans H1.out⟩)
                      (first | (go_simp; go_at_call 51; refine (HIH.out _ ?b1 ?b2).mono ?_; (case b1 => exact below_drew HB.out); (case b2 => exact Kd.R_drew HF.out); rintro e w6 ⟨v6, rfl, hv6, hF6, hl6, hB6⟩; obtain ⟨Av, cv, rfl⟩ := Kd.R_slice hv6; have HV6 := Aside0.mk hv6; have HF6 := Aside0.mk hF6; have HB6 := Aside0.mk hB6; have HL6 := Aside0.mk hl6; clear hv6 hF6 hB6 hl6))
                    go_wp2_with (first | ((with_reducible refine gate_dst (N := 75) rfl ?_); refine Kd.R_lit (Kd.int .i64) _ 3 ?hg (N := 75) ?hd (xs := ([x] : List Int)) (inner := [.int .i64 x]) (ok := fun _ => True) (okp := fun _ => True) ?hr ?hp (fun _ hk => hk) trivial (Below.refl _ _) (Nat.le_refl _) (by simp) ?_; (case hd => rfl); (case hg => rfl); (case hr => first | (go_simp; done) | (go_simp; rfl)); (case hp => exact (Reps.one (show Kd.M (Kd.int .i64) _ _ _ x [.int .i64 x] from rfl) (Reps.none _ _))); intro v75 w7 ho7 hb7 hg7 hn7; clear hg7 hn7; have HO7 := Aside0.mk ho7; have HB7 := Aside0.mk hb7; clear ho7 hb7) | ((with_reducible refine gate_builtin (b := .append) (xs := #[.tmp 75, .tmp 76]) rfl ?_); at_builtin; refine Kd.R_append_rows (Kd.int .i64) (w0 := w6) w6.heap.size rfl (.tmp 75) (.tmp 76) 27 3 (.int .i64 0) 8 rfl Try.underlying27 info3 rfl (by decide) (by omega) v75 [x] rest _ _ _ (fun _ => True) (fun _ => False) rfl rfl ?aO ?aR (fun _ _ h => h) (fun _ h => h.elim) (fun _ _ => trivial) ?aB ?aS ?aL ?_; (case aO => exact HO7.out); (case aR => exact Kd.C_below (Kd.R_reads' HV6.out).2.2 HB7.out); (case aB => exact HB7.out); (case aS => exact HB7.out.size); (case aL => have := HL9.out; simp; omega); intro v8 w8 ho8 hb8 hg8 hat8; have HO8 := Aside0.mk ho8; have HB8 := Aside0.mk hb8; clear ho8 hb8 hg8 hat8))
                    go_ret2
                    rw [← HE.out]
                    exact ⟨_, rfl, Kd.R_lower HO8.out HB6.out.size, Kd.R_below HF6.out HB8.out, HL6.out, below_then HB6.out HB6.out.size HB8.out⟩
                  | false =>
                    rw [if_neg (by simp)] at h
                    have HE := Aside0.mk h
                    clear h
                    go_region_held3 (fun w' => w'.cell? ad1 = some (.int .i64 (rd (rd_L1 ls x) 0)) ∧ w'.cell? ⟨ad1.block, ad1.off + 1, none⟩ = some (.int .i64 (rd (rd_L1 ls x) 1)))
                      (first | exact ⟨hx0, hx1⟩ | exact ⟨(HB6.out.cell (World.block_lt_of_cell? w0 _ H0.out)).trans H0.out, (HB6.out.cell (World.block_lt_of_cell? w0 _ H1.out)).trans H1.out⟩)
                      (first | (go_simp; go_at_call 51; refine (HIH.out _ ?b1 ?b2).mono ?_; (case b1 => exact below_drew HB.out); (case b2 => exact Kd.R_drew HF.out); rintro e w6 ⟨v6, rfl, hv6, hF6, hl6, hB6⟩; obtain ⟨Av, cv, rfl⟩ := Kd.R_slice hv6; have HV6 := Aside0.mk hv6; have HF6 := Aside0.mk hF6; have HB6 := Aside0.mk hB6; have HL6 := Aside0.mk hl6; clear hv6 hF6 hB6 hl6))
                    go_wp2
                    go_roundg k3
                    case measure => have := HKQ.out; omega
                    case rel => exact ⟨wrap64 (x + 1), fl3, rfl, HE, ⟨by have := HKQ.out; omega⟩, HL6, HB6, HF6⟩
                · rw [if_neg (fun z => z.elim c7 c8)] at h
                  have c8b : (rd (rd_L1 ls x) 1 != a) = true := bne_iff_ne.2 c8
                  have HH := Aside0.mk h
                  clear h c7 c8
                  go_wp2
                  go_roundg k3
                  case measure => have := HKQ.out; omega
                  case rel => exact ⟨wrap64 (x + 1), fl2, rfl, HH, ⟨by have := HKQ.out; omega⟩, HL, HB, HF⟩
          · rw [if_neg c4] at h
            have hc2 := C2.out
            rw [← HL.out] at hc2
            rw [if_pos hc2] at h
            have H1 := Aside0.mk (Option.some.inj h)
            clear h
            obtain ⟨hcell, hfr⟩ := Kd.R_celln false HF.out (wrap64 (wrap64 (u * 8) + a)) hc2.1 (by rw [← HL.out]; exact hc2.2)
            rw [HL.out] at hc2
            obtain ⟨c2a, c2b⟩ := hc2
            have HP := Aside0.mk (Kd.R_putg HF.out (wrap64 (wrap64 (u * 8) + a)) true)
            go_wp2
            go_ret2
            rw [← H1.out]
            exact ⟨_, rfl, Kd.R_nil _ _ _ _ _, HP.out.1, by simp [HL.out], below_set HB.out HG0.out⟩
def spec_FirstStroke.f (k : Nat) (a0 : Int) (l0 : List (List Int)) (a2 : Int) : Option (List Int × Bool) := (spec_IsDrawing.f k a0 l0).bind fun t => if t = true then ((spec_l01In.f a2 0 (wrap64 (a0 - 1))).bind fun t2 => if t2 = true then (if l0.length ≤ 12 then ((spec_l23Trace.g k l0 a2 0 (List.replicate (8 * 2 ^ l0.length) false)).bind fun r => some (r.1, r.2.1)) else none) else some ([], false)) else some ([], false)
theorem tr_eight (n : Nat) (h : n ≤ 12) : wrap64 (8 * 2 ^ min n 64) = ((8 * 2 ^ n : Nat) : Int) ∧ 8 * 2 ^ n ≤ 32768 := by
  have h1 : 2 ^ n ≤ 2 ^ 12 := Nat.pow_le_pow_right (by omega) h
  have h2 : (2 : Nat) ^ 12 = 4096 := rfl
  rw [Nat.min_eq_left (by omega)]
  have e : (8 * 2 ^ n : Int) = ((8 * 2 ^ n : Nat) : Int) := by simp
  rw [e]
  refine ⟨?_, by omega⟩
  generalize hq : 8 * 2 ^ n = q
  have : q ≤ 32768 := by omega
  clear hq e h1 h2
  unfold wrap64
  omega
set_option maxHeartbeats 4000000 in
set_option maxRecDepth 100000 in
theorem spec_FirstStroke.calls (k : Nat) (a0 : Int) (A1 : Option Addr) (c1 : Nat) (l1 : List (List Int)) (a2 : Int) (r1 : List Int) (r2 : Bool) (w : World) (hr1 : Kd.C (Kd.slice 3 (Kd.int .i64)) w A1 l1.length l1) (hc1 : l1.length ≤ c1) (h : spec_FirstStroke.f k a0 l1 a2 = some (r1, r2)) :
    Calls Try.prog 34 #[.int .i64 a0, .slice A1 l1.length c1, .int .i64 a2] w fun e w' => ∃ v0_ : Value, e = .returned (.tuple #[v0_, .bool r2]) ∧ Kd.R (Kd.int .i64) 3 w' w.heap.size (fun _ => True) v0_ r1 ∧ Below w.heap.size w w' := by
  unfold spec_FirstStroke.f at h
  obtain ⟨t, ht, h⟩ := Option.bind_eq_some_iff.1 h
  have HT := Aside0.mk ht
  have HR := Aside0.mk hr1
  have HC := Aside0.mk hc1
  have H := Aside0.mk h
  clear ht hr1 hc1 h
  go_enter Try.func34, Try.ntmps34
  go_wp2_with fail
  refine (spec_IsDrawing.calls k a0 A1 c1 l1 t _ HR.out HC.out HT.out).mono ?_
  rintro e w2 ⟨rfl, hb⟩
  have HB2 := Aside0.mk hb
  clear hb
  have h := H.out
  clear H
  by_cases c1 : t = true
  · subst c1
    rw [if_pos rfl] at h
    obtain ⟨t2, ht2, h⟩ := Option.bind_eq_some_iff.1 h
    have HT2 := Aside0.mk ht2
    have H := Aside0.mk h
    clear ht2 h
    go_wp2_with fail
    refine (spec_l01In.calls a2 0 (wrap64 (a0 - 1)) t2 _ HT2.out).mono ?_
    rintro e w4 ⟨rfl, hd4⟩
    have HB4 : Aside0 (Below w.heap.size w w4) := ⟨below_then HB2.out HB2.out.size hd4.below⟩
    clear hd4
    have h := H.out
    clear H
    by_cases c3 : t2 = true
    · subst c3
      rw [if_pos rfl] at h
      by_cases c4 : l1.length ≤ 12
      case neg => rw [if_neg c4] at h; cases h
      rw [if_pos c4] at h
      obtain ⟨r, hr, h3⟩ := Option.bind_eq_some_iff.1 h
      obtain ⟨st3, ok, fl3⟩ := r
      have HG := Aside0.mk hr
      have HE := Aside0.mk (Option.some.inj h3)
      have HR4 := Aside0.mk (Kd.C_below HR.out HB4.out)
      obtain ⟨he, hle⟩ := tr_eight l1.length c4
      obtain ⟨q, hq⟩ : ∃ q : Nat, q = 8 * 2 ^ l1.length := ⟨_, rfl⟩
      rw [← hq] at he hle
      have HG2 : Aside0 (spec_l23Trace.g k l1 a2 0 (List.replicate q false) = some (st3, ok, fl3)) := ⟨by rw [hq]; exact HG.out⟩
      have hq0 : 0 ≤ (q : Int) := by omega
      have hqp : Aside0 (0 < q) := ⟨by rw [hq]; have := Nat.two_pow_pos l1.length; omega⟩
      clear hr h3 h c4 HG hq HB2
      go_wp2_with (first | ((with_reducible refine gate_dst (N := 24) rfl ?_); refine Kd.R_make Kd.bool _ 4 rfl (N := 24) rfl 51 _ _ rfl (q : Int) (by go_simp; (try rw [he])) (by go_simp; (try rw [he])) Try.underlying51 (.bool false) 1 info4 rfl (by decide) (by omega) false (ok := fun _ => True) (okp := fun _ => True) rfl (fun _ hk => hk) trivial (by omega) (by omega) (Below.refl _ _) (Nat.le_refl _) ?_; intro v24 w5 ho hb hg_ hnew_; clear hg_ hnew_; rw [Int.toNat_natCast] at ho; obtain ⟨g, cap, rfl, hg0, hg1, hg2⟩ := Kd.R_form ho (by rw [List.length_replicate]; exact hqp.out); have hF := Kd.R_reok rfl ho (ok := fun k => k = g) (fun k hk => by simpa [Value.ownBlock] using hk.symm); have HF := Aside0.mk (Kd.R_lower hF HB4.out.size); have HB5 := Aside0.mk (below_then HB4.out HB4.out.size hb); have HG0 := Aside0.mk (Nat.le_trans HB4.out.size hg0); clear ho hb hF hg0 hg1 hg2) | (go_at_call 51; have hc := spec_l23Trace.calls_g w g cap A1 c1 l1 HR.out HG0.out k a2 0 (List.replicate q false) w5 _ HG2.out HB5.out HF.out; simp only [List.length_replicate] at hc; refine hc.mono ?_; rintro e w6 ⟨v6, rfl, hv6, hF6, hl6, hB6⟩; have HV6 := Aside0.mk hv6; have HB6 := Aside0.mk hB6; clear hc hv6 hF6 hl6 hB6))
      go_ret2
      have hE1 : st3 = r1 := congrArg Prod.fst HE.out
      have hE2 : ok = r2 := congrArg Prod.snd HE.out
      subst hE1 hE2
      exact ⟨v6, rfl, HV6.out, HB6.out⟩
    · rw [if_neg c3] at h
      obtain rfl : t2 = false := by simpa using c3
      have HE := Aside0.mk (Option.some.inj h)
      clear h c3
      go_wp2
      go_ret2
      have hE1 : r1 = [] := (congrArg Prod.fst HE.out).symm
      have hE2 : r2 = false := (congrArg Prod.snd HE.out).symm
      subst hE1 hE2
      exact ⟨.slice none 0 0, rfl, Kd.R_nil _ _ _ _ _, HB4.out⟩
  · rw [if_neg c1] at h
    obtain rfl : t = false := by simpa using c1
    have HE := Aside0.mk (Option.some.inj h)
    clear h c1
    go_wp2
    go_ret2
    have hE1 : r1 = [] := (congrArg Prod.fst HE.out).symm
    have hE2 : r2 = false := (congrArg Prod.snd HE.out).symm
    subst hE1 hE2
    exact ⟨.slice none 0 0, rfl, Kd.R_nil _ _ _ _ _, HB2.out⟩
end Go.Proofs.Ytcdajmbnijmdfaa.PA
-- Written for this claim by a program of this session's (ownprint.py), by way of the kit's print and hand-proved texts. Lean checks it.
namespace Go.Proofs.Ytcdajmbnijmdfaa.PA
open Go.RowKit Go.Proofs.YtcdajmbnijmdfaaW.PrintWords Go.Proofs.YtcdajmbnijmdfaaW.PrintLast Go.Proofs.YtcdajmbnijmdfaaW.PrintMore
attribute [local go_sem] max2_int min2_int max_two min_two max_three min_three max_four min_four   -- for this text's walks alone
set_option linter.unusedVariables false
set_option linter.unusedSimpArgs false
def spec_CanTrace.l0 : Nat → Int → List (List Int) → Int → Option (Bool)
  | 0, _, _, _ => none
  | k + 1, x0, x1, x5 => if x5 < x0 then ((spec_FirstStroke.f k x0 x1 x5).bind fun bt352 => (if bt352.2 = true then (some true) else (spec_CanTrace.l0 k x0 x1 (wrap64 (x5 + 1))))) else (some false)
def spec_CanTrace.f (k : Nat) (a0 : Int) (l1 : List (List Int)) : Option (Bool) := (spec_IsDrawing.f k a0 l1).bind fun t351 => (if t351 = true then (spec_CanTrace.l0 k a0 l1 0) else (some false))
set_option maxHeartbeats 8000000 in
set_option maxRecDepth 100000 in
theorem spec_CanTrace.calls (k : Nat) (a0 : Int) (A1 : Option Addr) (c1 : Nat) (l1 : List (List Int)) (r : Bool) (w : World) (hr1 : Kd.C (Kd.slice 3 (Kd.int .i64)) w A1 l1.length l1) (hc1 : l1.length ≤ c1) (h : spec_CanTrace.f k a0 l1 = some r) :
    Calls Try.prog 32 #[.int .i64 a0, .slice A1 l1.length c1] w fun e w' => e = .returned (.bool r) ∧ Below w.heap.size w w' := by
  have HR1 := Aside0.mk hr1
  have HC1 := Aside0.mk hc1
  clear hr1 hc1
  have HB := Aside0.mk (Below.refl w.heap.size w)
  have H : ((spec_IsDrawing.f k a0 l1).bind fun t351 => (if t351 = true then (spec_CanTrace.l0 k a0 l1 0) else (some false))) = some r := h
  clear h
  replace H := Option.bind_eq_some_iff.mp H
  obtain ⟨t351, A30, H⟩ := H
  replace H : (if t351 = true then (spec_CanTrace.l0 k a0 l1 0) else (some false)) = some r := H
  have A3 := Aside0.mk A30
  clear A30
  by_cases c4 : t351 = true
  · subst c4
    have H1 : (spec_CanTrace.l0 k a0 l1 0) = some r := by rw [if_pos rfl] at H; exact H
    clear H
    have H := H1
    clear H1
    have H' := Aside0.mk H
    clear H
    go_enter Try.func32, Try.ntmps32
    go_wp2_with (first | ((with_reducible refine gate_callee (f := 14) rfl ?_); refine goesL_ (some 10) rfl rfl Try.func14 (by kernel_rfl) rfl #[.int .i64 a0, .slice A1 l1.length c1] rfl (by (try simp only [List.map_toArray, List.map_cons, List.map_nil]); first | done | rfl | (simp only [List.length_drop, List.length_take]; rfl)) ?_; (with_reducible refine (spec_IsDrawing.calls k a0 _ _ l1 true _ ?side1 ?side2 A3.out).mono ?_); (case side1 => repeat (first | exact HR1.out | (with_reducible refine Kd.C_alloc ?_ _) | (with_reducible refine Kd.C_drewN ?_ _) | (with_reducible refine Kd.C_drew ?_))); (case side2 => exact HC1.out); rintro e w5 ⟨rfl, hb⟩; refine ⟨_, rfl, ?_⟩; have n0_ := Aside0.mk (below_step (by repeat (first | (with_reducible first | exact HB.out | apply below_alloc | apply pw_below_drewN | apply below_drew1) | exact HB.out)) hb); clear HB; have HB := n0_; clear n0_; (try clear hb); (try clear hb2); (try clear hk); (try clear hi)))
    go_loopg [5] k (fun kq v5 w' => ∃ (x5_1 : Int), v5 = .int .i64 x5_1 ∧ Aside0 (spec_CanTrace.l0 kq a0 l1 x5_1 = some r) ∧ Aside0 (kq ≤ k) ∧ Aside0 (Below w.heap.size w w'))
    case atStart => exact ⟨(0), (by first | rfl | (simp; done) | (simp [*]; done)), H', ⟨Nat.le_refl _⟩, ⟨by repeat (first | (with_reducible first | exact HB.out | apply below_alloc | apply pw_below_drewN | apply below_drew1) | exact HB.out)⟩⟩
    case round =>
      clear H'
      try clear c1
      try clear p2
      try clear c3
      try clear c4
      obtain ⟨x5_1, rfl, HA, HK1, HB⟩ := hrel
      cases gk with
      | zero => exact absurd HA.out (by simp [spec_CanTrace.l0])
      | succ k1 =>
        have H := HA.out
        clear HA
        simp only [spec_CanTrace.l0] at H
        by_cases c6 : x5_1 < a0
        · rw [if_pos c6] at H
          have c6b0 : decide (x5_1 < a0) = true := decide_eq_true c6
          clear c6
          replace H := Option.bind_eq_some_iff.mp H
          obtain ⟨⟨t352, t353⟩, A70, H⟩ := H
          replace H : (if t353 = true then (some true) else (spec_CanTrace.l0 k1 a0 l1 (wrap64 (x5_1 + 1)))) = some r := H
          have A7 := Aside0.mk A70
          clear A70
          by_cases c8 : t353 = true
          · subst c8
            have H1 : (some true) = some r := by rw [if_pos rfl] at H; exact H
            clear H
            have H := H1
            clear H1
            obtain rfl := Option.some.inj H
            go_wp2_with (first | ((with_reducible refine gate_callee (f := 34) rfl ?_); refine goesL_ (some 21) rfl rfl Try.func34 (by kernel_rfl) rfl #[.int .i64 a0, .slice A1 l1.length c1, .int .i64 x5_1] rfl (by (try simp only [List.map_toArray, List.map_cons, List.map_nil]); first | done | rfl | (simp only [List.length_drop, List.length_take]; rfl)) ?_; (with_reducible refine (spec_FirstStroke.calls k1 a0 _ _ l1 x5_1 t352 true _ ?side1 ?side2 A7.out).mono ?_); (case side1 => repeat (first | exact (Kd.C_below HR1.out HB.out) | (with_reducible refine Kd.C_alloc ?_ _) | (with_reducible refine Kd.C_drewN ?_ _) | (with_reducible refine Kd.C_drew ?_))); (case side2 => exact HC1.out); rintro e w9 ⟨v354, rfl, ho0, hb⟩; refine ⟨_, rfl, ?_⟩; have n0_ := Aside0.mk (Kd.R_lower ho0 (below_size (by repeat (first | (with_reducible first | exact HB.out | apply below_alloc | apply pw_below_drewN | apply below_drew1) | exact HB.out)))); have n1_ := Aside0.mk (below_step (by repeat (first | (with_reducible first | exact HB.out | apply below_alloc | apply pw_below_drewN | apply below_drew1) | exact HB.out)) hb); clear HB; have HO355 := n0_; have HB := n1_; clear n0_ n1_; (try clear hb); (try clear hb2); (try clear hk); (try clear hi); (try clear ho0)))
            go_ret
            exact ⟨by first | rfl | (simp [errW_none, errW_some] <;> rfl) | (simp [*, errW_none, errW_some] <;> rfl), by repeat (first | (with_reducible first | exact HB.out | apply below_alloc | apply pw_below_drewN | apply below_drew1) | exact HB.out)⟩
          · replace c8 := Bool.eq_false_iff.mpr c8
            subst c8
            have H1 : (spec_CanTrace.l0 k1 a0 l1 (wrap64 (x5_1 + 1))) = some r := by rw [if_neg (show ¬ (false = true) by decide)] at H; exact H
            clear H
            have H := H1
            clear H1
            have H' := Aside0.mk H
            clear H
            go_wp2_with (first | ((with_reducible refine gate_callee (f := 34) rfl ?_); refine goesL_ (some 21) rfl rfl Try.func34 (by kernel_rfl) rfl #[.int .i64 a0, .slice A1 l1.length c1, .int .i64 x5_1] rfl (by (try simp only [List.map_toArray, List.map_cons, List.map_nil]); first | done | rfl | (simp only [List.length_drop, List.length_take]; rfl)) ?_; (with_reducible refine (spec_FirstStroke.calls k1 a0 _ _ l1 x5_1 t352 false _ ?side1 ?side2 A7.out).mono ?_); (case side1 => repeat (first | exact (Kd.C_below HR1.out HB.out) | (with_reducible refine Kd.C_alloc ?_ _) | (with_reducible refine Kd.C_drewN ?_ _) | (with_reducible refine Kd.C_drew ?_))); (case side2 => exact HC1.out); rintro e w10 ⟨v354, rfl, ho0, hb⟩; refine ⟨_, rfl, ?_⟩; have n0_ := Aside0.mk (Kd.R_lower ho0 (below_size (by repeat (first | (with_reducible first | exact HB.out | apply below_alloc | apply pw_below_drewN | apply below_drew1) | exact HB.out)))); have n1_ := Aside0.mk (below_step (by repeat (first | (with_reducible first | exact HB.out | apply below_alloc | apply pw_below_drewN | apply below_drew1) | exact HB.out)) hb); clear HB; have HO355 := n0_; have HB := n1_; clear n0_ n1_; (try clear hb); (try clear hb2); (try clear hk); (try clear hi); (try clear ho0)))
            go_roundg k1
            case measure => have := HK1.out; omega
            case rel => exact ⟨(wrap64 (x5_1 + 1)), (by first | rfl | (simp; done) | (simp [*]; done)), H', ⟨by have := HK1.out; omega⟩, ⟨by repeat (first | (with_reducible first | exact HB.out | apply below_alloc | apply pw_below_drewN | apply below_drew1) | exact HB.out)⟩⟩
        · rw [if_neg c6] at H
          have c6b0 : decide (x5_1 < a0) = false := decide_eq_false c6
          clear c6
          obtain rfl := Option.some.inj H
          go_wp2
          go_ret
          exact ⟨by first | rfl | (simp [errW_none, errW_some] <;> rfl) | (simp [*, errW_none, errW_some] <;> rfl), by repeat (first | (with_reducible first | exact HB.out | apply below_alloc | apply pw_below_drewN | apply below_drew1) | exact HB.out)⟩
  · replace c4 := Bool.eq_false_iff.mpr c4
    subst c4
    have H1 : (some false) = some r := by rw [if_neg (show ¬ (false = true) by decide)] at H; exact H
    clear H
    have H := H1
    clear H1
    obtain rfl := Option.some.inj H
    go_enter Try.func32, Try.ntmps32
    go_wp2_with (first | ((with_reducible refine gate_callee (f := 14) rfl ?_); refine goesL_ (some 10) rfl rfl Try.func14 (by kernel_rfl) rfl #[.int .i64 a0, .slice A1 l1.length c1] rfl (by (try simp only [List.map_toArray, List.map_cons, List.map_nil]); first | done | rfl | (simp only [List.length_drop, List.length_take]; rfl)) ?_; (with_reducible refine (spec_IsDrawing.calls k a0 _ _ l1 false _ ?side1 ?side2 A3.out).mono ?_); (case side1 => repeat (first | exact HR1.out | (with_reducible refine Kd.C_alloc ?_ _) | (with_reducible refine Kd.C_drewN ?_ _) | (with_reducible refine Kd.C_drew ?_))); (case side2 => exact HC1.out); rintro e w11 ⟨rfl, hb⟩; refine ⟨_, rfl, ?_⟩; have n0_ := Aside0.mk (below_step (by repeat (first | (with_reducible first | exact HB.out | apply below_alloc | apply pw_below_drewN | apply below_drew1) | exact HB.out)) hb); clear HB; have HB := n0_; clear n0_; (try clear hb); (try clear hb2); (try clear hk); (try clear hi)))
    go_ret
    exact ⟨by first | rfl | (simp [errW_none, errW_some] <;> rfl) | (simp [*, errW_none, errW_some] <;> rfl), by repeat (first | (with_reducible first | exact HB.out | apply below_alloc | apply pw_below_drewN | apply below_drew1) | exact HB.out)⟩
end Go.Proofs.Ytcdajmbnijmdfaa.PA
