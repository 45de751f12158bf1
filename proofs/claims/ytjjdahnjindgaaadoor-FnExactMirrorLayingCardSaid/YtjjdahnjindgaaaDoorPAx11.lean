-- Written for this claim by a program of this session's (ownprint.py), by way of the kit's print and hand-proved texts. Lean checks it.
import Derived.Test.YtjjdahnjindgaaaDoorPAx0
import Derived.Test.YtjjdahnjindgaaaDoorPAx5
import Derived.Test.YtjjdahnjindgaaaDoorPAx7
import Derived.Test.YtjjdahnjindgaaaDoorPAx10
namespace Go.Proofs.YtjjdahnjindgaaaDoor.PA
open Go.RowKit Go.Proofs.YtjjdahnjindgaaaDoorW.PrintWords Go.Proofs.YtjjdahnjindgaaaDoorW.PrintLast Go.Proofs.YtjjdahnjindgaaaDoorW.PrintMore
attribute [local go_sem] max2_int min2_int max_two min_two max_three min_three max_four min_four   -- for this text's walks alone
set_option linter.unusedVariables false
set_option linter.unusedSimpArgs false

/-! ### slices_Min_int_int: function 36 (by hand) -/
/-- The least of a slice that is not empty. -/
def slices_Min_int_int.f (l0 : List Int) : Option Int := if 0 < l0.length then some (Lib.minOf l0) else none
set_option maxHeartbeats 4000000 in
set_option maxRecDepth 100000 in
theorem slices_Min_int_int.calls (A0 : Option Addr) (c0 : Nat) (l0 : List Int) (r : Int) (w : World) (hr0 : Kd.C (Kd.int .i64) w A0 l0.length l0) (hc0 : l0.length ≤ c0) (h : slices_Min_int_int.f l0 = some r) :
    Calls Tryd.prog 36 #[.slice A0 l0.length c0] w fun e w' => e = .returned (.int .i64 r) ∧ Below w.heap.size w w' := by
  unfold slices_Min_int_int.f at h
  by_cases hn : 0 < l0.length
  case neg => rw [if_neg hn] at h; cases h
  rw [if_pos hn] at h
  obtain rfl := Option.some.inj h
  clear h
  have hbig : l0.length ≤ 9223372036854775807 := hr0.2.1
  have hat := fun (i : Nat) (hi : i < l0.length) => ReadsOf.at_ (Kd.reads_of_C (d := (0 : Int)) (h1 := fun _ => rfl) hr0) i (by omega) (by omega)
  obtain ⟨ad, rfl, h0⟩ := hat 0 hn
  obtain ⟨z, hz⟩ : ∃ z : Nat → Int, ∀ k, l0.getD k 0 = z k := ⟨_, fun _ => rfl⟩
  have HC : Aside0 (∀ k, k < l0.length → w.cell? (ad.add k) = some (.int .i64 (z k))) := ⟨fun k hk => by
    obtain ⟨ad', he, hc⟩ := hat k hk
    injection he with he
    subst he
    rw [← hz]
    exact hc⟩
  have HZ := Aside0.mk hz
  clear hz
  clear h0 hat hr0
  have h0 : w.cell? ad = some (.int .i64 (z 0)) := HC.out 0 hn
  generalize hL : l0.length = n at hn hbig HC hc0 ⊢
  have HL := Aside0.mk hL
  clear hL
  go_enter Tryd.func36, Tryd.ntmps36
  go_wp2
  go_loop [3, 4] (fun m i => ∃ k : Nat, 0 < k ∧ k ≤ n ∧ i = .int .i64 k ∧ m = .int .i64 (Lib.minOf (l0.take k))) (fun _ i => match i with | .int _ q => n - q.toNat | _ => 0)
  case atStart => exact ⟨1, Nat.one_pos, hn, rfl, by rw [Lib.minOf_one, HZ.out]⟩
  case round =>
    obtain ⟨k, hk0, hk, rfl, rfl⟩ := hrel
    have hcell : k < n → w.cell? (ad.add k) = some (.int .i64 (z k)) := fun hk => HC.out k hk
    go_wp2
    · have hlt : k < n := by assumption
      refine ⟨⟨k + 1, Nat.succ_pos k, by omega, by rw [Int.natCast_succ], ?_⟩, ?_⟩
      · rw [Lib.minOf_step l0 k hk0 (by have := HL.out; omega), HZ.out]
        congr 1
        split <;> omega
      · show n - ((k : Int) + 1).toNat < n - (k : Int).toNat
        omega
    · have hge : ¬ k < n := by assumption
      have : k = n := by omega
      subst this
      go_ret
      exact ⟨by rw [← HL.out, List.take_length]; rfl, Below.refl _ _⟩

/-! ### impl_room: function 26 -/
def impl_room.f (l0 : List Int) : Option (Int) := (slices_Max_int_int.f l0).bind fun t183 => ((slices_Min_int_int.f l0).bind fun t184 => (some (wrap64 (t183 - t184))))
set_option maxHeartbeats 8000000 in
set_option maxRecDepth 100000 in
theorem impl_room.calls (A0 : Option Addr) (c0 : Nat) (l0 : List Int) (r : Int) (w : World) (hr0 : Kd.C (Kd.int .i64) w A0 l0.length l0) (hc0 : l0.length ≤ c0) (h : impl_room.f l0 = some r) :
    Calls Tryd.prog 26 #[.slice A0 l0.length c0] w fun e w' => e = .returned (.int .i64 r) ∧ Below w.heap.size w w' := by
  have HR0 := Aside0.mk hr0
  have HC0 := Aside0.mk hc0
  clear hr0 hc0
  have HB := Aside0.mk (Below.refl w.heap.size w)
  have H : ((slices_Max_int_int.f l0).bind fun t183 => ((slices_Min_int_int.f l0).bind fun t184 => (some (wrap64 (t183 - t184))))) = some r := h
  clear h
  replace H := Option.bind_eq_some_iff.mp H
  obtain ⟨t183, A20, H⟩ := H
  replace H : ((slices_Min_int_int.f l0).bind fun t184 => (some (wrap64 (t183 - t184)))) = some r := H
  have A2 := Aside0.mk A20
  clear A20
  replace H := Option.bind_eq_some_iff.mp H
  obtain ⟨t184, A30, H⟩ := H
  replace H : (some (wrap64 (t183 - t184))) = some r := H
  have A3 := Aside0.mk A30
  clear A30
  obtain rfl := Option.some.inj H
  go_enter Tryd.func26, Tryd.ntmps26
  go_wp2_with (first | ((with_reducible refine gate_callee (f := 35) rfl ?_); refine goesL_ (some 4) rfl rfl Tryd.func35 (by kernel_rfl) rfl #[.slice A0 l0.length c0] rfl (by (try simp only [List.map_toArray, List.map_cons, List.map_nil]); first | done | rfl | (simp only [List.length_drop, List.length_take]; rfl)) ?_; (with_reducible refine (slices_Max_int_int.calls _ _ l0 t183 _ ?side1 ?side2 A2.out).mono ?_); (case side1 => repeat (first | exact HR0.out | (with_reducible refine Kd.C_alloc ?_ _) | (with_reducible refine Kd.C_drewN ?_ _) | (with_reducible refine Kd.C_drew ?_))); (case side2 => exact HC0.out); rintro e w4 ⟨rfl, hb⟩; refine ⟨_, rfl, ?_⟩; have n0_ := Aside0.mk (below_step (by repeat (first | (with_reducible first | exact HB.out | apply below_alloc | apply pw_below_drewN | apply below_drew1) | exact HB.out)) hb); clear HB; have HB := n0_; clear n0_; (try clear hb); (try clear hb2); (try clear hk); (try clear hi)) | ((with_reducible refine gate_callee (f := 36) rfl ?_); refine goesL_ (some 6) rfl rfl Tryd.func36 (by kernel_rfl) rfl #[.slice A0 l0.length c0] rfl (by (try simp only [List.map_toArray, List.map_cons, List.map_nil]); first | done | rfl | (simp only [List.length_drop, List.length_take]; rfl)) ?_; (with_reducible refine (slices_Min_int_int.calls _ _ l0 t184 _ ?side1 ?side2 A3.out).mono ?_); (case side1 => repeat (first | exact (Kd.C_below HR0.out HB.out) | (with_reducible refine Kd.C_alloc ?_ _) | (with_reducible refine Kd.C_drewN ?_ _) | (with_reducible refine Kd.C_drew ?_))); (case side2 => exact HC0.out); rintro e w5 ⟨rfl, hb⟩; refine ⟨_, rfl, ?_⟩; have n0_ := Aside0.mk (below_step (by repeat (first | (with_reducible first | exact HB.out | apply below_alloc | apply pw_below_drewN | apply below_drew1) | exact HB.out)) hb); clear HB; have HB := n0_; clear n0_; (try clear hb); (try clear hb2); (try clear hk); (try clear hi)))
  go_ret
  exact ⟨by first | rfl | (simp [errW_none, errW_some] <;> rfl) | (simp [*, errW_none, errW_some] <;> rfl), by repeat (first | (with_reducible first | exact HB.out | apply below_alloc | apply pw_below_drewN | apply below_drew1) | exact HB.out)⟩

/-! ### impl_RoomOf: function 14 (by hand) -/
def impl_RoomOf.f (k : Nat) (l0 : List Int) (a1 : ByteArray) : Option (Int) := (impl_RulerOk.f l0).bind fun t => if t = true then (if (a1.size : Int) = (l0.length : Int) then ((impl_isLaying.f a1).bind fun u => if u = true then ((impl_EndsOf.f k l0 a1).bind fun e => if 0 < e.length then impl_room.f e else none) else some (-1)) else some (-1)) else some (-1)
theorem impl_RoomOf.mono : ∀ a0 a1 k, LeO (impl_RoomOf.f k a0 a1) (impl_RoomOf.f (k + 1) a0 a1) := by
  intro a0 a1 k
  unfold impl_RoomOf.f
  repeat' first
      | (with_reducible exact impl_EndsOf.mono _ _ _)
      | (with_reducible exact LeO.refl _)
      | (with_reducible exact LeO.none _)
      | (with_reducible refine LeO.ite ?_ ?_)
      | (with_reducible refine LeO.bind ?_ (fun _ => ?_))
theorem roomOf_nil (w : World) : (binOp .eql 22 (.slice none 0 0) (.slice none 0 0)).run Tryd.prog w = .ok (.bool true) w := run_eql_slice_nil w 22 3 none 0 0 (by kernel_rfl)
theorem roomOf_some (w : World) (a : Addr) (n c : Nat) : (binOp .eql 22 (.slice (some a) n c) (.slice none 0 0)).run Tryd.prog w = .ok (.bool false) w := run_eql_slice_nil w 22 3 (some a) n c (by kernel_rfl)
attribute [local go_sem] roomOf_nil roomOf_some
set_option maxHeartbeats 2000000 in
set_option maxRecDepth 100000 in
theorem impl_EndsOf.nils1 (A0 : Option Addr) (c0 : Nat) (l0 : List Int) (a1 : ByteArray) (w : World) (hr0 : Kd.C (Kd.int .i64) w A0 l0.length l0) (hc0 : l0.length ≤ c0) (h : impl_RulerOk.f l0 = some false) :
    Calls Tryd.prog 9 #[.slice A0 l0.length c0, .string a1] w fun e w' => e = .returned (.slice none 0 0) ∧ Below w.heap.size w w' := by
  have H := Aside0.mk h
  have HR := Aside0.mk hr0
  have HC := Aside0.mk hc0
  clear h hr0 hc0
  go_enter Tryd.func9, Tryd.ntmps9
  go_wp2_with fail
  refine (impl_RulerOk.calls A0 c0 l0 false _ HR.out HC.out H.out).mono ?_
  rintro e w1 ⟨rfl, hb⟩
  have HB := Aside0.mk hb
  clear hb
  go_wp2
  go_ret
  exact ⟨rfl, HB.out⟩
set_option maxHeartbeats 2000000 in
set_option maxRecDepth 100000 in
theorem impl_EndsOf.nils2 (A0 : Option Addr) (c0 : Nat) (l0 : List Int) (a1 : ByteArray) (w : World) (hr0 : Kd.C (Kd.int .i64) w A0 l0.length l0) (hc0 : l0.length ≤ c0) (h : impl_RulerOk.f l0 = some true) (h2 : ¬ (a1.size : Int) = (l0.length : Int)) :
    Calls Tryd.prog 9 #[.slice A0 l0.length c0, .string a1] w fun e w' => e = .returned (.slice none 0 0) ∧ Below w.heap.size w w' := by
  have H := Aside0.mk h
  have HR := Aside0.mk hr0
  have HC := Aside0.mk hc0
  have h3 : ((a1.size : Int) != (l0.length : Int)) = true := bne_iff_ne.2 h2
  clear h hr0 hc0 h2
  go_enter Tryd.func9, Tryd.ntmps9
  go_wp2_with fail
  refine (impl_RulerOk.calls A0 c0 l0 true _ HR.out HC.out H.out).mono ?_
  rintro e w1 ⟨rfl, hb⟩
  have HB := Aside0.mk hb
  clear hb
  go_wp2
  go_ret
  exact ⟨rfl, HB.out⟩
set_option maxHeartbeats 2000000 in
set_option maxRecDepth 100000 in
theorem impl_EndsOf.nils3 (A0 : Option Addr) (c0 : Nat) (l0 : List Int) (a1 : ByteArray) (w : World) (hr0 : Kd.C (Kd.int .i64) w A0 l0.length l0) (hc0 : l0.length ≤ c0) (h : impl_RulerOk.f l0 = some true) (h2 : (a1.size : Int) = (l0.length : Int)) (h4 : impl_isLaying.f a1 = some false) :
    Calls Tryd.prog 9 #[.slice A0 l0.length c0, .string a1] w fun e w' => e = .returned (.slice none 0 0) ∧ Below w.heap.size w w' := by
  have H := Aside0.mk h
  have H4 := Aside0.mk h4
  have HR := Aside0.mk hr0
  have HC := Aside0.mk hc0
  have h3 : ((a1.size : Int) != (l0.length : Int)) = false := bne_eq_false_iff_eq.2 h2
  clear h hr0 hc0 h2 h4
  go_enter Tryd.func9, Tryd.ntmps9
  go_wp2_with fail
  refine (impl_RulerOk.calls A0 c0 l0 true _ HR.out HC.out H.out).mono ?_
  rintro e w1 ⟨rfl, hb⟩
  have HB := Aside0.mk hb
  clear hb
  go_wp2_with fail
  refine (impl_isLaying.calls a1 false _ H4.out).mono ?_
  rintro e w2 ⟨rfl, hb⟩
  have HB2 := Aside0.mk (below_then HB.out HB.out.size hb)
  clear hb HB
  go_wp2
  go_ret
  exact ⟨rfl, HB2.out⟩
set_option maxHeartbeats 2000000 in
set_option maxRecDepth 100000 in
theorem impl_RoomOf.calls (k : Nat) (A0 : Option Addr) (c0 : Nat) (l0 : List Int) (a1 : ByteArray) (r : Int) (w : World) (hr0 : Kd.C (Kd.int .i64) w A0 l0.length l0) (hc0 : l0.length ≤ c0) (h : impl_RoomOf.f k l0 a1 = some r) :
    Calls Tryd.prog 14 #[.slice A0 l0.length c0, .string a1] w fun e w' => e = .returned (.int .i64 r) ∧ Below w.heap.size w w' := by
  have nil : (Calls Tryd.prog 9 #[.slice A0 l0.length c0, .string a1] w fun e w' => e = .returned (.slice none 0 0) ∧ Below w.heap.size w w') → Calls Tryd.prog 14 #[.slice A0 l0.length c0, .string a1] w fun e w' => e = .returned (.int .i64 (-1)) ∧ Below w.heap.size w w' := by
    intro hn
    have HN := Aside0.mk hn
    clear hn h hr0 hc0
    go_enter Tryd.func14, Tryd.ntmps14
    go_wp2_with (go_at_call 9; refine HN.out.mono ?_; rintro e w1 ⟨rfl, hb⟩; have HB := Aside0.mk hb; clear hb)
    go_ret
    exact ⟨rfl, HB.out⟩
  unfold impl_RoomOf.f at h
  obtain ⟨t, ht, h⟩ := Option.bind_eq_some_iff.1 h
  by_cases c1 : t = true
  · subst c1
    rw [if_pos rfl] at h
    by_cases c2 : (a1.size : Int) = (l0.length : Int)
    · rw [if_pos c2] at h
      obtain ⟨u, hu, h⟩ := Option.bind_eq_some_iff.1 h
      by_cases c3 : u = true
      · subst c3
        rw [if_pos rfl] at h
        obtain ⟨e0, he, h⟩ := Option.bind_eq_some_iff.1 h
        by_cases c4 : 0 < e0.length
        case neg => rw [if_neg c4] at h; cases h
        rw [if_pos c4] at h
        have HE := Aside0.mk he
        have HM := Aside0.mk h
        have HR := Aside0.mk hr0
        have HC := Aside0.mk hc0
        have H4 := Aside0.mk c4
        clear nil h he hr0 hc0 c4 hu ht c2
        go_enter Tryd.func14, Tryd.ntmps14
        go_wp2_with (first | (go_at_call 9; refine (impl_EndsOf.calls k A0 c0 l0 a1 e0 _ HR.out HC.out HE.out).mono ?_; rintro e w1 ⟨v1, rfl, ho, hb⟩; obtain ⟨g, cap, rfl, hg0, hg1, hg2⟩ := Kd.R_form ho H4.out; have HO := Aside0.mk ho; have HB := Aside0.mk hb; clear ho hb hg0 hg1 hg2) | (go_at_call 26; refine (impl_room.calls _ cap e0 r _ (Kd.R_reads' HO.out).2.2 (Kd.R_reads' HO.out).2.1 HM.out).mono ?_; rintro e w2 ⟨rfl, hb⟩; have HB2 := Aside0.mk (below_then HB.out HB.out.size hb); clear hb))
        go_ret
        exact ⟨rfl, HB2.out⟩
      · rw [if_neg c3] at h
        obtain rfl : u = false := by simpa using c3
        obtain rfl := Option.some.inj h
        exact nil (impl_EndsOf.nils3 A0 c0 l0 a1 w hr0 hc0 ht c2 hu)
    · rw [if_neg c2] at h
      obtain rfl := Option.some.inj h
      exact nil (impl_EndsOf.nils2 A0 c0 l0 a1 w hr0 hc0 ht c2)
  · rw [if_neg c1] at h
    obtain rfl : t = false := by simpa using c1
    obtain rfl := Option.some.inj h
    exact nil (impl_EndsOf.nils1 A0 c0 l0 a1 w hr0 hc0 ht)

end Go.Proofs.YtjjdahnjindgaaaDoor.PA
