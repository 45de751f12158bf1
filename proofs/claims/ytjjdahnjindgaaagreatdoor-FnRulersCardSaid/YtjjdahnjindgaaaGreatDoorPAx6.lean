-- Written for this claim by a program of this session's (ownprint.py), by way of the kit's print and hand-proved texts. Lean checks it.
import Derived.Test.YtjjdahnjindgaaaGreatDoorPAx0
namespace Go.Proofs.YtjjdahnjindgaaaGreatDoor.PA
open Go.RowKit Go.Proofs.YtjjdahnjindgaaaGreatDoorW.PrintWords Go.Proofs.YtjjdahnjindgaaaGreatDoorW.PrintLast Go.Proofs.YtjjdahnjindgaaaGreatDoorW.PrintMore
attribute [local go_sem] max2_int min2_int max_two min_two max_three min_three max_four min_four   -- for this text's walks alone
set_option linter.unusedVariables false
set_option linter.unusedSimpArgs false

/-! ### impl_eachLaying: function 26 (by hand) -/
def layN (n j : Nat) : List Int := (List.range n).map fun i => if j.testBit (n - 1 - i) then 114 else 108
def layS (n j : Nat) : ByteArray := strOfNums (layN n j)
theorem bit_div (j e : Nat) (hj : j < 2 ^ 63) : Go.bits .and .i64 ((j : Int) / 2 ^ e) 1 = if j.testBit e then 1 else 0 := by
  have e1 : ((j : Int) / 2 ^ e) = ((j / 2 ^ e : Nat) : Int) := by simp
  have e2 : ((1 : Int)) = ((1 : Nat) : Int) := rfl
  have hd : j / 2 ^ e < 2 ^ 63 := Nat.lt_of_le_of_lt (Nat.div_le_self _ _) hj
  rw [e1, e2, (bits_nat .i64 63 (by decide) (fun n h0 h1 => by rw [IntKind.wrap_i64]; omega) (j / 2 ^ e) 1 hd (by decide)).1, Nat.and_one_is_mod, Nat.testBit, Nat.shiftRight_eq_div_pow, Nat.one_and_eq_mod_two]
  rcases Nat.mod_two_eq_zero_or_one (j / 2 ^ e) with h | h <;> simp [h]
theorem layN_len (n j : Nat) : (layN n j).length = n := by simp [layN]
theorem layN_at (n j i : Nat) (h : i < n) : (layN n j)[i]? = some (if j.testBit (n - 1 - i) then 114 else 108) := by simp [layN, h]
set_option maxHeartbeats 4000000 in
set_option maxRecDepth 100000 in
theorem impl_eachLaying.calls (Inv : Nat → World → Prop) (gf : Nat) (lb : Array Value) (eg : ∀ args w, (callFunc gf args).run Tryz.prog w = .ok (.enter gf args) w) (A : Option Addr) (c n : Nat) (w : World) (hn1 : 1 ≤ n) (hn2 : n ≤ 10)
    (hbelow : ∀ j w' w'', Inv j w' → Below w'.heap.size w' w'' → Inv j w'')
    (hstep : ∀ j w', j < 2 ^ n → Inv j w' → Calls Tryz.prog gf (#[.string (layS n j)] ++ lb) w' fun e w'' => e = .returned (.tuple #[]) ∧ Inv (j + 1) w'') (h0 : Inv 0 w) :
    Calls Tryz.prog 26 #[.slice A n c, .func (.func gf) #[] lb] w fun e w' => e = .returned (.tuple #[]) ∧ Inv (2 ^ n) w' := by
  have HBL := Aside0.mk hbelow
  obtain ⟨N, hN⟩ : ∃ N : Nat, N = 2 ^ n := ⟨_, rfl⟩
  have hNb : N ≤ 1024 := by rw [hN]; exact Nat.pow_le_pow_right (by decide) hn2
  have hw : wrap64 (2 ^ n) = (N : Int) := by
    have e : ((2 : Int) ^ n) = (N : Int) := by rw [hN]; simp
    rw [e]
    unfold wrap64
    omega
  have HNN := Aside0.mk hN
  rw [← hN] at hstep ⊢
  have HST := Aside0.mk hstep
  have H0 := Aside0.mk h0
  clear hstep hbelow h0 hN
  go_enter Tryz.func26, Tryz.ntmps26
  go_wp2
  simp only [hw]
  clear hw
  go_loopg [12] N (fun gg v12 wr => ∃ j : Nat, v12 = .int .i64 j ∧ j ≤ N ∧ N - j ≤ gg ∧ Aside0 (Inv j wr))
  case atStart => exact ⟨0, rfl, by omega, by omega, H0⟩
  case round =>
    clear H0
    obtain ⟨j, rfl, hj, hg, HI⟩ := hrel
    by_cases hlt : j < N
    · have hltz : (j : Int) < (N : Int) := by omega
      have hbn : ((n : Int)).toNat * 1 ≤ 140737488355328 := by omega
      have hn0 : 0 ≤ (n : Int) := by omega
      obtain ⟨wo, rfl⟩ : ∃ x, x = wr := ⟨_, rfl⟩
      go_wp2_with (first | ((with_reducible refine gate_dst (N := 16) rfl ?_); refine Kd.R_make (Kd.int .u8) _ 5 rfl (N := 16) rfl 22 _ _ rfl (n : Int) rfl rfl Tryz.underlying22 (.int .u8 0) 1 info5 rfl (by decide) (by omega) 0 (ok := fun _ => True) (okp := fun _ => True) rfl (fun _ hk => hk) trivial (by omega) (by omega) (Below.refl _ _) (Nat.le_refl _) ?_; intro v16 w1 ho hb hg_ hnew_; clear hg_ hnew_; obtain ⟨g, cap, rfl, hg0, hg1, hg2⟩ := Kd.R_form ho (by rw [List.length_replicate]; omega); rw [show (List.replicate ((n : Int)).toNat (0 : Int)).length = n by simp] at ho ⊢; rw [Int.toNat_natCast] at ho; have HO := Aside0.mk ho; have HB := Aside0.mk hb; have HG0 := Aside0.mk hg0; clear ho hb hg0 hg1 hg2))
      go_loopg [19] n (fun gg v19 w2 => ∃ (i : Nat) (ls : List Int), v19 = .int .i64 i ∧ i ≤ n ∧ n - i ≤ gg ∧ Aside0 (ls.length = n ∧ ls.take i = (layN n j).take i) ∧ Aside0 (Kd.R (Kd.int .u8) 5 w2 wo.heap.size (fun _ => True) (.slice (some ⟨g, 0, none⟩) n cap) ls) ∧ Aside0 (Below wo.heap.size wo w2))
      case atStart => exact ⟨0, List.replicate n 0, rfl, by omega, by omega, ⟨List.length_replicate, rfl⟩, HO, HB⟩
      case round =>
        clear HO HB
        obtain ⟨i, ls, rfl, hi, hgi, HLS, HO, HB⟩ := hrel
        by_cases hil : i < n
        · have hiz : (i : Int) < (n : Int) := by omega
          have hd0 : 0 ≤ (n : Int) - 1 - (i : Int) := by omega
          have hjb : j < 2 ^ 63 := by omega
          have hbit := bit_div j (n - 1 - i) hjb
          obtain ⟨hcell, hfr⟩ := Kd.R_celln 0 HO.out (i : Int) (by omega) hiz
          rw [Int.toNat_natCast] at hcell hfr
          obtain ⟨y, hy⟩ : ∃ y : Int, y = if j.testBit (n - 1 - i) then 114 else 108 := ⟨_, rfl⟩
          have HP := Aside0.mk (Kd.R_putg HO.out (i : Int) y)
          have HLN : Aside0 ((ls.set i y).length = n ∧ (ls.set i y).take (i + 1) = (layN n j).take (i + 1)) := ⟨by
            refine ⟨by rw [List.length_set]; exact HLS.out.1, ?_⟩
            have h1 : i < (ls.set i y).length := by rw [List.length_set, HLS.out.1]; exact hil
            have h2 : i < (layN n j).length := by rw [layN_len]; exact hil
            have h3 : (layN n j)[i] = y := by
              have := layN_at n j i hil
              rw [List.getElem?_eq_getElem h2] at this
              rw [Option.some.inj this, hy]
            rw [List.take_succ_eq_append_getElem h1, List.take_succ_eq_append_getElem h2, List.take_set_of_le (Nat.le_refl _), HLS.out.2, h3]
            simp⟩
          have HOUT : Aside0 (Below wo.heap.size wo (wr.setCell ⟨g, i, none⟩ (.int .u8 y))) := ⟨below_set HB.out HG0.out⟩
          rw [Int.toNat_natCast] at HP
          clear hjb HB HO HLS
          by_cases hb : j.testBit (n - 1 - i) = true
          · rw [if_pos hb] at hbit
            rw [if_pos hb] at hy
            subst hy
            clear hb
            go_wp2
            go_roundg (n - (i + 1))
            case measure => omega
            case rel => exact ⟨i + 1, ls.set i 114, by go_num, by omega, by omega, HLN, ⟨HP.out.1⟩, HOUT⟩
          · rw [if_neg hb] at hbit
            rw [if_neg hb] at hy
            subst hy
            clear hb
            go_wp2
            go_roundg (n - (i + 1))
            case measure => omega
            case rel => exact ⟨i + 1, ls.set i 108, by go_num, by omega, by omega, HLN, ⟨HP.out.1⟩, HOUT⟩
        · have hiz : ¬ (i : Int) < (n : Int) := by omega
          have hls : ls = layN n j := by
            have h1 := HLS.out.2
            rw [List.take_of_length_le (by rw [HLS.out.1]; omega), List.take_of_length_le (by rw [layN_len]; omega)] at h1
            exact h1
          subst hls
          have hcv : (convert 22 9 (.slice (some ⟨g, 0, none⟩) n cap)).run Tryz.prog wr = .ok (.string (layS n j)) wr := own_string (P := Tryz.prog) Tryz.underlying22 Tryz.underlying5 Tryz.underlying9 (Kd.own_of_R HO.out)
          have HC := Aside0.mk (HST.out j wr hlt (HBL.out j wo wr HI.out HB.out))
          clear HO HLS HI HB
          go_wp2_with (go_at_fn gf; refine HC.out.mono ?_; rintro e w3 ⟨rfl, hI⟩; have HI := Aside0.mk hI; clear hI hcv)
          go_roundg (N - (j + 1))
          case measure => omega
          case rel => exact ⟨j + 1, by go_num, by omega, by omega, HI⟩
    · have hltz : ¬ (j : Int) < (N : Int) := by omega
      obtain rfl : j = N := by omega
      go_wp2
      first | go_end0 | ((try simp only [Exit.inBlock, Exit.then]); refine bodyPost_ret (results_none rfl _ _ _) rfl ?_)
      exact ⟨rfl, HI.out⟩

end Go.Proofs.YtjjdahnjindgaaaGreatDoor.PA
