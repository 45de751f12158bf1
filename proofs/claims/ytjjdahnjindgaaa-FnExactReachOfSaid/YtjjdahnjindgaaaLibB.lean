/- best layings -/
import Derived.Test.YtjjdahnjindgaaaLibG
import Derived.Test.YtjjdahnjindgaaaPAx10
import Derived.Test.YtjjdahnjindgaaaPAx11
import Derived.Test.YtjjdahnjindgaaaPAx12
import Derived.Test.YtjjdahnjindgaaaPAx13
import Derived.Test.YtjjdahnjindgaaaPAx14
namespace Go.Proofs.Ytjjdahnjindgaaa.PA
open Go.RowKit Go.Proofs.YtjjdahnjindgaaaW.PrintWords Go.Proofs.YtjjdahnjindgaaaW.PrintLast Go.Proofs.YtjjdahnjindgaaaW.PrintMore
set_option linter.unusedVariables false
set_option linter.unusedSimpArgs false

/-! masks -/
theorem wraps_i64n (n : Int) (h0 : 0 ≤ n) (h1 : n < 2 ^ 63) : IntKind.i64.wrap n = n := by
  rw [IntKind.wrap_i64]
  omega
theorem or_nat (a b : Nat) (ha : a < 2 ^ 63) (hb : b < 2 ^ 63) : Go.bits .or .i64 (a : Int) (b : Int) = ((a ||| b : Nat) : Int) :=
  (bits_nat .i64 63 (by decide) wraps_i64n a b ha hb).2
theorem and_nat (a b : Nat) (ha : a < 2 ^ 63) (hb : b < 2 ^ 63) : Go.bits .and .i64 (a : Int) (b : Int) = ((a &&& b : Nat) : Int) :=
  (bits_nat .i64 63 (by decide) wraps_i64n a b ha hb).1
theorem shl_one (e : Nat) (he : e < 62) : shl .i64 1 (e : Int) = ((2 ^ e : Nat) : Int) := by
  unfold shl
  rw [Int.toNat_natCast, Nat.min_eq_left (by simp [IntKind.bits]; omega)]
  have hp : (2 : Nat) ^ e < 2 ^ 62 := Nat.pow_lt_pow_right (by omega) he
  rw [wraps_i64n]
  · simp
  · simp
    exact_mod_cast Nat.zero_le _
  · simp
    have : ((2 ^ e : Nat) : Int) < ((2 ^ 62 : Nat) : Int) := Int.ofNat_lt.2 hp
    simp at this
    omega
theorem shr_nat (m e : Nat) (he : e < 64) : shr .i64 (m : Int) (e : Int) = ((m >>> e : Nat) : Int) := by
  unfold shr
  rw [Int.toNat_natCast, Nat.min_eq_left (by simp [IntKind.bits]; omega), Nat.shiftRight_eq_div_pow]
  simp
theorem bit_nat (m e : Nat) (hm : m < 2 ^ 63) (he : e < 64) : Go.bits .and .i64 (shr .i64 (m : Int) (e : Int)) 1 = if m.testBit e then 1 else 0 := by
  rw [shr_nat m e he]
  have h1 : m >>> e < 2 ^ 63 := by
    rw [Nat.shiftRight_eq_div_pow]
    exact Nat.lt_of_le_of_lt (Nat.div_le_self _ _) hm
  have := and_nat (m >>> e) 1 h1 (by decide)
  rw [show ((1 : Nat) : Int) = 1 from rfl] at this
  rw [this, Nat.testBit]
  rw [Nat.and_one_is_mod, Nat.one_and_eq_mod_two]
  rcases Nat.mod_two_eq_zero_or_one (m >>> e) with h | h <;> simp [h]
theorem or_add (m e : Nat) (h : m.testBit e = false) : m ||| 2 ^ e = m + 2 ^ e := by
  have hb : m % 2 ^ (e + 1) < 2 ^ e := by
    rw [Nat.mod_pow_succ]
    have h1 : m / 2 ^ e % 2 = 0 := by
      rw [Nat.testBit, Nat.shiftRight_eq_div_pow, Nat.one_and_eq_mod_two] at h
      simpa using h
    rw [h1]
    simpa using Nat.mod_lt m (Nat.two_pow_pos e)
  have hm := Nat.div_add_mod m (2 ^ (e + 1))
  have hp : (2 : Nat) ^ (e + 1) = 2 ^ e + 2 ^ e := by rw [Nat.pow_succ]; omega
  have e1 := Nat.two_pow_add_eq_or_of_lt (i := e + 1) (b := m % 2 ^ (e + 1)) (by omega) (m / 2 ^ (e + 1))
  have e2 := Nat.two_pow_add_eq_or_of_lt (i := e + 1) (b := m % 2 ^ (e + 1) + 2 ^ e) (by omega) (m / 2 ^ (e + 1))
  have e3 := Nat.or_two_pow_eq_add_of_lt hb
  rw [← e3] at e2
  calc m ||| 2 ^ e = (2 ^ (e + 1) * (m / 2 ^ (e + 1)) ||| m % 2 ^ (e + 1)) ||| 2 ^ e := by rw [← e1, hm]
    _ = 2 ^ (e + 1) * (m / 2 ^ (e + 1)) ||| (m % 2 ^ (e + 1) ||| 2 ^ e) := by rw [Nat.or_assoc]
    _ = m + 2 ^ e := by rw [← e2, e3]; omega
theorem test_lt (m e n : Nat) (hm : m < 2 ^ n) (he : n ≤ e) : m.testBit e = false := Nat.testBit_lt_two_pow (Nat.lt_of_lt_of_le hm (Nat.pow_le_pow_right (by omega) he))

/-! BestLaying, LeastRoom: both go through the layings in one order -/
theorem str_snoc (xs : List Int) (x : Int) : strOfNums (xs ++ [x]) = strOfNums xs ++ (⟨#[UInt8.ofNat x.toNat]⟩ : ByteArray) := by
  apply ByteArray.ext
  rw [ByteArray.data_append]
  simp [strOfNums]
theorem layS_size (n j : Nat) : (layS n j).size = n := by
  unfold layS
  rw [strOfNums_size, layN_len]
theorem lay_take (n j m : Nat) (h : m < n) : (layN n j).take (m + 1) = (layN n j).take m ++ [if j.testBit (n - 1 - m) then 114 else 108] := by
  have h2 : m < (layN n j).length := by rw [layN_len]; exact h
  rw [List.take_succ_eq_append_getElem h2]
  have := layN_at n j m h
  rw [List.getElem?_eq_getElem h2] at this
  rw [Option.some.inj this]
theorem spec_lay_l (n j : Nat) (hn : n ≤ 10) (hj : j < 2 ^ 63) : ∀ m, m ≤ n → Ev (fun k => spec_l22Laying.l0 k (j : Int) (strOfNums ((layN n j).take (n - m))) ((m : Int) - 1)) (layS n j) := by
  intro m
  induction m with
  | zero =>
    intro _
    refine Ev.step (f := fun _ => some (layS n j)) (fun k => ?_) (Ev.now _)
    rw [spec_l22Laying.l0, if_neg (by omega), Nat.sub_zero, List.take_of_length_le (by rw [layN_len]; exact Nat.le_refl _)]
    rfl
  | succ m ih =>
    intro hm
    have hsz : (strOfNums ((layN n j).take (n - (m + 1)))).size = n - (m + 1) := by
      rw [strOfNums_size, List.length_take, layN_len]
      omega
    have hi := ih (by omega)
    have e1 : n - m = n - (m + 1) + 1 := by omega
    have e2 : n - 1 - (n - (m + 1)) = m := by omega
    rw [e1, lay_take n j (n - (m + 1)) (by omega), e2, str_snoc] at hi
    have em : (((m + 1 : Nat) : Int) - 1) = (m : Int) := by omega
    have hb := bit_nat j m hj (by omega)
    rw [em]
    by_cases c : j.testBit m = true
    · rw [if_pos c] at hb hi
      refine Ev.step (f := fun k => spec_l22Laying.l0 k (j : Int) (strOfNums ((layN n j).take (n - (m + 1))) ++ (⟨#[114]⟩ : ByteArray)) ((m : Int) - 1)) (fun k => ?_) hi
      rw [spec_l22Laying.l0, if_pos (by omega), if_pos (by omega), if_pos hb, if_pos (by omega), w64 (by omega) (by omega)]
    · rw [if_neg c] at hb hi
      refine Ev.step (f := fun k => spec_l22Laying.l0 k (j : Int) (strOfNums ((layN n j).take (n - (m + 1))) ++ (⟨#[108]⟩ : ByteArray)) ((m : Int) - 1)) (fun k => ?_) hi
      rw [spec_l22Laying.l0, if_pos (by omega), if_pos (by omega), if_neg (by rw [hb]; decide), if_pos (by omega), w64 (by omega) (by omega)]
theorem spec_lay_ev (n j : Nat) (hn : n ≤ 10) (hj : j < 2 ^ 63) : Ev (fun k => spec_l22Laying.f k (n : Int) (j : Int)) (layS n j) := by
  have h := spec_lay_l n j hn hj n (Nat.le_refl _)
  rw [Nat.sub_self, List.take_zero] at h
  refine Ev.congr (fun k => ?_) h
  unfold spec_l22Laying.f
  rw [w64 (by omega) (by omega)]
  rfl
def roomAt (l : List Int) (j : Nat) : Int := roomOf (endsL l (layS l.length j) l.length)
theorem pow_small {n : Nat} (h : n ≤ 10) : 2 ^ n ≤ 1024 := by
  have := Nat.pow_le_pow_right (n := 2) (by decide) h
  exact this

/-! BestLaying, LeastRoom -/
def bestP (l : List Int) : Nat → ByteArray × Int
  | 0 => (⟨#[]⟩, -1)
  | j + 1 => if (bestP l j).2 < 0 ∨ roomAt l j < (bestP l j).2 then (layS l.length j, roomAt l j) else bestP l j
theorem impl_step_ev {l : List Int} (hl : Parts l) : ∀ j, Ev (fun k => bestStep k l l.length j) (bestP l j) := by
  intro j
  induction j with
  | zero => exact Ev.now _
  | succ j ih =>
    refine Ev.bind ih ?_
    have he := impl_ends_ev (layS l.length j) l.length (Nat.le_refl _) (layS_size _ _) hl
    refine Ev.bind he ?_
    refine Ev.bind (ev_const (impl_room_eq l _ l.length hl (Nat.le_refl _))) ?_
    exact Ev.now _
theorem spec_best_l {l : List Int} (hl : Parts l) : ∀ (d j : Nat), j + d = 2 ^ l.length → Ev (fun k => spec_BestLaying.l0 k l (bestP l j).1 (bestP l j).2 (j : Int)) (bestP l (2 ^ l.length)).1 := by
  intro d
  have hp := pow_small hl.1
  have hsh : shl .i64 1 (l.length : Int) = ((2 ^ l.length : Nat) : Int) := shl_one l.length (by have := hl.1; omega)
  obtain ⟨N, hN⟩ : ∃ N, N = 2 ^ l.length := ⟨_, rfl⟩
  rw [← hN] at hp hsh ⊢
  have HSH := Aside0.mk hsh
  clear hsh
  induction d with
  | zero =>
    intro j hj
    obtain rfl : j = N := by omega
    refine Ev.step (f := fun _ => some (bestP l j).1) (fun k => ?_) (Ev.now _)
    rw [spec_BestLaying.l0, HSH.out, if_neg (by omega)]
  | succ d ih =>
    intro j hj
    have hi := ih (j + 1) (by omega)
    refine Ev.step (fun k => rfl) ?_
    simp only [spec_BestLaying.l0]
    refine Ev.congr (fun k => by rw [HSH.out, if_pos (show (j : Int) < (N : Int) by omega)]) ?_
    refine Ev.bind (spec_lay_ev l.length j hl.1 (by omega)) ?_
    have he := spec_ends_ev (l := l) (layS l.length j) l.length (Nat.le_refl _) (layS_size _ _) hl
    rw [List.take_length] at he
    refine Ev.bind he ?_
    refine Ev.bind (spec_room_ev _ (by rw [ends_len]; have := hl.1; omega) (ends_mem hl (Nat.le_refl _))) ?_
    have ej : wrap64 ((j : Int) + 1) = ((j + 1 : Nat) : Int) := by rw [w64 (by omega) (by omega)]; rfl
    rw [ej]
    clear ej
    have er : roomOf (endsL l (layS l.length j) l.length) = roomAt l j := rfl
    rw [er]
    clear er
    by_cases c1 : (bestP l j).2 < 0
    · have e : bestP l (j + 1) = (layS l.length j, roomAt l j) := if_pos (.inl c1)
      rw [e] at hi
      exact Ev.congr (fun k => if_pos c1) hi
    · by_cases c2 : roomAt l j < (bestP l j).2
      · have e : bestP l (j + 1) = (layS l.length j, roomAt l j) := if_pos (.inr c2)
        rw [e] at hi
        exact Ev.congr (fun k => (if_neg c1).trans (if_pos c2)) hi
      · have e : bestP l (j + 1) = bestP l j := if_neg (by omega)
        rw [e] at hi
        exact Ev.congr (fun k => (if_neg c1).trans (if_neg c2)) hi
def best (l : List Int) : ByteArray × Int := if rulerOk l = true then bestP l (2 ^ l.length) else (⟨#[]⟩, -1)
theorem spec_Best_ev (l : List Int) : Ev (fun k => spec_BestLaying.f k l) (best l).1 := by
  unfold spec_BestLaying.f best
  refine Ev.bind (spec_Ruler_ev l) ?_
  by_cases c : rulerOk l = true
  · obtain ⟨h, h1⟩ := parts_of c
    rw [if_pos c]
    exact Ev.congr (fun k => if_pos c) (spec_best_l h (2 ^ l.length) 0 (by omega))
  · rw [if_neg c]
    exact Ev.congr (fun k => if_neg c) (Ev.now _)
theorem impl_best_ev {l : List Int} (c : rulerOk l = true) : Ev (fun k => impl_bestLaying.f k l) (bestP l (2 ^ l.length)) := by
  obtain ⟨h, h1⟩ := parts_of c
  unfold impl_bestLaying.f
  exact Ev.congr (fun k => if_pos ⟨h1, h.1⟩) (impl_step_ev h _)
theorem impl_Best_ev (l : List Int) : Ev (fun k => impl_BestLaying.f k l) (best l).1 := by
  unfold impl_BestLaying.f best
  refine Ev.bind (ev_const (impl_Ruler_eq l)) ?_
  by_cases c : rulerOk l = true
  · rw [if_pos c]
    exact Ev.congr (fun k => if_pos c) (Ev.bind (impl_best_ev c) (Ev.now _))
  · rw [if_neg c]
    exact Ev.congr (fun k => if_neg c) (Ev.now _)
theorem impl_Least_ev (l : List Int) : Ev (fun k => impl_LeastRoom.f k l) (best l).2 := by
  unfold impl_LeastRoom.f best
  refine Ev.bind (ev_const (impl_Ruler_eq l)) ?_
  by_cases c : rulerOk l = true
  · rw [if_pos c]
    exact Ev.congr (fun k => if_pos c) (Ev.bind (impl_best_ev c) (Ev.now _))
  · rw [if_neg c]
    exact Ev.congr (fun k => if_neg c) (Ev.now _)
theorem bestP_room (l : List Int) : ∀ j, (bestP l (j + 1)).1.size = l.length ∧ (bestP l (j + 1)).2 = roomOf (endsL l (bestP l (j + 1)).1 l.length) := by
  intro j
  induction j with
  | zero =>
    have e : bestP l (0 + 1) = (layS l.length 0, roomAt l 0) := if_pos (.inl (show ((-1 : Int)) < 0 by decide))
    rw [e]
    exact ⟨layS_size _ _, rfl⟩
  | succ j ih =>
    by_cases c : (bestP l (j + 1)).2 < 0 ∨ roomAt l (j + 1) < (bestP l (j + 1)).2
    · have e : bestP l (j + 1 + 1) = (layS l.length (j + 1), roomAt l (j + 1)) := if_pos c
      rw [e]
      exact ⟨layS_size _ _, rfl⟩
    · have e : bestP l (j + 1 + 1) = bestP l (j + 1) := if_neg c
      rw [e]
      exact ih
theorem spec_Least_ev (l : List Int) : Ev (fun k => spec_LeastRoom.f k l) (best l).2 := by
  unfold spec_LeastRoom.f
  refine Ev.bind (spec_Ruler_ev l) ?_
  by_cases c : rulerOk l = true
  · obtain ⟨h, h1⟩ := parts_of c
    refine Ev.congr (fun k => if_pos c) ?_
    refine Ev.bind (spec_Best_ev l) ?_
    have eb : best l = bestP l (2 ^ l.length) := if_pos c
    rw [eb]
    obtain ⟨j, hj⟩ : ∃ j, 2 ^ l.length = j + 1 := ⟨2 ^ l.length - 1, by have := Nat.two_pow_pos l.length; omega⟩
    obtain ⟨hs, hr⟩ := bestP_room l j
    rw [hj]
    have he := spec_ends_ev (l := l) (bestP l (j + 1)).1 l.length (Nat.le_refl _) hs h
    rw [List.take_length] at he
    refine Ev.bind he ?_
    refine Ev.bind (spec_room_ev _ (by rw [ends_len]; have := h.1; omega) (ends_mem h (Nat.le_refl _))) ?_
    rw [← hr]
    exact Ev.now _
  · have eb : best l = (⟨#[]⟩, -1) := if_neg c
    rw [eb]
    exact Ev.congr (fun k => if_neg c) (Ev.now _)

end Go.Proofs.Ytjjdahnjindgaaa.PA
