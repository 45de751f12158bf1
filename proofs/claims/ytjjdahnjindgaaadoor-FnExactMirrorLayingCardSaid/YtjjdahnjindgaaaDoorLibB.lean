/- layings by number -/
import Derived.Test.YtjjdahnjindgaaaDoorLibG
import Derived.Test.YtjjdahnjindgaaaDoorPAx12
import Derived.Test.YtjjdahnjindgaaaDoorPAx14
namespace Go.Proofs.YtjjdahnjindgaaaDoor.PA
open Go.RowKit Go.Proofs.YtjjdahnjindgaaaDoorW.PrintWords Go.Proofs.YtjjdahnjindgaaaDoorW.PrintLast Go.Proofs.YtjjdahnjindgaaaDoorW.PrintMore
set_option linter.unusedVariables false
set_option linter.unusedSimpArgs false

/-! masks -/
theorem wraps_i64n (n : Int) (h0 : 0 ≤ n) (h1 : n < 2 ^ 63) : IntKind.i64.wrap n = n := by
  rw [IntKind.wrap_i64]
  omega
theorem or_nat (a b : Nat) (ha : a < 2 ^ 63) (hb : b < 2 ^ 63) : Go.bits .or .i64 (a : Int) (b : Int) = ((a ||| b : Nat) : Int) :=
  (bits_nat .i64 63 (by decide) wraps_i64n a b ha hb).2
theorem and_nat (a b : Nat) (ha : a < 2 ^ 63) (hb : b < 2 ^ 63) : Go.bits .and .i64 (a : Int) (b : Int) = ((a &&& b : Nat) : Int) :=
  (bits_nat .i64 63 (by decide) wraps_i64n a b ha hb).1
theorem shl_one (e : Nat) (he : e < 62) : shl .i64 1 (e : Int) = ((2 ^ e : Nat) : Int) := by
  unfold shl
  rw [Int.toNat_natCast, Nat.min_eq_left (by simp [IntKind.bits]; omega)]
  have hp : (2 : Nat) ^ e < 2 ^ 62 := Nat.pow_lt_pow_right (by omega) he
  rw [wraps_i64n]
  · simp
  · simp
    exact_mod_cast Nat.zero_le _
  · simp
    have : ((2 ^ e : Nat) : Int) < ((2 ^ 62 : Nat) : Int) := Int.ofNat_lt.2 hp
    simp at this
    omega
theorem shr_nat (m e : Nat) (he : e < 64) : shr .i64 (m : Int) (e : Int) = ((m >>> e : Nat) : Int) := by
  unfold shr
  rw [Int.toNat_natCast, Nat.min_eq_left (by simp [IntKind.bits]; omega), Nat.shiftRight_eq_div_pow]
  simp
theorem bit_nat (m e : Nat) (hm : m < 2 ^ 63) (he : e < 64) : Go.bits .and .i64 (shr .i64 (m : Int) (e : Int)) 1 = if m.testBit e then 1 else 0 := by
  rw [shr_nat m e he]
  have h1 : m >>> e < 2 ^ 63 := by
    rw [Nat.shiftRight_eq_div_pow]
    exact Nat.lt_of_le_of_lt (Nat.div_le_self _ _) hm
  have := and_nat (m >>> e) 1 h1 (by decide)
  rw [show ((1 : Nat) : Int) = 1 from rfl] at this
  rw [this, Nat.testBit]
  rw [Nat.and_one_is_mod, Nat.one_and_eq_mod_two]
  rcases Nat.mod_two_eq_zero_or_one (m >>> e) with h | h <;> simp [h]
theorem or_add (m e : Nat) (h : m.testBit e = false) : m ||| 2 ^ e = m + 2 ^ e := by
  have hb : m % 2 ^ (e + 1) < 2 ^ e := by
    rw [Nat.mod_pow_succ]
    have h1 : m / 2 ^ e % 2 = 0 := by
      rw [Nat.testBit, Nat.shiftRight_eq_div_pow, Nat.one_and_eq_mod_two] at h
      simpa using h
    rw [h1]
    simpa using Nat.mod_lt m (Nat.two_pow_pos e)
  have hm := Nat.div_add_mod m (2 ^ (e + 1))
  have hp : (2 : Nat) ^ (e + 1) = 2 ^ e + 2 ^ e := by rw [Nat.pow_succ]; omega
  have e1 := Nat.two_pow_add_eq_or_of_lt (i := e + 1) (b := m % 2 ^ (e + 1)) (by omega) (m / 2 ^ (e + 1))
  have e2 := Nat.two_pow_add_eq_or_of_lt (i := e + 1) (b := m % 2 ^ (e + 1) + 2 ^ e) (by omega) (m / 2 ^ (e + 1))
  have e3 := Nat.or_two_pow_eq_add_of_lt hb
  rw [← e3] at e2
  calc m ||| 2 ^ e = (2 ^ (e + 1) * (m / 2 ^ (e + 1)) ||| m % 2 ^ (e + 1)) ||| 2 ^ e := by rw [← e1, hm]
    _ = 2 ^ (e + 1) * (m / 2 ^ (e + 1)) ||| (m % 2 ^ (e + 1) ||| 2 ^ e) := by rw [Nat.or_assoc]
    _ = m + 2 ^ e := by rw [← e2, e3]; omega
theorem test_lt (m e n : Nat) (hm : m < 2 ^ n) (he : n ≤ e) : m.testBit e = false := Nat.testBit_lt_two_pow (Nat.lt_of_lt_of_le hm (Nat.pow_le_pow_right (by omega) he))

/-! BestLaying, LeastRoom: both go through the layings in one order -/
theorem str_snoc (xs : List Int) (x : Int) : strOfNums (xs ++ [x]) = strOfNums xs ++ (⟨#[UInt8.ofNat x.toNat]⟩ : ByteArray) := by
  apply ByteArray.ext
  rw [ByteArray.data_append]
  simp [strOfNums]
theorem layS_size (n j : Nat) : (layS n j).size = n := by
  unfold layS
  rw [strOfNums_size, layN_len]
theorem lay_take (n j m : Nat) (h : m < n) : (layN n j).take (m + 1) = (layN n j).take m ++ [if j.testBit (n - 1 - m) then 114 else 108] := by
  have h2 : m < (layN n j).length := by rw [layN_len]; exact h
  rw [List.take_succ_eq_append_getElem h2]
  have := layN_at n j m h
  rw [List.getElem?_eq_getElem h2] at this
  rw [Option.some.inj this]
theorem spec_lay_l (n j : Nat) (hn : n ≤ 10) (hj : j < 2 ^ 63) : ∀ m, m ≤ n → Ev (fun k => spec_l22Laying.l0 k (j : Int) (strOfNums ((layN n j).take (n - m))) ((m : Int) - 1)) (layS n j) := by
  intro m
  induction m with
  | zero =>
    intro _
    refine Ev.step (f := fun _ => some (layS n j)) (fun k => ?_) (Ev.now _)
    rw [spec_l22Laying.l0, if_neg (by omega), Nat.sub_zero, List.take_of_length_le (by rw [layN_len]; exact Nat.le_refl _)]
    rfl
  | succ m ih =>
    intro hm
    have hsz : (strOfNums ((layN n j).take (n - (m + 1)))).size = n - (m + 1) := by
      rw [strOfNums_size, List.length_take, layN_len]
      omega
    have hi := ih (by omega)
    have e1 : n - m = n - (m + 1) + 1 := by omega
    have e2 : n - 1 - (n - (m + 1)) = m := by omega
    rw [e1, lay_take n j (n - (m + 1)) (by omega), e2, str_snoc] at hi
    have em : (((m + 1 : Nat) : Int) - 1) = (m : Int) := by omega
    have hb := bit_nat j m hj (by omega)
    rw [em]
    by_cases c : j.testBit m = true
    · rw [if_pos c] at hb hi
      refine Ev.step (f := fun k => spec_l22Laying.l0 k (j : Int) (strOfNums ((layN n j).take (n - (m + 1))) ++ (⟨#[114]⟩ : ByteArray)) ((m : Int) - 1)) (fun k => ?_) hi
      rw [spec_l22Laying.l0, if_pos (by omega), if_pos (by omega), if_pos hb, if_pos (by omega), w64 (by omega) (by omega)]
    · rw [if_neg c] at hb hi
      refine Ev.step (f := fun k => spec_l22Laying.l0 k (j : Int) (strOfNums ((layN n j).take (n - (m + 1))) ++ (⟨#[108]⟩ : ByteArray)) ((m : Int) - 1)) (fun k => ?_) hi
      rw [spec_l22Laying.l0, if_pos (by omega), if_pos (by omega), if_neg (by rw [hb]; decide), if_pos (by omega), w64 (by omega) (by omega)]
theorem spec_lay_ev (n j : Nat) (hn : n ≤ 10) (hj : j < 2 ^ 63) : Ev (fun k => spec_l22Laying.f k (n : Int) (j : Int)) (layS n j) := by
  have h := spec_lay_l n j hn hj n (Nat.le_refl _)
  rw [Nat.sub_self, List.take_zero] at h
  refine Ev.congr (fun k => ?_) h
  unfold spec_l22Laying.f
  rw [w64 (by omega) (by omega)]
  rfl
def roomAt (l : List Int) (j : Nat) : Int := roomOf (endsL l (layS l.length j) l.length)
theorem pow_small {n : Nat} (h : n ≤ 10) : 2 ^ n ≤ 1024 := by
  have := Nat.pow_le_pow_right (n := 2) (by decide) h
  exact this

end Go.Proofs.YtjjdahnjindgaaaDoor.PA
