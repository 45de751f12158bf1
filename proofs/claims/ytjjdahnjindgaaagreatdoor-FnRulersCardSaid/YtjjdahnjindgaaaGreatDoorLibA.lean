/- FnRulers: all plain facts (strip.py). -/
import Derived.Test.YtjjdahnjindgaaaGreatDoorPAx1
import Derived.Test.YtjjdahnjindgaaaGreatDoorPAx10
import Derived.Test.YtjjdahnjindgaaaGreatDoorPAx11
import Derived.Test.YtjjdahnjindgaaaGreatDoorPAx12
import Derived.Test.YtjjdahnjindgaaaGreatDoorPAx13
import Derived.Test.YtjjdahnjindgaaaGreatDoorPAx14
import Derived.Test.YtjjdahnjindgaaaGreatDoorPAx2
import Derived.Test.YtjjdahnjindgaaaGreatDoorPAx3
import Derived.Test.YtjjdahnjindgaaaGreatDoorPAx4
import Derived.Test.YtjjdahnjindgaaaGreatDoorPAx5
import Derived.Test.YtjjdahnjindgaaaGreatDoorPAx6
import Derived.Test.YtjjdahnjindgaaaGreatDoorPAx7
import Derived.Test.YtjjdahnjindgaaaGreatDoorPAx8
import Derived.Test.YtjjdahnjindgaaaGreatDoorPAx9
namespace Go.Proofs.YtjjdahnjindgaaaGreatDoor.PA
open Go.RowKit Go.Proofs.YtjjdahnjindgaaaGreatDoorW.PrintWords Go.Proofs.YtjjdahnjindgaaaGreatDoorW.PrintLast Go.Proofs.YtjjdahnjindgaaaGreatDoorW.PrintMore
set_option linter.unusedVariables false
set_option linter.unusedSimpArgs false

/-! Plain lemmas: whole numbers, lists, rounds. -/
theorem w64 {x : Int} (h0 : -9223372036854775808 ≤ x) (h1 : x < 9223372036854775808) : wrap64 x = x := by
  unfold wrap64
  omega
theorem wf_lo {x : Int} (h : (Lit.int .i64 x).wf = true) : -9223372036854775808 ≤ x ∧ x < 9223372036854775808 := by
  have h1 := h
  simp [Lit.wf] at h1
  have h2 : IntKind.i64.min = -9223372036854775808 := rfl
  omega
theorem rd_nat (l : List Int) (i : Nat) : rd l (i : Int) = l.getD i 0 := by simp [rd]
theorem rd_get {l : List Int} {i : Nat} (h : i < l.length) : rd l (i : Int) = l[i] := by simp [rd, List.getD_eq_getElem?_getD, h]
theorem ev_eq {α : Type} {g : Nat → Option α} {r r' : α} (h : Ev g r) (e : r = r') : Ev g r' := e ▸ h
theorem ev_both {α : Type} {g : Nat → Option α} {r r' : α} (h : Ev g r) (h' : Ev g r') : r = r' := by
  obtain ⟨K, h⟩ := h
  obtain ⟨K', h'⟩ := h'
  have a := h (max K K') (by omega)
  have b := h' (max K K') (by omega)
  rw [a] at b
  exact Option.some.inj b
theorem ev_const {α : Type} {a : Option α} {r : α} (h : a = some r) : Ev (fun _ => a) r := ⟨0, fun _ _ => h⟩
theorem take_step {l : List Int} {i : Nat} (h : i < l.length) : l.take (i + 1) = l.take i ++ [l[i]] := by
  rw [List.take_succ_eq_append_getElem h]
/-! toIntS, eqIntS, markIntS, heldIntS -/
/-! all numbers from low to high; sums -/
def allIn (l : List Int) (a b : Int) : Bool := l.all fun n => decide (a ≤ n) && decide (n ≤ b)
theorem allIn_iff {l : List Int} {a b : Int} : allIn l a b = true ↔ ∀ x ∈ l, a ≤ x ∧ x ≤ b := by
  unfold allIn
  rw [List.all_eq_true]
  simp
theorem areWithin_eq (l : List Int) (a b : Int) : impl_areWithin.f l a b = some (allIn l a b) := rfl
theorem allIn_drop {l : List Int} {a b : Int} {i : Nat} (h : i < l.length) : allIn (l.drop i) a b = ((decide (a ≤ l[i]) && decide (l[i] ≤ b)) && allIn (l.drop (i + 1)) a b) := by
  unfold allIn
  rw [List.drop_eq_getElem_cons h, List.all_cons]
/-! RulerOk -/
def rulerOk (l : List Int) : Bool := decide (1 ≤ l.length ∧ l.length ≤ 10) && allIn l 1 50
theorem impl_Ruler_eq (l : List Int) : impl_RulerOk.f l = some (rulerOk l) := by
  unfold impl_RulerOk.f rulerOk
  rw [areWithin_eq]
  by_cases c1 : 1 ≤ l.length
  · rw [if_pos (by omega)]
    by_cases c2 : l.length ≤ 10
    · rw [if_pos (by omega)]
      simp [c1, c2]
    · rw [if_neg (by omega)]
      simp [c2]
  · rw [if_neg (by omega)]
    simp [c1]
theorem rulerOk_iff {l : List Int} : rulerOk l = true ↔ 1 ≤ l.length ∧ l.length ≤ 10 ∧ ∀ x ∈ l, 1 ≤ x ∧ x ≤ 50 := by
  unfold rulerOk
  rw [Bool.and_eq_true, decide_eq_true_iff, allIn_iff, and_assoc]
/-! ends, room, GreedyLaying -/
def at_ (l : List Int) (s : ByteArray) : Nat → Int
  | 0 => 0
  | j + 1 => if bt s (j : Int) = 114 then at_ l s j + rd l (j : Int) else at_ l s j - rd l (j : Int)
def endsL (l : List Int) (s : ByteArray) (n : Nat) : List Int := (List.range (n + 1)).map (at_ l s)
def Parts (l : List Int) : Prop := l.length ≤ 10 ∧ ∀ j : Nat, j < l.length → 1 ≤ rd l (j : Int) ∧ rd l (j : Int) ≤ 50
theorem parts_of {l : List Int} (h : rulerOk l = true) : Parts l ∧ 1 ≤ l.length := by
  obtain ⟨h1, h2, h3⟩ := rulerOk_iff.1 h
  exact ⟨⟨h2, fun j hj => by rw [rd_get hj]; exact h3 _ (List.getElem_mem hj)⟩, h1⟩
theorem at_bd {l : List Int} (s : ByteArray) (hl : Parts l) : ∀ j, j ≤ l.length → -50 * (j : Int) ≤ at_ l s j ∧ at_ l s j ≤ 50 * (j : Int) := by
  intro j
  induction j with
  | zero => intro _; simp [at_]
  | succ j ih =>
    intro h
    have h1 := ih (by omega)
    have h2 := hl.2 j (by omega)
    simp only [at_]
    split <;> omega
theorem ends_len (l : List Int) (s : ByteArray) (n : Nat) : (endsL l s n).length = n + 1 := by simp [endsL]
theorem ends_step (l : List Int) (s : ByteArray) (n : Nat) : endsL l s (n + 1) = endsL l s n ++ [at_ l s (n + 1)] := by
  unfold endsL
  rw [List.range_succ, List.map_append]
  rfl
theorem ends_mem {l : List Int} {s : ByteArray} (hl : Parts l) {n : Nat} (hn : n ≤ l.length) : ∀ x ∈ endsL l s n, -500 ≤ x ∧ x ≤ 500 := by
  intro x hx
  unfold endsL at hx
  obtain ⟨j, hj, rfl⟩ := List.mem_map.1 hx
  have h := at_bd s hl j (by have := List.mem_range.1 hj; omega)
  have := List.mem_range.1 hj
  have := hl.1
  omega
theorem rd_ends (l : List Int) (s : ByteArray) {j n : Nat} (h : j ≤ n) : rd (endsL l s n) (j : Int) = at_ l s j := by
  rw [rd_get (by rw [ends_len]; omega)]
  simp [endsL]
theorem rd_take (l : List Int) {j n : Nat} (h : j < n) : rd (l.take n) (j : Int) = rd l (j : Int) := by
  rw [rd_nat, rd_nat, List.getD_eq_getElem?_getD, List.getD_eq_getElem?_getD, List.getElem?_take, if_pos h]
theorem impl_ends_l {l : List Int} (s : ByteArray) (n : Nat) (hn : n ≤ l.length) (hs : s.size = n) (hl : Parts l) : ∀ (m i : Nat), i + m = n →
    Ev (fun k => impl_ends.l0 k l s (endsL l s i) (s.size : Int) (i : Int)) (endsL l s n) := by
  intro m
  have h10 := hl.1
  induction m with
  | zero =>
    intro i hi
    obtain rfl : i = n := by omega
    refine Ev.step (f := fun _ => some (endsL l s i)) (fun k => ?_) (Ev.now _)
    simp only [impl_ends.l0]
    rw [if_neg (by omega)]
  | succ m ih =>
    intro i hi
    have hb := at_bd s hl i (by omega)
    have hr := hl.2 i (by omega)
    have hel := ends_len l s i
    refine Ev.step (f := fun k => impl_ends.l0 k l s (endsL l s (i + 1)) (s.size : Int) ((i + 1 : Nat) : Int)) (fun k => ?_) (ih (i + 1) (by omega))
    simp only [impl_ends.l0]
    rw [if_pos (by omega), if_pos (by omega), if_pos (by omega), rd_ends l s (Nat.le_refl i), w64 (x := (i : Int) + 1) (by omega) (by omega), ends_step]
    by_cases c : bt s (i : Int) = 114
    · rw [if_pos c, if_pos (by omega), if_pos (by omega), if_pos (by omega), w64 (by omega) (by omega), show at_ l s (i + 1) = at_ l s i + rd l (i : Int) by simp only [at_]; rw [if_pos c]]
      simp
    · rw [if_neg c, if_pos (by omega), if_pos (by omega), if_pos (by omega), w64 (by omega) (by omega), show at_ l s (i + 1) = at_ l s i - rd l (i : Int) by simp only [at_]; rw [if_neg c]]
      simp
theorem impl_ends_ev {l : List Int} (s : ByteArray) (n : Nat) (hn : n ≤ l.length) (hs : s.size = n) (hl : Parts l) : Ev (fun k => impl_ends.f k l s) (endsL l s n) :=
  impl_ends_l s n hn hs hl n 0 (by omega)
def roomOf (L : List Int) : Int := L.foldl max 0 - L.foldl min 0
theorem mx_max (a b : Int) : mx a b = max a b := by unfold mx; split <;> omega
theorem mn_min (a b : Int) : mn a b = min a b := by unfold mn; split <;> omega
theorem foldmax_bd : ∀ (L : List Int) (a : Int), (∀ x ∈ L, -500 ≤ x ∧ x ≤ 500) → -500 ≤ a → a ≤ 500 → -500 ≤ L.foldl max a ∧ L.foldl max a ≤ 500 := by
  intro L
  induction L with
  | nil => intro a _ h1 h2; exact ⟨h1, h2⟩
  | cons x L ih =>
    intro a h h1 h2
    have hx := h x List.mem_cons_self
    exact ih (max a x) (fun y hy => h y (List.mem_cons_of_mem _ hy)) (by omega) (by omega)
theorem foldmin_bd : ∀ (L : List Int) (a : Int), (∀ x ∈ L, -500 ≤ x ∧ x ≤ 500) → -500 ≤ a → a ≤ 500 → -500 ≤ L.foldl min a ∧ L.foldl min a ≤ 500 := by
  intro L
  induction L with
  | nil => intro a _ h1 h2; exact ⟨h1, h2⟩
  | cons x L ih =>
    intro a h h1 h2
    have hx := h x List.mem_cons_self
    exact ih (min a x) (fun y hy => h y (List.mem_cons_of_mem _ hy)) (by omega) (by omega)
theorem impl_room_eq (l : List Int) (s : ByteArray) (n : Nat) (hl : Parts l) (hn : n ≤ l.length) : impl_room.f (endsL l s n) = some (roomOf (endsL l s n)) := by
  have hb := ends_mem (s := s) hl hn
  have h1 := foldmax_bd (endsL l s n) 0 hb (by omega) (by omega)
  have h2 := foldmin_bd (endsL l s n) 0 hb (by omega) (by omega)
  have h0 : (endsL l s n).headD 0 = 0 := by
    unfold endsL
    rw [List.range_succ_eq_map]
    rfl
  unfold impl_room.f slices_Max_int_int.f slices_Min_int_int.f
  rw [if_pos (by rw [ends_len]; omega), if_pos (by rw [ends_len]; omega)]
  simp only [Option.bind_some, Lib.maxOf, Lib.minOf, h0]
  rw [w64 (by omega) (by omega)]
  rfl
/-! GreedyLaying -/
theorem app_size (s : ByteArray) (b : UInt8) : (s ++ (⟨#[b]⟩ : ByteArray)).size = s.size + 1 := by
  rw [ByteArray.size_append]
  rfl
def greedyS (l : List Int) (s : ByteArray) : ByteArray :=
  if roomOf (endsL l (s ++ (⟨#[114]⟩ : ByteArray)) (s.size + 1)) ≤ roomOf (endsL l (s ++ (⟨#[108]⟩ : ByteArray)) (s.size + 1)) then s ++ (⟨#[114]⟩ : ByteArray) else s ++ (⟨#[108]⟩ : ByteArray)
def greedyN (l : List Int) : Nat → ByteArray → ByteArray
  | 0, s => s
  | m + 1, s => greedyN l m (greedyS l s)
theorem impl_greedy_l {l : List Int} (hl : Parts l) : ∀ (m : Nat) (s : ByteArray), s.size + m = l.length → Ev (fun k => impl_GreedyLaying.l0 k l s) (greedyN l m s) := by
  intro m
  have h10 := hl.1
  induction m with
  | zero =>
    intro s hs
    refine Ev.step (f := fun _ => some s) (fun k => ?_) (Ev.now _)
    simp only [impl_GreedyLaying.l0]
    rw [if_neg (by omega)]
  | succ m ih =>
    intro s hs
    have er := app_size s 114
    have el := app_size s 108
    refine Ev.step (fun k => rfl) ?_
    simp only [impl_GreedyLaying.l0]
    refine Ev.congr (fun k => (if_pos (by omega)).trans (if_pos (by omega))) ?_
    refine Ev.bind (impl_ends_ev _ (s.size + 1) (by omega) er hl) ?_
    refine Ev.bind (ev_const (impl_room_eq l _ (s.size + 1) hl (by omega))) ?_
    refine Ev.bind (impl_ends_ev _ (s.size + 1) (by omega) el hl) ?_
    refine Ev.bind (ev_const (impl_room_eq l _ (s.size + 1) hl (by omega))) ?_
    by_cases c : roomOf (endsL l (s ++ (⟨#[114]⟩ : ByteArray)) (s.size + 1)) ≤ roomOf (endsL l (s ++ (⟨#[108]⟩ : ByteArray)) (s.size + 1))
    · exact ev_eq (Ev.congr (fun k => if_pos c) (ih (s ++ (⟨#[114]⟩ : ByteArray)) (by omega))) (by rw [greedyN, greedyS, if_pos c])
    · exact ev_eq (Ev.congr (fun k => if_neg c) (ih (s ++ (⟨#[108]⟩ : ByteArray)) (by omega))) (by rw [greedyN, greedyS, if_neg c])
def greedy (l : List Int) : ByteArray := if rulerOk l = true then greedyN l (l.length - 1) (⟨#[114]⟩ : ByteArray) else (⟨#[]⟩ : ByteArray)
theorem impl_greedy_ev (l : List Int) : Ev (fun k => impl_GreedyLaying.f k l) (greedy l) := by
  unfold impl_GreedyLaying.f greedy
  refine Ev.bind (ev_const (impl_Ruler_eq l)) ?_
  by_cases c : rulerOk l = true
  · obtain ⟨h, h1⟩ := parts_of c
    exact ev_eq (Ev.congr (fun k => if_pos c) (impl_greedy_l h (l.length - 1) (⟨#[114]⟩ : ByteArray) (by show 1 + (l.length - 1) = l.length; omega))) (if_pos c).symm
  · exact ev_eq (Ev.congr (fun k => if_neg c) (Ev.now _)) (if_neg c).symm
/-! masks -/
theorem wraps_i64n (n : Int) (h0 : 0 ≤ n) (h1 : n < 2 ^ 63) : IntKind.i64.wrap n = n := by
  rw [IntKind.wrap_i64]
  omega
theorem or_nat (a b : Nat) (ha : a < 2 ^ 63) (hb : b < 2 ^ 63) : Go.bits .or .i64 (a : Int) (b : Int) = ((a ||| b : Nat) : Int) :=
  (bits_nat .i64 63 (by decide) wraps_i64n a b ha hb).2
theorem and_nat (a b : Nat) (ha : a < 2 ^ 63) (hb : b < 2 ^ 63) : Go.bits .and .i64 (a : Int) (b : Int) = ((a &&& b : Nat) : Int) :=
  (bits_nat .i64 63 (by decide) wraps_i64n a b ha hb).1
theorem shl_one (e : Nat) (he : e < 62) : shl .i64 1 (e : Int) = ((2 ^ e : Nat) : Int) := by
  unfold shl
  rw [Int.toNat_natCast, Nat.min_eq_left (by simp [IntKind.bits]; omega)]
  have hp : (2 : Nat) ^ e < 2 ^ 62 := Nat.pow_lt_pow_right (by omega) he
  rw [wraps_i64n]
  · simp
  · simp
    exact_mod_cast Nat.zero_le _
  · simp
    have : ((2 ^ e : Nat) : Int) < ((2 ^ 62 : Nat) : Int) := Int.ofNat_lt.2 hp
    simp at this
    omega
theorem shr_nat (m e : Nat) (he : e < 64) : shr .i64 (m : Int) (e : Int) = ((m >>> e : Nat) : Int) := by
  unfold shr
  rw [Int.toNat_natCast, Nat.min_eq_left (by simp [IntKind.bits]; omega), Nat.shiftRight_eq_div_pow]
  simp
theorem bit_nat (m e : Nat) (hm : m < 2 ^ 63) (he : e < 64) : Go.bits .and .i64 (shr .i64 (m : Int) (e : Int)) 1 = if m.testBit e then 1 else 0 := by
  rw [shr_nat m e he]
  have h1 : m >>> e < 2 ^ 63 := by
    rw [Nat.shiftRight_eq_div_pow]
    exact Nat.lt_of_le_of_lt (Nat.div_le_self _ _) hm
  have := and_nat (m >>> e) 1 h1 (by decide)
  rw [show ((1 : Nat) : Int) = 1 from rfl] at this
  rw [this, Nat.testBit]
  rw [Nat.and_one_is_mod, Nat.one_and_eq_mod_two]
  rcases Nat.mod_two_eq_zero_or_one (m >>> e) with h | h <;> simp [h]
theorem or_add (m e : Nat) (h : m.testBit e = false) : m ||| 2 ^ e = m + 2 ^ e := by
  have hb : m % 2 ^ (e + 1) < 2 ^ e := by
    rw [Nat.mod_pow_succ]
    have h1 : m / 2 ^ e % 2 = 0 := by
      rw [Nat.testBit, Nat.shiftRight_eq_div_pow, Nat.one_and_eq_mod_two] at h
      simpa using h
    rw [h1]
    simpa using Nat.mod_lt m (Nat.two_pow_pos e)
  have hm := Nat.div_add_mod m (2 ^ (e + 1))
  have hp : (2 : Nat) ^ (e + 1) = 2 ^ e + 2 ^ e := by rw [Nat.pow_succ]; omega
  have e1 := Nat.two_pow_add_eq_or_of_lt (i := e + 1) (b := m % 2 ^ (e + 1)) (by omega) (m / 2 ^ (e + 1))
  have e2 := Nat.two_pow_add_eq_or_of_lt (i := e + 1) (b := m % 2 ^ (e + 1) + 2 ^ e) (by omega) (m / 2 ^ (e + 1))
  have e3 := Nat.or_two_pow_eq_add_of_lt hb
  rw [← e3] at e2
  calc m ||| 2 ^ e = (2 ^ (e + 1) * (m / 2 ^ (e + 1)) ||| m % 2 ^ (e + 1)) ||| 2 ^ e := by rw [← e1, hm]
    _ = 2 ^ (e + 1) * (m / 2 ^ (e + 1)) ||| (m % 2 ^ (e + 1) ||| 2 ^ e) := by rw [Nat.or_assoc]
    _ = m + 2 ^ e := by rw [← e2, e3]; omega
theorem test_lt (m e n : Nat) (hm : m < 2 ^ n) (he : n ≤ e) : m.testBit e = false := Nat.testBit_lt_two_pow (Nat.lt_of_lt_of_le hm (Nat.pow_le_pow_right (by omega) he))
/-! BestLaying, LeastRoom: both go through the layings in one order -/
theorem str_snoc (xs : List Int) (x : Int) : strOfNums (xs ++ [x]) = strOfNums xs ++ (⟨#[UInt8.ofNat x.toNat]⟩ : ByteArray) := by
  apply ByteArray.ext
  rw [ByteArray.data_append]
  simp [strOfNums]
theorem layS_size (n j : Nat) : (layS n j).size = n := by
  unfold layS
  rw [strOfNums_size, layN_len]
theorem lay_take (n j m : Nat) (h : m < n) : (layN n j).take (m + 1) = (layN n j).take m ++ [if j.testBit (n - 1 - m) then 114 else 108] := by
  have h2 : m < (layN n j).length := by rw [layN_len]; exact h
  rw [List.take_succ_eq_append_getElem h2]
  have := layN_at n j m h
  rw [List.getElem?_eq_getElem h2] at this
  rw [Option.some.inj this]
def roomAt (l : List Int) (j : Nat) : Int := roomOf (endsL l (layS l.length j) l.length)
theorem pow_small {n : Nat} (h : n ≤ 10) : 2 ^ n ≤ 1024 := by
  have := Nat.pow_le_pow_right (n := 2) (by decide) h
  exact this
/-! BestLaying, LeastRoom -/
def bestP (l : List Int) : Nat → ByteArray × Int
  | 0 => (⟨#[]⟩, -1)
  | j + 1 => if (bestP l j).2 < 0 ∨ roomAt l j < (bestP l j).2 then (layS l.length j, roomAt l j) else bestP l j
theorem impl_step_ev {l : List Int} (hl : Parts l) : ∀ j, Ev (fun k => bestStep k l l.length j) (bestP l j) := by
  intro j
  induction j with
  | zero => exact Ev.now _
  | succ j ih =>
    refine Ev.bind ih ?_
    have he := impl_ends_ev (layS l.length j) l.length (Nat.le_refl _) (layS_size _ _) hl
    refine Ev.bind he ?_
    refine Ev.bind (ev_const (impl_room_eq l _ l.length hl (Nat.le_refl _))) ?_
    exact Ev.now _
def best (l : List Int) : ByteArray × Int := if rulerOk l = true then bestP l (2 ^ l.length) else (⟨#[]⟩, -1)
theorem impl_best_ev {l : List Int} (c : rulerOk l = true) : Ev (fun k => impl_bestLaying.f k l) (bestP l (2 ^ l.length)) := by
  obtain ⟨h, h1⟩ := parts_of c
  unfold impl_bestLaying.f
  exact Ev.congr (fun k => if_pos ⟨h1, h.1⟩) (impl_step_ev h _)
theorem impl_Best_ev (l : List Int) : Ev (fun k => impl_BestLaying.f k l) (best l).1 := by
  unfold impl_BestLaying.f best
  refine Ev.bind (ev_const (impl_Ruler_eq l)) ?_
  by_cases c : rulerOk l = true
  · rw [if_pos c]
    exact Ev.congr (fun k => if_pos c) (Ev.bind (impl_best_ev c) (Ev.now _))
  · rw [if_neg c]
    exact Ev.congr (fun k => if_neg c) (Ev.now _)
theorem impl_Least_ev (l : List Int) : Ev (fun k => impl_LeastRoom.f k l) (best l).2 := by
  unfold impl_LeastRoom.f best
  refine Ev.bind (ev_const (impl_Ruler_eq l)) ?_
  by_cases c : rulerOk l = true
  · rw [if_pos c]
    exact Ev.congr (fun k => if_pos c) (Ev.bind (impl_best_ev c) (Ev.now _))
  · rw [if_neg c]
    exact Ev.congr (fun k => if_neg c) (Ev.now _)
theorem bestP_room (l : List Int) : ∀ j, (bestP l (j + 1)).1.size = l.length ∧ (bestP l (j + 1)).2 = roomOf (endsL l (bestP l (j + 1)).1 l.length) := by
  intro j
  induction j with
  | zero =>
    have e : bestP l (0 + 1) = (layS l.length 0, roomAt l 0) := if_pos (.inl (show ((-1 : Int)) < 0 by decide))
    rw [e]
    exact ⟨layS_size _ _, rfl⟩
  | succ j ih =>
    by_cases c : (bestP l (j + 1)).2 < 0 ∨ roomAt l (j + 1) < (bestP l (j + 1)).2
    · have e : bestP l (j + 1 + 1) = (layS l.length (j + 1), roomAt l (j + 1)) := if_pos c
      rw [e]
      exact ⟨layS_size _ _, rfl⟩
    · have e : bestP l (j + 1 + 1) = bestP l (j + 1) := if_neg c
      rw [e]
      exact ih
/-! ReachOf: what the layings reach, and ascending lists -/
def absI (x : Int) : Int := if x < 0 then -x else x
def endAt (l : List Int) (i : Nat) : Int := at_ l (layS l.length i) l.length
theorem reachL_ev {l : List Int} (hl : Parts l) (h1 : 1 ≤ l.length) : ∀ j, j ≤ 1024 → Ev (fun k => reachL k l l.length j) ((List.range j).map fun i => absI (endAt l i)) := by
  intro j
  induction j with
  | zero => intro _; exact Ev.now _
  | succ j ih =>
    intro hj
    refine Ev.bind (ih (by omega)) ?_
    have he := impl_ends_ev (layS l.length j) l.length (Nat.le_refl _) (layS_size _ _) hl
    refine Ev.bind he ?_
    have hb := at_bd (layS l.length j) hl l.length (Nat.le_refl _)
    have hlen := hl.1
    have hr : rd (endsL l (layS l.length j) l.length) (((endsL l (layS l.length j) l.length).length : Int) - 1) = endAt l j := by
      rw [ends_len, show (((l.length + 1 : Nat) : Int) - 1) = ((l.length : Nat) : Int) by omega, rd_ends _ _ (Nat.le_refl _)]
      rfl
    refine Ev.congr (fun k => if_pos ⟨by rw [ends_len]; omega, by rw [List.length_map, List.length_range]; omega⟩) ?_
    refine ev_const ?_
    have hs : impl_size.f (endAt l j) = some (absI (endAt l j)) := by
      have hb' : -50 * (l.length : Int) ≤ endAt l j ∧ endAt l j ≤ 50 * (l.length : Int) := hb
      unfold impl_size.f
      rw [w64 (by omega) (by omega)]
      unfold mx absI
      congr 1
      split <;> split <;> omega
    rw [hr, hs, List.range_succ, List.map_append]
    rfl
theorem asc_ext : ∀ {a b : List Int}, a.Pairwise (· < ·) → b.Pairwise (· < ·) → (∀ x, x ∈ a ↔ x ∈ b) → a = b
  | [], [], _, _, _ => rfl
  | [], y :: b, _, _, h => absurd ((h y).2 (by simp)) (by simp)
  | x :: a, [], _, _, h => absurd ((h x).1 (by simp)) (by simp)
  | x :: a, y :: b, ha, hb, h => by
    rw [List.pairwise_cons] at ha hb
    have e : x = y := by
      rcases List.mem_cons.1 ((h x).1 (by simp)) with e | e
      · exact e
      · rcases List.mem_cons.1 ((h y).2 (by simp)) with e2 | e2
        · exact e2.symm
        · have := hb.1 x e
          have := ha.1 y e2
          omega
    subst e
    have ht : a = b := asc_ext ha.2 hb.2 (fun z => by
      constructor
      · intro hz
        rcases List.mem_cons.1 ((h z).1 (List.mem_cons_of_mem _ hz)) with e | e
        · have := ha.1 z hz
          omega
        · exact e
      · intro hz
        rcases List.mem_cons.1 ((h z).2 (List.mem_cons_of_mem _ hz)) with e | e
        · have := hb.1 z hz
          omega
        · exact e)
    rw [ht]
theorem big_ok (n : Nat) (h : n ≤ 8192) : n < 17592186044416 := by omega
/-- r is l with x in it, ascending. -/
def Into (l : List Int) (x : Int) (r : List Int) : Prop := r.Pairwise (· < ·) ∧ (∀ y, y ∈ r ↔ y = x ∨ y ∈ l) ∧ r.length ≤ l.length + 1
theorem into_at {l : List Int} {x : Int} {i : Nat} (hs : l.Pairwise (· < ·)) (h1 : ∀ y ∈ l.take i, y < x) (h2 : ∀ y ∈ l.drop i, x < y) : Into l x (([] ++ l.take i) ++ [x] ++ l.drop i) := by
  have hs' : (l.take i ++ l.drop i).Pairwise (· < ·) := by rw [List.take_append_drop]; exact hs
  obtain ⟨a1, a2, a3⟩ := List.pairwise_append.1 hs'
  have hm : ∀ y, y ∈ l ↔ y ∈ l.take i ∨ y ∈ l.drop i := fun y => by rw [← List.mem_append, List.take_append_drop]
  refine ⟨?_, fun y => ?_, ?_⟩
  · rw [List.nil_append, List.append_assoc, List.pairwise_append]
    refine ⟨a1, ?_, ?_⟩
    · rw [List.singleton_append, List.pairwise_cons]
      exact ⟨h2, a2⟩
    · intro a ha b hb
      rw [List.singleton_append, List.mem_cons] at hb
      rcases hb with rfl | hb
      · exact h1 a ha
      · exact a3 a ha b hb
  · rw [hm y]
    simp only [List.nil_append, List.mem_append, List.mem_singleton]
    constructor
    · rintro ((h | h) | h)
      · exact .inr (.inl h)
      · exact .inl h
      · exact .inr (.inr h)
    · rintro (h | h | h)
      · exact .inl (.inr h)
      · exact .inl (.inl h)
      · exact .inr h
  · simp only [List.nil_append, List.length_append, List.length_cons, List.length_nil, List.length_take, List.length_drop]
    omega
theorem ins_put (l : List Int) (x : Int) (i : Nat) (hi : i ≤ l.length) (hl : l.length ≤ 4096) : ((some (([] : List Int) : List Int)).bind fun y226 => (if 0 ≤ (i : Int) then (if (i : Int) ≤ (l.length : Int) then ((some (l.take (i : Int).toNat : List Int)).bind fun y229 => (if y226.length + y229.length < 17592186044416 then ((some (y226 ++ y229 : List Int)).bind fun y233 => (if y233.length < 17592186044416 then ((some (y233 ++ [x] : List Int)).bind fun y236 => ((some (l.drop (i : Int).toNat : List Int)).bind fun y239 => (if y236.length + y239.length < 17592186044416 then (some (y236 ++ y239)) else (none)))) else (none))) else (none))) else (none)) else (none))) = some (([] ++ l.take i) ++ [x] ++ l.drop i) := by
  have e1 : (l.take i).length = i := by rw [List.length_take]; omega
  have e2 : (l.drop i).length = l.length - i := List.length_drop
  rw [Option.bind_some, if_pos (by omega), if_pos (by omega), Int.toNat_natCast, Option.bind_some]
  rw [if_pos (big_ok _ (by rw [e1, List.length_nil]; omega)), Option.bind_some]
  rw [if_pos (big_ok _ (by rw [List.nil_append, e1]; omega)), Option.bind_some, Option.bind_some]
  rw [if_pos (big_ok _ (by rw [List.length_append, List.nil_append, e1, e2, List.length_singleton]; omega))]
theorem compact_asc (zs : List Int) (h : zs.Pairwise (· ≤ ·)) : ∀ m, m ≤ zs.length → (Go.Lib.compactUpTo zs.toArray m).Pairwise (· < ·) ∧ ∀ x, x ∈ Go.Lib.compactUpTo zs.toArray m ↔ x ∈ zs.take m := by
  intro m
  induction m with
  | zero => intro _; simp [Go.Lib.compactUpTo]
  | succ m ih =>
    intro hm
    obtain ⟨h1, h2⟩ := ih (by omega)
    have hd : zs.toArray[m]! = zs[m] := by simp [getElem!_pos, show m < zs.length by omega]
    rw [Go.Lib.compactUpTo_succ, take_step (by omega), hd]
    have hle : ∀ i j : Nat, (hi : i < zs.length) → (hj : j < zs.length) → i ≤ j → zs[i] ≤ zs[j] := fun i j hi hj hij => by
      rcases Nat.lt_or_eq_of_le hij with hlt | rfl
      · exact List.pairwise_iff_getElem.1 h i j hi hj hlt
      · exact Int.le_refl _
    by_cases c : Go.Lib.keeps zs.toArray m = true
    · rw [if_pos c]
      refine ⟨List.pairwise_append.2 ⟨h1, by simp, ?_⟩, fun x => by rw [List.mem_append, List.mem_append, h2 x]⟩
      intro a ha b hb
      obtain rfl := List.mem_singleton.1 hb
      obtain ⟨i, hi, rfl⟩ := List.mem_iff_getElem.1 ((h2 a).1 ha)
      rw [List.length_take] at hi
      rw [List.getElem_take]
      have hm0 : m ≠ 0 := by omega
      have hd1 : zs.toArray[m - 1]! = zs[m - 1]'(by omega) := by simp [getElem!_pos, show m - 1 < zs.length by omega]
      have hne : zs[m] ≠ zs[m - 1]'(by omega) := by
        have hk := c
        unfold Go.Lib.keeps at hk
        rw [decide_eq_true_eq, hd, hd1] at hk
        exact hk.resolve_left hm0
      have q1 := hle i (m - 1) (by omega) (by omega) (by omega)
      have q2 := hle (m - 1) m (by omega) (by omega) (by omega)
      omega
    · rw [if_neg c, List.append_nil]
      refine ⟨h1, fun x => ?_⟩
      rw [h2 x, List.mem_append]
      constructor
      · exact .inl
      · rintro (hx | hx)
        · exact hx
        · obtain rfl := List.mem_singleton.1 hx
          have hk : ¬ (m = 0 ∨ zs.toArray[m]! ≠ zs.toArray[m - 1]!) := by
            intro hk
            apply c
            unfold Go.Lib.keeps
            exact decide_eq_true hk
          have hm0 : m ≠ 0 := fun e => hk (.inl e)
          have hd1 : zs.toArray[m - 1]! = zs[m - 1]'(by omega) := by simp [getElem!_pos, show m - 1 < zs.length by omega]
          have he : zs[m] = zs[m - 1]'(by omega) := Classical.byContradiction fun hne => hk (.inr (by rw [hd, hd1]; exact hne))
          rw [he]
          exact List.mem_iff_getElem.2 ⟨m - 1, by rw [List.length_take]; omega, by rw [List.getElem_take]⟩
theorem compact_sorted (out : List Int) : (Go.Lib.compact (out.mergeSort fun x y => decide (x ≤ y))).Pairwise (· < ·) ∧ ∀ x, x ∈ Go.Lib.compact (out.mergeSort fun x y => decide (x ≤ y)) ↔ x ∈ out := by
  have hp : (out.mergeSort fun x y => decide (x ≤ y)).Pairwise (· ≤ ·) := by
    have := List.pairwise_mergeSort (le := fun x y : Int => decide (x ≤ y)) (by intro a b c; simp; omega) (by intro a b; simp; omega) out
    simpa using this
  obtain ⟨h1, h2⟩ := compact_asc _ hp _ (Nat.le_refl _)
  refine ⟨h1, fun x => ?_⟩
  have := h2 x
  rw [List.take_length] at this
  exact this.trans (List.mem_mergeSort)
/-! ReachOf: the reference's rounds -/
/-- u is a signed sum of the first i parts. -/
def SS (l : List Int) : Nat → Int → Prop
  | 0, u => u = 0
  | i + 1, u => ∃ v, SS l i v ∧ (u = v + rd l (i : Int) ∨ u = v - rd l (i : Int))
theorem SS.neg {l : List Int} : ∀ {i : Nat} {u : Int}, SS l i u → SS l i (-u)
  | 0, u, h => by simp only [SS] at h ⊢; omega
  | i + 1, u, h => by
    obtain ⟨v, hv, h⟩ := h
    refine ⟨-v, hv.neg, ?_⟩
    omega
theorem SS.abs {l : List Int} {i : Nat} {u : Int} (h : SS l i u) : SS l i (absI u) := by
  unfold absI
  split
  · exact h.neg
  · exact h
theorem SS.bd {l : List Int} (hl : Parts l) : ∀ {i : Nat} {u : Int}, i ≤ l.length → SS l i u → -50 * (i : Int) ≤ u ∧ u ≤ 50 * (i : Int)
  | 0, u, _, h => by simp only [SS] at h; omega
  | i + 1, u, hi, h => by
    obtain ⟨v, hv, h⟩ := h
    have h1 := SS.bd hl (by omega) hv
    have h2 := hl.2 i (by omega)
    omega
theorem absI_nonneg (x : Int) : 0 ≤ absI x := by unfold absI; split <;> omega
theorem SS.step {l : List Int} {i : Nat} (hx : 1 ≤ rd l (i : Int)) (y : Int) : (∃ u, SS l (i + 1) u ∧ y = absI u) ↔ ∃ y0, (∃ u, SS l i u ∧ y0 = absI u) ∧ (y = y0 + rd l (i : Int) ∨ y = absI (y0 - rd l (i : Int))) := by
  constructor
  · rintro ⟨u, ⟨v, hv, hu⟩, rfl⟩
    refine ⟨absI v, ⟨v, hv, rfl⟩, ?_⟩
    rcases hu with rfl | rfl <;> · unfold absI; split <;> split <;> (try split) <;> omega
  · rintro ⟨y0, ⟨u, hu, rfl⟩, h | h⟩
    · refine ⟨absI u + rd l (i : Int), ⟨absI u, hu.abs, .inl rfl⟩, ?_⟩
      have := absI_nonneg u
      have h3 : ∀ z : Int, 0 ≤ z → absI z = z := fun z hz => by unfold absI; rw [if_neg (by omega)]
      rw [h, h3 (absI u + rd l (i : Int)) (by omega)]
    · exact ⟨absI u - rd l (i : Int), ⟨absI u, hu.abs, .inr rfl⟩, h⟩
/-! ReachOf: all layings reach all signed sums -/
theorem bt_lay (n j i : Nat) (h : i < n) : bt (layS n j) (i : Int) = if j.testBit (n - 1 - i) then 114 else 108 := by
  unfold bt
  rw [dif_pos (by rw [Int.toNat_natCast, layS_size]; exact h)]
  have hi : (i : Int).toNat = i := Int.toNat_natCast i
  simp only [hi, ByteArray.getElem_eq_getElem_data, layS, strOfNums, layN, List.getElem_toArray, List.getElem_map, List.getElem_range]
  split <;> rfl
theorem bits_ex : ∀ (n : Nat) (b : Nat → Bool), ∃ j, j < 2 ^ n ∧ ∀ e, e < n → j.testBit e = b e
  | 0, _ => ⟨0, by simp, fun e h => by omega⟩
  | n + 1, b => by
    obtain ⟨j, hj, hb⟩ := bits_ex n b
    have hp : (2 : Nat) ^ (n + 1) = 2 ^ n + 2 ^ n := by rw [Nat.pow_succ]; omega
    by_cases c : b n = true
    · refine ⟨2 ^ n + j, by omega, fun e he => ?_⟩
      rcases Nat.lt_or_eq_of_le (Nat.le_of_lt_succ he) with h | rfl
      · rw [Nat.testBit_two_pow_add_gt h, hb e h]
      · rw [Nat.testBit_two_pow_add_eq, Nat.testBit_lt_two_pow hj, c]
        rfl
    · refine ⟨j, by omega, fun e he => ?_⟩
      rcases Nat.lt_or_eq_of_le (Nat.le_of_lt_succ he) with h | rfl
      · exact hb e h
      · rw [Nat.testBit_lt_two_pow hj]
        simp at c
        exact c.symm
theorem at_SS (l : List Int) (s : ByteArray) : ∀ i, SS l i (at_ l s i)
  | 0 => rfl
  | i + 1 => by
    refine ⟨at_ l s i, at_SS l s i, ?_⟩
    simp only [at_]
    split
    · exact .inl rfl
    · exact .inr rfl
theorem SS_bits {l : List Int} : ∀ {i : Nat} {u : Int}, SS l i u → ∃ b : Nat → Bool, ∀ s : ByteArray, (∀ e : Nat, e < i → bt s (e : Int) = if b e then 114 else 108) → at_ l s i = u
  | 0, u, h => ⟨fun _ => true, fun s _ => by simp only [SS] at h; rw [h]; rfl⟩
  | i + 1, u, h => by
    obtain ⟨v, hv, h⟩ := h
    obtain ⟨b, hb⟩ := SS_bits hv
    rcases h with h | h
    · refine ⟨fun e => if e < i then b e else true, fun s hs => ?_⟩
      have h1 : at_ l s i = v := hb s (fun e he => by rw [hs e (by omega)]; simp only [if_pos he])
      have h2 := hs i (by omega)
      simp only [Nat.lt_irrefl, if_false, if_true] at h2
      simp only [at_]
      rw [h1, if_pos h2, h]
    · refine ⟨fun e => if e < i then b e else false, fun s hs => ?_⟩
      have h1 : at_ l s i = v := hb s (fun e he => by rw [hs e (by omega)]; simp only [if_pos he])
      have h2 : bt s (i : Int) = 108 := by
        have := hs i (by omega)
        simpa using this
      simp only [at_]
      rw [h1, if_neg (by omega), h]
theorem reach_mem (l : List Int) (y : Int) : y ∈ ((List.range (2 ^ l.length)).map fun i => absI (endAt l i)) ↔ ∃ u, SS l l.length u ∧ y = absI u := by
  rw [List.mem_map]
  constructor
  · rintro ⟨j, hj, rfl⟩
    exact ⟨endAt l j, at_SS l _ _, rfl⟩
  · rintro ⟨u, hu, rfl⟩
    obtain ⟨b, hb⟩ := SS_bits hu
    obtain ⟨j, hj, hbit⟩ := bits_ex l.length (fun e => b (l.length - 1 - e))
    refine ⟨j, List.mem_range.2 hj, ?_⟩
    have h1 : endAt l j = u := hb _ (fun e he => by
      rw [bt_lay _ _ _ he, hbit _ (by omega), show l.length - 1 - (l.length - 1 - e) = e by omega])
    rw [h1]
def reachP (l : List Int) : List Int := if rulerOk l = true then Go.Lib.compact (((List.range (2 ^ l.length)).map fun i => absI (endAt l i)).mergeSort fun x y => decide (x ≤ y)) else []
theorem impl_Reach_ev (l : List Int) : Ev (fun k => impl_ReachOf.f k l) (reachP l) := by
  unfold impl_ReachOf.f reachP
  refine Ev.bind (ev_const (impl_Ruler_eq l)) ?_
  by_cases c : rulerOk l = true
  · refine Ev.congr (fun k => if_pos c) ?_
    rw [if_pos c]
    have hp := parts_of c
    have h10 := hp.1.1
    have hpow := pow_small h10
    refine Ev.congr (fun k => if_pos ⟨hp.2, h10⟩) ?_
    refine Ev.bind (reachL_ev hp.1 hp.2 (2 ^ l.length) hpow) ?_
    have hpos : 0 < 2 ^ l.length := Nat.two_pow_pos _
    refine Ev.bind (ev_const (if_pos (by rw [List.length_map, List.length_range]; omega))) ?_
    exact ev_const (if_pos (by rw [List.length_mergeSort, List.length_map, List.length_range]; omega))
  · refine Ev.congr (fun k => if_neg c) ?_
    rw [if_neg c]
    exact Ev.now _
/-! EndsOf, RoomOf, CountLayings -/
def layB (l : List Int) : Bool := l.all fun b => b == 114 || b == 108
theorem layOk_eq (s : ByteArray) : layOk s = layB (bytesOf s) := by
  unfold layOk layB bytesOf
  rw [List.all_map]
  congr 1
  funext b
  have h : ∀ n : UInt8, (b == n) = ((b.toNat : Int) == (n.toNat : Int)) := by
    intro n
    rw [Bool.eq_iff_iff, beq_iff_eq, beq_iff_eq]
    constructor
    · intro e; rw [e]
    · intro e; exact UInt8.toNat_inj.1 (by omega)
  rw [h 114, h 108]
  rfl
theorem layB_drop {l : List Int} {i : Nat} (h : i < l.length) : layB (l.drop i) = ((l[i] == 114 || l[i] == 108) && layB (l.drop (i + 1))) := by
  unfold layB
  rw [List.drop_eq_getElem_cons h, List.all_cons]
theorem bt_get (s : ByteArray) {i : Nat} (h : i < (bytesOf s).length) : bt s (i : Int) = (bytesOf s)[i] := by
  rw [← rd_bytesOf, rd_get h]
def layFor (l : List Int) (s : ByteArray) : Prop := rulerOk l = true ∧ s.size = l.length ∧ layOk s = true
instance (l : List Int) (s : ByteArray) : Decidable (layFor l s) := by unfold layFor; infer_instance
def endsOf (l : List Int) (s : ByteArray) : List Int := if layFor l s then endsL l s l.length else []
theorem endsOf_len (l : List Int) (s : ByteArray) : (endsOf l s).length ≤ 11 := by
  unfold endsOf
  split
  · rename_i h
    rw [ends_len]
    have := (rulerOk_iff.1 h.1).2.1
    omega
  · simp
theorem isLaying_eq {s : ByteArray} (h : s.size ≤ 10) : impl_isLaying.f s = some (layOk s) := by
  unfold impl_isLaying.f
  rw [if_pos (by omega)]
theorem impl_EndsOf_ev (l : List Int) (s : ByteArray) : Ev (fun k => impl_EndsOf.f k l s) (endsOf l s) := by
  unfold impl_EndsOf.f endsOf
  refine Ev.bind (ev_const (impl_Ruler_eq l)) ?_
  by_cases c : rulerOk l = true
  · refine Ev.congr (fun k => if_pos c) ?_
    obtain ⟨hP, h1⟩ := parts_of c
    have h10 := hP.1
    by_cases c1 : s.size = l.length
    · refine Ev.congr (fun k => if_pos (by omega)) ?_
      refine Ev.bind (ev_const (isLaying_eq (by omega))) ?_
      by_cases c2 : layOk s = true
      · rw [if_pos ⟨c, c1, c2⟩]
        refine Ev.congr (fun k => if_pos c2) ?_
        exact Ev.bind (impl_ends_ev s l.length (Nat.le_refl _) c1 hP) (Ev.now _)
      · rw [if_neg (fun z => c2 z.2.2)]
        exact Ev.congr (fun k => if_neg c2) (Ev.now _)
    · rw [if_neg (fun z => c1 z.2.1)]
      exact Ev.congr (fun k => if_neg (by omega)) (Ev.now _)
  · rw [if_neg (fun z => c z.1)]
    exact Ev.congr (fun k => if_neg c) (Ev.now _)
def roomFor (l : List Int) (s : ByteArray) : Int := if layFor l s then roomOf (endsL l s l.length) else -1
theorem impl_RoomOf_ev (l : List Int) (s : ByteArray) : Ev (fun k => impl_RoomOf.f k l s) (roomFor l s) := by
  unfold impl_RoomOf.f roomFor
  refine Ev.bind (ev_const (impl_Ruler_eq l)) ?_
  by_cases c : rulerOk l = true
  · refine Ev.congr (fun k => if_pos c) ?_
    obtain ⟨hP, h1⟩ := parts_of c
    have h10 := hP.1
    by_cases c1 : s.size = l.length
    · refine Ev.congr (fun k => if_pos (by omega)) ?_
      refine Ev.bind (ev_const (isLaying_eq (by omega))) ?_
      by_cases c2 : layOk s = true
      · rw [if_pos ⟨c, c1, c2⟩]
        refine Ev.congr (fun k => if_pos c2) ?_
        have eE := impl_EndsOf_ev l s
        rw [show endsOf l s = endsL l s l.length from if_pos ⟨c, c1, c2⟩] at eE
        refine Ev.bind eE ?_
        refine Ev.congr (fun k => if_pos (by rw [ends_len]; omega)) ?_
        exact ev_const (impl_room_eq l s l.length hP (Nat.le_refl _))
      · rw [if_neg (fun z => c2 z.2.2)]
        exact Ev.congr (fun k => if_neg c2) (Ev.now _)
    · rw [if_neg (fun z => c1 z.2.1)]
      exact Ev.congr (fun k => if_neg (by omega)) (Ev.now _)
  · rw [if_neg (fun z => c z.1)]
    exact Ev.congr (fun k => if_neg c) (Ev.now _)
/-! CountLayings -/
theorem layS_ok (n j : Nat) : layOk (layS n j) = true := by
  unfold layOk layS strOfNums
  rw [List.all_eq_true]
  intro b hb
  simp only [List.mem_map, layN, List.mem_range, List.toList_toArray] at hb
  obtain ⟨x, ⟨i, _, rfl⟩, rfl⟩ := hb
  split <;> rfl
theorem roomFor_lay {l : List Int} (h : rulerOk l = true) (j : Nat) : roomFor l (layS l.length j) = roomAt l j := by
  unfold roomFor roomAt
  rw [if_pos ⟨h, layS_size _ _, layS_ok _ _⟩]
def countTo (l : List Int) (r : Int) : Nat → Int
  | 0 => 0
  | j + 1 => if roomAt l j ≤ r then countTo l r j + 1 else countTo l r j
theorem countTo_bd (l : List Int) (r : Int) : ∀ j, 0 ≤ countTo l r j ∧ countTo l r j ≤ (j : Int) := by
  intro j
  induction j with
  | zero => simp [countTo]
  | succ j ih => simp only [countTo]; split <;> omega
theorem impl_count_ev {l : List Int} (h : rulerOk l = true) (r : Int) : ∀ j, j ≤ 1024 → Ev (fun k => countStep k l r l.length j) (countTo l r j) := by
  intro j
  induction j with
  | zero => intro _; exact Ev.now _
  | succ j ih =>
    intro hj
    have hb := countTo_bd l r j
    have e := impl_RoomOf_ev l (layS l.length j)
    rw [roomFor_lay h] at e
    simp only [countStep]
    refine Ev.bind (ih (by omega)) (Ev.bind e (ev_eq (Ev.now _) ?_))
    simp only [countTo]
    split
    · rw [w64 (by omega) (by omega)]
    · rfl
def countLay (l : List Int) (r : Int) : Int := if rulerOk l = true then countTo l r (2 ^ l.length) else -1
theorem impl_Count_ev (l : List Int) (r : Int) : Ev (fun k => impl_CountLayings.f k l r) (countLay l r) := by
  unfold impl_CountLayings.f countLay
  refine Ev.bind (ev_const (impl_Ruler_eq l)) ?_
  by_cases c : rulerOk l = true
  · rw [if_pos c]
    obtain ⟨hP, h1⟩ := parts_of c
    have h10 := hP.1
    refine Ev.congr (fun k => if_pos c) (Ev.congr (fun k => if_pos ⟨h1, h10⟩) ?_)
    exact impl_count_ev c r _ (pow_small h10)
  · rw [if_neg c]
    exact Ev.congr (fun k => if_neg c) (Ev.now _)
/-! MirrorLaying: both texts -/
def mirrorOf (s : ByteArray) : ByteArray := if s.size ≤ 10 ∧ layOk s = true then mirror s else ⟨#[]⟩
theorem impl_Mirror_eq (s : ByteArray) : impl_MirrorLaying.f s = some (mirrorOf s) := by
  unfold impl_MirrorLaying.f mirrorOf
  by_cases c : s.size ≤ 10
  · rw [if_pos c, isLaying_eq c, Option.bind_some]
    by_cases c2 : layOk s = true
    · rw [if_pos c2, if_pos ⟨c, c2⟩]
    · rw [if_neg c2, if_neg (fun z => c2 z.2)]
  · rw [if_neg c, if_neg (fun z => c z.1)]
/-! FnRulers: the plain facts -/
theorem bit_comp {n j e : Nat} (hj : j < 2 ^ n) (he : e < n) : (2 ^ n - 1 - j).testBit e = !(j.testBit e) := by
  rw [show 2 ^ n - 1 - j = 2 ^ n - (j + 1) by omega, Nat.testBit_two_pow_sub_succ hj, decide_eq_true he, Bool.true_and]
theorem at_comp (l : List Int) {j : Nat} (hj : j < 2 ^ l.length) : ∀ i, i ≤ l.length → at_ l (layS l.length (2 ^ l.length - 1 - j)) i = - at_ l (layS l.length j) i := by
  intro i
  induction i with
  | zero => intro _; simp [at_]
  | succ i ih =>
    intro hi
    have e := ih (by omega)
    simp only [at_]
    rw [bt_lay _ _ _ (by omega), bt_lay _ _ _ (by omega), bit_comp hj (by omega), e]
    cases j.testBit (l.length - 1 - i) <;> simp <;> omega
theorem fold_neg : ∀ (L : List Int) (a b : Int), b = -a → (L.map fun x => -x).foldl max b = - L.foldl min a ∧ (L.map fun x => -x).foldl min b = - L.foldl max a := by
  intro L
  induction L with
  | nil => intro a b h; subst h; exact ⟨rfl, rfl⟩
  | cons x L ih =>
    intro a b h
    simp only [List.map_cons, List.foldl_cons]
    exact ⟨(ih (min a x) (max b (-x)) (by omega)).1, (ih (max a x) (min b (-x)) (by omega)).2⟩
theorem room_neg (L : List Int) : roomOf (L.map fun x => -x) = roomOf L := by
  unfold roomOf
  rw [(fold_neg L 0 0 rfl).1, (fold_neg L 0 0 rfl).2]
  omega
theorem ends_comp (l : List Int) {j : Nat} (hj : j < 2 ^ l.length) : endsL l (layS l.length (2 ^ l.length - 1 - j)) l.length = (endsL l (layS l.length j) l.length).map fun x => -x := by
  unfold endsL
  rw [List.map_map]
  refine List.map_congr_left fun i hi => ?_
  exact at_comp l hj i (by have := List.mem_range.1 hi; omega)
theorem roomAt_comp (l : List Int) {j : Nat} (hj : j < 2 ^ l.length) : roomAt l (2 ^ l.length - 1 - j) = roomAt l j := by
  unfold roomAt
  rw [ends_comp l hj, room_neg]
theorem bytesOf_nums (xs : List Int) (h : ∀ x ∈ xs, 0 ≤ x ∧ x ≤ 255) : bytesOf (strOfNums xs) = xs := by
  unfold bytesOf
  rw [strOfNums_data, List.map_map]
  conv => rhs; rw [← List.map_id xs]
  refine List.map_congr_left fun x hx => ?_
  obtain ⟨a, b⟩ := h x hx
  obtain ⟨n, rfl⟩ := Int.eq_ofNat_of_zero_le a
  simp
  omega
theorem bytesOf_lay (n j : Nat) : bytesOf (layS n j) = layN n j := by
  refine bytesOf_nums _ fun x hx => ?_
  simp only [layN, List.mem_map, List.mem_range] at hx
  obtain ⟨i, _, rfl⟩ := hx
  split <;> omega
theorem mirror_lay {n j : Nat} (hj : j < 2 ^ n) : mirror (layS n j) = layS n (2 ^ n - 1 - j) := by
  unfold mirror
  rw [bytesOf_lay]
  unfold layS
  congr 1
  unfold layN
  rw [List.map_map]
  refine List.map_congr_left fun i hi => ?_
  have hi := List.mem_range.1 hi
  show mirZ (if j.testBit (n - 1 - i) then 114 else 108) = if (2 ^ n - 1 - j).testBit (n - 1 - i) then 114 else 108
  rw [bit_comp hj (by omega)]
  cases j.testBit (n - 1 - i) <;> rfl
theorem mirrorOf_lay {n j : Nat} (hn : n ≤ 10) (hj : j < 2 ^ n) : mirrorOf (layS n j) = layS n (2 ^ n - 1 - j) := by
  unfold mirrorOf
  rw [if_pos ⟨by rw [layS_size]; exact hn, layS_ok _ _⟩, mirror_lay hj]
/-! folds -/
theorem fold_in : ∀ (L : List Int) (a : Int), a ≤ L.foldl max a ∧ L.foldl min a ≤ a ∧ ∀ x ∈ L, x ≤ L.foldl max a ∧ L.foldl min a ≤ x := by
  intro L
  induction L with
  | nil => intro a; simp
  | cons y L ih =>
    intro a
    obtain ⟨h1, _, h2⟩ := ih (max a y)
    obtain ⟨_, h3, h4⟩ := ih (min a y)
    simp only [List.foldl_cons]
    refine ⟨by omega, by omega, fun x hx => ?_⟩
    rcases List.mem_cons.1 hx with rfl | hx
    · omega
    · exact ⟨(h2 x hx).1, (h4 x hx).2⟩
theorem room_two {L : List Int} {x y : Int} (hx : x ∈ L) (hy : y ∈ L) : x - y ≤ roomOf L := by
  have := (fold_in L 0).2.2
  have a := this x hx
  have b := this y hy
  unfold roomOf
  omega
theorem room_nn (L : List Int) : 0 ≤ roomOf L := by
  have := fold_in L 0
  unfold roomOf
  omega
theorem room_snoc (L : List Int) (y : Int) : roomOf (L ++ [y]) = max (L.foldl max 0) y - min (L.foldl min 0) y := by
  unfold roomOf
  rw [List.foldl_append, List.foldl_append]
  rfl
theorem at_mem (l : List Int) (s : ByteArray) {i n : Nat} (h : i ≤ n) : at_ l s i ∈ endsL l s n := List.mem_map.2 ⟨i, List.mem_range.2 (by omega), rfl⟩
theorem at_diff (l : List Int) (s : ByteArray) (i : Nat) : at_ l s (i + 1) - at_ l s i = rd l (i : Int) ∨ at_ l s (i + 1) - at_ l s i = - rd l (i : Int) := by
  simp only [at_]
  split <;> omega
theorem room_part (l : List Int) (s : ByteArray) {i n : Nat} (h : i < n) : rd l (i : Int) ≤ roomOf (endsL l s n) := by
  have a := room_two (at_mem l s (show i + 1 ≤ n by omega)) (at_mem l s (show i ≤ n by omega))
  have b := room_two (at_mem l s (show i ≤ n by omega)) (at_mem l s (show i + 1 ≤ n by omega))
  rcases at_diff l s i with e | e <;> omega
theorem high_mem : ∀ (l : List Int) (a : Int), l.foldl max a = a ∨ l.foldl max a ∈ l := by
  intro l
  induction l with
  | nil => intro a; exact .inl rfl
  | cons x l ih =>
    intro a
    simp only [List.foldl_cons]
    rcases ih (max a x) with h | h
    · rw [h]
      by_cases c : a ≤ x
      · right; rw [Int.max_eq_right c]; exact List.mem_cons_self
      · left; omega
    · right; exact List.mem_cons_of_mem _ h
theorem room_sum {l : List Int} (hl : Parts l) (s : ByteArray) : ∀ n, n ≤ l.length → roomOf (endsL l s n) ≤ (l.take n).sum := by
  intro n
  induction n with
  | zero => intro _; simp [endsL, at_, roomOf]
  | succ n ih =>
    intro hn
    have e := ih (by omega)
    have hx := hl.2 n (by omega)
    have hm := (fold_in (endsL l s n) 0).2.2 _ (at_mem l s (Nat.le_refl n))
    rw [ends_step, room_snoc, List.take_succ_eq_append_getElem (by omega : n < l.length), List.sum_append, ← rd_get (by omega : n < l.length)]
    unfold roomOf at e
    simp only [List.sum_cons, List.sum_nil]
    rcases at_diff l s n with d | d <;> omega
theorem at_zero (l : List Int) : ∀ i, i ≤ l.length → at_ l (layS l.length 0) i = - (l.take i).sum := by
  intro i
  induction i with
  | zero => intro _; simp [at_]
  | succ i ih =>
    intro hi
    have e := ih (by omega)
    simp only [at_]
    rw [bt_lay _ _ _ (by omega), Nat.zero_testBit, if_neg (by simp), e, List.take_succ_eq_append_getElem (by omega : i < l.length), List.sum_append, ← rd_get (by omega : i < l.length)]
    simp only [List.sum_cons, List.sum_nil]
    omega
theorem room_zero (l : List Int) : l.sum ≤ roomAt l 0 := by
  have h := room_two (at_mem l (layS l.length 0) (Nat.zero_le l.length)) (at_mem l (layS l.length 0) (Nat.le_refl l.length))
  rw [at_zero l _ (Nat.le_refl _), List.take_length] at h
  unfold roomAt
  simp only [at_] at h
  omega
theorem room_le_sum {l : List Int} (hl : Parts l) (j : Nat) : roomAt l j ≤ l.sum := by
  have := room_sum hl (layS l.length j) l.length (Nat.le_refl _)
  rw [List.take_length] at this
  exact this
/-! FnRulers: masks counted, the best one, the greedy one -/
def cnt (p : Nat → Bool) : Nat → Nat
  | 0 => 0
  | j + 1 => cnt p j + (if p j = true then 1 else 0)
theorem cnt_fold (p : Nat → Bool) (M : Nat) (hp : ∀ j, j < 2 * M → p (2 * M - 1 - j) = p j) : ∀ t, t ≤ M → cnt p (M + t) + cnt p (M - t) = 2 * cnt p M := by
  intro t
  induction t with
  | zero => intro _; simp; omega
  | succ t ih =>
    intro ht
    have e := ih (by omega)
    have h := hp (M + t) (by omega)
    rw [show 2 * M - 1 - (M + t) = M - (t + 1) by omega] at h
    have e2 : cnt p (M - t) = cnt p (M - (t + 1)) + (if p (M - (t + 1)) = true then 1 else 0) := by
      rw [show M - t = (M - (t + 1)) + 1 by omega]
      rfl
    rw [e2, h] at e
    show cnt p (M + t) + (if p (M + t) = true then 1 else 0) + cnt p (M - (t + 1)) = 2 * cnt p M
    omega
theorem cnt_even (p : Nat → Bool) (M : Nat) (hp : ∀ j, j < 2 * M → p (2 * M - 1 - j) = p j) : cnt p (2 * M) = 2 * cnt p M := by
  have := cnt_fold p M hp M (Nat.le_refl _)
  rw [show M + M = 2 * M by omega, Nat.sub_self] at this
  simpa [cnt] using this
theorem cnt_le (p : Nat → Bool) : ∀ M, cnt p M ≤ M := by
  intro M
  induction M with
  | zero => exact Nat.le_refl _
  | succ M ih => simp only [cnt]; split <;> omega
theorem cnt_zero (p : Nat → Bool) : ∀ M, (∀ j, j < M → p j = false) → cnt p M = 0 := by
  intro M
  induction M with
  | zero => intro _; rfl
  | succ M ih => intro h; simp only [cnt]; rw [ih (fun j hj => h j (by omega)), h M (by omega)]; rfl
theorem cnt_all (p : Nat → Bool) : ∀ M, (∀ j, j < M → p j = true) → cnt p M = M := by
  intro M
  induction M with
  | zero => intro _; rfl
  | succ M ih => intro h; simp only [cnt]; rw [ih (fun j hj => h j (by omega)), h M (by omega)]; rfl
theorem cnt_pos (p : Nat → Bool) {i : Nat} (hi : p i = true) : ∀ M, i < M → 1 ≤ cnt p M := by
  intro M
  induction M with
  | zero => intro h; omega
  | succ M ih =>
    intro h
    simp only [cnt]
    by_cases c : i = M
    · subst c; rw [if_pos hi]; omega
    · have := ih (by omega); omega
theorem cnt_miss (p : Nat → Bool) (h0 : p 0 = false) : ∀ M, cnt p (M + 1) ≤ M := by
  intro M
  induction M with
  | zero => simp [cnt, h0]
  | succ M ih =>
    show cnt p (M + 1) + (if p (M + 1) = true then 1 else 0) ≤ M + 1
    split <;> omega
theorem countTo_cnt (l : List Int) (r : Int) : ∀ J, countTo l r J = ((cnt (fun j => decide (roomAt l j ≤ r)) J : Nat) : Int) := by
  intro J
  induction J with
  | zero => rfl
  | succ J ih =>
    simp only [countTo, cnt]
    by_cases c : roomAt l J ≤ r
    · rw [if_pos c, if_pos (decide_eq_true c), ih]; rfl
    · rw [if_neg c, if_neg (by simpa using c), ih]; rfl
theorem half_pow {N : Nat} (h : 1 ≤ N) : 2 ^ N = 2 * 2 ^ (N - 1) := by
  obtain ⟨m, rfl⟩ : ∃ m, N = m + 1 := ⟨N - 1, by omega⟩
  rw [Nat.pow_succ, Nat.add_sub_cancel]
  omega
theorem count_half {l : List Int} (h1 : 1 ≤ l.length) (r : Int) : countTo l r (2 ^ l.length) = 2 * ((cnt (fun j => decide (roomAt l j ≤ r)) (2 ^ (l.length - 1)) : Nat) : Int) := by
  rw [countTo_cnt]
  have hp := half_pow h1
  have := cnt_even (fun j => decide (roomAt l j ≤ r)) (2 ^ (l.length - 1)) (fun j hj => by
    rw [← hp] at hj ⊢
    show decide (roomAt l (2 ^ l.length - 1 - j) ≤ r) = decide (roomAt l j ≤ r)
    rw [roomAt_comp l hj])
  rw [← hp] at this
  omega
/-- The best mask: the first of the least room. -/
theorem best_first (l : List Int) : ∀ J, 1 ≤ J → ∃ j0, j0 < J ∧ bestP l J = (layS l.length j0, roomAt l j0) ∧ (∀ j, j < J → roomAt l j0 ≤ roomAt l j) ∧ ∀ j, j < j0 → roomAt l j0 < roomAt l j := by
  intro J
  induction J with
  | zero => intro h; omega
  | succ J ih =>
    intro _
    by_cases c : J = 0
    · subst c
      refine ⟨0, by omega, ?_, fun j hj => by rw [show j = 0 by omega]; exact Int.le_refl _, fun j hj => by omega⟩
      simp [bestP]
    · obtain ⟨j0, h1, h2, h3, h4⟩ := ih (by omega)
      have hn : 0 ≤ roomAt l j0 := room_nn _
      by_cases c2 : roomAt l J < roomAt l j0
      · refine ⟨J, by omega, ?_, fun j hj => ?_, fun j hj => ?_⟩
        · simp only [bestP]
          rw [h2, if_pos (.inr c2)]
        · by_cases c3 : j = J
          · rw [c3]; exact Int.le_refl _
          · have := h3 j (by omega); omega
        · have := h3 j (by omega); omega
      · refine ⟨j0, by omega, ?_, fun j hj => ?_, h4⟩
        · simp only [bestP]
          rw [h2, if_neg (by simp only; omega)]
        · by_cases c3 : j = J
          · rw [c3]; omega
          · exact h3 j (by omega)
/-- The first best mask is no greater than its mirror image. -/
theorem first_low {l : List Int} {j0 : Nat} (hj : j0 < 2 ^ l.length) (h4 : ∀ j, j < j0 → roomAt l j0 < roomAt l j) : j0 ≤ 2 ^ l.length - 1 - j0 := by
  rcases Nat.lt_or_ge (2 ^ l.length - 1 - j0) j0 with c | c
  · have := h4 _ c
    rw [roomAt_comp l hj] at this
    omega
  · exact c
/-! FnRulers: the order of layings, the greedy one, reach, three equal parts -/
theorem less_or {x y : List UInt8} {a b : UInt8} : Op.bytesLess (a :: x) (b :: y) = (decide (a < b) || (a == b && Op.bytesLess x y)) := rfl
theorem less_bits (f g : Nat → Bool) : ∀ (n : Nat) (F G : Nat → Bool), (∃ m, m ≤ n ∧ (∀ i, i < m → F i = G i) ∧ (m < n → F m = true ∧ G m = false)) → Op.bytesLess ((List.range n).map fun i => if F i then (114 : UInt8) else 108) ((List.range n).map fun i => if G i then (114 : UInt8) else 108) = false := by
  intro n
  induction n with
  | zero => intro F G _; rfl
  | succ n ih =>
    intro F G ⟨m, hm, h1, h2⟩
    rw [List.range_succ_eq_map, List.map_cons, List.map_cons, List.map_map, List.map_map, less_or]
    cases m with
    | zero =>
      obtain ⟨a, b⟩ := h2 (by omega)
      rw [a, b]
      rfl
    | succ m =>
      have e0 := h1 0 (by omega)
      rw [e0]
      have hr := ih (fun i => F (i + 1)) (fun i => G (i + 1)) ⟨m, by omega, fun i hi => h1 (i + 1) (by omega), fun hi => h2 (by omega)⟩
      have hd : ∀ a : UInt8, decide (a < a) = false := fun a => by simp
      rw [hd, Bool.false_or]
      show (_ && Op.bytesLess ((List.range n).map fun i => if F (i + 1) then (114 : UInt8) else 108) ((List.range n).map fun i => if G (i + 1) then (114 : UInt8) else 108)) = false
      rw [hr, Bool.and_false]
theorem lay_toList (n j : Nat) : (layS n j).toList = (List.range n).map fun i => if j.testBit (n - 1 - i) then (114 : UInt8) else 108 := by
  rw [Lib.toList_data]
  unfold layS
  rw [strOfNums_data]
  unfold layN
  rw [List.map_map]
  refine List.map_congr_left fun i _ => ?_
  show UInt8.ofNat (if j.testBit (n - 1 - i) = true then (114 : Int) else 108).toNat = _
  split <;> rfl
theorem top_bit : ∀ (n a b : Nat), a < 2 ^ n → b < 2 ^ n → b ≤ a → ∃ m, m ≤ n ∧ (∀ i, i < m → a.testBit (n - 1 - i) = b.testBit (n - 1 - i)) ∧ (m < n → a.testBit (n - 1 - m) = true ∧ b.testBit (n - 1 - m) = false) := by
  intro n
  induction n with
  | zero => intro a b _ _ _; exact ⟨0, by omega, fun i hi => by omega, fun h => by omega⟩
  | succ n ih =>
    intro a b ha hb h
    have hp : 2 ^ (n + 1) = 2 ^ n + 2 ^ n := by rw [Nat.pow_succ]; omega
    have hbit : ∀ x, x < 2 ^ (n + 1) → x.testBit n = decide (2 ^ n ≤ x) := fun x hx => by
      by_cases c : 2 ^ n ≤ x
      · rw [decide_eq_true c]
        rw [Nat.testBit, Nat.shiftRight_eq_div_pow, show x / 2 ^ n = 1 from by
          apply Nat.div_eq_of_lt_le <;> omega]
        rfl
      · rw [decide_eq_false c]; exact Nat.testBit_lt_two_pow (by omega)
    have hlow : ∀ x i, 2 ^ n ≤ x → x < 2 ^ (n + 1) → i < n → (x - 2 ^ n).testBit i = x.testBit i := fun x i h1 h2 hi => by
      have := Nat.testBit_two_pow_add_gt hi (x - 2 ^ n)
      rw [show 2 ^ n + (x - 2 ^ n) = x by omega] at this
      exact this.symm
    have shift : ∀ A B, A < 2 ^ n → B < 2 ^ n → B ≤ A → (∀ i, i < n → A.testBit i = a.testBit i) → (∀ i, i < n → B.testBit i = b.testBit i) → a.testBit n = b.testBit n →
        ∃ m, m ≤ n + 1 ∧ (∀ i, i < m → a.testBit (n + 1 - 1 - i) = b.testBit (n + 1 - 1 - i)) ∧ (m < n + 1 → a.testBit (n + 1 - 1 - m) = true ∧ b.testBit (n + 1 - 1 - m) = false) := fun A B hA hB hAB eA eB e => by
      obtain ⟨m, h1, h2, h3⟩ := ih A B hA hB hAB
      refine ⟨m + 1, by omega, fun i hi => ?_, fun hm => ?_⟩
      · cases i with
        | zero => exact e
        | succ i =>
          rw [show n + 1 - 1 - (i + 1) = n - 1 - i by omega, ← eA _ (by omega), ← eB _ (by omega)]
          exact h2 i (by omega)
      · rw [show n + 1 - 1 - (m + 1) = n - 1 - m by omega, ← eA _ (by omega), ← eB _ (by omega)]
        exact h3 (by omega)
    by_cases ca : 2 ^ n ≤ a
    · by_cases cb : 2 ^ n ≤ b
      · exact shift (a - 2 ^ n) (b - 2 ^ n) (by omega) (by omega) (by omega) (fun i hi => hlow a i ca ha hi) (fun i hi => hlow b i cb hb hi) (by rw [hbit a ha, hbit b hb, decide_eq_true ca, decide_eq_true cb])
      · exact ⟨0, by omega, fun i hi => by omega, fun _ => by
          rw [show n + 1 - 1 - 0 = n by omega, hbit a ha, hbit b hb, decide_eq_true ca, decide_eq_false cb]
          exact ⟨rfl, rfl⟩⟩
    · exact shift a b (by omega) (by omega) h (fun _ _ => rfl) (fun _ _ => rfl) (by rw [hbit a ha, hbit b hb, decide_eq_false ca, decide_eq_false (by omega)])
theorem lay_less {n a b : Nat} (ha : a < 2 ^ n) (hb : b < 2 ^ n) (h : b ≤ a) : Op.bytesLess (layS n a).toList (layS n b).toList = false := by
  rw [lay_toList, lay_toList]
  exact less_bits (fun _ => true) (fun _ => true) n (fun i => a.testBit (n - 1 - i)) (fun i => b.testBit (n - 1 - i)) (top_bit n a b ha hb h)
/-! three equal parts -/
theorem three_room {h : Int} (h1 : 1 ≤ h) : roomAt [h, h, h] 2 ≤ h := by
  have b0 : bt (layS 3 2) ((0 : Nat) : Int) = 108 := by rw [bt_lay _ _ _ (by omega)]; rfl
  have b1 : bt (layS 3 2) ((1 : Nat) : Int) = 114 := by rw [bt_lay _ _ _ (by omega)]; rfl
  have b2 : bt (layS 3 2) ((2 : Nat) : Int) = 108 := by rw [bt_lay _ _ _ (by omega)]; rfl
  have e : endsL [h, h, h] (layS 3 2) 3 = [0, 0 - h, 0 - h + h, 0 - h + h - h] := by
    simp only [endsL, show List.range (3 + 1) = [0, 1, 2, 3] from rfl, List.map_cons, List.map_nil, at_]
    rw [b0, b1, b2]
    rfl
  show roomOf (endsL [h, h, h] (layS 3 2) 3) ≤ h
  rw [e]
  simp only [roomOf, List.foldl_cons, List.foldl_nil]
  omega
theorem three_best {h : Int} (h1 : 1 ≤ h) (h2 : h ≤ 50) : (bestP [h, h, h] (2 ^ [h, h, h].length)).2 = h := by
  obtain ⟨j0, a1, a2, a3, _⟩ := best_first [h, h, h] (2 ^ [h, h, h].length) (Nat.two_pow_pos _)
  rw [a2]
  have := a3 2 (by show 2 < 2 ^ 3; decide)
  have := three_room h1
  have := room_part [h, h, h] (layS [h, h, h].length j0) (i := 0) (n := [h, h, h].length) (by simp)
  have e : rd [h, h, h] ((0 : Nat) : Int) = h := rfl
  rw [e] at this
  show roomAt [h, h, h] j0 = h
  unfold roomAt at *
  omega
/-! FnRulers: the greedy laying, reach -/
theorem bytesOf_app (s : ByteArray) (b : UInt8) : bytesOf (s ++ (⟨#[b]⟩ : ByteArray)) = bytesOf s ++ [(b.toNat : Int)] := by
  unfold bytesOf
  rw [show (s ++ (⟨#[b]⟩ : ByteArray)).data = s.data ++ #[b] by simp]
  simp
theorem bt_app_lt (s : ByteArray) (b : UInt8) {j : Nat} (h : j < s.size) : bt (s ++ (⟨#[b]⟩ : ByteArray)) (j : Int) = bt s (j : Int) := by
  rw [← rd_bytesOf, ← rd_bytesOf, bytesOf_app, rd_nat, rd_nat]
  have hl : j < (bytesOf s).length := by rw [bytesOf_length]; exact h
  simp [List.getD_eq_getElem?_getD, List.getElem?_append_left hl]
theorem bt_app_at (s : ByteArray) (b : UInt8) : bt (s ++ (⟨#[b]⟩ : ByteArray)) (s.size : Int) = (b.toNat : Int) := by
  rw [← rd_bytesOf, bytesOf_app, rd_nat, ← bytesOf_length]
  simp [List.getD_eq_getElem?_getD]
theorem at_app (l : List Int) (s : ByteArray) (b : UInt8) : ∀ j, j ≤ s.size → at_ l (s ++ (⟨#[b]⟩ : ByteArray)) j = at_ l s j := by
  intro j
  induction j with
  | zero => intro _; rfl
  | succ j ih =>
    intro hj
    simp only [at_]
    rw [bt_app_lt s b (by omega), ih (by omega)]
theorem ends_app (l : List Int) (s : ByteArray) (b : UInt8) : endsL l (s ++ (⟨#[b]⟩ : ByteArray)) (s.size + 1) = endsL l s s.size ++ [if (b.toNat : Int) = 114 then at_ l s s.size + rd l (s.size : Int) else at_ l s s.size - rd l (s.size : Int)] := by
  rw [ends_step]
  congr 1
  · unfold endsL
    refine List.map_congr_left fun i hi => at_app l s b i (by have := List.mem_range.1 hi; omega)
  · simp only [at_]
    rw [bt_app_at, at_app l s b _ (Nat.le_refl _)]
theorem layOk_app {s : ByteArray} {b : UInt8} (h : layOk s = true) (hb : b = 114 ∨ b = 108) : layOk (s ++ (⟨#[b]⟩ : ByteArray)) = true := by
  rw [layOk_eq] at h ⊢
  rw [bytesOf_app]
  unfold layB at *
  rw [List.all_append, h]
  rcases hb with rfl | rfl <;> rfl
theorem greedyS_ok {l : List Int} {s : ByteArray} {h : Int} (hs : s.size < l.length) (hl : Parts l) (hh : ∀ i : Nat, i < l.length → rd l (i : Int) ≤ h) (ho : layOk s = true) (hr : roomOf (endsL l s s.size) ≤ 2 * h - 1) :
    (greedyS l s).size = s.size + 1 ∧ layOk (greedyS l s) = true ∧ roomOf (endsL l (greedyS l s) (s.size + 1)) ≤ 2 * h - 1 := by
  have e1 := ends_app l s 114
  have e2 := ends_app l s 108
  rw [if_pos (by decide)] at e1
  rw [if_neg (by decide)] at e2
  have hm := (fold_in (endsL l s s.size) 0).2.2 _ (at_mem l s (Nat.le_refl s.size))
  have hx := hl.2 s.size hs
  have hx2 := hh s.size hs
  have r1 := room_snoc (endsL l s s.size) (at_ l s s.size + rd l (s.size : Int))
  have r2 := room_snoc (endsL l s s.size) (at_ l s s.size - rd l (s.size : Int))
  rw [← e1] at r1
  rw [← e2] at r2
  unfold roomOf at hr
  unfold greedyS
  by_cases c : roomOf (endsL l (s ++ (⟨#[114]⟩ : ByteArray)) (s.size + 1)) ≤ roomOf (endsL l (s ++ (⟨#[108]⟩ : ByteArray)) (s.size + 1))
  · rw [if_pos c]
    refine ⟨app_size s 114, layOk_app ho (.inl rfl), ?_⟩
    omega
  · rw [if_neg c]
    refine ⟨app_size s 108, layOk_app ho (.inr rfl), ?_⟩
    omega
theorem greedyN_ok {l : List Int} {h : Int} (hl : Parts l) (hh : ∀ i : Nat, i < l.length → rd l (i : Int) ≤ h) : ∀ (m : Nat) (s : ByteArray), s.size + m = l.length → layOk s = true → roomOf (endsL l s s.size) ≤ 2 * h - 1 →
    (greedyN l m s).size = l.length ∧ layOk (greedyN l m s) = true ∧ roomOf (endsL l (greedyN l m s) l.length) ≤ 2 * h - 1 := by
  intro m
  induction m with
  | zero =>
    intro s hs ho hr
    have e : s.size = l.length := by omega
    rw [e] at hr
    exact ⟨e, ho, hr⟩
  | succ m ih =>
    intro s hs ho hr
    obtain ⟨a, b, c⟩ := greedyS_ok (by omega) hl hh ho hr
    exact ih (greedyS l s) (by omega) b (by rw [a]; exact c)
theorem greedy_ok {l : List Int} {h : Int} (hl : Parts l) (h1 : 1 ≤ l.length) (hh : ∀ i : Nat, i < l.length → rd l (i : Int) ≤ h) :
    (greedyN l (l.length - 1) (⟨#[114]⟩ : ByteArray)).size = l.length ∧ layOk (greedyN l (l.length - 1) (⟨#[114]⟩ : ByteArray)) = true ∧ roomOf (endsL l (greedyN l (l.length - 1) (⟨#[114]⟩ : ByteArray)) l.length) ≤ 2 * h - 1 := by
  refine greedyN_ok hl hh _ _ (by show 1 + (l.length - 1) = l.length; omega) rfl ?_
  have hx := hl.2 0 (by omega)
  have hx2 := hh 0 (by omega)
  have e : endsL l (⟨#[114]⟩ : ByteArray) 1 = [0, 0 + rd l ((0 : Nat) : Int)] := by
    have := ends_app l ⟨#[]⟩ 114
    rw [if_pos (by decide)] at this
    exact this
  show roomOf (endsL l (⟨#[114]⟩ : ByteArray) 1) ≤ 2 * h - 1
  rw [e]
  simp only [roomOf, List.foldl_cons, List.foldl_nil]
  omega
theorem nums_bytes (s : ByteArray) : strOfNums (bytesOf s) = s := by
  obtain ⟨d⟩ := s
  unfold strOfNums bytesOf
  rw [List.map_map]
  congr 1
  have : d.toList.map ((fun n : Int => UInt8.ofNat n.toNat) ∘ fun b : UInt8 => (b.toNat : Int)) = d.toList := by
    conv => rhs; rw [← List.map_id d.toList]
    refine List.map_congr_left fun b _ => ?_
    simp
  rw [this]
theorem lay_mask {s : ByteArray} {n : Nat} (hs : s.size = n) (ho : layOk s = true) : ∃ j, j < 2 ^ n ∧ s = layS n j := by
  obtain ⟨j, hj, hb⟩ := bits_ex n (fun e => decide (rd (bytesOf s) ((n - 1 - e : Nat) : Int) = 114))
  refine ⟨j, hj, ?_⟩
  rw [← nums_bytes s]
  unfold layS
  congr 1
  have hl := bytesOf_length s
  refine List.ext_getElem (by rw [layN_len]; omega) fun i h1 h2 => ?_
  have hi : i < n := by omega
  have := hb (n - 1 - i) (by omega)
  rw [show n - 1 - (n - 1 - i) = i by omega, rd_get h1] at this
  simp only [layN, List.getElem_map, List.getElem_range]
  rw [this]
  rw [layOk_eq] at ho
  have hx := List.all_eq_true.1 ho _ (List.getElem_mem h1)
  rw [Bool.or_eq_true, beq_iff_eq, beq_iff_eq] at hx
  rcases hx with hx | hx <;> rw [hx] <;> rfl
theorem at_par (l : List Int) (s : ByteArray) : ∀ i, i ≤ l.length → (at_ l s i - (l.take i).sum) % 2 = 0 := by
  intro i
  induction i with
  | zero => intro _; simp [at_]
  | succ i ih =>
    intro hi
    have e := ih (by omega)
    rw [List.take_succ_eq_append_getElem (by omega : i < l.length), List.sum_append, ← rd_get (by omega : i < l.length)]
    simp only [List.sum_cons, List.sum_nil]
    rcases at_diff l s i with d | d <;> omega
theorem at_abs {l : List Int} (hl : Parts l) (s : ByteArray) : ∀ i, i ≤ l.length → - (l.take i).sum ≤ at_ l s i ∧ at_ l s i ≤ (l.take i).sum := by
  intro i
  induction i with
  | zero => intro _; simp [at_]
  | succ i ih =>
    intro hi
    have e := ih (by omega)
    have hx := hl.2 i (by omega)
    rw [List.take_succ_eq_append_getElem (by omega : i < l.length), List.sum_append, ← rd_get (by omega : i < l.length)]
    simp only [List.sum_cons, List.sum_nil]
    rcases at_diff l s i with d | d <;> omega
/-! the reader of draws -/
theorem and255 (x : Int) : 0 ≤ Go.bits .and .i64 x 255 ∧ Go.bits .and .i64 x 255 ≤ 255 := by
  unfold Go.bits
  have h : (BitVec.ofInt IntKind.i64.bits x &&& BitVec.ofInt IntKind.i64.bits 255).toNat ≤ 255 := by
    rw [BitVec.toNat_and]
    exact Nat.le_trans Nat.and_le_right (by decide)
  show 0 ≤ IntKind.i64.wrap ((BitVec.ofInt IntKind.i64.bits x &&& BitVec.ofInt IntKind.i64.bits 255).toNat : Int) ∧ IntKind.i64.wrap ((BitVec.ofInt IntKind.i64.bits x &&& BitVec.ofInt IntKind.i64.bits 255).toNat : Int) ≤ 255
  generalize (BitVec.ofInt IntKind.i64.bits x &&& BitVec.ofInt IntKind.i64.bits 255).toNat = n at *
  rw [IntKind.wrap_i64]
  omega
theorem byte_some (x : List Int) (i h : Int) (hx : x.length ≤ 1048576) (h0 : 0 ≤ i) (h1 : i ≤ (x.length : Int)) : ∃ b i' h', spec_l01Byte.f x i h = some (b, i', h') ∧ (0 ≤ b ∧ b ≤ 255) ∧ (0 ≤ i' ∧ i' ≤ (x.length : Int)) := by
  unfold spec_l01Byte.f
  by_cases c : i < (x.length : Int)
  · rw [if_pos c, if_pos h0]
    exact ⟨_, _, _, rfl, and255 _, by rw [w64 (by omega) (by omega)]; omega⟩
  · rw [if_neg c]
    exact ⟨_, _, _, rfl, and255 _, h0, h1⟩
theorem below_some (x : List Int) (i h n : Int) (hx : x.length ≤ 1048576) (h0 : 0 ≤ i) (h1 : i ≤ (x.length : Int)) (n0 : 1 ≤ n) (n1 : n ≤ 256) : ∃ v i' h', spec_l01Below.f x i h n = some (v, i', h') ∧ (0 ≤ v ∧ v < n) ∧ (0 ≤ i' ∧ i' ≤ (x.length : Int)) := by
  obtain ⟨b, i', h', e, hb, hi⟩ := byte_some x i h hx h0 h1
  refine ⟨Int.tmod b n, i', h', ?_, ?_, hi⟩
  · unfold spec_l01Below.f
    rw [if_neg (by omega), if_pos n1, e]
    simp only [Option.bind_some]
    rw [if_neg (by omega)]
  · rw [Int.tmod_eq_emod_of_nonneg hb.1]
    exact ⟨Int.emod_nonneg _ (by omega), Int.emod_lt_of_pos _ (by omega)⟩
theorem new_ev (x : List Int) (hx : x.length ≤ 1048576) : ∃ h, Ev (fun k => spec_l01New.f k x) (x, 0, h) := by
  have go : ∀ (m i : Nat) (a : Int), i + m = 4000 → ∃ h, Ev (fun k => spec_l01New.l0 k x a (i : Int)) (x, 0, h) := by
    intro m
    induction m with
    | zero =>
      intro i a hi
      refine ⟨a, Ev.step (f := fun _ => some (x, 0, a)) (fun k => ?_) (Ev.now _)⟩
      simp only [spec_l01New.l0]
      by_cases c : (i : Int) < (x.length : Int)
      · rw [if_pos c, if_neg (by omega)]
      · rw [if_neg c]
    | succ m ih =>
      intro i a hi
      by_cases c : (i : Int) < (x.length : Int)
      · obtain ⟨h, hh⟩ := ih (i + 1) (Go.bits .and .i64 (wrap64 ((wrap64 ((wrap64 (a * 179)) + (wrap64 (rd x (i : Int))))) + 7)) 1073741823) (by omega)
        refine ⟨h, Ev.step (f := fun k => spec_l01New.l0 k x (Go.bits .and .i64 (wrap64 ((wrap64 ((wrap64 (a * 179)) + (wrap64 (rd x (i : Int))))) + 7)) 1073741823) ((i + 1 : Nat) : Int)) (fun k => ?_) hh⟩
        simp only [spec_l01New.l0]
        rw [if_pos c, if_pos (by omega), if_pos (by omega), w64 (x := (i : Int) + 1) (by omega) (by omega)]
        rfl
      · refine ⟨a, Ev.step (f := fun _ => some (x, 0, a)) (fun k => ?_) (Ev.now _)⟩
        simp only [spec_l01New.l0]
        rw [if_neg c]
  obtain ⟨h, hh⟩ := go 4000 0 (wrap64 (2173 + (x.length : Int))) (by omega)
  exact ⟨h, hh⟩
theorem l31_ev (x : List Int) (hx : x.length ≤ 1048576) (n : Nat) (hn : n ≤ 1000) : ∃ i h, Ev (fun k => spec_l31New.f k x (n : Int)) (x, i, h) ∧ 0 ≤ i ∧ i ≤ (x.length : Int) := by
  obtain ⟨h0, e0⟩ := new_ev x hx
  have go : ∀ (m j : Nat) (i h : Int), j + m = n → 0 ≤ i → i ≤ (x.length : Int) → ∃ i' h', Ev (fun k => spec_l31New.l0 k x i h (n : Int) (j : Int)) (x, i', h') ∧ 0 ≤ i' ∧ i' ≤ (x.length : Int) := by
    intro m
    induction m with
    | zero =>
      intro j i h hj a b
      refine ⟨i, h, Ev.step (f := fun _ => some (x, i, h)) (fun k => ?_) (Ev.now _), a, b⟩
      simp only [spec_l31New.l0]
      rw [if_neg (by omega)]
    | succ m ih =>
      intro j i h hj a b
      obtain ⟨bb, i', h', e, _, hi⟩ := byte_some x i h hx a b
      obtain ⟨i2, h2, e2, g2⟩ := ih (j + 1) i' h' (by omega) hi.1 hi.2
      refine ⟨i2, h2, Ev.step (f := fun k => spec_l31New.l0 k x i' h' (n : Int) ((j + 1 : Nat) : Int)) (fun k => ?_) e2, g2⟩
      simp only [spec_l31New.l0]
      rw [if_pos (by omega), e]
      simp only [Option.bind_some]
      rw [w64 (by omega) (by omega)]
      rfl
  obtain ⟨i, h, e, g⟩ := go n 0 0 h0 (by omega) (by omega) (by omega)
  refine ⟨i, h, ?_, g⟩
  unfold spec_l31New.f
  exact Ev.bind e0 e

end Go.Proofs.YtjjdahnjindgaaaGreatDoor.PA
