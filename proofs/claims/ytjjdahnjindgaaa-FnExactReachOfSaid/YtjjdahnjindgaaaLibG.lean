/- greedy -/
import Derived.Test.YtjjdahnjindgaaaLibI
import Derived.Test.YtjjdahnjindgaaaPAx4
import Derived.Test.YtjjdahnjindgaaaPAx5
import Derived.Test.YtjjdahnjindgaaaPAx6
import Derived.Test.YtjjdahnjindgaaaPAx7
import Derived.Test.YtjjdahnjindgaaaPAx8
import Derived.Test.YtjjdahnjindgaaaPAx9
namespace Go.Proofs.Ytjjdahnjindgaaa.PA
open Go.RowKit Go.Proofs.YtjjdahnjindgaaaW.PrintWords Go.Proofs.YtjjdahnjindgaaaW.PrintLast Go.Proofs.YtjjdahnjindgaaaW.PrintMore
set_option linter.unusedVariables false
set_option linter.unusedSimpArgs false

/-! ends, room, GreedyLaying -/
def at_ (l : List Int) (s : ByteArray) : Nat → Int
  | 0 => 0
  | j + 1 => if bt s (j : Int) = 114 then at_ l s j + rd l (j : Int) else at_ l s j - rd l (j : Int)
def endsL (l : List Int) (s : ByteArray) (n : Nat) : List Int := (List.range (n + 1)).map (at_ l s)
def Parts (l : List Int) : Prop := l.length ≤ 10 ∧ ∀ j : Nat, j < l.length → 1 ≤ rd l (j : Int) ∧ rd l (j : Int) ≤ 50
theorem parts_of {l : List Int} (h : rulerOk l = true) : Parts l ∧ 1 ≤ l.length := by
  obtain ⟨h1, h2, h3⟩ := rulerOk_iff.1 h
  exact ⟨⟨h2, fun j hj => by rw [rd_get hj]; exact h3 _ (List.getElem_mem hj)⟩, h1⟩
theorem at_bd {l : List Int} (s : ByteArray) (hl : Parts l) : ∀ j, j ≤ l.length → -50 * (j : Int) ≤ at_ l s j ∧ at_ l s j ≤ 50 * (j : Int) := by
  intro j
  induction j with
  | zero => intro _; simp [at_]
  | succ j ih =>
    intro h
    have h1 := ih (by omega)
    have h2 := hl.2 j (by omega)
    simp only [at_]
    split <;> omega
theorem ends_len (l : List Int) (s : ByteArray) (n : Nat) : (endsL l s n).length = n + 1 := by simp [endsL]
theorem ends_step (l : List Int) (s : ByteArray) (n : Nat) : endsL l s (n + 1) = endsL l s n ++ [at_ l s (n + 1)] := by
  unfold endsL
  rw [List.range_succ, List.map_append]
  rfl
theorem ends_mem {l : List Int} {s : ByteArray} (hl : Parts l) {n : Nat} (hn : n ≤ l.length) : ∀ x ∈ endsL l s n, -500 ≤ x ∧ x ≤ 500 := by
  intro x hx
  unfold endsL at hx
  obtain ⟨j, hj, rfl⟩ := List.mem_map.1 hx
  have h := at_bd s hl j (by have := List.mem_range.1 hj; omega)
  have := List.mem_range.1 hj
  have := hl.1
  omega
theorem rd_ends (l : List Int) (s : ByteArray) {j n : Nat} (h : j ≤ n) : rd (endsL l s n) (j : Int) = at_ l s j := by
  rw [rd_get (by rw [ends_len]; omega)]
  simp [endsL]
theorem rd_take (l : List Int) {j n : Nat} (h : j < n) : rd (l.take n) (j : Int) = rd l (j : Int) := by
  rw [rd_nat, rd_nat, List.getD_eq_getElem?_getD, List.getD_eq_getElem?_getD, List.getElem?_take, if_pos h]
theorem spec_ends_l {l : List Int} (s : ByteArray) (n : Nat) (hn : n ≤ l.length) (hs : s.size = n) (hl : Parts l) : ∀ (m i : Nat), i + m = n →
    Ev (fun k => spec_l22Ends.l0 k s (at_ l s i) (endsL l s i) (l.take n) ((l.take n).length : Int) (i : Int)) (endsL l s n) := by
  intro m
  have hlen : (l.take n).length = n := by rw [List.length_take]; omega
  have h10 := hl.1
  induction m with
  | zero =>
    intro i hi
    obtain rfl : i = n := by omega
    refine Ev.step (f := fun _ => some (endsL l s i)) (fun k => ?_) (Ev.now _)
    simp only [spec_l22Ends.l0]
    rw [if_neg (by omega)]
  | succ m ih =>
    intro i hi
    have hb := at_bd s hl i (by omega)
    have hr := hl.2 i (by omega)
    have hel := ends_len l s i
    refine Ev.step (f := fun k => spec_l22Ends.l0 k s (at_ l s (i + 1)) (endsL l s (i + 1)) (l.take n) ((l.take n).length : Int) ((i + 1 : Nat) : Int)) (fun k => ?_) (ih (i + 1) (by omega))
    simp only [spec_l22Ends.l0]
    rw [if_pos (by omega), if_pos (by omega), if_pos (by omega), if_pos (by omega), rd_take l (by omega), w64 (x := (i : Int) + 1) (by omega) (by omega), ends_step]
    by_cases c : bt s (i : Int) = 114
    · rw [if_pos c, if_pos (by omega), w64 (by omega) (by omega), show at_ l s (i + 1) = at_ l s i + rd l (i : Int) by simp only [at_]; rw [if_pos c]]
      simp
    · rw [if_neg c, if_pos (by omega), w64 (by omega) (by omega), show at_ l s (i + 1) = at_ l s i - rd l (i : Int) by simp only [at_]; rw [if_neg c]]
      simp
theorem spec_ends_ev {l : List Int} (s : ByteArray) (n : Nat) (hn : n ≤ l.length) (hs : s.size = n) (hl : Parts l) : Ev (fun k => spec_l22Ends.f k (l.take n) s) (endsL l s n) :=
  spec_ends_l s n hn hs hl n 0 (by omega)
theorem impl_ends_l {l : List Int} (s : ByteArray) (n : Nat) (hn : n ≤ l.length) (hs : s.size = n) (hl : Parts l) : ∀ (m i : Nat), i + m = n →
    Ev (fun k => impl_ends.l0 k l s (endsL l s i) (s.size : Int) (i : Int)) (endsL l s n) := by
  intro m
  have h10 := hl.1
  induction m with
  | zero =>
    intro i hi
    obtain rfl : i = n := by omega
    refine Ev.step (f := fun _ => some (endsL l s i)) (fun k => ?_) (Ev.now _)
    simp only [impl_ends.l0]
    rw [if_neg (by omega)]
  | succ m ih =>
    intro i hi
    have hb := at_bd s hl i (by omega)
    have hr := hl.2 i (by omega)
    have hel := ends_len l s i
    refine Ev.step (f := fun k => impl_ends.l0 k l s (endsL l s (i + 1)) (s.size : Int) ((i + 1 : Nat) : Int)) (fun k => ?_) (ih (i + 1) (by omega))
    simp only [impl_ends.l0]
    rw [if_pos (by omega), if_pos (by omega), if_pos (by omega), rd_ends l s (Nat.le_refl i), w64 (x := (i : Int) + 1) (by omega) (by omega), ends_step]
    by_cases c : bt s (i : Int) = 114
    · rw [if_pos c, if_pos (by omega), if_pos (by omega), if_pos (by omega), w64 (by omega) (by omega), show at_ l s (i + 1) = at_ l s i + rd l (i : Int) by simp only [at_]; rw [if_pos c]]
      simp
    · rw [if_neg c, if_pos (by omega), if_pos (by omega), if_pos (by omega), w64 (by omega) (by omega), show at_ l s (i + 1) = at_ l s i - rd l (i : Int) by simp only [at_]; rw [if_neg c]]
      simp
theorem impl_ends_ev {l : List Int} (s : ByteArray) (n : Nat) (hn : n ≤ l.length) (hs : s.size = n) (hl : Parts l) : Ev (fun k => impl_ends.f k l s) (endsL l s n) :=
  impl_ends_l s n hn hs hl n 0 (by omega)
def roomOf (L : List Int) : Int := L.foldl max 0 - L.foldl min 0
theorem mx_max (a b : Int) : mx a b = max a b := by unfold mx; split <;> omega
theorem mn_min (a b : Int) : mn a b = min a b := by unfold mn; split <;> omega
theorem foldmax_bd : ∀ (L : List Int) (a : Int), (∀ x ∈ L, -500 ≤ x ∧ x ≤ 500) → -500 ≤ a → a ≤ 500 → -500 ≤ L.foldl max a ∧ L.foldl max a ≤ 500 := by
  intro L
  induction L with
  | nil => intro a _ h1 h2; exact ⟨h1, h2⟩
  | cons x L ih =>
    intro a h h1 h2
    have hx := h x List.mem_cons_self
    exact ih (max a x) (fun y hy => h y (List.mem_cons_of_mem _ hy)) (by omega) (by omega)
theorem foldmin_bd : ∀ (L : List Int) (a : Int), (∀ x ∈ L, -500 ≤ x ∧ x ≤ 500) → -500 ≤ a → a ≤ 500 → -500 ≤ L.foldl min a ∧ L.foldl min a ≤ 500 := by
  intro L
  induction L with
  | nil => intro a _ h1 h2; exact ⟨h1, h2⟩
  | cons x L ih =>
    intro a h h1 h2
    have hx := h x List.mem_cons_self
    exact ih (min a x) (fun y hy => h y (List.mem_cons_of_mem _ hy)) (by omega) (by omega)
theorem spec_room_l (L : List Int) (hL : L.length ≤ 1048576) (hb : ∀ x ∈ L, -500 ≤ x ∧ x ≤ 500) : ∀ (m i : Nat) (lo hi : Int), i + m = L.length → -500 ≤ lo → lo ≤ 500 → -500 ≤ hi → hi ≤ 500 →
    Ev (fun k => spec_l22Room.l0 k lo hi L (L.length : Int) (i : Int)) ((L.drop i).foldl max hi - (L.drop i).foldl min lo) := by
  intro m
  induction m with
  | zero =>
    intro i lo hi he a1 a2 a3 a4
    refine Ev.step (f := fun _ => some (hi - lo)) (fun k => ?_) (ev_eq (Ev.now _) (by rw [List.drop_of_length_le (by omega)]; rfl))
    simp only [spec_l22Room.l0]
    rw [if_neg (by omega), w64 (by omega) (by omega)]
  | succ m ih =>
    intro i lo hi he a1 a2 a3 a4
    have hlt : i < L.length := by omega
    have hx := hb L[i] (List.getElem_mem hlt)
    rw [List.drop_eq_getElem_cons hlt, List.foldl_cons, List.foldl_cons]
    refine Ev.step (f := fun k => spec_l22Room.l0 k (min lo L[i]) (max hi L[i]) L (L.length : Int) ((i + 1 : Nat) : Int)) (fun k => ?_) (ih (i + 1) (min lo L[i]) (max hi L[i]) (by omega) (by omega) (by omega) (by omega) (by omega))
    simp only [spec_l22Room.l0]
    rw [if_pos (by omega), if_pos (by omega), if_pos (by omega), rd_get hlt, w64 (by omega) (by omega), mx_max, mn_min]
    simp
theorem spec_room_ev (L : List Int) (hL : L.length ≤ 1048576) (hb : ∀ x ∈ L, -500 ≤ x ∧ x ≤ 500) : Ev (fun k => spec_l22Room.f k L) (roomOf L) :=
  spec_room_l L hL hb L.length 0 0 0 (by omega) (by omega) (by omega) (by omega) (by omega)
theorem impl_room_eq (l : List Int) (s : ByteArray) (n : Nat) (hl : Parts l) (hn : n ≤ l.length) : impl_room.f (endsL l s n) = some (roomOf (endsL l s n)) := by
  have hb := ends_mem (s := s) hl hn
  have h1 := foldmax_bd (endsL l s n) 0 hb (by omega) (by omega)
  have h2 := foldmin_bd (endsL l s n) 0 hb (by omega) (by omega)
  have h0 : (endsL l s n).headD 0 = 0 := by
    unfold endsL
    rw [List.range_succ_eq_map]
    rfl
  unfold impl_room.f slices_Max_int_int.f slices_Min_int_int.f
  rw [if_pos (by rw [ends_len]; omega), if_pos (by rw [ends_len]; omega)]
  simp only [Option.bind_some, Lib.maxOf, Lib.minOf, h0]
  rw [w64 (by omega) (by omega)]
  rfl

/-! GreedyLaying -/
theorem app_size (s : ByteArray) (b : UInt8) : (s ++ (⟨#[b]⟩ : ByteArray)).size = s.size + 1 := by
  rw [ByteArray.size_append]
  rfl
def greedyS (l : List Int) (s : ByteArray) : ByteArray :=
  if roomOf (endsL l (s ++ (⟨#[114]⟩ : ByteArray)) (s.size + 1)) ≤ roomOf (endsL l (s ++ (⟨#[108]⟩ : ByteArray)) (s.size + 1)) then s ++ (⟨#[114]⟩ : ByteArray) else s ++ (⟨#[108]⟩ : ByteArray)
def greedyN (l : List Int) : Nat → ByteArray → ByteArray
  | 0, s => s
  | m + 1, s => greedyN l m (greedyS l s)
theorem spec_greedy_l {l : List Int} (hl : Parts l) : ∀ (m : Nat) (s : ByteArray), s.size + m = l.length → Ev (fun k => spec_GreedyLaying.l0 k l s (s.size : Int)) (greedyN l m s) := by
  intro m
  have h10 := hl.1
  induction m with
  | zero =>
    intro s hs
    refine Ev.step (f := fun _ => some s) (fun k => ?_) (Ev.now _)
    simp only [spec_GreedyLaying.l0]
    rw [if_neg (by omega)]
  | succ m ih =>
    intro s hs
    have e1 : wrap64 ((s.size : Int) + 1) = ((s.size + 1 : Nat) : Int) := by rw [w64 (by omega) (by omega)]; omega
    have er := app_size s 114
    have el := app_size s 108
    refine Ev.step (fun k => rfl) ?_
    simp only [spec_GreedyLaying.l0]
    rw [e1, Int.toNat_natCast]
    refine Ev.congr (fun k => (if_pos (by omega)).trans ((if_pos (by omega)).trans ((if_pos (by omega)).trans (if_pos (by omega))))) ?_
    refine Ev.bind (spec_ends_ev _ (s.size + 1) (by omega) er hl) ?_
    refine Ev.bind (spec_room_ev _ (by rw [ends_len]; omega) (ends_mem hl (by omega))) ?_
    refine Ev.bind (spec_ends_ev _ (s.size + 1) (by omega) el hl) ?_
    refine Ev.bind (spec_room_ev _ (by rw [ends_len]; omega) (ends_mem hl (by omega))) ?_
    by_cases c : roomOf (endsL l (s ++ (⟨#[114]⟩ : ByteArray)) (s.size + 1)) ≤ roomOf (endsL l (s ++ (⟨#[108]⟩ : ByteArray)) (s.size + 1))
    · have h := ih (s ++ (⟨#[114]⟩ : ByteArray)) (by omega)
      rw [er] at h
      exact ev_eq (Ev.congr (fun k => if_pos c) h) (by rw [greedyN, greedyS, if_pos c])
    · have h := ih (s ++ (⟨#[108]⟩ : ByteArray)) (by omega)
      rw [el] at h
      exact ev_eq (Ev.congr (fun k => if_neg c) h) (by rw [greedyN, greedyS, if_neg c])
theorem impl_greedy_l {l : List Int} (hl : Parts l) : ∀ (m : Nat) (s : ByteArray), s.size + m = l.length → Ev (fun k => impl_GreedyLaying.l0 k l s) (greedyN l m s) := by
  intro m
  have h10 := hl.1
  induction m with
  | zero =>
    intro s hs
    refine Ev.step (f := fun _ => some s) (fun k => ?_) (Ev.now _)
    simp only [impl_GreedyLaying.l0]
    rw [if_neg (by omega)]
  | succ m ih =>
    intro s hs
    have er := app_size s 114
    have el := app_size s 108
    refine Ev.step (fun k => rfl) ?_
    simp only [impl_GreedyLaying.l0]
    refine Ev.congr (fun k => (if_pos (by omega)).trans (if_pos (by omega))) ?_
    refine Ev.bind (impl_ends_ev _ (s.size + 1) (by omega) er hl) ?_
    refine Ev.bind (ev_const (impl_room_eq l _ (s.size + 1) hl (by omega))) ?_
    refine Ev.bind (impl_ends_ev _ (s.size + 1) (by omega) el hl) ?_
    refine Ev.bind (ev_const (impl_room_eq l _ (s.size + 1) hl (by omega))) ?_
    by_cases c : roomOf (endsL l (s ++ (⟨#[114]⟩ : ByteArray)) (s.size + 1)) ≤ roomOf (endsL l (s ++ (⟨#[108]⟩ : ByteArray)) (s.size + 1))
    · exact ev_eq (Ev.congr (fun k => if_pos c) (ih (s ++ (⟨#[114]⟩ : ByteArray)) (by omega))) (by rw [greedyN, greedyS, if_pos c])
    · exact ev_eq (Ev.congr (fun k => if_neg c) (ih (s ++ (⟨#[108]⟩ : ByteArray)) (by omega))) (by rw [greedyN, greedyS, if_neg c])
def greedy (l : List Int) : ByteArray := if rulerOk l = true then greedyN l (l.length - 1) (⟨#[114]⟩ : ByteArray) else (⟨#[]⟩ : ByteArray)
theorem spec_greedy_ev (l : List Int) : Ev (fun k => spec_GreedyLaying.f k l) (greedy l) := by
  unfold spec_GreedyLaying.f greedy
  refine Ev.bind (spec_Ruler_ev l) ?_
  by_cases c : rulerOk l = true
  · obtain ⟨h, h1⟩ := parts_of c
    exact ev_eq (Ev.congr (fun k => if_pos c) (spec_greedy_l h (l.length - 1) (⟨#[114]⟩ : ByteArray) (by show 1 + (l.length - 1) = l.length; omega))) (if_pos c).symm
  · exact ev_eq (Ev.congr (fun k => if_neg c) (Ev.now _)) (if_neg c).symm
theorem impl_greedy_ev (l : List Int) : Ev (fun k => impl_GreedyLaying.f k l) (greedy l) := by
  unfold impl_GreedyLaying.f greedy
  refine Ev.bind (ev_const (impl_Ruler_eq l)) ?_
  by_cases c : rulerOk l = true
  · obtain ⟨h, h1⟩ := parts_of c
    exact ev_eq (Ev.congr (fun k => if_pos c) (impl_greedy_l h (l.length - 1) (⟨#[114]⟩ : ByteArray) (by show 1 + (l.length - 1) = l.length; omega))) (if_pos c).symm
  · exact ev_eq (Ev.congr (fun k => if_neg c) (Ev.now _)) (if_neg c).symm

end Go.Proofs.Ytjjdahnjindgaaa.PA
