/- MirrorLaying: both texts. -/
import Derived.Test.YtjjdahnjindgaaaDoorLibE
import Derived.Test.YtjjdahnjindgaaaDoorPAx17
import Derived.Test.YtjjdahnjindgaaaDoorPAx18
import Derived.Test.YtjjdahnjindgaaaDoorPAx5
namespace Go.Proofs.YtjjdahnjindgaaaDoor.PA
open Go.RowKit Go.Proofs.YtjjdahnjindgaaaDoorW.PrintWords Go.Proofs.YtjjdahnjindgaaaDoorW.PrintLast Go.Proofs.YtjjdahnjindgaaaDoorW.PrintMore
set_option linter.unusedVariables false
set_option linter.unusedSimpArgs false

/-! MirrorLaying: both texts -/
def mirrorOf (s : ByteArray) : ByteArray := if s.size ≤ 10 ∧ layOk s = true then mirror s else ⟨#[]⟩
theorem impl_Mirror_eq (s : ByteArray) : impl_MirrorLaying.f s = some (mirrorOf s) := by
  unfold impl_MirrorLaying.f mirrorOf
  by_cases c : s.size ≤ 10
  · rw [if_pos c, isLaying_eq c, Option.bind_some]
    by_cases c2 : layOk s = true
    · rw [if_pos c2, if_pos ⟨c, c2⟩]
    · rw [if_neg c2, if_neg (fun z => c2 z.2)]
  · rw [if_neg c, if_neg (fun z => c z.1)]
theorem spec_mirror_l (s : ByteArray) (hs : s.size ≤ 10) : ∀ (d i : Nat), i + d = s.size → Ev (fun k => spec_MirrorLaying.l0 k s (strOfNums (((bytesOf s).map mirZ).take i)) (i : Int)) (if layB ((bytesOf s).drop i) = true then mirror s else ⟨#[]⟩) := by
  have hl := bytesOf_length s
  intro d
  induction d with
  | zero =>
    intro i hi
    refine Ev.step (f := fun _ => some (strOfNums (((bytesOf s).map mirZ).take i))) (fun k => ?_) (ev_eq (Ev.now _) ?_)
    · simp only [spec_MirrorLaying.l0]
      rw [if_neg (by omega)]
    · rw [List.drop_of_length_le (by omega), if_pos (show layB [] = true from rfl), List.take_of_length_le (by rw [List.length_map]; omega)]
      rfl
  | succ d ih =>
    intro i hi
    have hlt : i < (bytesOf s).length := by omega
    have hsz : (strOfNums (((bytesOf s).map mirZ).take i)).size = i := by
      rw [strOfNums_size, List.length_take, List.length_map]
      omega
    have e := ih (i + 1) (by omega)
    have hm : ((bytesOf s).map mirZ).take (i + 1) = ((bytesOf s).map mirZ).take i ++ [mirZ (bytesOf s)[i]] := by
      rw [List.take_succ_eq_append_getElem (by rw [List.length_map]; exact hlt), List.getElem_map]
    rw [hm, str_snoc] at e
    rw [layB_drop hlt]
    by_cases c1 : (bytesOf s)[i] = 114
    · rw [c1] at e
      rw [c1, show ((114 : Int) == 114 || (114 : Int) == 108) = true from rfl, Bool.true_and]
      refine Ev.step (fun k => ?_) e
      simp only [spec_MirrorLaying.l0]
      rw [if_pos (by omega), if_pos (by omega), bt_get s hlt, if_pos c1, hsz, if_pos (by omega), w64 (by omega) (by omega)]
      rfl
    · by_cases c2 : (bytesOf s)[i] = 108
      · rw [c2] at e
        rw [c2, show ((108 : Int) == 114 || (108 : Int) == 108) = true from rfl, Bool.true_and]
        refine Ev.step (fun k => ?_) e
        simp only [spec_MirrorLaying.l0]
        rw [if_pos (by omega), if_pos (by omega), bt_get s hlt, if_neg c1, if_pos c2, hsz, if_pos (by omega), w64 (by omega) (by omega)]
        rfl
      · rw [show ((bytesOf s)[i] == 114 || (bytesOf s)[i] == 108) = false by simp [c1, c2], Bool.false_and]
        refine Ev.step (f := fun _ => some (⟨#[]⟩ : ByteArray)) (fun k => ?_) (ev_eq (Ev.now _) (by rw [if_neg (by simp)]))
        simp only [spec_MirrorLaying.l0]
        rw [if_pos (by omega), if_pos (by omega), bt_get s hlt, if_neg c1, if_neg c2]
theorem spec_Mirror_ev (s : ByteArray) : Ev (fun k => spec_MirrorLaying.f k s) (mirrorOf s) := by
  unfold spec_MirrorLaying.f mirrorOf
  by_cases c : s.size ≤ 10
  · have e := spec_mirror_l s c s.size 0 (by omega)
    rw [List.drop_zero, List.take_zero, ← layOk_eq] at e
    refine Ev.congr (fun k => if_neg (by omega)) (ev_eq e ?_)
    by_cases c2 : layOk s = true
    · rw [if_pos c2, if_pos ⟨c, c2⟩]
    · rw [if_neg c2, if_neg (fun z => c2 z.2)]
  · rw [if_neg (fun z => c z.1)]
    exact Ev.congr (fun k => if_pos (by omega)) (Ev.now _)

end Go.Proofs.YtjjdahnjindgaaaDoor.PA
