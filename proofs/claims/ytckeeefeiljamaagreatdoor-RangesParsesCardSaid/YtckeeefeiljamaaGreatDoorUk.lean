/- The same list is alike. -/
import Derived.Test.YtckeeefeiljamaaGreatDoorUz
import Derived.Test.YtckeeefeiljamaaGreatDoorPRanf5
set_option linter.unusedSimpArgs false
set_option linter.unusedVariables false
namespace Go.Proofs.YtckeeefeiljamaaGreatDoor
open Go.RowKit Go.Proofs.YtckeeefeiljamaaGreatDoorW.PrintWords PRan

/-! the same list is alike -/
theorem alike_l1 (r : M2) (i : Nat) (hi : i < r.length) (hl : (r.getD i []).length ≤ 1000) (hn : E (fun k => slipwaylaw02_alike.l0 k r (r.length : Int) (wrap64 ((i : Int) + 1)) r) true) :
    ∀ (d j : Nat), j + d = (r.getD i []).length → E (fun k => slipwaylaw02_alike.l1 k (i : Int) r (r.length : Int) (i : Int) (r.getD i []) ((r.getD i []).length : Int) (j : Int) r) true := by
  intro d
  induction d with
  | zero =>
    intro j hj
    refine E.step ?_
    simp only [slipwaylaw02_alike.l1]
    exact E.ite_neg (by omega) hn
  | succ d ih =>
    intro j hj
    have h := ih (j + 1) (by omega)
    rw [← wrap_succ j 1000 (by omega) (by omega)] at h
    refine E.step ?_
    simp only [slipwaylaw02_alike.l1, rd7_at, rd53_at]
    refine E.ite_pos (by omega) (E.ite_pos (by omega) (E.ite_pos (by omega) (E.ite_pos (by omega) (E.ite_pos (by omega) (E.ite_pos (by omega) (E.ite_neg (by simp) h))))))
theorem alike_l0 (r : M2) (hr : r.length ≤ 1000) (hl : ∀ l ∈ r, l.length ≤ 1000) : ∀ (d i : Nat), i + d = r.length → E (fun k => slipwaylaw02_alike.l0 k r (r.length : Int) (i : Int) r) true := by
  intro d
  induction d with
  | zero =>
    intro i hi
    refine E.step ?_
    simp only [slipwaylaw02_alike.l0]
    exact E.ite_neg (by omega) (E.some _)
  | succ d ih =>
    intro i hi
    have hn := ih (i + 1) (by omega)
    rw [← wrap_succ i 1000 (by omega) (by omega)] at hn
    refine E.step ?_
    simp only [slipwaylaw02_alike.l0, rd7_at]
    exact E.ite_pos (by omega) (E.ite_pos (by omega) (E.ite_pos (by omega) (E.ite_pos (by omega) (E.ite_pos (by trivial) (alike_l1 r i (by omega) (hl _ (getD_mem' (show i < r.length by omega))) hn _ 0 (Nat.zero_add _))))))
theorem alike_E (r : M2) (hr : r.length ≤ 1000) (hl : ∀ l ∈ r, l.length ≤ 1000) : E (fun k => slipwaylaw02_alike.f k r r) true := by
  unfold slipwaylaw02_alike.f
  exact E.ite_pos (by omega) (alike_l0 r hr hl _ 0 (Nat.zero_add _))
end Go.Proofs.YtckeeefeiljamaaGreatDoor
