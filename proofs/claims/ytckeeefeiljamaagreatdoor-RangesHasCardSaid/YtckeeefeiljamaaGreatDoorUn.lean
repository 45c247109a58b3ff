/- A right range is plain. -/
import Derived.Test.YtckeeefeiljamaaGreatDoorUm
import Derived.Test.YtckeeefeiljamaaGreatDoorUl
set_option linter.unusedSimpArgs false
set_option linter.unusedVariables false
namespace Go.Proofs.YtckeeefeiljamaaGreatDoor
open Go.RowKit Go.Proofs.YtckeeefeiljamaaGreatDoorW.PrintWords PRan

theorem right_plain {r : L2} (h : rangeR r = true) : plainOk r = true := by
  obtain ⟨h1, h2, h3⟩ := rangeR_parts h
  unfold plainOk
  rw [Bool.and_eq_true, List.all_eq_true]
  refine ⟨decide_eq_true (by omega), fun l hl => ?_⟩
  unfold smallL
  rw [Bool.and_eq_true, List.all_eq_true]
  exact ⟨decide_eq_true (by have := (h3 l hl).2.1; omega), fun x hx => decide_eq_true (by have := right_pre h l hl x hx; omega)⟩
theorem plain_right {r : L2} (h : plainOk r = true) : E (fun k => slipwaylaw02_plain.f k r) (cvR r, true) := by
  obtain ⟨res, h1, h2⟩ := plain_E r
  rw [h] at h2
  obtain rfl : res = (cvR r, true) := h2
  exact h1

end Go.Proofs.YtckeeefeiljamaaGreatDoor
