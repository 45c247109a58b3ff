/- The law RangesParses, as a plain statement. -/
import Derived.Test.YtckeeefeiljamaaGreatDoorUn
import Derived.Test.YtckeeefeiljamaaGreatDoorUc
import Derived.Test.YtckeeefeiljamaaGreatDoorUk
import Derived.Test.YtckeeefeiljamaaGreatDoorPRanf6
set_option linter.unusedSimpArgs false
set_option linter.unusedVariables false
namespace Go.Proofs.YtckeeefeiljamaaGreatDoor
open Go.RowKit Go.Proofs.YtckeeefeiljamaaGreatDoorW.PrintWords PRan

theorem RangesParses_E (s : ByteArray) : E (fun k => slipwaylaw02_RangesParses.f k s) true := by
  unfold slipwaylaw02_RangesParses.f
  refine E.bindc anchor_some (E.ite_pos rfl (E.ite (fun h => E.some _) (fun h => ?_)))
  have hs : tiny s := show s.size ≤ 1000 by omega
  refine E.bindc (parseR_some s hs) (E.bind (refParse_E' s hs) ?_)
  unfold Mres parseR
  rw [rR_cvR]
  cases ho : partsOk s with
  | false =>
    rw [if_neg (by decide), if_neg (by simp)]
    exact E.ite_neg (by simp) (E.ite_pos rfl (E.some _))
  | true =>
    rw [if_pos rfl, Bool.true_and]
    cases hr : rangeR (rangeL s) with
    | false =>
      rw [if_neg (by decide)]
      exact E.ite_neg (by simp) (E.ite_pos rfl (E.some _))
    | true =>
      rw [if_pos rfl]
      obtain ⟨h1, h2, h3⟩ := rangeR_parts hr
      refine E.ite_pos rfl (E.bind (plain_right (right_plain hr)) (E.ite_pos rfl (E.ite_pos rfl (E.bind (alike_E (cvR (rangeL s)) (by rw [cvR_len]; omega) ?_) (E.some _)))))
      intro l hl
      obtain ⟨l', hl', rfl⟩ := List.mem_map.1 hl
      have := (h3 l' hl').2.1
      rw [List.length_map]; omega
theorem RangesParses_walk (s : ByteArray) (W : World) (hG : Gw W) :
    Calls Tryz.prog 3 #[.string s] W fun e w' => e = .returned (.bool true) ∧ Below W.heap.size W w' := by
  obtain ⟨k, hk⟩ := (RangesParses_E s).ex
  exact slipwaylaw02_RangesParses.calls k s true W hG hk
end Go.Proofs.YtckeeefeiljamaaGreatDoor
