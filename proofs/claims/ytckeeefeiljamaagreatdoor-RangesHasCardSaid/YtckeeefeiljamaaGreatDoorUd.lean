/- The law RangesHas, as a plain statement. -/
import Derived.Test.YtckeeefeiljamaaGreatDoorUn
import Derived.Test.YtckeeefeiljamaaGreatDoorUb
import Derived.Test.YtckeeefeiljamaaGreatDoorPRanf8
set_option linter.unusedSimpArgs false
set_option linter.unusedVariables false
namespace Go.Proofs.YtckeeefeiljamaaGreatDoor
open Go.RowKit Go.Proofs.YtckeeefeiljamaaGreatDoorW.PrintWords PRan

theorem RangesHas_E (r : L2) (x y z : Int) (q : ByteArray) : E (fun k => slipwaylaw02_RangesHas.f k r x y z q) true := by
  have out : ∀ m, E (fun k => slipwaylaw02_RangesHas.j0 k true r x y z q m) true := fun m => by
    refine E.step ?_
    simp only [slipwaylaw02_RangesHas.j0]
    exact E.ite_pos (by trivial) (E.some _)
  unfold slipwaylaw02_RangesHas.f
  refine E.bindc anchor_some (E.ite_pos rfl ?_)
  obtain ⟨res, h1, h2⟩ := plain_E r
  refine E.bind h1 ?_
  cases hp : plainOk r with
  | false =>
    rw [hp] at h2
    have h2 : res.2 = false := h2
    rw [h2]
    exact E.ite_neg (by simp) (out _)
  | true =>
    rw [hp] at h2
    obtain rfl : res = (cvR r, true) := h2
    refine E.ite_pos rfl ?_
    by_cases h100 : (q.size : Int) > 100
    · rw [decide_eq_true h100]; exact out _
    · rw [decide_eq_false h100]
      have hq : tiny q := show q.size ≤ 1000 by omega
      refine E.step ?_
      simp only [slipwaylaw02_RangesHas.j0]
      refine E.ite_neg (by simp) (E.bindc (hasR_some r x y z q (plainOk_tiny hp) hq) (E.bind (refHas_E r (plainOk_tiny hp) x y z q hq) ?_))
      exact E.eq (E.some _) (by simp)
theorem RangesHas_walk (r : L2) (x y z : Int) (q : ByteArray) (W : World) (hG : Gw W) (A : Option Addr) (c : Nat) (hc : r.length ≤ c) (hC : Kd.C (Kd.slice 48 k48) W A r.length r) :
    Calls Tryz.prog 4 #[.agg #[.slice A r.length c], .agg #[.int .i64 x, .int .i64 y, .int .i64 z, .string q]] W fun e w' => e = .returned (.bool true) ∧ Below W.heap.size W w' := by
  obtain ⟨k, hk⟩ := (RangesHas_E r x y z q).ex
  exact slipwaylaw02_RangesHas.calls k A c r x y z q true W hC hc hG hk
end Go.Proofs.YtckeeefeiljamaaGreatDoor
