/- SemverCompares: of any two versions the document's one is the greater. -/
import Derived.Test.YtkilaemngejplaaDoorQf
import Derived.Test.YtkilaemngejplaaDoorQParses
import Derived.Test.YtkilaemngejplaaDoorPSemx7
set_option linter.unusedSimpArgs false
set_option linter.unusedVariables false
namespace Go.Proofs.YtkilaemngejplaaDoor
open Go.RowKit Go.Proofs.YtkilaemngejplaaDoorW.PrintWords PSem

theorem Compares_E (v w : Ver) : E (fun k => slipwaylaw01_SemverCompares.f k v.a v.b v.c v.p w.a w.b w.c w.p) true := by
  have out : E (fun k => slipwaylaw01_SemverCompares.j0 k true v.a v.b v.c v.p w.a w.b w.c w.p v.a v.b v.c v.p w.a w.b w.c w.p) true := by
    refine E.step ?_
    simp only [slipwaylaw01_SemverCompares.j0]
    exact E.ite_pos (by trivial) (E.some _)
  unfold slipwaylaw01_SemverCompares.f
  refine E.bind anchor_E (E.ite_pos rfl (E.bindc (short_some v.p) (E.ite (fun h => ?_) (fun h => out))))
  refine E.bindc (short_some w.p) (E.ite (fun h2 => ?_) (fun h2 => out))
  have hv : v.p.size ≤ 300 := by simp at h; omega
  have hw : w.p.size ≤ 300 := by simp at h2; omega
  refine E.bind (refRight_E v.a v.b v.c v.p (by omega)) (E.ite (fun h3 => ?_) (fun h3 => out))
  refine E.bind (refRight_E w.a w.b w.c w.p (by omega)) ?_
  cases h4 : rightB w.a w.b w.c w.p with
  | false => exact out
  | true =>
    refine E.step ?_
    simp only [slipwaylaw01_SemverCompares.j0]
    refine E.ite_neg (by simp) (E.bind (Compare_E v.a v.b v.c v.p w.a w.b w.c w.p (by omega) (by omega)) (E.bind (refCompare_E v w (by omega) (by omega)) (E.of ?_)))
    simp [cmpVer]
theorem Compares_walk (v w : Ver) (W : World) (hG : Gw W) : Calls Tryd.prog 4 #[.agg #[.int .i64 v.a, .int .i64 v.b, .int .i64 v.c, .string v.p], .agg #[.int .i64 w.a, .int .i64 w.b, .int .i64 w.c, .string w.p]] W fun e w' => e = .returned (.bool true) ∧ Below W.heap.size W w' := by
  obtain ⟨k, hk⟩ := (Compares_E v w).ex
  exact slipwaylaw01_SemverCompares.calls k _ _ _ _ _ _ _ _ true W hG hk
end Go.Proofs.YtkilaemngejplaaDoor
