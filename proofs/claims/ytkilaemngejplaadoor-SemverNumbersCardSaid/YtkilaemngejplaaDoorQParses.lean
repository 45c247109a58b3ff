/- SemverParses: any text is the version that the document says, or none. -/
import Derived.Test.YtkilaemngejplaaDoorQd
set_option linter.unusedSimpArgs false
set_option linter.unusedVariables false
namespace Go.Proofs.YtkilaemngejplaaDoor
open Go.RowKit Go.Proofs.YtkilaemngejplaaDoorW.PrintWords PSem

theorem short_some (s : ByteArray) : slipwaylaw01_short.f s = some (decide ((s.size : Int) ≤ 300)) := rfl
theorem parseV_bad (s : ByteArray) (h : (parseV s).2.2.2.2 ≠ 0) : parseV s = (0, 0, 0, ⟨#[]⟩, 10) := by
  rw [parseV_eq] at h ⊢
  unfold pvV at h ⊢
  split at h
  · rename_i hc; rw [if_pos hc]
  · exact absurd rfl h
theorem Parses_E (s : ByteArray) : E (fun k => slipwaylaw01_SemverParses.f k s) true := by
  unfold slipwaylaw01_SemverParses.f
  refine E.bind anchor_E (E.ite_pos rfl (E.bindc (short_some s) (E.ite (fun h => ?_) (fun h => E.some _))))
  have hs : s.size ≤ 300 := by simp at h; omega
  refine E.bindc (parse_some s (by omega)) (E.bind (refParse_E s (by omega)) ?_)
  unfold refP
  by_cases h0 : (parseV s).2.2.2.2 = 0
  · simp only [if_pos h0]
    refine E.ite_pos trivial (E.of ?_)
    simp
  · simp only [if_neg h0]
    rw [parseV_bad s h0]
    refine E.ite_neg (by simp) (E.ite_pos rfl (E.of ?_))
    rw [ba_toList]; rfl
theorem Parses_walk (s : ByteArray) (w : World) (hG : Gw w) : Calls Tryd.prog 3 #[.string s] w fun e w' => e = .returned (.bool true) ∧ Below w.heap.size w w' := by
  obtain ⟨k, hk⟩ := (Parses_E s).ex
  exact slipwaylaw01_SemverParses.calls k s true w hG hk
end Go.Proofs.YtkilaemngejplaaDoor
