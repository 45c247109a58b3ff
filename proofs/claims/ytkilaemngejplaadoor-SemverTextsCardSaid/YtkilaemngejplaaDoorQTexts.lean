/- SemverTexts: two versions have the same text just if they are the same. -/
import Derived.Test.YtkilaemngejplaaDoorQg
import Derived.Test.YtkilaemngejplaaDoorQParses
import Derived.Test.YtkilaemngejplaaDoorQOrder
import Derived.Test.YtkilaemngejplaaDoorPSemx14
set_option linter.unusedSimpArgs false
set_option linter.unusedVariables false
namespace Go.Proofs.YtkilaemngejplaaDoor
open Go.RowKit Go.Proofs.YtkilaemngejplaaDoorW.PrintWords PSem

theorem Texts_E (v w : Ver) : E (fun k => slipwaylaw01_SemverTexts.f k v.a v.b v.c v.p w.a w.b w.c w.p) true := by
  have out : E (fun k => slipwaylaw01_SemverTexts.j0 k true v.a v.b v.c v.p w.a w.b w.c w.p) true := by
    refine E.step ?_
    simp only [slipwaylaw01_SemverTexts.j0]
    exact E.ite_pos (by trivial) (E.some _)
  unfold slipwaylaw01_SemverTexts.f
  refine E.bind anchor_E (E.ite_pos rfl (E.bindc (short_some v.p) (E.ite (fun h => ?_) (fun h => out))))
  refine E.bindc (short_some w.p) (E.ite (fun h2 => ?_) (fun h2 => out))
  have hv : v.p.size ≤ 300 := by simp at h; omega
  have hw : w.p.size ≤ 300 := by simp at h2; omega
  refine E.bind (Right_E v.a v.b v.c v.p (by omega)) (E.ite (fun h3 => ?_) (fun h3 => out))
  refine E.bind (Right_E w.a w.b w.c w.p (by omega)) ?_
  cases h4 : rightB w.a w.b w.c w.p with
  | false => exact out
  | true =>
    refine E.step ?_
    simp only [slipwaylaw01_SemverTexts.j0]
    have t1 := Text_E v.a v.b v.c v.p (by omega)
    have t2 := Text_E w.a w.b w.c w.p (by omega)
    rw [if_pos h3] at t1
    rw [if_pos h4] at t2
    refine E.ite_neg (by simp) (E.bind t1 (E.bind t2 (E.ite_pos rfl (E.ite_pos rfl ?_))))
    have e0 := cmpVer_eq0 v w
    have e1 : ((textB v.a v.b v.c v.p).toList == (textB w.a w.b w.c w.p).toList) = (cmpVer v w == 0) := by
      by_cases hvw : v = w
      · subst hvw; rw [ordV.self v trivial, beq_self_eq_true]; rfl
      · have a1 : cmpVer v w ≠ 0 := fun e => hvw (ordV.zero v w trivial trivial e)
        have a2 : textB v.a v.b v.c v.p ≠ textB w.a w.b w.c w.p := fun e => hvw (text_inj h3 h4 e)
        have a3 : (textB v.a v.b v.c v.p).toList ≠ (textB w.a w.b w.c w.p).toList := fun e => a2 (by rw [ba_toList, ba_toList] at e; exact bytes_ext e)
        rw [beq_false_of_ne a3, beq_false_of_ne a1]
    refine E.ite_pos ?_ (E.bind (Cmp_E v w (by omega) (by omega)) (E.of ?_))
    · rw [e1]
      revert e0
      generalize (cmpVer v w == 0) = x
      generalize (v.a == w.a && (v.b == w.b && (v.c == w.c && (v.p.toList == w.p.toList)))) = y
      cases x <;> cases y <;> intro e <;> first | rfl | exact absurd e (by decide)
    · rw [e1]; simp
theorem Texts_walk (v w : Ver) (W : World) (hG : Gw W) : Calls Tryd.prog 9 #[.agg #[.int .i64 v.a, .int .i64 v.b, .int .i64 v.c, .string v.p], .agg #[.int .i64 w.a, .int .i64 w.b, .int .i64 w.c, .string w.p]] W fun e w' => e = .returned (.bool true) ∧ Below W.heap.size W w' := by
  obtain ⟨k, hk⟩ := (Texts_E v w).ex
  exact slipwaylaw01_SemverTexts.calls k _ _ _ _ _ _ _ _ true W hG hk
end Go.Proofs.YtkilaemngejplaaDoor
