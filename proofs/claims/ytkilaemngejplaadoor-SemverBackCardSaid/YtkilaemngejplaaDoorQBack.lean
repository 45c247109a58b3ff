/- SemverBack: a version's text is the document's, and is read as it. -/
import Derived.Test.YtkilaemngejplaaDoorQg
import Derived.Test.YtkilaemngejplaaDoorQParses
import Derived.Test.YtkilaemngejplaaDoorPSemx13
set_option linter.unusedSimpArgs false
set_option linter.unusedVariables false
namespace Go.Proofs.YtkilaemngejplaaDoor
open Go.RowKit Go.Proofs.YtkilaemngejplaaDoorW.PrintWords PSem

theorem text_size {a b c : Int} {p : ByteArray} (ha : inN a = true) (hb : inN b = true) (hc : inN c = true) : (textB a b c p).size ≤ p.size + 30 := by
  have la := itoa_len ha; have lb := itoa_len hb; have lc := itoa_len hc
  unfold textB; rw [tb_size]; unfold textL numsT
  have := data_length p
  split <;> simp <;> omega
theorem Back_E (v : Ver) : E (fun k => slipwaylaw01_SemverBack.f k v.a v.b v.c v.p) true := by
  unfold slipwaylaw01_SemverBack.f
  refine E.bind anchor_E (E.ite_pos rfl (E.bindc (short_some v.p) (E.ite (fun h => ?_) (fun h => E.some _))))
  have hv : v.p.size ≤ 300 := by simp at h; omega
  have t1 := Text_E v.a v.b v.c v.p (by omega)
  refine E.bind t1 (E.bind (Right_E v.a v.b v.c v.p (by omega)) (E.bind (refRight_E v.a v.b v.c v.p (by omega)) (E.ite_neg (by simp) (E.bind (refRight_E v.a v.b v.c v.p (by omega)) ?_))))
  refine E.ite (fun h3 => ?_) (fun h3 => ?_)
  · simp only [if_pos h3]
    obtain ⟨ha, hb, hc, hp⟩ := rightB_iff.1 h3
    have hz := text_size (p := v.p) ha hb hc
    refine E.bindc (parse_some _ (by omega)) (E.ite_pos (by trivial) (E.bind (refText_E v.a v.b v.c v.p (by omega) h3) (E.ite_pos rfl ?_)))
    rw [parse_text h3]
    refine E.ite_pos rfl (E.of ?_)
    simp
  · simp only [if_neg h3]
    refine E.ite_pos (by trivial) (E.of ?_)
    rw [ba_toList]; rfl
theorem Back_walk (v : Ver) (W : World) (hG : Gw W) : Calls Tryd.prog 8 #[.agg #[.int .i64 v.a, .int .i64 v.b, .int .i64 v.c, .string v.p]] W fun e w' => e = .returned (.bool true) ∧ Below W.heap.size W w' := by
  obtain ⟨k, hk⟩ := (Back_E v).ex
  exact slipwaylaw01_SemverBack.calls k _ _ _ _ true W hG hk
end Go.Proofs.YtkilaemngejplaaDoor
