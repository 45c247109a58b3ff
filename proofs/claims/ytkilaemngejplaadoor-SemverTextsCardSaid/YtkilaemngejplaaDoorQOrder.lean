/- SemverOrder: the order is one. -/
import Derived.Test.YtkilaemngejplaaDoorQf
import Derived.Test.YtkilaemngejplaaDoorQParses
import Derived.Test.YtkilaemngejplaaDoorPSemx9
set_option linter.unusedSimpArgs false
set_option linter.unusedVariables false
namespace Go.Proofs.YtkilaemngejplaaDoor
open Go.RowKit Go.Proofs.YtkilaemngejplaaDoorW.PrintWords PSem

theorem cmpVer_eq0 (v w : Ver) : ((cmpVer v w == 0) != (v.a == w.a && (v.b == w.b && (v.c == w.c && (v.p.toList == w.p.toList))))) = false := by
  by_cases h : v = w
  · subst h; rw [ordV.self v trivial]; simp
  · have h0 : cmpVer v w ≠ 0 := fun e => h (ordV.zero v w trivial trivial e)
    have h1 : (v.a == w.a && (v.b == w.b && (v.c == w.c && (v.p.toList == w.p.toList)))) = false := by
      cases e : (v.a == w.a && (v.b == w.b && (v.c == w.c && (v.p.toList == w.p.toList)))) with
      | false => rfl
      | true =>
        simp only [Bool.and_eq_true, beq_iff_eq] at e
        obtain ⟨e1, e2, e3, e4⟩ := e
        rw [ba_toList, ba_toList] at e4
        replace e4 := bytes_ext e4
        obtain ⟨va, vb, vc, vp⟩ := v
        obtain ⟨wa, wb, wc, wp⟩ := w
        simp only at e1 e2 e3 e4
        subst e1; subst e2; subst e3; subst e4
        exact absurd rfl h
    rw [h1]; simp [h0]
theorem Cmp_E (v w : Ver) (h : v.p.size ≤ 1000) (h' : w.p.size ≤ 1000) : E (fun k => semver_Compare.f k v.a v.b v.c v.p w.a w.b w.c w.p) (cmpVer v w) := Compare_E v.a v.b v.c v.p w.a w.b w.c w.p (by omega) (by omega)
theorem ordV_up {u v w : Ver} (h1 : 0 ≤ cmpVer u v) (h2 : 0 ≤ cmpVer v w) : 0 ≤ cmpVer u w := by
  have a1 := ordV.anti u v trivial trivial
  have a2 := ordV.anti v w trivial trivial
  have a3 := ordV.anti u w trivial trivial
  have := ordV.trans w v u trivial trivial trivial (by omega) (by omega)
  omega
theorem Order_E (u v w : Ver) : E (fun k => slipwaylaw01_SemverOrder.f k u.a u.b u.c u.p v.a v.b v.c v.p w.a w.b w.c w.p) true := by
  have out : E (fun k => slipwaylaw01_SemverOrder.j0 k true u.a u.b u.c u.p v.a v.b v.c v.p w.a w.b w.c w.p) true := by
    refine E.step ?_
    simp only [slipwaylaw01_SemverOrder.j0]
    exact E.ite_pos (by trivial) (E.some _)
  unfold slipwaylaw01_SemverOrder.f
  refine E.bind anchor_E (E.ite_pos rfl (E.bindc (short_some u.p) (E.ite (fun h => ?_) (fun h => out))))
  refine E.bindc (short_some v.p) (E.ite (fun h2 => ?_) (fun h2 => out))
  refine E.bindc (short_some w.p) (E.ite (fun h3 => ?_) (fun h3 => out))
  have hu : u.p.size ≤ 300 := by simp at h; omega
  have hv : v.p.size ≤ 300 := by simp at h2; omega
  have hw : w.p.size ≤ 300 := by simp at h3; omega
  refine E.bind (Right_E u.a u.b u.c u.p (by omega)) (E.ite (fun _ => ?_) (fun _ => out))
  refine E.bind (Right_E v.a v.b v.c v.p (by omega)) (E.ite (fun _ => ?_) (fun _ => out))
  refine E.bind (Right_E w.a w.b w.c w.p (by omega)) ?_
  cases h4 : rightB w.a w.b w.c w.p with
  | false => exact out
  | true =>
    refine E.step ?_
    simp only [slipwaylaw01_SemverOrder.j0]
    refine E.ite_neg (by simp) (E.bind (Cmp_E u v (by omega) (by omega)) (E.bind (Cmp_E v w (by omega) (by omega)) (E.bind (Cmp_E u w (by omega) (by omega)) (E.bind (Cmp_E v u (by omega) (by omega)) ?_))))
    have an := ordV.anti u v trivial trivial
    have rg := ordV.rng u v
    refine E.ite_pos (by rw [wrap_id (by omega)]; omega) ?_
    refine E.ite_neg (by rw [cmpVer_eq0]; simp) (E.ite_neg (by omega) ?_)
    have e : decide (cmpVer u v > 1) = false := by simp; omega
    rw [e]
    refine E.step ?_
    simp only [slipwaylaw01_SemverOrder.j1]
    have fin : E (fun k => (semver_Compare.f k u.a u.b u.c u.p u.a u.b u.c u.p).bind fun t => some (t == 0)) true :=
      E.bind (Cmp_E u u (by omega) (by omega)) (E.of (by rw [ordV.self u trivial]; rfl))
    have up := @ordV_up u v w
    have dn := ordV.trans u v w trivial trivial trivial
    have low : E (fun k => if cmpVer u v ≥ 0 then (if cmpVer v w ≥ 0 then (if cmpVer u w < 0 then some false else ((semver_Compare.f k u.a u.b u.c u.p u.a u.b u.c u.p).bind fun t => some (t == 0))) else ((semver_Compare.f k u.a u.b u.c u.p u.a u.b u.c u.p).bind fun t => some (t == 0))) else ((semver_Compare.f k u.a u.b u.c u.p u.a u.b u.c u.p).bind fun t => some (t == 0))) true := by
      refine E.ite (fun g1 => E.ite (fun g2 => E.ite_neg ?_ fin) (fun _ => fin)) (fun _ => fin)
      have := up g1 g2; omega
    refine E.ite_neg (by simp) (E.ite (fun g1 => E.ite (fun g2 => E.ite_neg ?_ low) (fun _ => low)) (fun _ => low))
    have := dn g1 g2; omega
theorem Order_walk (u v w : Ver) (W : World) (hG : Gw W) : Calls Tryd.prog 5 #[.agg #[.int .i64 u.a, .int .i64 u.b, .int .i64 u.c, .string u.p], .agg #[.int .i64 v.a, .int .i64 v.b, .int .i64 v.c, .string v.p], .agg #[.int .i64 w.a, .int .i64 w.b, .int .i64 w.c, .string w.p]] W fun e w' => e = .returned (.bool true) ∧ Below W.heap.size W w' := by
  obtain ⟨k, hk⟩ := (Order_E u v w).ex
  exact slipwaylaw01_SemverOrder.calls k _ _ _ _ _ _ _ _ _ _ _ _ true W hG hk
end Go.Proofs.YtkilaemngejplaaDoor
