/- SemverBumps: the next version is greater, has no Pre, and is the document's. -/
import Derived.Test.YtkilaemngejplaaDoorQg
import Derived.Test.YtkilaemngejplaaDoorQParses
import Derived.Test.YtkilaemngejplaaDoorPSemx15
set_option linter.unusedSimpArgs false
set_option linter.unusedVariables false
namespace Go.Proofs.YtkilaemngejplaaDoor
open Go.RowKit Go.Proofs.YtkilaemngejplaaDoorW.PrintWords PSem

abbrev nob : ByteArray := ⟨#[]⟩
theorem CmpB_E (v w : Ver) (h : v.p.size ≤ 1000) (h' : w.p.size ≤ 1000) : E (fun k => semver_Compare.f k v.a v.b v.c v.p w.a w.b w.c w.p) (cmpVer v w) := Compare_E v.a v.b v.c v.p w.a w.b w.c w.p (by omega) (by omega)
def nxt (a b c : Int) (p : ByteArray) (t : Int) : Int × Int × Int := if t = 0 then (a + 1, 0, 0) else if t = 1 then (a, b + 1, 0) else if p.toList = [] then (a, b, c + 1) else (a, b, c)
def fin (n : Int × Int × Int) : Int × Int × Int × ByteArray × Int := if (inN n.1 && (inN n.2.1 && inN n.2.2)) = true then (n.1, n.2.1, n.2.2, nob, 0) else (0, 0, 0, nob, 11)
def bumpV (a b c : Int) (p : ByteArray) (t : Int) : Int × Int × Int × ByteArray × Int :=
  if rightB a b c p = true ∧ 0 ≤ t ∧ t ≤ 2 then fin (nxt a b c p t) else (0, 0, 0, nob, 12)
theorem right_nob (x y z : Int) : rightB x y z nob = (inN x && (inN y && inN z)) := by
  have : preO nob = true := by decide +kernel
  unfold rightB; rw [this, Bool.and_true]
theorem fin_E (x y z : Int) : E (fun k => (semver_Version_Right.f k x y z nob).bind fun t => if t = true then some (x, y, z, nob, (0 : Int)) else some (0, 0, 0, nob, 11)) (fin (x, y, z)) := by
  refine E.bind (Right_E x y z nob (by decide)) ?_
  rw [right_nob]
  unfold fin
  refine E.ite (fun h => ?_) (fun h => ?_)
  · simp only [if_pos h]; exact E.some _
  · simp only [if_neg h]; exact E.some _
theorem Bump_E (a b c : Int) (p : ByteArray) (t : Int) (hs : p.size ≤ 1000) : E (fun k => semver_Version_Bump.f k a b c p t) (bumpV a b c p t) := by
  have out : ¬ (rightB a b c p = true ∧ 0 ≤ t ∧ t ≤ 2) → E (fun k => semver_Version_Bump.j0 k t true a b c p) (bumpV a b c p t) := by
    intro h
    refine E.step ?_
    simp only [semver_Version_Bump.j0]
    unfold bumpV
    rw [if_neg h]
    exact E.ite_pos (by trivial) (E.some _)
  unfold semver_Version_Bump.f
  refine E.bind (Right_E a b c p (by omega)) (E.ite (fun h => E.ite (fun h1 => out (by omega)) (fun h1 => ?_)) (fun h => out (fun e => h e.1)))
  by_cases h2 : t > 2
  · rw [decide_eq_true h2]; exact out (by omega)
  · rw [decide_eq_false h2]
    obtain ⟨ha, hb, hc, hp⟩ := rightB_iff.1 h
    rw [inN_iff] at ha hb hc
    unfold bumpV
    rw [if_pos ⟨h, by omega, by omega⟩]
    refine E.step ?_
    simp only [semver_Version_Bump.j0]
    unfold nxt
    rw [wrap_id (by omega), wrap_id (by omega), wrap_id (by omega)]
    refine E.ite_neg (by simp) (E.ite (fun e => ?_) (fun e => E.ite (fun e1 => ?_) (fun e1 => E.ite (fun e2 => ?_) (fun e2 => ?_))))
    · rw [if_pos e]; exact fin_E _ _ _
    · rw [if_neg e, if_pos e1]; exact fin_E _ _ _
    · rw [if_neg e, if_neg e1, if_pos e2]; exact fin_E _ _ _
    · rw [if_neg e, if_neg e1, if_neg e2]; exact fin_E _ _ _
theorem fin_ok {x y z : Int} (hx : 0 ≤ x ∧ x ≤ 999999) (hy : 0 ≤ y ∧ y ≤ 999999) (hz : 0 ≤ z ∧ z ≤ 999999) : fin (x, y, z) = (x, y, z, nob, 0) := by
  unfold fin; rw [inN_t hx.1 hx.2, inN_t hy.1 hy.2, inN_t hz.1 hz.2]; rfl
theorem fin_big {x y z : Int} (h : 999999 < x ∨ 999999 < y ∨ 999999 < z) : fin (x, y, z) = (0, 0, 0, nob, 11) := by
  unfold fin
  rw [if_neg]
  show ¬ (inN x && (inN y && inN z)) = true
  rw [Bool.and_eq_true, Bool.and_eq_true, inN_iff, inN_iff, inN_iff]
  omega
theorem zeros : ((0 : Int) == 0 && ((0 : Int) == 0 && ((0 : Int) == 0 && (nob.toList == ([] : List UInt8))))) = true := by decide +kernel
theorem nob_eq : (nob.toList == ([] : List UInt8)) = true := by decide +kernel
theorem Bumps_E (v : Ver) (t : Int) : E (fun k => slipwaylaw01_SemverBumps.f k v.a v.b v.c v.p t) true := by
  unfold slipwaylaw01_SemverBumps.f
  refine E.bind anchor_E (E.ite_pos rfl (E.bindc (short_some v.p) (E.ite (fun h => ?_) (fun h => E.some _))))
  have hv : v.p.size ≤ 300 := by simp at h; omega
  refine E.bind (Bump_E v.a v.b v.c v.p t (by omega)) (E.bind (refRight_E v.a v.b v.c v.p (by omega)) ?_)
  have out : ¬ (rightB v.a v.b v.c v.p = true ∧ 0 ≤ t ∧ t ≤ 2) → E (fun k => slipwaylaw01_SemverBumps.j0 k t (bumpV v.a v.b v.c v.p t).2.2.2.2 true v.a v.b v.c v.p (bumpV v.a v.b v.c v.p t).1 (bumpV v.a v.b v.c v.p t).2.1 (bumpV v.a v.b v.c v.p t).2.2.1 (bumpV v.a v.b v.c v.p t).2.2.2.1) true := by
    intro h
    have e : bumpV v.a v.b v.c v.p t = (0, 0, 0, nob, 12) := by unfold bumpV; rw [if_neg h]
    rw [e]
    refine E.step ?_
    simp only [slipwaylaw01_SemverBumps.j0]
    exact E.ite_pos (by trivial) (E.ite_pos (by trivial) (E.of (by rw [zeros])))
  refine E.ite (fun h => E.ite (fun h1 => out (by omega)) (fun h1 => ?_)) (fun h => out (fun e => h e.1))
  by_cases h2 : t > 2
  · rw [decide_eq_true h2]; exact out (by omega)
  · rw [decide_eq_false h2]
    obtain ⟨ha, hb, hc, hp⟩ := rightB_iff.1 h
    rw [inN_iff] at ha hb hc
    have eb : bumpV v.a v.b v.c v.p t = fin (nxt v.a v.b v.c v.p t) := by unfold bumpV; rw [if_pos ⟨h, by omega, by omega⟩]
    rw [eb]
    unfold nxt
    refine E.step ?_
    simp only [slipwaylaw01_SemverBumps.j0]
    rw [wrap_id (show -9223372036854775808 ≤ v.a + 1 ∧ v.a + 1 ≤ 9223372036854775807 by omega), wrap_id (show -9223372036854775808 ≤ v.b + 1 ∧ v.b + 1 ≤ 9223372036854775807 by omega), wrap_id (show -9223372036854775808 ≤ v.c + 1 ∧ v.c + 1 ≤ 9223372036854775807 by omega)]
    have big : ∀ r, r = ((0 : Int), (0 : Int), (0 : Int), nob, (11 : Int)) → E (fun _ => if r.2.2.2.2 = 11 then some (r.1 == 0 && (r.2.1 == 0 && (r.2.2.1 == 0 && (r.2.2.2.1.toList == ([] : List UInt8))))) else some false) true := by
      intro r e; subst e
      exact E.ite_pos (by trivial) (E.of (by rw [zeros]))
    have cmp : ∀ x y z : Int, cmpVer v ⟨x, y, z, nob⟩ = -1 → E (fun k => (semver_Compare.f k v.a v.b v.c v.p x y z nob).bind fun t => some (t == -1)) true := by
      intro x y z e
      refine E.bind (CmpB_E v ⟨x, y, z, nob⟩ (by omega) (by show 0 ≤ 1000; omega)) (E.of ?_)
      rw [e]; rfl
    refine E.ite_neg (by simp) (E.ite (fun e => ?_) (fun e => E.ite (fun e1 => ?_) (fun e1 => E.ite (fun e2 => ?_) (fun e2 => ?_))))
    · rw [if_pos e]
      refine E.ite (fun g => ?_) (fun g => E.ite_neg (by omega) ?_)
      · exact big _ (fin_big (.inl g))
      · rw [fin_ok (by omega) (by omega) (by omega)]
        refine E.ite_pos (by trivial) (E.ite_pos (by simp only [nob_eq, beq_self_eq_true]; rfl) ?_)
        refine cmp _ _ _ ?_
        rw [cmpVer_eq]
        show (if cmpI v.a (v.a + 1) = 0 then _ else cmpI v.a (v.a + 1)) = -1
        have : cmpI v.a (v.a + 1) = -1 := by unfold cmpI; rw [if_pos (by omega)]
        rw [this]; rfl
    · rw [if_neg e, if_pos e1]
      refine E.ite_neg (by omega) (E.ite (fun g => ?_) (fun g => E.ite_neg (by omega) ?_))
      · exact big _ (fin_big (.inr (.inl g)))
      · rw [fin_ok (by omega) (by omega) (by omega)]
        refine E.ite_pos (by trivial) (E.ite_pos (by simp only [nob_eq, beq_self_eq_true]; rfl) ?_)
        refine cmp _ _ _ ?_
        rw [cmpVer_eq]
        show (if cmpI v.a v.a = 0 then (if cmpI v.b (v.b + 1) = 0 then _ else cmpI v.b (v.b + 1)) else _) = -1
        have : cmpI v.b (v.b + 1) = -1 := by unfold cmpI; rw [if_pos (by omega)]
        rw [this, if_pos (cmpI_zero.2 rfl)]; rfl
    · rw [if_neg e, if_neg e1, if_pos e2]
      refine E.ite_neg (by omega) (E.ite_neg (by omega) (E.ite (fun g => ?_) (fun g => ?_)))
      · exact big _ (fin_big (.inr (.inr g)))
      · rw [fin_ok (by omega) (by omega) (by omega)]
        refine E.ite_pos (by trivial) (E.ite_pos (by simp only [nob_eq, beq_self_eq_true]; rfl) ?_)
        refine cmp _ _ _ ?_
        rw [cmpVer_eq]
        show (if cmpI v.a v.a = 0 then (if cmpI v.b v.b = 0 then (if cmpI v.c (v.c + 1) = 0 then _ else cmpI v.c (v.c + 1)) else _) else _) = -1
        have : cmpI v.c (v.c + 1) = -1 := by unfold cmpI; rw [if_pos (by omega)]
        rw [this, if_pos (cmpI_zero.2 rfl), if_pos (cmpI_zero.2 rfl)]; rfl
    · rw [if_neg e, if_neg e1, if_neg e2]
      refine E.ite_neg (by omega) (E.ite_neg (by omega) (E.ite_neg (by omega) ?_))
      rw [fin_ok (by omega) (by omega) (by omega)]
      refine E.ite_pos (by trivial) (E.ite_pos (by simp only [nob_eq, beq_self_eq_true]; rfl) ?_)
      refine cmp _ _ _ ?_
      rw [cmpVer_eq]
      show (if cmpI v.a v.a = 0 then (if cmpI v.b v.b = 0 then (if cmpI v.c v.c = 0 then marksV v.p nob else _) else _) else _) = -1
      rw [if_pos (cmpI_zero.2 rfl), if_pos (cmpI_zero.2 rfl), if_pos (cmpI_zero.2 rfl), marks_e1 v.p nob rfl]
      have : v.p.size ≠ 0 := fun e => e2 ((size_nil _).2 e)
      unfold cmpI; rw [if_pos (by omega)]
theorem Bumps_walk (v : Ver) (t : Int) (W : World) (hG : Gw W) : Calls Tryd.prog 10 #[.agg #[.int .i64 v.a, .int .i64 v.b, .int .i64 v.c, .string v.p], .int .i64 t] W fun e w' => e = .returned (.bool true) ∧ Below W.heap.size W w' := by
  obtain ⟨k, hk⟩ := (Bumps_E v t).ex
  exact slipwaylaw01_SemverBumps.calls k _ _ _ _ _ true W hG hk
end Go.Proofs.YtkilaemngejplaaDoor
