/- SemverPres: a version with a Pre is less than without; a mark more makes a Pre greater. -/
import Derived.Test.YtkilaemngejplaaDoorQg
import Derived.Test.YtkilaemngejplaaDoorQParses
import Derived.Test.YtkilaemngejplaaDoorPSemx10
set_option linter.unusedSimpArgs false
set_option linter.unusedVariables false
namespace Go.Proofs.YtkilaemngejplaaDoor
open Go.RowKit Go.Proofs.YtkilaemngejplaaDoorW.PrintWords PSem

abbrev non : ByteArray := ⟨#[]⟩
theorem CmpP_E (v w : Ver) (h : v.p.size ≤ 1000) (h' : w.p.size ≤ 1000) : E (fun k => semver_Compare.f k v.a v.b v.c v.p w.a w.b w.c w.p) (cmpVer v w) := Compare_E v.a v.b v.c v.p w.a w.b w.c w.p (by omega) (by omega)
theorem cmp_same (a b c : Int) (p q : ByteArray) : cmpVer ⟨a, b, c, p⟩ ⟨a, b, c, q⟩ = marksV p q := by
  rw [cmpVer_eq]
  show (if cmpI a a = 0 then (if cmpI b b = 0 then (if cmpI c c = 0 then marksV p q else _) else _) else _) = _
  rw [if_pos (cmpI_zero.2 rfl), if_pos (cmpI_zero.2 rfl), if_pos (cmpI_zero.2 rfl)]
theorem marks_non (p : ByteArray) (h : p.toList ≠ []) : marksV p non = -1 := by
  rw [marks_e1 p non rfl]
  have : p.size ≠ 0 := fun e => h ((size_nil _).2 e)
  unfold cmpI; rw [if_pos (by omega)]
/-- What is less in its numbers is less, whatever the Pres. -/
theorem cmp_low (v w : Ver) (h : cmpVer ⟨w.a, w.b, w.c, non⟩ ⟨v.a, v.b, v.c, non⟩ = -1) : cmpVer w v = -1 := by
  rw [cmpVer_eq] at h ⊢
  have e0 : marksV non non = 0 := ordP.self _ trivial
  change (if cmpI w.a v.a = 0 then (if cmpI w.b v.b = 0 then (if cmpI w.c v.c = 0 then marksV non non else cmpI w.c v.c) else cmpI w.b v.b) else cmpI w.a v.a) = -1 at h
  rw [e0] at h
  split at h
  · rename_i h1
    rw [if_pos h1]
    split at h
    · rename_i h2
      rw [if_pos h2]
      split at h
      · cases h
      · rename_i h3; rw [if_neg h3]; exact h
    · rename_i h2; rw [if_neg h2]; exact h
  · rename_i h1; rw [if_neg h1]; exact h
theorem lex_more {α : Type} {f : α → α → Int} (hs : ∀ a, f a a = 0) : ∀ (x y : List α), y ≠ [] → lexL f x (x ++ y) = -1 := by
  intro x
  induction x with
  | nil => intro y h; cases y with | nil => exact absurd rfl h | cons a l => rfl
  | cons a x ih => intro y h; rw [List.cons_append]; simp only [lexL]; rw [if_pos (hs a)]; exact ih y h
theorem more_eq (p m : ByteArray) : p ++ ((⟨#[46]⟩ : ByteArray) ++ m) = toBytes (p.data.toList ++ 46 :: m.data.toList) := by
  apply bytes_ext; rw [tb_data]; simp
theorem marks_more (p m : ByteArray) (h : p.toList ≠ []) : marksV p (p ++ ((⟨#[46]⟩ : ByteArray) ++ m)) = -1 := by
  have hp : toBytes p.data.toList = p := toBytes_data p
  rw [marksV_lex, if_neg ?_]
  · have e := pieces_app 46 p.data.toList.length p.data.toList m.data.toList rfl
    rw [hp] at e
    have e2 : pieces dot (p ++ ((⟨#[46]⟩ : ByteArray) ++ m)) = pieces dot p ++ pieces dot (toBytes m.data.toList) := by rw [more_eq]; exact e
    rw [e2]
    exact lex_more (fun a => ordM.self a trivial) _ _ (pieces_ne _ _)
  · rintro (e | e)
    · exact h e
    · rw [ba_toList, more_eq, tb_data] at e; simp at e
theorem more_ne (p m : ByteArray) : (p ++ ((⟨#[46]⟩ : ByteArray) ++ m)).toList ≠ [] := by
  intro e; rw [ba_toList, more_eq, tb_data] at e; simp at e
theorem Pres_E (v w : Ver) (m : ByteArray) : E (fun k => slipwaylaw01_SemverPres.f k v.a v.b v.c v.p w.a w.b w.c w.p m) true := by
  have out : E (fun k => slipwaylaw01_SemverPres.j0 k m true v.a v.b v.c v.p w.a w.b w.c w.p) true := by
    refine E.step ?_
    simp only [slipwaylaw01_SemverPres.j0]
    exact E.ite_pos (by trivial) (E.some _)
  unfold slipwaylaw01_SemverPres.f
  refine E.bind anchor_E (E.ite_pos rfl (E.bindc (short_some v.p) (E.ite (fun h => ?_) (fun h => out))))
  refine E.bindc (short_some w.p) (E.ite (fun h2 => ?_) (fun h2 => out))
  refine E.bindc (short_some m) (E.ite (fun h3 => ?_) (fun h3 => out))
  have hv : v.p.size ≤ 300 := by simp at h; omega
  have hw : w.p.size ≤ 300 := by simp at h2; omega
  have hm : m.size ≤ 300 := by simp at h3; omega
  refine E.bind (Right_E v.a v.b v.c v.p (by omega)) (E.ite (fun h4 => ?_) (fun _ => out))
  refine E.bind (Right_E w.a w.b w.c w.p (by omega)) (E.ite (fun h5 => ?_) (fun _ => out))
  by_cases hp : v.p.toList = []
  · rw [hp]; exact out
  have e : (v.p.toList == ([] : List UInt8)) = false := by rw [beq_eq_false_iff_ne]; exact hp
  rw [e]
  refine E.step ?_
  simp only [slipwaylaw01_SemverPres.j0]
  have c1 := CmpP_E v ⟨v.a, v.b, v.c, non⟩ (by omega) (by show 0 ≤ 1000; omega)
  have c2 := CmpP_E ⟨w.a, w.b, w.c, non⟩ ⟨v.a, v.b, v.c, non⟩ (by show 0 ≤ 1000; omega) (by show 0 ≤ 1000; omega)
  have e1 : cmpVer v ⟨v.a, v.b, v.c, non⟩ = -1 := (cmp_same v.a v.b v.c v.p non).trans (marks_non _ hp)
  have tail : E (fun k => slipwaylaw01_SemverPres.j1 k m false v.a v.b v.c v.p v.a v.b v.c non) true := by
    refine E.step ?_
    simp only [slipwaylaw01_SemverPres.j1]
    have hz : (v.p ++ ((⟨#[46]⟩ : ByteArray) ++ m)).size = v.p.size + (1 + m.size) := by rw [ByteArray.size_append, ByteArray.size_append]; rfl
    have hz2 : ((⟨#[46]⟩ : ByteArray) ++ m).size = 1 + m.size := by rw [ByteArray.size_append]; rfl
    refine E.ite_neg (by simp) (E.ite_pos (by omega) (E.ite_pos (by rw [hz2]; omega) (E.bind (Right_E v.a v.b v.c _ (by rw [hz]; omega)) (E.ite (fun h6 => ?_) (fun _ => E.some _)))))
    have d1 := CmpP_E v ⟨v.a, v.b, v.c, v.p ++ ((⟨#[46]⟩ : ByteArray) ++ m)⟩ (by omega) (by show (v.p ++ ((⟨#[46]⟩ : ByteArray) ++ m)).size ≤ 1000; rw [hz]; omega)
    have d2 := CmpP_E ⟨v.a, v.b, v.c, v.p ++ ((⟨#[46]⟩ : ByteArray) ++ m)⟩ ⟨v.a, v.b, v.c, non⟩ (by show (v.p ++ ((⟨#[46]⟩ : ByteArray) ++ m)).size ≤ 1000; rw [hz]; omega) (by show 0 ≤ 1000; omega)
    have f1 : cmpVer v ⟨v.a, v.b, v.c, v.p ++ ((⟨#[46]⟩ : ByteArray) ++ m)⟩ = -1 := (cmp_same v.a v.b v.c v.p _).trans (marks_more _ _ hp)
    have f2 : cmpVer ⟨v.a, v.b, v.c, v.p ++ ((⟨#[46]⟩ : ByteArray) ++ m)⟩ ⟨v.a, v.b, v.c, non⟩ = -1 := (cmp_same v.a v.b v.c _ non).trans (marks_non _ (more_ne _ _))
    rw [f1] at d1; rw [f2] at d2
    exact E.bind d1 (E.ite_pos rfl (E.bind d2 (E.of rfl)))
  rw [e1] at c1
  refine E.ite_neg (by simp) (E.bind c1 (E.ite_pos rfl (E.bind c2 (E.ite (fun h6 => ?_) (fun _ => tail)))))
  have c3 := CmpP_E w v (by omega) (by omega)
  rw [cmp_low v w h6] at c3
  exact E.bind c3 tail
theorem Pres_walk (v w : Ver) (m : ByteArray) (W : World) (hG : Gw W) : Calls Tryd.prog 6 #[.agg #[.int .i64 v.a, .int .i64 v.b, .int .i64 v.c, .string v.p], .agg #[.int .i64 w.a, .int .i64 w.b, .int .i64 w.c, .string w.p], .string m] W fun e w' => e = .returned (.bool true) ∧ Below W.heap.size W w' := by
  obtain ⟨k, hk⟩ := (Pres_E v w m).ex
  exact slipwaylaw01_SemverPres.calls k _ _ _ _ _ _ _ _ _ true W hG hk
end Go.Proofs.YtkilaemngejplaaDoor
