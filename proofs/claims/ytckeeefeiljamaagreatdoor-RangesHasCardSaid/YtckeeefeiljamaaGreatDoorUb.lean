/- The document's Has answers as the program's. -/
import Derived.Test.YtckeeefeiljamaaGreatDoorUa
import Derived.Test.YtckeeefeiljamaaGreatDoorPRanf7
import Derived.Test.YtckeeefeiljamaaGreatDoorXU
set_option linter.unusedSimpArgs false
set_option linter.unusedVariables false
namespace Go.Proofs.YtckeeefeiljamaaGreatDoor
open Go.RowKit Go.Proofs.YtckeeefeiljamaaGreatDoorW.PrintWords PRan

theorem one_some {o a b c : Int} {p : ByteArray} {x y z : Int} {q : ByteArray} (hr : compR o a b c p = true) (hp : tiny p) (hq : tiny q) : slipwayref02_one.f o a b c p x y z q = some (hasV o a b c p x y z q) := by
  unfold slipwayref02_one.f; rw [if_pos ⟨hr, hp, hq⟩]
/-! Has -/
theorem cv_at (l : L1) (j : Nat) (h : j < l.length) : (l.map cv).getD j z53 = cv (l.getD j z48) := by
  rw [List.getD_eq_getElem?_getD, List.getD_eq_getElem?_getD, List.getElem?_map, List.getElem?_eq_getElem h]; rfl
theorem cvR_at (r : L2) (i : Nat) (h : i < r.length) : (cvR r).getD i [] = (r.getD i []).map cv := by
  unfold cvR
  rw [List.getD_eq_getElem?_getD, List.getD_eq_getElem?_getD, List.getElem?_map, List.getElem?_eq_getElem h]; rfl
section
variable (r : L2) (x y z : Int) (q : ByteArray) (hq : tiny q)
theorem refHas_l1 (i : Nat) (hi : i < r.length) (hl : (r.getD i []).length ≤ 8) (hc : ∀ c ∈ r.getD i [], cR c = true) (ht : ∀ c ∈ r.getD i [], tiny c.f1.f3) (hq : tiny q) (R : Bool)
    (hn : E (fun k => slipwayref02_Range_Has.l0 k (wrap64 ((i : Int) + 1)) (cvR r) x y z q) R) :
    ∀ (d j : Nat), j + d = (r.getD i []).length → ∀ ok : Bool, E (fun k => slipwayref02_Range_Has.l1 k (i : Int) ok (j : Int) (cvR r) x y z q) ((ok && ((r.getD i []).drop j).all (fun c => cH c x y z q)) || R) := by
  intro d
  induction d with
  | zero =>
    intro j hj ok
    refine E.step ?_
    simp only [slipwayref02_Range_Has.l1, rd7_at, cvR_len, cvR_at _ _ hi, List.length_map]
    refine E.ite_pos (by omega) (E.ite_pos (by omega) (E.ite_neg (by omega) ?_))
    rw [List.drop_eq_nil_of_le (by omega)]
    refine E.ite (fun h => ?_) (fun h => ?_)
    · rw [h]; exact E.some _
    · rw [Bool.eq_false_iff.2 h]; exact hn
  | succ d ih =>
    intro j hj ok
    have hj' : j < (r.getD i []).length := by omega
    have hm := getD_mem' (z := z48) hj'
    have h := ih (j + 1) (by omega)
    rw [← wrap_succ j 1000 (by omega) (by omega)] at h
    refine E.step ?_
    simp only [slipwayref02_Range_Has.l1, rd7_at, rd53_at, cvR_len, cvR_at _ _ hi, List.length_map, cv_at _ _ hj']
    refine E.ite_pos (by omega) (E.ite_pos (by omega) (E.ite_pos (by omega) ?_))
    rw [drop_at _ z48 j hj', List.all_cons]
    refine E.ite (fun e => E.ite_pos (by omega) ?_) (fun e => ?_)
    · rw [e, Bool.true_and]
      exact E.bindc (one_some (hc _ hm) (ht _ hm) hq) (h _)
    · rw [Bool.eq_false_iff.2 e]
      have := h false
      simpa using this
theorem refHas_l0 (hr : r.length ≤ 8) (hl : ∀ l ∈ r, l.length ≤ 8 ∧ (∀ c ∈ l, cR c = true) ∧ ∀ c ∈ l, tiny c.f1.f3) (hq : tiny q) :
    ∀ (d i : Nat), i + d = r.length → E (fun k => slipwayref02_Range_Has.l0 k (i : Int) (cvR r) x y z q) ((r.drop i).any (fun l => l.all (fun c => cH c x y z q))) := by
  intro d
  induction d with
  | zero =>
    intro i hi
    refine E.step ?_
    simp only [slipwayref02_Range_Has.l0, cvR_len]
    rw [List.drop_eq_nil_of_le (by omega)]
    exact E.ite_neg (by omega) (E.some _)
  | succ d ih =>
    intro i hi
    have hn := ih (i + 1) (by omega)
    rw [← wrap_succ i 1000 (by omega) (by omega)] at hn
    obtain ⟨h1, h2, h3⟩ := hl _ (getD_mem' (z := ([] : L1)) (show i < r.length by omega))
    have := refHas_l1 r x y z q i (by omega) h1 h2 h3 hq _ hn _ 0 (Nat.zero_add _) true
    rw [List.drop_zero, Bool.true_and] at this
    rw [drop_at _ [] i (by omega), List.any_cons]
    refine E.step ?_
    simp only [slipwayref02_Range_Has.l0, cvR_len]
    exact E.ite_pos (by omega) this
end
theorem refHas_E (r : L2) (ht : tinyR r) (x y z : Int) (q : ByteArray) (hq : tiny q) : E (fun k => slipwayref02_Range_Has.f k (cvR r) x y z q) (rangeH r x y z q) := by
  have out : E (fun k => slipwayref02_Range_Has.j0 k true (cvR r) x y z q) false := by
    refine E.step ?_
    simp only [slipwayref02_Range_Has.j0]
    exact E.ite_pos (by trivial) (E.some _)
  unfold slipwayref02_Range_Has.f rangeH
  refine E.bind (refR_E (cvR r) (tinyM_cv ht)) ?_
  rw [rR_cvR]
  refine E.ite (fun h => ?_) (fun h => ?_)
  · rw [h, Bool.true_and]
    refine E.bindc (rrs _ _ _ _ hq) ?_
    cases hv : rightB x y z q with
    | false => exact out
    | true =>
      rw [Bool.true_and]
      obtain ⟨h1, _, h2⟩ := rangeR_parts h
      have := refHas_l0 r x y z q h1 (fun l hl => ⟨(h2 l hl).2.1, (h2 l hl).2.2, ht l hl⟩) hq _ 0 (Nat.zero_add _)
      rw [List.drop_zero] at this
      refine E.step ?_
      simp only [slipwayref02_Range_Has.j0]
      exact E.ite_neg (by simp) this
  · rw [Bool.eq_false_iff.2 h, Bool.false_and]; exact out
end Go.Proofs.YtckeeefeiljamaaGreatDoor
