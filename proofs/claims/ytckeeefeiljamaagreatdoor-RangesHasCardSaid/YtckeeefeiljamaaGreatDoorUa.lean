/- What the document's Right answers. -/
import Derived.Test.YtckeeefeiljamaaGreatDoorUz
import Derived.Test.YtckeeefeiljamaaGreatDoorPRanf0
set_option linter.unusedSimpArgs false
set_option linter.unusedVariables false
namespace Go.Proofs.YtckeeefeiljamaaGreatDoor
open Go.RowKit Go.Proofs.YtckeeefeiljamaaGreatDoorW.PrintWords PRan

/-! the document's Right -/
def rC (c : S53) : Bool := decide (0 ≤ c.f0) && (decide (c.f0 ≤ 7) && ((!(c.f0 == 0) || (c.f1.f0 == 0 && (c.f1.f1 == 0 && (c.f1.f2 == 0 && (c.f1.f3.toList == ([] : List UInt8)))))) && rightB c.f1.f0 c.f1.f1 c.f1.f2 c.f1.f3))
def rL (l : M1) : Bool := sizedB l.length && l.all rC
def rR (r : M2) : Bool := sizedB r.length && r.all rL
theorem refR_l1 (r : M2) (i : Nat) (hi : i < r.length) (ht : ∀ x ∈ r.getD i [], tiny x.f1.f3) (hl : (r.getD i []).length ≤ 1000) (R : Bool) (hn : E (fun k => slipwayref02_Range_Right.l0 k (wrap64 ((i : Int) + 1)) r) R) :
    ∀ (d j : Nat), j + d = (r.getD i []).length → E (fun k => slipwayref02_Range_Right.l1 k (i : Int) (j : Int) r) (((r.getD i []).drop j).all rC && R) := by
  intro d
  induction d with
  | zero =>
    intro j hj
    refine E.step ?_
    simp only [slipwayref02_Range_Right.l1, rd7_at]
    refine E.ite_pos (by omega) (E.ite_pos (by omega) (E.ite_neg (by omega) ?_))
    rw [List.drop_eq_nil_of_le (by omega)]
    exact hn
  | succ d ih =>
    intro j hj
    have hx := ht _ (getD_mem' (z := z53) (show j < (r.getD i []).length by omega))
    refine E.step ?_
    simp only [slipwayref02_Range_Right.l1, rd7_at, rd53_at]
    refine E.ite_pos (by omega) (E.ite_pos (by omega) (E.ite_pos (by omega) (E.ite_pos (by omega) ?_)))
    rw [drop_at _ z53 j (by omega), List.all_cons]
    have hn' := ih (j + 1) (by omega)
    rw [← wrap_succ j 1000 (by omega) (by omega)] at hn'
    generalize (r.getD i []).getD j z53 = c at hx ⊢
    refine E.ite (fun h => ?_) (fun h => E.ite (fun h2 => ?_) (fun h2 => ?_))
    · rw [show rC c = false by unfold rC; rw [decide_eq_false (by omega)]; rfl]; exact E.some _
    · rw [show rC c = false by unfold rC; rw [decide_eq_false (p := c.f0 ≤ 7) (by omega)]; simp]; exact E.some _
    · have e1 : rC c = ((!(c.f0 == 0) || (c.f1.f0 == 0 && (c.f1.f1 == 0 && (c.f1.f2 == 0 && (c.f1.f3.toList == ([] : List UInt8)))))) && rightB c.f1.f0 c.f1.f1 c.f1.f2 c.f1.f3) := by
        unfold rC; rw [decide_eq_true (by omega), decide_eq_true (p := c.f0 ≤ 7) (by omega)]; rfl
      have fin : E (fun k => (slipwayref01_Version_Right.f c.f1.f0 c.f1.f1 c.f1.f2 c.f1.f3).bind fun t => if t = true then slipwayref02_Range_Right.l1 k (i : Int) (wrap64 ((j : Int) + 1)) r else some false) (rightB c.f1.f0 c.f1.f1 c.f1.f2 c.f1.f3 && (((r.getD i []).drop (j + 1)).all rC && R)) := by
        refine E.bindc (rrs _ _ _ _ hx) (E.ite (fun h3 => ?_) (fun h3 => ?_))
        · rw [h3, Bool.true_and]; exact hn'
        · rw [Bool.eq_false_iff.2 h3, Bool.false_and]; exact E.some _
      refine E.ite (fun h0 => ?_) (fun h0 => ?_)
      · rw [e1, beq_iff_eq.2 h0]
        simp only [Bool.not_true, Bool.false_or]
        refine E.ite (fun hz => ?_) (fun hz => ?_)
        · rw [show (c.f1.f0 == 0 && (c.f1.f1 == 0 && (c.f1.f2 == 0 && (c.f1.f3.toList == ([] : List UInt8))))) = false by
            rw [← Bool.not_eq_true]; intro h; simp only [Bool.and_eq_true] at h; simp [h] at hz]
          exact E.some _
        · rw [show (c.f1.f0 == 0 && (c.f1.f1 == 0 && (c.f1.f2 == 0 && (c.f1.f3.toList == ([] : List UInt8))))) = true by
            simp only [Bool.or_eq_true, not_or, Bool.not_eq_true, Bool.not_eq_false'] at hz
            simp only [Bool.and_eq_true]; simpa using hz]
          rw [Bool.true_and, Bool.and_assoc]; exact fin
      · rw [e1, beq_eq_false_iff_ne.2 h0]
        simp only [Bool.not_false, Bool.true_or, Bool.true_and]
        rw [Bool.and_assoc]; exact fin
theorem refR_l0 (r : M2) (hr : r.length ≤ 1000) (ht : tinyM r) : ∀ (d i : Nat), i + d = r.length → E (fun k => slipwayref02_Range_Right.l0 k (i : Int) r) ((r.drop i).all rL) := by
  intro d
  induction d with
  | zero =>
    intro i hi
    refine E.step ?_
    simp only [slipwayref02_Range_Right.l0]
    rw [List.drop_eq_nil_of_le (by omega)]
    exact E.ite_neg (by omega) (E.some _)
  | succ d ih =>
    intro i hi
    have hn := ih (i + 1) (by omega)
    rw [← wrap_succ i 1000 (by omega) (by omega)] at hn
    have hm := ht _ (getD_mem' (z := ([] : M1)) (show i < r.length by omega))
    refine E.step ?_
    simp only [slipwayref02_Range_Right.l0, rd7_at]
    refine E.ite_pos (by omega) (E.ite_pos (by omega) ?_)
    rw [drop_at _ [] i (by omega), List.all_cons]
    have out : rL (r.getD i []) = false → E (fun k => slipwayref02_Range_Right.j2 k (i : Int) true r) (rL (r.getD i []) && (r.drop (i + 1)).all rL) := fun h => by
      rw [h, Bool.false_and]
      refine E.step ?_
      simp only [slipwayref02_Range_Right.j2]
      exact E.ite_pos (by trivial) (E.some _)
    refine E.ite (fun h => out ?_) (fun h => ?_)
    · unfold rL sizedB; rw [decide_eq_false (by omega)]; rfl
    · by_cases h8 : ((r.getD i []).length : Int) > 8
      · rw [decide_eq_true h8]
        exact out (by unfold rL sizedB; rw [decide_eq_false (p := (r.getD i []).length ≤ 8) (by omega)]; simp)
      · rw [decide_eq_false h8]
        refine E.step ?_
        simp only [slipwayref02_Range_Right.j2]
        refine E.ite_neg (by simp) ?_
        have := refR_l1 r i (by omega) hm (by omega) _ hn _ 0 (Nat.zero_add _)
        rw [List.drop_zero] at this
        rw [show rL (r.getD i []) = (r.getD i []).all rC by unfold rL sizedB; rw [decide_eq_true (by omega), decide_eq_true (p := (r.getD i []).length ≤ 8) (by omega)]; rfl]
        exact this
theorem refR_E (r : M2) (ht : tinyM r) : E (fun k => slipwayref02_Range_Right.f k r) (rR r) := by
  have out : rR r = false → E (fun k => slipwayref02_Range_Right.j0 k true r) (rR r) := fun h => by
    rw [h]
    refine E.step ?_
    simp only [slipwayref02_Range_Right.j0]
    exact E.ite_pos (by trivial) (E.some _)
  unfold slipwayref02_Range_Right.f
  refine E.ite (fun h => out ?_) (fun h => ?_)
  · unfold rR sizedB; rw [decide_eq_false (by omega)]; rfl
  · by_cases h8 : (r.length : Int) > 8
    · rw [decide_eq_true h8]
      exact out (by unfold rR sizedB; rw [decide_eq_false (p := r.length ≤ 8) (by omega)]; simp)
    · rw [decide_eq_false h8]
      refine E.step ?_
      simp only [slipwayref02_Range_Right.j0]
      refine E.ite_neg (by simp) ?_
      have := refR_l0 r (by omega) ht _ 0 (Nat.zero_add _)
      rw [List.drop_zero] at this
      rw [show rR r = r.all rL by unfold rR sizedB; rw [decide_eq_true (by omega), decide_eq_true (p := r.length ≤ 8) (by omega)]; rfl]
      exact this
theorem rightB_zero : rightB 0 0 0 (⟨#[]⟩ : ByteArray) = true := by decide +kernel
theorem rC_cv (x : S48) : rC (cv x) = cR x := by
  obtain ⟨o, ⟨a, b, c, p⟩⟩ := x
  unfold rC cR compR cv
  simp only
  by_cases h0 : o = 0
  · subst h0
    simp only [if_pos]
    rw [decide_eq_true (p := (0 : Int) ≤ 0) (by omega), decide_eq_true (p := (0 : Int) ≤ 7) (by omega)]
    simp only [BEq.rfl, Bool.not_true, Bool.false_or, Bool.true_and]
    cases hz : (a == 0 && (b == 0 && (c == 0 && (p.toList == ([] : List UInt8))))) with
    | false => rfl
    | true =>
      simp only [Bool.and_eq_true, beq_iff_eq] at hz
      obtain ⟨rfl, rfl, rfl, hp⟩ := hz
      have : p = ⟨#[]⟩ := by
        apply bytes_ext
        have := (size_nil p).1 hp
        rw [← data_length] at this
        rw [List.length_eq_zero_iff.1 this]
      subst this
      rw [rightB_zero]; rfl
  · rw [if_neg h0, beq_eq_false_iff_ne.2 h0]
    simp only [Bool.not_false, Bool.true_or, Bool.true_and]
    by_cases h1 : 0 < o
    · rw [decide_eq_true h1, decide_eq_true (p := 0 ≤ o) (by omega)]
    · rw [decide_eq_false h1, decide_eq_false (p := 0 ≤ o) (by omega)]
theorem rL_cv (l : L1) : rL (l.map cv) = listR l := by
  unfold rL listR
  rw [List.length_map, List.all_map, show (rC ∘ cv) = cR from funext rC_cv]
theorem rR_cvR (r : L2) : rR (cvR r) = rangeR r := by
  unfold rR rangeR cvR
  rw [List.length_map, List.all_map, show (rL ∘ fun l => l.map cv) = listR from funext rL_cv, Bool.and_comm]

end Go.Proofs.YtckeeefeiljamaaGreatDoor
