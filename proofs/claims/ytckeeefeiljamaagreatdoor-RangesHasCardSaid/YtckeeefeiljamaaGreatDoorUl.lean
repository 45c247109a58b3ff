/- plain: a range as the document has it. -/
import Derived.Test.YtckeeefeiljamaaGreatDoorUz
import Derived.Test.YtckeeefeiljamaaGreatDoorPRanf4
set_option linter.unusedSimpArgs false
set_option linter.unusedVariables false
namespace Go.Proofs.YtckeeefeiljamaaGreatDoor
open Go.RowKit Go.Proofs.YtckeeefeiljamaaGreatDoorW.PrintWords PRan

/-! a range, as the document has it -/
def smallL (l : L1) : Bool := decide (l.length ≤ 20) && l.all (fun x => decide (x.f1.f3.size ≤ 100))
def plainOk (r : L2) : Bool := decide (r.length ≤ 20) && r.all smallL
def PlainRes (r : L2) (ok : Bool) (res : M2 × Bool) : Prop := if ok = true then res = (cvR r, true) else res.2 = false
theorem cvR_snoc (r : L2) (i : Nat) (h : i < r.length) : cvR (r.take i) ++ [(r.getD i []).map cv] = cvR (r.take (i + 1)) := by
  unfold cvR
  rw [List.take_succ_eq_append_getElem h, List.map_append, List.getD_eq_getElem?_getD, List.getElem?_eq_getElem h]; rfl
theorem plain_l1 (r : L2) (hr : r.length ≤ 20) (i : Nat) (hi : i < r.length) (hl : (r.getD i []).length ≤ 20) (ok : Bool)
    (hn : ∃ res, E (fun k => slipwaylaw02_plain.l0 k r (r.length : Int) (wrap64 ((i : Int) + 1)) (cvR (r.take (i + 1)))) res ∧ PlainRes r ok res) :
    ∀ (d j : Nat), j + d = (r.getD i []).length → ∃ res, E (fun k => slipwaylaw02_plain.l1 k (((r.getD i []).take j).map cv) r (r.length : Int) (i : Int) (r.getD i []) ((r.getD i []).length : Int) (j : Int) (cvR (r.take i))) res ∧
      PlainRes r (((r.getD i []).drop j).all (fun x => decide (x.f1.f3.size ≤ 100)) && ok) res := by
  intro d
  induction d with
  | zero =>
    intro j hj
    obtain ⟨res, h1, h2⟩ := hn
    refine ⟨res, ?_, ?_⟩
    · refine E.step ?_
      simp only [slipwaylaw02_plain.l1]
      refine E.ite_neg (by omega) (E.ite_pos (by unfold cvR; rw [List.length_map, List.length_take]; omega) ?_)
      rw [List.take_of_length_le (show (r.getD i []).length ≤ j by omega), cvR_snoc _ _ hi]
      exact h1
    · rw [List.drop_eq_nil_of_le (by omega)]; exact h2
  | succ d ih =>
    intro j hj
    obtain ⟨res, h1, h2⟩ := ih (j + 1) (by omega)
    rw [drop_at _ z48 j (by omega), List.all_cons]
    by_cases hs : ((r.getD i []).getD j z48).f1.f3.size ≤ 100
    · refine ⟨res, ?_, by rw [decide_eq_true hs, Bool.true_and]; exact h2⟩
      refine E.step ?_
      simp only [slipwaylaw02_plain.l1, rd48_at]
      refine E.ite_pos (by omega) (E.ite_pos (by omega) (E.ite_pos (by omega) (E.ite_neg (by omega) (E.ite_pos (by rw [List.length_map, List.length_take]; omega) ?_))))
      rw [wrap_succ j 1000 (by omega) (by omega)]
      have e : ((r.getD i []).take (j + 1)).map cv = ((r.getD i []).take j).map cv ++ [cv ((r.getD i []).getD j z48)] := by
        rw [List.take_succ_eq_append_getElem (by omega), List.map_append, List.getD_eq_getElem?_getD (l := r.getD i []), List.getElem?_eq_getElem (show j < (r.getD i []).length by omega)]; rfl
      rw [e] at h1
      exact h1
    · refine ⟨_, ?_, by rw [decide_eq_false hs, Bool.false_and, Bool.false_and]; exact (rfl : ((cvR (r.take i), false) : M2 × Bool).2 = false)⟩
      refine E.step ?_
      simp only [slipwaylaw02_plain.l1, rd48_at]
      exact E.ite_pos (by omega) (E.ite_pos (by omega) (E.ite_pos (by omega) (E.ite_pos (by omega) (E.some _))))
theorem plain_l0 (r : L2) (hr : r.length ≤ 20) : ∀ (d i : Nat), i + d = r.length → ∃ res, E (fun k => slipwaylaw02_plain.l0 k r (r.length : Int) (i : Int) (cvR (r.take i))) res ∧ PlainRes r ((r.drop i).all smallL) res := by
  intro d
  induction d with
  | zero =>
    intro i hi
    refine ⟨(cvR r, true), ?_, ?_⟩
    · refine E.step ?_
      simp only [slipwaylaw02_plain.l0]
      rw [List.take_of_length_le (by omega)]
      exact E.ite_neg (by omega) (E.some _)
    · rw [List.drop_eq_nil_of_le (by omega)]; exact rfl
  | succ d ih =>
    intro i hi
    have hn := ih (i + 1) (by omega)
    rw [← wrap_succ i 1000 (by omega) (by omega)] at hn
    rw [drop_at _ [] i (by omega), List.all_cons]
    by_cases hl : (r.getD i []).length ≤ 20
    · obtain ⟨res, h1, h2⟩ := plain_l1 r hr i (by omega) hl _ hn _ 0 (Nat.zero_add _)
      rw [List.drop_zero] at h2
      refine ⟨res, ?_, by rw [show smallL (r.getD i []) = (r.getD i []).all (fun x => decide (x.f1.f3.size ≤ 100)) by unfold smallL; rw [decide_eq_true hl, Bool.true_and]]; exact h2⟩
      refine E.step ?_
      simp only [slipwaylaw02_plain.l0, rd4_at]
      exact E.ite_pos (by omega) (E.ite_pos (by omega) (E.ite_pos (by omega) (E.ite_neg (by omega) h1)))
    · refine ⟨(cvR (r.take i), false), ?_, by rw [show smallL (r.getD i []) = false by unfold smallL; rw [decide_eq_false hl, Bool.false_and], Bool.false_and]; exact rfl⟩
      refine E.step ?_
      simp only [slipwaylaw02_plain.l0, rd4_at]
      exact E.ite_pos (by omega) (E.ite_pos (by omega) (E.ite_pos (by omega) (E.ite_pos (by omega) (E.some _))))
theorem plain_E (r : L2) : ∃ res, E (fun k => slipwaylaw02_plain.f k r) res ∧ PlainRes r (plainOk r) res := by
  unfold slipwaylaw02_plain.f plainOk
  by_cases h : r.length ≤ 20
  · obtain ⟨res, h1, h2⟩ := plain_l0 r h _ 0 (Nat.zero_add _)
    rw [List.drop_zero] at h2
    refine ⟨res, E.ite_neg (by omega) h1, by rw [decide_eq_true h, Bool.true_and]; exact h2⟩
  · exact ⟨_, E.ite_pos (by omega) (E.some _), by rw [decide_eq_false h, Bool.false_and]; exact rfl⟩
theorem plainOk_tiny {r : L2} (h : plainOk r = true) : tinyR r := by
  intro l hl x hx
  unfold plainOk at h
  rw [Bool.and_eq_true, List.all_eq_true] at h
  have h1 := h.2 l hl
  unfold smallL at h1
  rw [Bool.and_eq_true, List.all_eq_true] at h1
  have h2 := of_decide_eq_true (h1.2 x hx)
  show _ ≤ 1000
  omega

end Go.Proofs.YtckeeefeiljamaaGreatDoor
