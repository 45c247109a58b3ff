/- Words of the laws of ranges. -/
import Derived.Test.YtckeeefeiljamaaGreatDoorUz
set_option linter.unusedSimpArgs false
set_option linter.unusedVariables false
namespace Go.Proofs.YtckeeefeiljamaaGreatDoor
open Go.RowKit Go.Proofs.YtckeeefeiljamaaGreatDoorW.PrintWords PRan

theorem anchor_some : slipwaylaw02_anchor.f = some true := rfl
theorem hasR_some (r : L2) (x y z : Int) (q : ByteArray) (h : tinyR r) (hq : tiny q) : ranges_Range_Has.f r x y z q = some (rangeH r x y z q) := by
  unfold ranges_Range_Has.f; rw [if_pos ⟨tinyB_iff.2 h, hq⟩]
theorem parseR_some (s : ByteArray) (h : tiny s) : ranges_Parse.f s = some (parseR s) := by unfold ranges_Parse.f; rw [if_pos h]
theorem joinC_len (c : UInt8) : ∀ l : List ByteArray, (∀ p ∈ l, p.size ≤ 10) → (joinC c l).length ≤ 11 * l.length := by
  intro l
  induction l with
  | nil => intro _; simp [joinC]
  | cons p l ih =>
    intro h
    have h1 := h p List.mem_cons_self
    have h2 := ih (fun q hq => h q (List.mem_cons_of_mem _ hq))
    cases l with
    | nil => simp only [joinC, data_length, List.length_cons, List.length_nil]; omega
    | cons q l' =>
      rw [joinC_cons _ _ _ (by simp), List.length_append, List.length_cons, data_length, List.length_cons]
      omega
theorem pre_size {p : ByteArray} (h : preO p = true) : p.size ≤ 44 := by
  unfold preO at h
  rw [Bool.or_eq_true] at h
  rcases h with h | h
  · have := (size_nil p).1 (List.isEmpty_iff.1 h); omega
  · unfold preB at h
    rw [Bool.and_eq_true, List.all_eq_true] at h
    have h4 := of_decide_eq_true h.1
    have hj := join_pieces 46 _ p rfl
    change joinC 46 (pieces dot p) = _ at hj
    have hl := joinC_len 46 (pieces dot p) (fun q hq => by
      have := h.2 q hq
      unfold markL at this
      simp only [Bool.and_eq_true, decide_eq_true_eq, data_length] at this
      omega)
    rw [hj, data_length] at hl
    omega
theorem right_pre {r : L2} (h : rangeR r = true) : ∀ l ∈ r, ∀ x ∈ l, x.f1.f3.size ≤ 44 := by
  intro l hl x hx
  have := ((rangeR_parts h).2.2 l hl).2.2 x hx
  unfold cR compR at this
  split at this
  · simp only [Bool.and_eq_true, beq_iff_eq] at this
    have := (size_nil _).1 this.2.2.2; omega
  · simp only [Bool.and_eq_true] at this
    exact pre_size (rightB_iff.1 this.2.2).2.2.2
end Go.Proofs.YtckeeefeiljamaaGreatDoor
