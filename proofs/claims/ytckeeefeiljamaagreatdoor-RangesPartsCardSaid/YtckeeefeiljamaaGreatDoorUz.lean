/- A range as the document has it: words. -/
import Derived.Test.YtckeeefeiljamaaGreatDoorXJ
set_option linter.unusedSimpArgs false
set_option linter.unusedVariables false
namespace Go.Proofs.YtckeeefeiljamaaGreatDoor
open Go.RowKit Go.Proofs.YtckeeefeiljamaaGreatDoorW.PrintWords PRan

abbrev M1 := List S53
abbrev M2 := List (List S53)
def cv (x : S48) : S53 := ⟨x.f0, ⟨x.f1.f0, x.f1.f1, x.f1.f2, x.f1.f3⟩⟩
def cvR (r : L2) : M2 := r.map (fun l => l.map cv)
theorem cvR_len (r : L2) : (cvR r).length = r.length := by unfold cvR; rw [List.length_map]
theorem drop_at {α : Type} (l : List α) (z : α) (j : Nat) (h : j < l.length) : l.drop j = l.getD j z :: l.drop (j + 1) := by
  rw [List.drop_eq_getElem_cons h, List.getD_eq_getElem?_getD, List.getElem?_eq_getElem h]; rfl
theorem getD_mem' {α : Type} {l : List α} {z : α} {j : Nat} (h : j < l.length) : l.getD j z ∈ l := by
  rw [List.getD_eq_getElem?_getD, List.getElem?_eq_getElem h]; exact List.getElem_mem _
theorem rd7_at (r : M2) (j : Nat) : rd_L4 r (j : Int) = r.getD j [] := by unfold rd_L4; rw [Int.toNat_natCast]
theorem rd53_at (l : M1) (j : Nat) : rd_T53 l (j : Int) = l.getD j z53 := by unfold rd_T53; rw [Int.toNat_natCast]
theorem rd4_at (r : L2) (j : Nat) : rd_L7 r (j : Int) = r.getD j [] := by unfold rd_L7; rw [Int.toNat_natCast]
theorem rd48_at (l : L1) (j : Nat) : rd_T48 l (j : Int) = l.getD j z48 := by unfold rd_T48; rw [Int.toNat_natCast]
theorem wrap_succ (j n : Nat) (h : j < n) (hn : n ≤ 9223372036854775806) : wrap64 ((j : Int) + 1) = ((j + 1 : Nat) : Int) := by rw [wrap_id (by omega)]; omega

theorem rrs (a b c : Int) (p : ByteArray) (h : tiny p) : slipwayref01_Version_Right.f a b c p = some (rightB a b c p) := by unfold slipwayref01_Version_Right.f; rw [if_pos h]
def tinyM (r : M2) : Prop := ∀ l ∈ r, ∀ x ∈ l, tiny x.f1.f3
theorem tinyM_cv {r : L2} (h : tinyR r) : tinyM (cvR r) := by
  intro l hl x hx
  obtain ⟨l', h1, rfl⟩ := List.mem_map.1 hl
  obtain ⟨x', h2, rfl⟩ := List.mem_map.1 hx
  exact h l' h1 x' h2
theorem rangeR_parts {r : L2} (h : rangeR r = true) : r.length ≤ 8 ∧ 1 ≤ r.length ∧ ∀ l ∈ r, 1 ≤ l.length ∧ l.length ≤ 8 ∧ ∀ c ∈ l, cR c = true := by
  unfold rangeR sizedB at h
  simp only [Bool.and_eq_true, decide_eq_true_eq, List.all_eq_true] at h
  refine ⟨h.2.2, h.2.1, fun l hl => ?_⟩
  have := h.1 l hl
  unfold listR sizedB at this
  simp only [Bool.and_eq_true, decide_eq_true_eq, List.all_eq_true] at this
  exact ⟨this.1.1, this.1.2, this.2⟩
end Go.Proofs.YtckeeefeiljamaaGreatDoor
