/- Right, by the program and by the reference; the reference's Parse is the program's. -/
import Derived.Test.YtkilaemngejplaaDoorQb
import Derived.Test.YtkilaemngejplaaDoorPSemx8
set_option linter.unusedSimpArgs false
set_option linter.unusedVariables false
namespace Go.Proofs.YtkilaemngejplaaDoor
open Go.RowKit Go.Proofs.YtkilaemngejplaaDoorW.PrintWords PSem

def inN (n : Int) : Bool := decide (0 ≤ n) && decide (n ≤ 999999)
/-- What is a version. -/
def rightB (a b c : Int) (p : ByteArray) : Bool := inN a && (inN b && (inN c && preO p))
theorem inN_t {n : Int} (h0 : 0 ≤ n) (h1 : n ≤ 999999) : inN n = true := by simp [inN, h0, h1]
theorem inN_f0 {n : Int} (h0 : ¬ 0 ≤ n) : inN n = false := by simp [inN]; omega
theorem inN_f1 {n : Int} (h0 : ¬ n ≤ 999999) : inN n = false := by simp [inN]; omega
theorem refRight_E (a b c : Int) (p : ByteArray) (hs : p.size < 4294967281) : E (fun k => slipwayref01_Version_Right.f k a b c p) (rightB a b c p) := by
  unfold slipwayref01_Version_Right.f rightB
  refine E.ite (fun h1 => E.ite (fun h2 => ?_) (fun h2 => ?_)) (fun h1 => ?_)
  · rw [inN_t h1 h2, Bool.true_and]
    refine E.ite (fun h1 => E.ite (fun h2 => ?_) (fun h2 => ?_)) (fun h1 => ?_)
    · rw [inN_t h1 h2, Bool.true_and]
      refine E.ite (fun h1 => E.ite (fun h2 => ?_) (fun h2 => ?_)) (fun h1 => ?_)
      · rw [inN_t h1 h2, Bool.true_and]
        exact E.bind (Pre_E p hs) (E.some _)
      · rw [inN_f1 h2, Bool.false_and]; exact E.some _
      · rw [inN_f0 h1, Bool.false_and]; exact E.some _
    · rw [inN_f1 h2, Bool.false_and]; exact E.some _
    · rw [inN_f0 h1, Bool.false_and]; exact E.some _
  · rw [inN_f1 h2, Bool.false_and]; exact E.some _
  · rw [inN_f0 h1, Bool.false_and]; exact E.some _

theorem Right_end (l : List Int) (hl : l.length = 3) (x y z : Int) (p : ByteArray) (hs : p.size < 4294967281) : E (fun k => semver_Version_Right.l0 k l 3 3 x y z p) (preO p) := by
  refine E.step ?_
  simp only [semver_Version_Right.l0]
  refine E.ite_neg (by omega) (E.ite (fun h => ?_) (fun h => ?_))
  · have : preO p = true := by unfold preO; rw [h]; rfl
    rw [this]; exact E.some _
  · have hp : preO p = preB p := by
      unfold preO
      have : p.toList.isEmpty = false := by simpa using h
      rw [this, Bool.false_or]
    refine E.bindc (x := preB p) (by unfold semver_pre.f; rw [if_pos hs]) ?_
    rw [hp]; exact E.some _
theorem Right_round (l : List Int) (hl : l.length = 3) (j : Nat) (hj : j < 3) (x y z : Int) (p : ByteArray) (r : Bool) (hn : E (fun k => semver_Version_Right.l0 k l 3 ((j + 1 : Nat) : Int) x y z p) r) :
    E (fun k => semver_Version_Right.l0 k l 3 (j : Int) x y z p) (inN (l.getD j 0) && r) := by
  refine E.step ?_
  simp only [semver_Version_Right.l0]
  have hr : rd l (j : Int) = l.getD j 0 := by unfold rd; rw [Int.toNat_natCast]
  refine E.ite_pos (by omega) (E.ite_pos (by omega) (E.ite_pos (by omega) ?_))
  rw [hr]
  refine E.ite (fun h => ?_) (fun h => E.ite (fun h2 => ?_) (fun h2 => ?_))
  · rw [inN_f0 (by omega), Bool.false_and]; exact E.some _
  · rw [inN_f1 (by omega), Bool.false_and]; exact E.some _
  · rw [inN_t (by omega) (by omega), Bool.true_and, wrap_id (by omega)]
    exact hn
theorem Right_E (a b c : Int) (p : ByteArray) (hs : p.size < 4294967281) : E (fun k => semver_Version_Right.f k a b c p) (rightB a b c p) := by
  unfold semver_Version_Right.f rightB
  have h3 := Right_end [a, b, c] rfl a b c p hs
  have h2 := Right_round [a, b, c] rfl 2 (by omega) a b c p _ h3
  have h1 := Right_round [a, b, c] rfl 1 (by omega) a b c p _ h2
  have h0 := Right_round [a, b, c] rfl 0 (by omega) a b c p _ h1
  exact h0

/-! ### the bytes of a Pre -/
theorem pieces_bytes : ∀ (n : Nat) (s : ByteArray), s.size = n → s.size < 4294967281 → (pieces dot s).all markP = true → ∀ j, j < s.size → okB (b8 s j).toNat = true ∨ b8 s j = 46 := by
  intro n
  induction n using Nat.strongRecOn with
  | _ n ih =>
    intro s hn hs ha j hj
    by_cases hd : ∃ i, i < s.size ∧ b8 s i = 46
    · -- the first one
      obtain ⟨i, hi, hc, hno⟩ : ∃ i, i < s.size ∧ b8 s i = 46 ∧ ∀ j, 0 ≤ j → j < i → b8 s j ≠ 46 := by
        obtain ⟨i0, hi0⟩ := hd
        induction i0 using Nat.strongRecOn with
        | _ i0 ih2 =>
          by_cases h : ∃ j, j < i0 ∧ b8 s j = 46
          · obtain ⟨j, hj1, hj2⟩ := h; exact ih2 j hj1 ⟨by omega, hj2⟩
          · exact ⟨i0, hi0.1, hi0.2, fun j _ hj e => h ⟨j, hj, e⟩⟩
      have hx := indexB_one s 46 0 i (Nat.zero_le _) hi hc hno
      rw [ext_all, Nat.sub_zero] at hx
      have hp := pieces_hit dot s (by decide) i hx
      rw [hp, List.all_cons, Bool.and_eq_true] at ha
      by_cases h1 : j < i
      · left
        have hm := ha.1
        unfold markP markL at hm
        simp only [Bool.and_eq_true] at hm
        have hall := (all_b8 _ _).1 hm.1.2 j (by rw [ByteArray.size_extract]; omega)
        have e : b8 (s.extract 0 i) j = b8 s j := by
          unfold b8; rw [ext_data, List.drop_zero, List.getD_eq_getElem?_getD, List.getD_eq_getElem?_getD, List.getElem?_take, if_pos h1]
        rwa [e] at hall
      · by_cases h2 : j = i
        · right; rw [h2]; exact hc
        · have hz : (s.extract (i + dot.size) s.size).size = s.size - (i + 1) := by rw [ByteArray.size_extract]; show min s.size s.size - (i + 1) = _; omega
          have := ih (s.size - (i + 1)) (by omega) (s.extract (i + dot.size) s.size) hz (by omega) ha.2 (j - (i + 1)) (by omega)
          have e : b8 (s.extract (i + dot.size) s.size) (j - (i + 1)) = b8 s j := by
            unfold b8
            rw [List.getD_eq_getElem?_getD, List.getD_eq_getElem?_getD, ext_at]
            congr 2
            show i + 1 + (j - (i + 1)) = j
            omega
          rwa [e] at this
    · left
      have hx := indexB_none s 46 0 (fun j _ hj e => hd ⟨j, hj, e⟩)
      rw [ext_all] at hx
      rw [pieces_miss dot s hx, List.all_cons, Bool.and_eq_true] at ha
      have hm := ha.1
      unfold markP markL at hm
      simp only [Bool.and_eq_true] at hm
      exact (all_b8 _ _).1 hm.1.2 j hj
theorem preB_bytes (s : ByteArray) (hs : s.size < 4294967281) (h : preB s = true) (j : Nat) (hj : j < s.size) : okB (b8 s j).toNat = true ∨ b8 s j = 46 := by
  unfold preB at h
  rw [Bool.and_eq_true] at h
  exact pieces_bytes s.size s rfl hs h.2 j hj
theorem preB_empty (s : ByteArray) (h : s.size = 0) : preB s = false := by
  obtain rfl : s = ⟨#[]⟩ := by apply ByteArray.ext; apply Array.ext'; exact List.eq_nil_of_length_eq_zero ((data_length s).trans h)
  have hx := indexB_none ⟨#[]⟩ 46 0 (fun j _ hj e => by cases hj)
  have hp := pieces_miss dot ⟨#[]⟩ hx
  unfold preB
  rw [hp]; rfl
end Go.Proofs.YtkilaemngejplaaDoor
