/- semver.number and semver.mark as functions of lists of bytes. -/
import Derived.Test.YtkilaemngejplaaDoorGb
set_option linter.unusedSimpArgs false
set_option linter.unusedVariables false
namespace Go.Proofs.YtkilaemngejplaaDoor
open Go.RowKit Go.Proofs.YtkilaemngejplaaDoorW.PrintWords Go.Proofs.YtkilaemngejplaaDoorW.PrintLast

def isDig (b : UInt8) : Bool := decide (48 ≤ b.toNat) && decide (b.toNat ≤ 57)
def numL (l : List UInt8) : Bool := !l.isEmpty && decide (l.length ≤ 6) && !(decide (l.head? = some 48) && decide (l.length ≠ 1)) && l.all isDig
def markL (l : List UInt8) : Bool := !l.isEmpty && decide (l.length ≤ 10) && l.all (fun b => okB b.toNat) && (!(l.all isDig) || numL l)

theorem digits_contains (b : UInt8) : digits.data.toList.contains b = isDig b := by
  have h : ∀ n : Fin 256, digits.data.toList.contains (UInt8.ofNat n.1) = isDig (UInt8.ofNat n.1) := by decide +kernel
  have := h ⟨b.toNat, b.toNat_lt⟩
  simpa using this
theorem dropWhile_nil {α : Type} (p : α → Bool) (l : List α) : (l.dropWhile p = []) ↔ l.all p = true := by
  induction l with
  | nil => simp
  | cons x l ih =>
    by_cases h : p x = true
    · simp [List.dropWhile_cons, h, ih]
    · simp [List.dropWhile_cons, h]
theorem all_of_dropWhile {α : Type} (p : α → Bool) (l : List α) (h : (l.dropWhile p).all p = true) : l.all p = true := by
  induction l with
  | nil => rfl
  | cons x l ih =>
    by_cases hx : p x = true
    · rw [List.dropWhile_cons, if_pos hx] at h
      simp [hx]; simpa using ih h
    · rw [List.dropWhile_cons, if_neg hx] at h
      exact h
theorem trim_nil (l : List UInt8) : (Lib.trimS l digits.data.toList = []) ↔ l.all isDig = true := by
  have hf : (fun b => digits.data.toList.contains b) = isDig := funext digits_contains
  unfold Lib.trimS Lib.trimLeftS Lib.trimRightS
  rw [hf, dropWhile_nil]
  constructor
  · intro h
    rw [List.all_reverse] at h
    have := all_of_dropWhile isDig l.reverse h
    rwa [List.all_reverse] at this
  · intro h
    have h2 : l.reverse.dropWhile isDig = [] := (dropWhile_nil _ _).2 (by rw [List.all_reverse]; exact h)
    rw [h2]; rfl
theorem trim_some (s : ByteArray) (h : s.size ≤ 9223372036854775807) : strings_Trim.f s digits = some (toBytes (Lib.trimS s.data.toList digits.data.toList)) := by
  unfold strings_Trim.f; rw [if_pos ⟨h, by decide, by decide⟩]
theorem toBytes_toList (l : List UInt8) : (toBytes l).toList = l := by rw [ba_toList]; simp [toBytes]
theorem trim_empty (s : ByteArray) : ((toBytes (Lib.trimS s.data.toList digits.data.toList)).toList == ([] : List UInt8)) = s.data.toList.all isDig := by
  rw [toBytes_toList, Bool.eq_iff_iff, beq_iff_eq, trim_nil]

theorem bt_zero (s : ByteArray) (h : 0 < s.size) : bt s 0 = ((s.data.toList.getD 0 0).toNat : Int) := by
  unfold bt
  have : (0 : Int).toNat < s.size := by simpa using h
  rw [dif_pos this]
  have h2 : 0 < s.data.toList.length := by rw [data_length]; exact h
  simp [List.getD_eq_getElem?_getD, List.getElem?_eq_getElem h2]
  rfl

theorem number_some (s : ByteArray) : PNum.semver_number.f s = some (numL s.data.toList) := by
  unfold PNum.semver_number.f
  have hd : (⟨#[48, 49, 50, 51, 52, 53, 54, 55, 56, 57]⟩ : ByteArray) = digits := rfl
  rw [hd, ba_toList]
  have hl := data_length s
  by_cases h0 : s.data.toList = []
  · rw [if_pos h0, h0]; rfl
  rw [if_neg h0]
  have hpos : 0 < s.size := by rw [← hl]; exact List.length_pos_iff.2 h0
  by_cases h6 : (s.size : Int) > 6
  · rw [if_pos h6]
    have : decide (s.data.toList.length ≤ 6) = false := by rw [hl]; simp; omega
    unfold numL; rw [this]; simp only [Bool.and_false, Bool.false_and]
  rw [if_neg h6, if_pos (by omega), trim_some s (by omega)]
  simp only [Option.bind_some, trim_empty, bt_zero s hpos]
  generalize hL : s.data.toList = l at *
  have hle : decide (l.length ≤ 6) = true := by simp; omega
  cases l with
  | nil => exact absurd rfl h0
  | cons b t =>
    have hb : (b.toNat = 48) ↔ b = 48 := ⟨fun h => by rw [← UInt8.toNat_inj]; exact h, fun h => by rw [h]; rfl⟩
    have hgd : (((b :: t).getD 0 0).toNat : Int) = (b.toNat : Int) := rfl
    rw [hgd]
    by_cases h48 : b = 48
    · rw [if_pos (by rw [h48]; rfl)]
      subst h48
      by_cases ht : t = []
      · subst ht; rw [if_pos rfl]; simp [numL]
      · rw [if_neg (by simpa using ht)]
        simp [numL, ht]
    · rw [if_neg (fun h => h48 (hb.1 (by omega)))]
      simp only [numL, hle]
      simp [h48]

theorem allOk_iff (s : ByteArray) : allOk s ↔ s.data.toList.all (fun b => okB b.toNat) = true := by
  unfold allOk at8
  rw [List.all_eq_true]
  constructor
  · intro h b hb
    obtain ⟨j, hj, rfl⟩ := List.mem_iff_getElem.1 hb
    have := h j (by rw [← data_length]; exact hj)
    rwa [List.getD_eq_getElem?_getD, List.getElem?_eq_getElem hj] at this
  · intro h j hj
    have hj' : j < s.data.toList.length := by rw [data_length]; exact hj
    rw [List.getD_eq_getElem?_getD, List.getElem?_eq_getElem hj']
    exact h _ (List.getElem_mem hj')

theorem mark_any (s : ByteArray) (w : World) :
    Calls Tryd.prog 42 #[.string s] w fun e w' => e = .returned (.bool (markL s.data.toList)) ∧ Below w.heap.size w w' := by
  have hl := data_length s
  by_cases h : s.size = 0 ∨ 10 < s.size
  · refine (mark_off s h w).mono fun e w' ⟨he, hb⟩ => ⟨?_, hb⟩
    have : markL s.data.toList = false := by
      rcases h with h | h
      · rw [List.eq_nil_of_length_eq_zero (hl.trans h)]; rfl
      · have : decide (s.data.toList.length ≤ 10) = false := by rw [hl]; simp; omega
        unfold markL; rw [this]; simp only [Bool.and_false, Bool.false_and]
    rw [this]; exact he
  · refine (mark_loop s (by omega) (by omega) w _ _ (trim_some s (by omega)) (number_some s)).mono fun e w' ⟨b, ⟨he, hb⟩, hc⟩ => ⟨?_, hb⟩
    rw [he]
    congr 2
    have hne : s.data.toList.isEmpty = false := by
      rw [← Bool.not_eq_true, List.isEmpty_iff, ← List.length_eq_zero_iff]; omega
    have hle : decide (s.data.toList.length ≤ 10) = true := by rw [hl]; simp; omega
    rcases hc with ⟨ha, rfl⟩ | ⟨ha, rfl⟩
    · have e : ((toBytes (Lib.trimS s.data.toList digits.data.toList)).toList != ([] : List UInt8)) = !(s.data.toList.all isDig) := by rw [bne, trim_empty]
      rw [e]; simp only [markL, hne, hle, (allOk_iff s).1 ha]; simp
    · have : s.data.toList.all (fun b => okB b.toNat) = false := by rw [← Bool.not_eq_true]; exact fun h => ha ((allOk_iff s).2 h)
      simp only [markL, this]; simp
end Go.Proofs.YtkilaemngejplaaDoor
