/- The reference's mark, Cut, Pre, Right and Parse. -/
import Derived.Test.YtkilaemngejplaaDoorQa
set_option linter.unusedSimpArgs false
set_option linter.unusedVariables false
namespace Go.Proofs.YtkilaemngejplaaDoor
open Go.RowKit Go.Proofs.YtkilaemngejplaaDoorW.PrintWords PSem

def markP (p : ByteArray) : Bool := markL p.data.toList

/-! ### mark -/
theorem mark_l0 (s : ByteArray) (h6 : s.size ≤ 10) (h1 : 1 ≤ s.size) : ∀ (d j : Nat), j + d = s.size → (∀ i, i < j → okB (b8 s i).toNat = true) →
    E (fun k => slipwayref01_mark.l0 k s ((s.data.toList.take j).all isDig) (j : Int)) (markP s) := by
  have hl := data_length s
  intro d
  induction d with
  | zero =>
    intro j hj ha
    obtain rfl : j = s.size := by omega
    rw [List.take_of_length_le (by omega)]
    refine E.step ?_
    simp only [slipwayref01_mark.l0]
    refine E.ite_neg (by omega) (E.bind (Number_E s) ?_)
    have e1 : s.data.toList.isEmpty = false := by rw [← Bool.not_eq_true, List.isEmpty_iff, ← List.length_eq_zero_iff]; omega
    have e2 : decide (s.data.toList.length ≤ 10) = true := by rw [hl]; simp; omega
    have e3 : s.data.toList.all (fun b => okB b.toNat) = true := (all_b8 _ s).2 ha
    have hm : markP s = (!(s.data.toList.all isDig) || numP s) := by unfold markP markL numP; rw [e1, e2, e3]; rfl
    cases hn : numP s with
    | true =>
      have e : numO s = (valP s, true) := by unfold numO; rw [if_pos hn]
      rw [e]; refine E.ite_pos rfl ?_; rw [hm, hn, Bool.or_true]; exact E.some _
    | false =>
      have e : numO s = (0, false) := by unfold numO; rw [if_neg (by rw [hn]; simp)]
      rw [e]; refine E.ite_neg (fun h => by cases h) ?_; rw [hm, hn, Bool.or_false]; exact E.some _
  | succ d ih =>
    intro j hj ha
    have hjs : j < s.size := by omega
    refine E.step ?_
    simp only [slipwayref01_mark.l0]
    refine E.ite_pos (by omega) (E.ite_pos (by omega) ?_)
    rw [bt_b8 s j hjs]
    refine E.bindc (digit_b _) ?_
    have hstep := take_b8 s j hjs
    have hnext : okB (b8 s j).toNat = true → ∀ i, i < j + 1 → okB (b8 s i).toNat = true := fun h i hi => by
      by_cases e : i = j
      · rw [e]; exact h
      · exact ha i (by omega)
    have hbad : okB (b8 s j).toNat = false → markP s = false := fun h => by
      have : s.data.toList.all (fun b => okB b.toNat) = false := by
        rw [← Bool.not_eq_true]; intro h2
        have := (all_b8 _ s).1 h2 j hjs
        rw [h] at this; cases this
      unfold markP markL; rw [this]; simp only [Bool.and_false, Bool.false_and]
    refine E.ite (fun hd => ?_) (fun hd => ?_)
    · have hd' := (isDig_iff _).1 hd
      have e : (s.data.toList.take j).all isDig = (s.data.toList.take (j + 1)).all isDig := by rw [hstep, List.all_append]; simp [hd]
      rw [e, wrap_id (by omega)]
      exact ih (j + 1) (by omega) (hnext (by simp [okB]; omega))
    · have hd' : ¬ (48 ≤ (b8 s j).toNat ∧ (b8 s j).toNat ≤ 57) := fun h => hd ((isDig_iff _).2 h)
      refine E.ite (fun h => ?_) (fun h => E.ite (fun h2 => ?_) (fun h2 => ?_))
      · rw [hbad (by simp [okB]; omega)]; exact E.some _
      · rw [hbad (by simp [okB]; omega)]; exact E.some _
      · have e : false = (s.data.toList.take (j + 1)).all isDig := by rw [hstep, List.all_append]; simp [hd]
        rw [e, wrap_id (by omega)]
        exact ih (j + 1) (by omega) (hnext (by simp [okB]; omega))
theorem mark_E (s : ByteArray) : E (fun k => slipwayref01_mark.f k s) (markP s) := by
  have hl := data_length s
  unfold slipwayref01_mark.f
  refine E.ite (fun h => ?_) (fun h => ?_)
  · refine E.step ?_
    simp only [slipwayref01_mark.j0]
    refine E.ite_pos (by trivial) ?_
    have : markP s = false := by unfold markP; rw [List.eq_nil_of_length_eq_zero (hl.trans (by omega))]; rfl
    rw [this]; exact E.some _
  · refine E.step ?_
    simp only [slipwayref01_mark.j0]
    refine E.ite (fun h6 => ?_) (fun h6 => ?_)
    · have h6 : s.size > 10 := by simp at h6; omega
      have : markP s = false := by
        unfold markP markL
        have : decide (s.data.toList.length ≤ 10) = false := by rw [hl]; simp; omega
        rw [this]; simp only [Bool.and_false, Bool.false_and]
      rw [this]; exact E.some _
    · have h6 : s.size ≤ 10 := by simp at h6; omega
      exact mark_l0 s h6 (by omega) s.size 0 (by omega) (fun i hi => absurd hi (Nat.not_lt_zero _))

/-! ### Cut -/
def one (c : UInt8) : ByteArray := ⟨#[c]⟩
theorem ext_data (s : ByteArray) (a b : Nat) : (s.extract a b).data.toList = (s.data.toList.take b).drop a := by
  simp [ByteArray.data_extract, List.extract_eq_take_drop, List.drop_take]
theorem occ_one (l : List UInt8) (c : UInt8) (j : Nat) : Lib.occAt l [c] j = decide (l[j]? = some c) := by
  unfold Lib.occAt
  cases h : l.drop j with
  | nil =>
    have : l[j]? = none := by rw [List.getElem?_eq_none_iff]; exact List.drop_eq_nil_iff.1 h
    rw [this]; rfl
  | cons x t =>
    have : l[j]? = some x := by have := congrArg (·[0]?) h; simpa using this
    rw [this]
    simp [List.isPrefixOf]
    rw [Bool.eq_iff_iff]; simp; exact eq_comm
theorem ext_at (s : ByteArray) (a j : Nat) : (s.extract a s.size).data.toList[j]? = s.data.toList[a + j]? := by
  rw [ext_data, List.take_of_length_le (by rw [data_length]; exact Nat.le_refl _), List.getElem?_drop]
theorem b8_get (s : ByteArray) (j : Nat) (h : j < s.size) : s.data.toList[j]? = some (b8 s j) := by
  have h2 : j < s.data.toList.length := by rw [data_length]; exact h
  unfold b8; rw [List.getD_eq_getElem?_getD, List.getElem?_eq_getElem h2]; rfl
theorem indexB_one (s : ByteArray) (c : UInt8) (a i : Nat) (hai : a ≤ i) (hi : i < s.size) (hc : b8 s i = c) (hno : ∀ j, a ≤ j → j < i → b8 s j ≠ c) : Lib.indexB (s.extract a s.size) (one c) = ((i - a : Nat) : Int) := by
  show Lib.index _ [c] = _
  refine Lib.index_first ?_ ?_ ?_
  · rw [ext_data, List.length_drop, List.length_take, data_length]; omega
  · rw [occ_one, ext_at, b8_get s _ (by omega)]
    rw [show a + (i - a) = i by omega, hc]; simp
  · intro j hj
    rw [occ_one, ext_at, b8_get s _ (by omega)]
    simp; exact hno _ (by omega) (by omega)
theorem indexB_none (s : ByteArray) (c : UInt8) (a : Nat) (hno : ∀ j, a ≤ j → j < s.size → b8 s j ≠ c) : Lib.indexB (s.extract a s.size) (one c) = -1 := by
  show Lib.index _ [c] = _
  refine Lib.index_none ?_
  intro j _
  rw [occ_one, ext_at]
  by_cases h : a + j < s.size
  · rw [b8_get s _ h]; simp; exact hno _ (by omega) h
  · rw [List.getElem?_eq_none_iff.2 (by rw [data_length]; omega)]; rfl
theorem ext_ext (s : ByteArray) (a b c d : Nat) (h0 : a ≤ b) (h : d ≤ b - a) : (s.extract a b).extract c d = s.extract (a + c) (a + d) := by
  apply ByteArray.ext; apply Array.ext'
  rw [ext_data, ext_data, ext_data, List.take_drop, List.drop_drop, List.take_take]
  congr 2
  omega
theorem Cut_l0 (s : ByteArray) (c : UInt8) (hs : s.size < 4294967281) : ∀ (d i a : Nat) (out : List ByteArray), i + d = s.size → a ≤ i → out.length ≤ a → (∀ j, a ≤ j → j < i → b8 s j ≠ c) →
    E (fun k => slipwayref01_Cut.l0 k s (c.toNat : Int) out (a : Int) (i : Int)) (out ++ pieces (one c) (s.extract a s.size)) := by
  have h1 : 1 ≤ (one c).size := by show 1 ≤ 1; omega
  intro d
  induction d with
  | zero =>
    intro i a out hi ha ho hno
    obtain rfl : i = s.size := by omega
    refine E.step ?_
    simp only [slipwayref01_Cut.l0]
    refine E.ite_neg (by omega) (E.ite_pos (by omega) (E.ite_pos (by omega) (E.ite_pos (by omega) ?_)))
    rw [pieces_miss _ _ (indexB_none s c a hno), Int.toNat_natCast]
    exact E.some _
  | succ d ih =>
    intro i a out hi ha ho hno
    have his : i < s.size := by omega
    refine E.step ?_
    simp only [slipwayref01_Cut.l0]
    refine E.ite_pos (by omega) (E.ite_pos (by omega) ?_)
    rw [bt_b8 s i his]
    refine E.ite (fun hc => ?_) (fun hc => ?_)
    · have hc : b8 s i = c := by rw [← UInt8.toNat_inj]; omega
      refine E.ite_pos (by omega) (E.ite_pos (by omega) (E.ite_pos (by omega) (E.ite_pos (by omega) ?_)))
      have hsz : (s.extract a s.size).size = s.size - a := by rw [ByteArray.size_extract]; omega
      have hp := pieces_hit (one c) (s.extract a s.size) h1 (i - a) (indexB_one s c a i ha his hc hno)
      rw [hsz, ext_ext _ _ _ _ _ (by omega) (by omega), ext_ext _ _ _ _ _ (by omega) (by omega)] at hp
      rw [show a + 0 = a by omega, show a + (i - a) = i by omega, show a + (i - a + (one c).size) = i + 1 by show a + (i - a + 1) = i + 1; omega, show a + (s.size - a) = s.size by omega] at hp
      rw [hp, wrap_id (by omega)]
      have := ih (i + 1) (i + 1) (out ++ [s.extract a i]) (by omega) (Nat.le_refl _) (by simp; omega) (fun j h1 h2 => absurd h2 (by omega))
      rw [List.append_assoc, List.singleton_append] at this
      exact this
    · rw [wrap_id (by omega)]
      exact ih (i + 1) a out (by omega) (by omega) ho (fun j hj1 hj2 => by
        by_cases e : j = i
        · subst e; intro h; exact hc (by rw [h])
        · exact hno j hj1 (by omega))
theorem ext_all (s : ByteArray) : s.extract 0 s.size = s := by
  apply ByteArray.ext; apply Array.ext'
  rw [ext_data, List.drop_zero, List.take_of_length_le (by rw [data_length]; exact Nat.le_refl _)]
theorem Cut_E (s : ByteArray) (c : UInt8) (hs : s.size < 4294967281) : E (fun k => slipwayref01_Cut.f k s (c.toNat : Int)) (pieces (one c) s) := by
  unfold slipwayref01_Cut.f
  have := Cut_l0 s c hs s.size 0 0 [] (by omega) (Nat.le_refl _) (Nat.le_refl _) (fun j _ h => absurd h (Nat.not_lt_zero _))
  rw [ext_all, List.nil_append] at this
  exact this

/-! ### Pre -/
/-- What is a Pre. -/
def preO (s : ByteArray) : Bool := s.toList.isEmpty || preB s
theorem Pre_l0 (l : List ByteArray) (hl : l.length ≤ 4) : ∀ (d j : Nat), j + d = l.length → (l.take j).all markP = true → E (fun k => slipwayref01_Pre.l0 k l (j : Int)) (l.all markP) := by
  intro d
  induction d with
  | zero =>
    intro j hj ha
    obtain rfl : j = l.length := by omega
    rw [List.take_of_length_le (Nat.le_refl _)] at ha
    refine E.step ?_
    simp only [slipwayref01_Pre.l0]
    refine E.ite_neg (by omega) ?_
    rw [ha]; exact E.some _
  | succ d ih =>
    intro j hj ha
    have hjl : j < l.length := by omega
    refine E.step ?_
    simp only [slipwayref01_Pre.l0]
    refine E.ite_pos (by omega) (E.ite_pos (by omega) (E.bind (mark_E _) ?_))
    have hr : rdOf ByteArray.empty l (j : Int) = l[j] := by
      unfold rdOf; rw [Int.toNat_natCast, List.getD_eq_getElem?_getD, List.getElem?_eq_getElem hjl]; rfl
    rw [hr]
    refine E.ite (fun hm => ?_) (fun hm => ?_)
    · rw [wrap_id (by omega)]
      exact ih (j + 1) (by omega) (by rw [List.take_succ_eq_append_getElem hjl, List.all_append, ha]; simp [hm])
    · have : l.all markP = false := by
        rw [← Bool.not_eq_true, List.all_eq_true]; intro h; exact hm (h _ (List.getElem_mem hjl))
      rw [this]; exact E.some _
theorem Pre_E (s : ByteArray) (hs : s.size < 4294967281) : E (fun k => slipwayref01_Pre.f k s) (preO s) := by
  unfold slipwayref01_Pre.f
  refine E.ite (fun h => ?_) (fun h => ?_)
  · have : preO s = true := by unfold preO; rw [h]; rfl
    rw [this]; exact E.some _
  · refine E.bind (Cut_E s 46 hs) ?_
    have e : pieces (one 46) s = pieces dot s := rfl
    rw [e]
    have hp : preO s = preB s := by
      unfold preO
      have : s.toList.isEmpty = false := by simpa using h
      rw [this, Bool.false_or]
    rw [hp]
    refine E.ite (fun h4 => ?_) (fun h4 => ?_)
    · have : decide ((pieces dot s).length ≤ 4) = false := by simp; omega
      unfold preB; rw [this, Bool.false_and]; exact E.some _
    · have : decide ((pieces dot s).length ≤ 4) = true := by simp; omega
      unfold preB; rw [this, Bool.true_and]
      exact Pre_l0 _ (by omega) (pieces dot s).length 0 (by omega) rfl
end Go.Proofs.YtkilaemngejplaaDoor
