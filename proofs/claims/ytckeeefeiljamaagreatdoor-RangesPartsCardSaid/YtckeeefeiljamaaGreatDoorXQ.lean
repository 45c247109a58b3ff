/- Rounds that are enough; bytes; numbers. The reference's mark, Cut, Pre, Right and Parse. Right, by the program and by the reference; the reference's Parse is the program's. The reference's Parse is the program's. The order of versions: bytes, marks, lists of marks. The order of versions is one; the reference's Compare is the program's. A version's text; it is read as the version. semver.Version.Bump: what it answers. semver's functions and the document's, as functions of plain data without rounds, with their contracts. -/
import Derived.Test.YtckeeefeiljamaaGreatDoorXS
import Derived.Test.YtckeeefeiljamaaGreatDoorPSemx3
import Derived.Test.YtckeeefeiljamaaGreatDoorPSemx4
import Derived.Test.YtckeeefeiljamaaGreatDoorXG
import Derived.Lib.ItoaNum
namespace Go.Proofs.YtckeeefeiljamaaGreatDoor.PSem
open Go.RowKit Go.Proofs.YtckeeefeiljamaaGreatDoorW.PrintWords Go.Proofs.YtckeeefeiljamaaGreatDoorW.PrintLast Go.Proofs.YtckeeefeiljamaaGreatDoorW.PrintMore
attribute [local go_sem] max2_int min2_int max_two min_two max_three min_three max_four min_four   -- for this text's walks alone
set_option linter.unusedVariables false
set_option linter.unusedSimpArgs false

end Go.Proofs.YtckeeefeiljamaaGreatDoor.PSem
set_option linter.unusedSimpArgs false
set_option linter.unusedVariables false
namespace Go.Proofs.YtckeeefeiljamaaGreatDoor
open Go.RowKit Go.Proofs.YtckeeefeiljamaaGreatDoorW.PrintWords PSem

/-- With enough rounds g answers r. -/
def E {α : Type} (g : Nat → Option α) (r : α) : Prop := ∃ n, ∀ k, n ≤ k → g k = some r
theorem E.some {α : Type} (r : α) : E (fun _ => Option.some r) r := ⟨0, fun _ _ => rfl⟩
theorem E.of {α : Type} {g : Option α} {r : α} (h : g = Option.some r) : E (fun _ => g) r := ⟨0, fun _ _ => h⟩
theorem E.step {α : Type} {g : Nat → Option α} {r : α} (h : E (fun k => g (k + 1)) r) : E g r := by
  obtain ⟨n, hn⟩ := h
  exact ⟨n + 1, fun k hk => by obtain ⟨m, rfl⟩ : ∃ m, k = m + 1 := ⟨k - 1, by omega⟩; exact hn m (by omega)⟩
theorem E.ite_pos {α : Type} {c : Prop} [Decidable c] {A B : Nat → Option α} {r : α} (hc : c) (h : E A r) : E (fun k => if c then A k else B k) r := by simpa only [if_pos hc] using h
theorem E.ite_neg {α : Type} {c : Prop} [Decidable c] {A B : Nat → Option α} {r : α} (hc : ¬ c) (h : E B r) : E (fun k => if c then A k else B k) r := by simpa only [if_neg hc] using h
theorem E.ite {α : Type} {c : Prop} [Decidable c] {A B : Nat → Option α} {r : α} (h1 : c → E A r) (h2 : ¬ c → E B r) : E (fun k => if c then A k else B k) r := by
  by_cases h : c
  · exact E.ite_pos h (h1 h)
  · exact E.ite_neg h (h2 h)
theorem E.bind {α β : Type} {g : Nat → Option α} {x : α} {h : α → Nat → Option β} {r : β} (hg : E g x) (hh : E (h x) r) : E (fun k => (g k).bind fun y => h y k) r := by
  obtain ⟨n, hn⟩ := hg; obtain ⟨m, hm⟩ := hh
  exact ⟨max n m, fun k hk => by simp only [hn k (by omega), Option.bind_some]; exact hm k (by omega)⟩
theorem E.bindc {α β : Type} {g : Option α} {x : α} {h : α → Nat → Option β} {r : β} (hg : g = Option.some x) (hh : E (h x) r) : E (fun k => g.bind fun y => h y k) r := by
  simpa only [hg, Option.bind_some] using hh
theorem E.ex {α : Type} {g : Nat → Option α} {r : α} (h : E g r) : ∃ k, g k = Option.some r := ⟨h.choose, h.choose_spec _ (Nat.le_refl _)⟩
theorem E.eq {α : Type} {g : Nat → Option α} {r r' : α} (h : E g r) (e : r = r') : E g r' := e ▸ h

theorem wrap_id {z : Int} (h : -9223372036854775808 ≤ z ∧ z ≤ 9223372036854775807) : wrap64 z = z := by unfold wrap64; omega

/-- The byte at a place. -/
def b8 (s : ByteArray) (j : Nat) : UInt8 := s.data.toList.getD j 0
theorem bt_b8 (s : ByteArray) (j : Nat) (h : j < s.size) : bt s (j : Int) = ((b8 s j).toNat : Int) := by
  have h2 : j < s.data.toList.length := by rw [data_length]; exact h
  have : (j : Int).toNat < s.size := by simpa using h
  unfold bt b8
  rw [dif_pos this, List.getD_eq_getElem?_getD, List.getElem?_eq_getElem h2]
  simp only [Int.toNat_natCast, Option.getD_some]
  rfl
theorem b8_mem (s : ByteArray) (j : Nat) (h : j < s.size) : b8 s j ∈ s.data.toList := by
  have h2 : j < s.data.toList.length := by rw [data_length]; exact h
  unfold b8; rw [List.getD_eq_getElem?_getD, List.getElem?_eq_getElem h2]; exact List.getElem_mem _
theorem all_b8 (p : UInt8 → Bool) (s : ByteArray) : s.data.toList.all p = true ↔ ∀ j, j < s.size → p (b8 s j) = true := by
  rw [List.all_eq_true]
  constructor
  · intro h j hj; exact h _ (b8_mem s j hj)
  · intro h b hb
    obtain ⟨j, hj, rfl⟩ := List.mem_iff_getElem.1 hb
    have := h j (by rw [← data_length]; exact hj)
    rwa [b8, List.getD_eq_getElem?_getD, List.getElem?_eq_getElem hj] at this
theorem isDig_iff (b : UInt8) : isDig b = true ↔ 48 ≤ b.toNat ∧ b.toNat ≤ 57 := by simp [isDig]
theorem digit_b (b : UInt8) : slipwayref01_digit.f (b.toNat : Int) = some (isDig b) := by
  unfold slipwayref01_digit.f isDig
  by_cases h : 48 ≤ b.toNat
  · rw [if_pos (by omega)]; simp [h]; omega
  · rw [if_neg (by omega)]; simp [h]

/-! ### Number -/
theorem take_b8 (s : ByteArray) (j : Nat) (h : j < s.size) : s.data.toList.take (j + 1) = s.data.toList.take j ++ [b8 s j] := by
  have h2 : j < s.data.toList.length := by rw [data_length]; exact h
  rw [List.take_succ_eq_append_getElem h2, b8, List.getD_eq_getElem?_getD, List.getElem?_eq_getElem h2]; rfl
theorem decV_snoc (a : Nat) (l : List UInt8) (b : UInt8) : decV a (l ++ [b]) = decV a l * 10 + (b.toNat - 48) := by simp [decV]
theorem decV_lt_acc : ∀ (l : List UInt8) (a : Nat), l.all isDig = true → decV a l < (a + 1) * 10 ^ l.length := by
  intro l
  induction l with
  | nil => intro a _; simp [decV]
  | cons b t ih =>
    intro a h
    simp only [List.all_cons, Bool.and_eq_true] at h
    have hb := (isDig_iff b).1 h.1
    have h1 := ih (a * 10 + (b.toNat - 48)) h.2
    have h2 : (a * 10 + (b.toNat - 48) + 1) * 10 ^ t.length ≤ ((a + 1) * 10) * 10 ^ t.length := Nat.mul_le_mul_right _ (by omega)
    rw [List.length_cons, Nat.pow_succ, Nat.mul_comm (10 ^ t.length) 10, ← Nat.mul_assoc]
    exact Nat.lt_of_lt_of_le h1 h2
theorem decV_lt (l : List UInt8) (h : l.all isDig = true) : decV 0 l < 10 ^ l.length := by have := decV_lt_acc l 0 h; simpa using this
/-- What Number answers. -/
def numO (s : ByteArray) : Int × Bool := if numP s = true then (valP s, true) else (0, false)
theorem Number_l0 (s : ByteArray) (h6 : s.size ≤ 6) (h1 : 1 ≤ s.size) : ∀ (d j : Nat), j + d = s.size → (s.data.toList.take j).all isDig = true →
    E (fun k => slipwayref01_Number.l0 k s (decV 0 (s.data.toList.take j) : Nat) (j : Int)) (numO s) := by
  have hl := data_length s
  intro d
  induction d with
  | zero =>
    intro j hj ha
    obtain rfl : j = s.size := by omega
    rw [List.take_of_length_le (by omega)] at ha ⊢
    refine E.step ?_
    simp only [slipwayref01_Number.l0]
    refine E.ite_neg (by omega) (E.ite_pos (by omega) ?_)
    rw [show (0 : Int) = ((0 : Nat) : Int) from rfl, bt_b8 s 0 (by omega)]
    have hh : s.data.toList.head? = some (b8 s 0) := by
      unfold b8
      cases hL : s.data.toList with
      | nil => rw [hL] at hl; simp at hl; omega
      | cons b t => rfl
    have hn : numP s = !(decide (b8 s 0 = 48) && decide (s.size ≠ 1)) := by
      unfold numP numL
      rw [hh, ha, hl]
      have e1 : s.data.toList.isEmpty = false := by rw [← Bool.not_eq_true, List.isEmpty_iff, ← List.length_eq_zero_iff]; omega
      have e2 : decide (s.size ≤ 6) = true := by simpa using h6
      simp [e1, e2]
    have hb : (((b8 s 0).toNat : Int) = 48) ↔ b8 s 0 = 48 := ⟨fun h => by rw [← UInt8.toNat_inj]; exact Int.ofNat.inj h, fun h => by rw [h]; rfl⟩
    unfold numO
    refine E.ite (fun h48 => E.ite (fun h1 => ?_) (fun h1 => ?_)) (fun h48 => ?_)
    · rw [if_neg (by rw [hn]; simp [hb.1 h48]; omega)]; exact E.some _
    · rw [if_pos (by rw [hn]; simp; exact .inr (by omega))]; exact E.some _
    · rw [if_pos (by rw [hn]; simp; exact .inl (fun h => h48 (hb.2 h)))]; exact E.some _
  | succ d ih =>
    intro j hj ha
    have hjs : j < s.size := by omega
    refine E.step ?_
    simp only [slipwayref01_Number.l0]
    refine E.ite_pos (by omega) (E.ite_pos (by omega) ?_)
    rw [bt_b8 s j hjs]
    refine E.bindc (digit_b _) ?_
    have hstep := take_b8 s j hjs
    refine E.ite (fun hd => ?_) (fun hd => ?_)
    · have hd' := (isDig_iff _).1 hd
      have hlt := decV_lt _ ha
      have hlen : (s.data.toList.take j).length ≤ 5 := by rw [List.length_take]; omega
      have hp : decV 0 (s.data.toList.take j) < 10 ^ 5 := Nat.lt_of_lt_of_le hlt (Nat.pow_le_pow_right (by decide) hlen)
      have e : wrap64 (wrap64 (10 * (decV 0 (s.data.toList.take j) : Int)) + ((((b8 s j).toNat : Int) - 48) % 256)) = ((decV 0 (s.data.toList.take (j + 1)) : Nat) : Int) := by
        have e1 : wrap64 (10 * (decV 0 (s.data.toList.take j) : Int)) = 10 * (decV 0 (s.data.toList.take j) : Int) := wrap_id (by omega)
        have e2 : (((b8 s j).toNat : Int) - 48) % 256 = ((b8 s j).toNat : Int) - 48 := by omega
        rw [hstep, decV_snoc, e1, e2, wrap_id (by omega)]
        omega
      rw [e, wrap_id (by omega)]
      exact ih (j + 1) (by omega) (by rw [hstep, List.all_append, ha]; simp [hd])
    · have : numP s = false := by
        unfold numP numL
        have : s.data.toList.all isDig = false := by
          rw [← Bool.not_eq_true]; intro h
          exact hd ((all_b8 isDig s).1 h j hjs)
        rw [this]; simp
      unfold numO
      rw [this]
      exact E.some _
theorem Number_E (s : ByteArray) : E (fun k => slipwayref01_Number.f k s) (numO s) := by
  have hl := data_length s
  unfold slipwayref01_Number.f
  refine E.ite (fun h => ?_) (fun h => ?_)
  · refine E.step ?_
    simp only [slipwayref01_Number.j0]
    refine E.ite_pos (by trivial) ?_
    have : numP s = false := by unfold numP; rw [List.eq_nil_of_length_eq_zero (hl.trans (by omega))]; rfl
    unfold numO; rw [this]; exact E.some _
  · refine E.step ?_
    simp only [slipwayref01_Number.j0]
    refine E.ite (fun h6 => ?_) (fun h6 => ?_)
    · have h6 : s.size > 6 := by simp at h6; omega
      have : numP s = false := by
        unfold numP numL
        have : decide (s.data.toList.length ≤ 6) = false := by rw [hl]; simp; omega
        rw [this]; simp only [Bool.and_false, Bool.false_and]
      unfold numO; rw [this]; exact E.some _
    · have h6 : s.size ≤ 6 := by simp at h6; omega
      exact Number_l0 s h6 (by omega) s.size 0 (by omega) rfl
end Go.Proofs.YtckeeefeiljamaaGreatDoor
set_option linter.unusedSimpArgs false
set_option linter.unusedVariables false
namespace Go.Proofs.YtckeeefeiljamaaGreatDoor
open Go.RowKit Go.Proofs.YtckeeefeiljamaaGreatDoorW.PrintWords PSem

def markP (p : ByteArray) : Bool := markL p.data.toList

/-! ### mark -/
theorem mark_l0 (s : ByteArray) (h6 : s.size ≤ 10) (h1 : 1 ≤ s.size) : ∀ (d j : Nat), j + d = s.size → (∀ i, i < j → okB (b8 s i).toNat = true) →
    E (fun k => slipwayref01_mark.l0 k s ((s.data.toList.take j).all isDig) (j : Int)) (markP s) := by
  have hl := data_length s
  intro d
  induction d with
  | zero =>
    intro j hj ha
    obtain rfl : j = s.size := by omega
    rw [List.take_of_length_le (by omega)]
    refine E.step ?_
    simp only [slipwayref01_mark.l0]
    refine E.ite_neg (by omega) (E.bind (Number_E s) ?_)
    have e1 : s.data.toList.isEmpty = false := by rw [← Bool.not_eq_true, List.isEmpty_iff, ← List.length_eq_zero_iff]; omega
    have e2 : decide (s.data.toList.length ≤ 10) = true := by rw [hl]; simp; omega
    have e3 : s.data.toList.all (fun b => okB b.toNat) = true := (all_b8 _ s).2 ha
    have hm : markP s = (!(s.data.toList.all isDig) || numP s) := by unfold markP markL numP; rw [e1, e2, e3]; rfl
    cases hn : numP s with
    | true =>
      have e : numO s = (valP s, true) := by unfold numO; rw [if_pos hn]
      rw [e]; refine E.ite_pos rfl ?_; rw [hm, hn, Bool.or_true]; exact E.some _
    | false =>
      have e : numO s = (0, false) := by unfold numO; rw [if_neg (by rw [hn]; simp)]
      rw [e]; refine E.ite_neg (fun h => by cases h) ?_; rw [hm, hn, Bool.or_false]; exact E.some _
  | succ d ih =>
    intro j hj ha
    have hjs : j < s.size := by omega
    refine E.step ?_
    simp only [slipwayref01_mark.l0]
    refine E.ite_pos (by omega) (E.ite_pos (by omega) ?_)
    rw [bt_b8 s j hjs]
    refine E.bindc (digit_b _) ?_
    have hstep := take_b8 s j hjs
    have hnext : okB (b8 s j).toNat = true → ∀ i, i < j + 1 → okB (b8 s i).toNat = true := fun h i hi => by
      by_cases e : i = j
      · rw [e]; exact h
      · exact ha i (by omega)
    have hbad : okB (b8 s j).toNat = false → markP s = false := fun h => by
      have : s.data.toList.all (fun b => okB b.toNat) = false := by
        rw [← Bool.not_eq_true]; intro h2
        have := (all_b8 _ s).1 h2 j hjs
        rw [h] at this; cases this
      unfold markP markL; rw [this]; simp only [Bool.and_false, Bool.false_and]
    refine E.ite (fun hd => ?_) (fun hd => ?_)
    · have hd' := (isDig_iff _).1 hd
      have e : (s.data.toList.take j).all isDig = (s.data.toList.take (j + 1)).all isDig := by rw [hstep, List.all_append]; simp [hd]
      rw [e, wrap_id (by omega)]
      exact ih (j + 1) (by omega) (hnext (by simp [okB]; omega))
    · have hd' : ¬ (48 ≤ (b8 s j).toNat ∧ (b8 s j).toNat ≤ 57) := fun h => hd ((isDig_iff _).2 h)
      refine E.ite (fun h => ?_) (fun h => E.ite (fun h2 => ?_) (fun h2 => ?_))
      · rw [hbad (by simp [okB]; omega)]; exact E.some _
      · rw [hbad (by simp [okB]; omega)]; exact E.some _
      · have e : false = (s.data.toList.take (j + 1)).all isDig := by rw [hstep, List.all_append]; simp [hd]
        rw [e, wrap_id (by omega)]
        exact ih (j + 1) (by omega) (hnext (by simp [okB]; omega))
theorem mark_E (s : ByteArray) : E (fun k => slipwayref01_mark.f k s) (markP s) := by
  have hl := data_length s
  unfold slipwayref01_mark.f
  refine E.ite (fun h => ?_) (fun h => ?_)
  · refine E.step ?_
    simp only [slipwayref01_mark.j0]
    refine E.ite_pos (by trivial) ?_
    have : markP s = false := by unfold markP; rw [List.eq_nil_of_length_eq_zero (hl.trans (by omega))]; rfl
    rw [this]; exact E.some _
  · refine E.step ?_
    simp only [slipwayref01_mark.j0]
    refine E.ite (fun h6 => ?_) (fun h6 => ?_)
    · have h6 : s.size > 10 := by simp at h6; omega
      have : markP s = false := by
        unfold markP markL
        have : decide (s.data.toList.length ≤ 10) = false := by rw [hl]; simp; omega
        rw [this]; simp only [Bool.and_false, Bool.false_and]
      rw [this]; exact E.some _
    · have h6 : s.size ≤ 10 := by simp at h6; omega
      exact mark_l0 s h6 (by omega) s.size 0 (by omega) (fun i hi => absurd hi (Nat.not_lt_zero _))

/-! ### Cut -/
def one (c : UInt8) : ByteArray := ⟨#[c]⟩
theorem ext_data (s : ByteArray) (a b : Nat) : (s.extract a b).data.toList = (s.data.toList.take b).drop a := by
  simp [ByteArray.data_extract, List.extract_eq_take_drop, List.drop_take]
theorem occ_one (l : List UInt8) (c : UInt8) (j : Nat) : Lib.occAt l [c] j = decide (l[j]? = some c) := by
  unfold Lib.occAt
  cases h : l.drop j with
  | nil =>
    have : l[j]? = none := by rw [List.getElem?_eq_none_iff]; exact List.drop_eq_nil_iff.1 h
    rw [this]; rfl
  | cons x t =>
    have : l[j]? = some x := by have := congrArg (·[0]?) h; simpa using this
    rw [this]
    simp [List.isPrefixOf]
    rw [Bool.eq_iff_iff]; simp; exact eq_comm
theorem ext_at (s : ByteArray) (a j : Nat) : (s.extract a s.size).data.toList[j]? = s.data.toList[a + j]? := by
  rw [ext_data, List.take_of_length_le (by rw [data_length]; exact Nat.le_refl _), List.getElem?_drop]
theorem b8_get (s : ByteArray) (j : Nat) (h : j < s.size) : s.data.toList[j]? = some (b8 s j) := by
  have h2 : j < s.data.toList.length := by rw [data_length]; exact h
  unfold b8; rw [List.getD_eq_getElem?_getD, List.getElem?_eq_getElem h2]; rfl
theorem indexB_one (s : ByteArray) (c : UInt8) (a i : Nat) (hai : a ≤ i) (hi : i < s.size) (hc : b8 s i = c) (hno : ∀ j, a ≤ j → j < i → b8 s j ≠ c) : Lib.indexB (s.extract a s.size) (one c) = ((i - a : Nat) : Int) := by
  show Lib.index _ [c] = _
  refine Lib.index_first ?_ ?_ ?_
  · rw [ext_data, List.length_drop, List.length_take, data_length]; omega
  · rw [occ_one, ext_at, b8_get s _ (by omega)]
    rw [show a + (i - a) = i by omega, hc]; simp
  · intro j hj
    rw [occ_one, ext_at, b8_get s _ (by omega)]
    simp; exact hno _ (by omega) (by omega)
theorem indexB_none (s : ByteArray) (c : UInt8) (a : Nat) (hno : ∀ j, a ≤ j → j < s.size → b8 s j ≠ c) : Lib.indexB (s.extract a s.size) (one c) = -1 := by
  show Lib.index _ [c] = _
  refine Lib.index_none ?_
  intro j _
  rw [occ_one, ext_at]
  by_cases h : a + j < s.size
  · rw [b8_get s _ h]; simp; exact hno _ (by omega) h
  · rw [List.getElem?_eq_none_iff.2 (by rw [data_length]; omega)]; rfl
theorem ext_ext (s : ByteArray) (a b c d : Nat) (h0 : a ≤ b) (h : d ≤ b - a) : (s.extract a b).extract c d = s.extract (a + c) (a + d) := by
  apply ByteArray.ext; apply Array.ext'
  rw [ext_data, ext_data, ext_data, List.take_drop, List.drop_drop, List.take_take]
  congr 2
  omega
theorem Cut_l0 (s : ByteArray) (c : UInt8) (hs : s.size < 4294967281) : ∀ (d i a : Nat) (out : List ByteArray), i + d = s.size → a ≤ i → out.length ≤ a → (∀ j, a ≤ j → j < i → b8 s j ≠ c) →
    E (fun k => slipwayref01_Cut.l0 k s (c.toNat : Int) out (a : Int) (i : Int)) (out ++ pieces (one c) (s.extract a s.size)) := by
  have h1 : 1 ≤ (one c).size := by show 1 ≤ 1; omega
  intro d
  induction d with
  | zero =>
    intro i a out hi ha ho hno
    obtain rfl : i = s.size := by omega
    refine E.step ?_
    simp only [slipwayref01_Cut.l0]
    refine E.ite_neg (by omega) (E.ite_pos (by omega) (E.ite_pos (by omega) (E.ite_pos (by omega) ?_)))
    rw [pieces_miss _ _ (indexB_none s c a hno), Int.toNat_natCast]
    exact E.some _
  | succ d ih =>
    intro i a out hi ha ho hno
    have his : i < s.size := by omega
    refine E.step ?_
    simp only [slipwayref01_Cut.l0]
    refine E.ite_pos (by omega) (E.ite_pos (by omega) ?_)
    rw [bt_b8 s i his]
    refine E.ite (fun hc => ?_) (fun hc => ?_)
    · have hc : b8 s i = c := by rw [← UInt8.toNat_inj]; omega
      refine E.ite_pos (by omega) (E.ite_pos (by omega) (E.ite_pos (by omega) (E.ite_pos (by omega) ?_)))
      have hsz : (s.extract a s.size).size = s.size - a := by rw [ByteArray.size_extract]; omega
      have hp := pieces_hit (one c) (s.extract a s.size) h1 (i - a) (indexB_one s c a i ha his hc hno)
      rw [hsz, ext_ext _ _ _ _ _ (by omega) (by omega), ext_ext _ _ _ _ _ (by omega) (by omega)] at hp
      rw [show a + 0 = a by omega, show a + (i - a) = i by omega, show a + (i - a + (one c).size) = i + 1 by show a + (i - a + 1) = i + 1; omega, show a + (s.size - a) = s.size by omega] at hp
      rw [hp, wrap_id (by omega)]
      have := ih (i + 1) (i + 1) (out ++ [s.extract a i]) (by omega) (Nat.le_refl _) (by simp; omega) (fun j h1 h2 => absurd h2 (by omega))
      rw [List.append_assoc, List.singleton_append] at this
      exact this
    · rw [wrap_id (by omega)]
      exact ih (i + 1) a out (by omega) (by omega) ho (fun j hj1 hj2 => by
        by_cases e : j = i
        · subst e; intro h; exact hc (by rw [h])
        · exact hno j hj1 (by omega))
theorem ext_all (s : ByteArray) : s.extract 0 s.size = s := by
  apply ByteArray.ext; apply Array.ext'
  rw [ext_data, List.drop_zero, List.take_of_length_le (by rw [data_length]; exact Nat.le_refl _)]
theorem Cut_E (s : ByteArray) (c : UInt8) (hs : s.size < 4294967281) : E (fun k => slipwayref01_Cut.f k s (c.toNat : Int)) (pieces (one c) s) := by
  unfold slipwayref01_Cut.f
  have := Cut_l0 s c hs s.size 0 0 [] (by omega) (Nat.le_refl _) (Nat.le_refl _) (fun j _ h => absurd h (Nat.not_lt_zero _))
  rw [ext_all, List.nil_append] at this
  exact this

/-! ### Pre -/
/-- What is a Pre. -/
def preO (s : ByteArray) : Bool := s.toList.isEmpty || preB s
theorem Pre_l0 (l : List ByteArray) (hl : l.length ≤ 4) : ∀ (d j : Nat), j + d = l.length → (l.take j).all markP = true → E (fun k => slipwayref01_Pre.l0 k l (j : Int)) (l.all markP) := by
  intro d
  induction d with
  | zero =>
    intro j hj ha
    obtain rfl : j = l.length := by omega
    rw [List.take_of_length_le (Nat.le_refl _)] at ha
    refine E.step ?_
    simp only [slipwayref01_Pre.l0]
    refine E.ite_neg (by omega) ?_
    rw [ha]; exact E.some _
  | succ d ih =>
    intro j hj ha
    have hjl : j < l.length := by omega
    refine E.step ?_
    simp only [slipwayref01_Pre.l0]
    refine E.ite_pos (by omega) (E.ite_pos (by omega) (E.bind (mark_E _) ?_))
    have hr : rdOf ByteArray.empty l (j : Int) = l[j] := by
      unfold rdOf; rw [Int.toNat_natCast, List.getD_eq_getElem?_getD, List.getElem?_eq_getElem hjl]; rfl
    rw [hr]
    refine E.ite (fun hm => ?_) (fun hm => ?_)
    · rw [wrap_id (by omega)]
      exact ih (j + 1) (by omega) (by rw [List.take_succ_eq_append_getElem hjl, List.all_append, ha]; simp [hm])
    · have : l.all markP = false := by
        rw [← Bool.not_eq_true, List.all_eq_true]; intro h; exact hm (h _ (List.getElem_mem hjl))
      rw [this]; exact E.some _
theorem Pre_E (s : ByteArray) (hs : s.size < 4294967281) : E (fun k => slipwayref01_Pre.f k s) (preO s) := by
  unfold slipwayref01_Pre.f
  refine E.ite (fun h => ?_) (fun h => ?_)
  · have : preO s = true := by unfold preO; rw [h]; rfl
    rw [this]; exact E.some _
  · refine E.bind (Cut_E s 46 hs) ?_
    have e : pieces (one 46) s = pieces dot s := rfl
    rw [e]
    have hp : preO s = preB s := by
      unfold preO
      have : s.toList.isEmpty = false := by simpa using h
      rw [this, Bool.false_or]
    rw [hp]
    refine E.ite (fun h4 => ?_) (fun h4 => ?_)
    · have : decide ((pieces dot s).length ≤ 4) = false := by simp; omega
      unfold preB; rw [this, Bool.false_and]; exact E.some _
    · have : decide ((pieces dot s).length ≤ 4) = true := by simp; omega
      unfold preB; rw [this, Bool.true_and]
      exact Pre_l0 _ (by omega) (pieces dot s).length 0 (by omega) rfl
end Go.Proofs.YtckeeefeiljamaaGreatDoor
set_option linter.unusedSimpArgs false
set_option linter.unusedVariables false
namespace Go.Proofs.YtckeeefeiljamaaGreatDoor
open Go.RowKit Go.Proofs.YtckeeefeiljamaaGreatDoorW.PrintWords PSem

def inN (n : Int) : Bool := decide (0 ≤ n) && decide (n ≤ 999999)
/-- What is a version. -/
def rightB (a b c : Int) (p : ByteArray) : Bool := inN a && (inN b && (inN c && preO p))
theorem inN_t {n : Int} (h0 : 0 ≤ n) (h1 : n ≤ 999999) : inN n = true := by simp [inN, h0, h1]
theorem inN_f0 {n : Int} (h0 : ¬ 0 ≤ n) : inN n = false := by simp [inN]; omega
theorem inN_f1 {n : Int} (h0 : ¬ n ≤ 999999) : inN n = false := by simp [inN]; omega
theorem refRight_E (a b c : Int) (p : ByteArray) (hs : p.size < 4294967281) : E (fun k => slipwayref01_Version_Right.f k a b c p) (rightB a b c p) := by
  unfold slipwayref01_Version_Right.f rightB
  refine E.ite (fun h1 => E.ite (fun h2 => ?_) (fun h2 => ?_)) (fun h1 => ?_)
  · rw [inN_t h1 h2, Bool.true_and]
    refine E.ite (fun h1 => E.ite (fun h2 => ?_) (fun h2 => ?_)) (fun h1 => ?_)
    · rw [inN_t h1 h2, Bool.true_and]
      refine E.ite (fun h1 => E.ite (fun h2 => ?_) (fun h2 => ?_)) (fun h1 => ?_)
      · rw [inN_t h1 h2, Bool.true_and]
        exact E.bind (Pre_E p hs) (E.some _)
      · rw [inN_f1 h2, Bool.false_and]; exact E.some _
      · rw [inN_f0 h1, Bool.false_and]; exact E.some _
    · rw [inN_f1 h2, Bool.false_and]; exact E.some _
    · rw [inN_f0 h1, Bool.false_and]; exact E.some _
  · rw [inN_f1 h2, Bool.false_and]; exact E.some _
  · rw [inN_f0 h1, Bool.false_and]; exact E.some _

theorem Right_end (l : List Int) (hl : l.length = 3) (x y z : Int) (p : ByteArray) (hs : p.size < 4294967281) : E (fun k => semver_Version_Right.l0 k l 3 3 x y z p) (preO p) := by
  refine E.step ?_
  simp only [semver_Version_Right.l0]
  refine E.ite_neg (by omega) (E.ite (fun h => ?_) (fun h => ?_))
  · have : preO p = true := by unfold preO; rw [h]; rfl
    rw [this]; exact E.some _
  · have hp : preO p = preB p := by
      unfold preO
      have : p.toList.isEmpty = false := by simpa using h
      rw [this, Bool.false_or]
    refine E.bindc (x := preB p) (by unfold semver_pre.f; rw [if_pos hs]) ?_
    rw [hp]; exact E.some _
theorem Right_round (l : List Int) (hl : l.length = 3) (j : Nat) (hj : j < 3) (x y z : Int) (p : ByteArray) (r : Bool) (hn : E (fun k => semver_Version_Right.l0 k l 3 ((j + 1 : Nat) : Int) x y z p) r) :
    E (fun k => semver_Version_Right.l0 k l 3 (j : Int) x y z p) (inN (l.getD j 0) && r) := by
  refine E.step ?_
  simp only [semver_Version_Right.l0]
  have hr : rd l (j : Int) = l.getD j 0 := by unfold rd; rw [Int.toNat_natCast]
  refine E.ite_pos (by omega) (E.ite_pos (by omega) (E.ite_pos (by omega) ?_))
  rw [hr]
  refine E.ite (fun h => ?_) (fun h => E.ite (fun h2 => ?_) (fun h2 => ?_))
  · rw [inN_f0 (by omega), Bool.false_and]; exact E.some _
  · rw [inN_f1 (by omega), Bool.false_and]; exact E.some _
  · rw [inN_t (by omega) (by omega), Bool.true_and, wrap_id (by omega)]
    exact hn
theorem Right_E (a b c : Int) (p : ByteArray) (hs : p.size < 4294967281) : E (fun k => semver_Version_Right.f k a b c p) (rightB a b c p) := by
  unfold semver_Version_Right.f rightB
  have h3 := Right_end [a, b, c] rfl a b c p hs
  have h2 := Right_round [a, b, c] rfl 2 (by omega) a b c p _ h3
  have h1 := Right_round [a, b, c] rfl 1 (by omega) a b c p _ h2
  have h0 := Right_round [a, b, c] rfl 0 (by omega) a b c p _ h1
  exact h0

/-! ### the bytes of a Pre -/
theorem pieces_bytes : ∀ (n : Nat) (s : ByteArray), s.size = n → s.size < 4294967281 → (pieces dot s).all markP = true → ∀ j, j < s.size → okB (b8 s j).toNat = true ∨ b8 s j = 46 := by
  intro n
  induction n using Nat.strongRecOn with
  | _ n ih =>
    intro s hn hs ha j hj
    by_cases hd : ∃ i, i < s.size ∧ b8 s i = 46
    · -- the first one
      obtain ⟨i, hi, hc, hno⟩ : ∃ i, i < s.size ∧ b8 s i = 46 ∧ ∀ j, 0 ≤ j → j < i → b8 s j ≠ 46 := by
        obtain ⟨i0, hi0⟩ := hd
        induction i0 using Nat.strongRecOn with
        | _ i0 ih2 =>
          by_cases h : ∃ j, j < i0 ∧ b8 s j = 46
          · obtain ⟨j, hj1, hj2⟩ := h; exact ih2 j hj1 ⟨by omega, hj2⟩
          · exact ⟨i0, hi0.1, hi0.2, fun j _ hj e => h ⟨j, hj, e⟩⟩
      have hx := indexB_one s 46 0 i (Nat.zero_le _) hi hc hno
      rw [ext_all, Nat.sub_zero] at hx
      have hp := pieces_hit dot s (by decide) i hx
      rw [hp, List.all_cons, Bool.and_eq_true] at ha
      by_cases h1 : j < i
      · left
        have hm := ha.1
        unfold markP markL at hm
        simp only [Bool.and_eq_true] at hm
        have hall := (all_b8 _ _).1 hm.1.2 j (by rw [ByteArray.size_extract]; omega)
        have e : b8 (s.extract 0 i) j = b8 s j := by
          unfold b8; rw [ext_data, List.drop_zero, List.getD_eq_getElem?_getD, List.getD_eq_getElem?_getD, List.getElem?_take, if_pos h1]
        rwa [e] at hall
      · by_cases h2 : j = i
        · right; rw [h2]; exact hc
        · have hz : (s.extract (i + dot.size) s.size).size = s.size - (i + 1) := by rw [ByteArray.size_extract]; show min s.size s.size - (i + 1) = _; omega
          have := ih (s.size - (i + 1)) (by omega) (s.extract (i + dot.size) s.size) hz (by omega) ha.2 (j - (i + 1)) (by omega)
          have e : b8 (s.extract (i + dot.size) s.size) (j - (i + 1)) = b8 s j := by
            unfold b8
            rw [List.getD_eq_getElem?_getD, List.getD_eq_getElem?_getD, ext_at]
            congr 2
            show i + 1 + (j - (i + 1)) = j
            omega
          rwa [e] at this
    · left
      have hx := indexB_none s 46 0 (fun j _ hj e => hd ⟨j, hj, e⟩)
      rw [ext_all] at hx
      rw [pieces_miss dot s hx, List.all_cons, Bool.and_eq_true] at ha
      have hm := ha.1
      unfold markP markL at hm
      simp only [Bool.and_eq_true] at hm
      exact (all_b8 _ _).1 hm.1.2 j hj
theorem preB_bytes (s : ByteArray) (hs : s.size < 4294967281) (h : preB s = true) (j : Nat) (hj : j < s.size) : okB (b8 s j).toNat = true ∨ b8 s j = 46 := by
  unfold preB at h
  rw [Bool.and_eq_true] at h
  exact pieces_bytes s.size s rfl hs h.2 j hj
theorem preB_empty (s : ByteArray) (h : s.size = 0) : preB s = false := by
  obtain rfl : s = ⟨#[]⟩ := by apply ByteArray.ext; apply Array.ext'; exact List.eq_nil_of_length_eq_zero ((data_length s).trans h)
  have hx := indexB_none ⟨#[]⟩ 46 0 (fun j _ hj e => by cases hj)
  have hp := pieces_miss dot ⟨#[]⟩ hx
  unfold preB
  rw [hp]; rfl
end Go.Proofs.YtckeeefeiljamaaGreatDoor
set_option linter.unusedSimpArgs false
set_option linter.unusedVariables false
namespace Go.Proofs.YtckeeefeiljamaaGreatDoor
open Go.RowKit Go.Proofs.YtckeeefeiljamaaGreatDoorW.PrintWords PSem

abbrev PV := Int × Int × Int × ByteArray × Bool
/-- What the reference says: of the pieces, the Pre, and whether it is one. -/
def finV (ps : List ByteArray) (p : ByteArray) (okp : Bool) : PV :=
  if ps.length = 3 ∧ okp = true ∧ ps.all numP = true then (valP (ps.getD 0 ByteArray.empty), valP (ps.getD 1 ByteArray.empty), valP (ps.getD 2 ByteArray.empty), p, true) else (0, 0, 0, ⟨#[]⟩, false)
def pvV (ps : List ByteArray) (p : ByteArray) (d : Bool) : Int × Int × Int × ByteArray × Int :=
  if ps.length ≠ 3 ∨ (d = true ∧ preB p = false) ∨ ps.all numP = false then (0, 0, 0, ⟨#[]⟩, 10)
  else (valP (ps.getD 0 ByteArray.empty), valP (ps.getD 1 ByteArray.empty), valP (ps.getD 2 ByteArray.empty), p, 0)
theorem parseV_eq (s : ByteArray) : parseV s = pvV (pieces dot (toBytes (Lib.cut s.data.toList [45]).1)) (toBytes (Lib.cut s.data.toList [45]).2.1) (Lib.cut s.data.toList [45]).2.2 := rfl
def refP (s : ByteArray) : PV :=
  let v := parseV s
  if v.2.2.2.2 = 0 then (v.1, v.2.1, v.2.2.1, v.2.2.2.1, true) else (0, 0, 0, ⟨#[]⟩, false)
theorem refP_eq (s : ByteArray) : refP s = finV (pieces dot (toBytes (Lib.cut s.data.toList [45]).1)) (toBytes (Lib.cut s.data.toList [45]).2.1) (!((Lib.cut s.data.toList [45]).2.2 && !(preB (toBytes (Lib.cut s.data.toList [45]).2.1)))) := by
  unfold refP
  rw [parseV_eq]
  generalize hps : pieces dot (toBytes (Lib.cut s.data.toList [45]).1) = ps
  generalize toBytes (Lib.cut s.data.toList [45]).2.1 = p
  generalize (Lib.cut s.data.toList [45]).2.2 = d
  by_cases h : ps.length ≠ 3 ∨ (d = true ∧ preB p = false) ∨ ps.all numP = false
  · have e : pvV ps p d = (0, 0, 0, ⟨#[]⟩, 10) := if_pos h
    rw [e]
    unfold finV
    simp only []
    rw [if_neg (by decide), if_neg]
    rintro ⟨h1, h2, h3⟩
    rcases h with h | ⟨h, h'⟩ | h
    · exact h h1
    · rw [h, h'] at h2; cases h2
    · rw [h] at h3; cases h3
  · have e : pvV ps p d = (valP (ps.getD 0 ByteArray.empty), valP (ps.getD 1 ByteArray.empty), valP (ps.getD 2 ByteArray.empty), p, 0) := if_neg h
    rw [e]
    unfold finV
    simp only []
    have h1 : ps.length = 3 := by by_cases e : ps.length = 3; exact e; exact absurd (.inl e) h
    have h3 : ps.all numP = true := by cases e : ps.all numP with | true => rfl | false => exact absurd (.inr (.inr e)) h
    have h2 : (!(d && !(preB p))) = true := by
      cases d with
      | false => rfl
      | true => cases e : preB p with | true => rfl | false => exact absurd (.inr (.inl ⟨rfl, e⟩)) h
    rw [if_pos trivial, if_pos ⟨h1, h2, h3⟩]

theorem rd_at (l : List ByteArray) (j : Nat) : rdOf ByteArray.empty l (j : Int) = l.getD j ByteArray.empty := by unfold rdOf; rw [Int.toNat_natCast]
theorem len3 {l : List ByteArray} (h : l.length = 3) : l = [l.getD 0 ByteArray.empty, l.getD 1 ByteArray.empty, l.getD 2 ByteArray.empty] := by
  match l, h with
  | [a, b, c], _ => rfl
theorem Parse_j1 (ps : List ByteArray) (p : ByteArray) (okp : Bool) (h : ps.length = 3) : E (fun k => slipwayref01_Parse.j1 k p ps (!okp)) (finV ps p okp) := by
  refine E.step ?_
  simp only [slipwayref01_Parse.j1]
  have hn : ∀ q, (numO q).2 = numP q := fun q => by unfold numO; cases e : numP q <;> simp
  have hv : ∀ q, numP q = true → (numO q).1 = valP q := fun q e => by unfold numO; rw [if_pos e]
  have hall : ps.all numP = (numP (ps.getD 0 ByteArray.empty) && (numP (ps.getD 1 ByteArray.empty) && numP (ps.getD 2 ByteArray.empty))) := by
    conv => lhs; rw [len3 h]
    simp [List.all_cons]
  cases okp with
  | false =>
    refine E.ite_pos rfl ?_
    unfold finV; rw [if_neg (by rintro ⟨_, h, _⟩; cases h)]; exact E.some _
  | true =>
    refine E.ite_neg (fun h => by cases h) (E.ite_pos (by omega) ?_)
    rw [show (0 : Int) = ((0 : Nat) : Int) from rfl, rd_at]
    refine E.bind (Number_E _) (E.ite_pos (by omega) ?_)
    rw [show (1 : Int) = ((1 : Nat) : Int) from rfl, rd_at]
    refine E.bind (Number_E _) (E.ite_pos (by omega) ?_)
    rw [show (2 : Int) = ((2 : Nat) : Int) from rfl, rd_at]
    refine E.bind (Number_E _) ?_
    simp only [hn]
    have bad : ps.all numP = false → E (fun _ => some ((0, 0, 0, (⟨#[]⟩ : ByteArray), false) : PV)) (finV ps p true) := fun e => by
      unfold finV; rw [if_neg (by rintro ⟨_, _, h⟩; rw [e] at h; cases h)]; exact E.some _
    refine E.ite (fun h0 => E.ite (fun h1 => E.ite (fun h2 => ?_) (fun h2 => bad ?_)) (fun h1 => bad ?_)) (fun h0 => bad ?_)
    · rw [hv _ h0, hv _ h1, hv _ h2]
      unfold finV; rw [if_pos ⟨h, rfl, by rw [hall, h0, h1, h2]; rfl⟩]; exact E.some _
    · rw [hall, Bool.eq_false_iff.2 h2]; simp only [Bool.and_false, Bool.false_and]
    · rw [hall, Bool.eq_false_iff.2 h1]; simp only [Bool.and_false, Bool.false_and]
    · rw [hall, Bool.eq_false_iff.2 h0]; simp only [Bool.and_false, Bool.false_and]

/-- Where the scan stands: no minus sign from n on, or the first one is known. -/
def Scan (s : ByteArray) (n en : Nat) (pre : ByteArray) : Prop :=
  (en = s.size ∧ pre = ⟨#[]⟩ ∧ ∀ j, n ≤ j → j < s.size → b8 s j ≠ 45) ∨
  (n ≤ en ∧ en + 1 < s.size ∧ b8 s en = 45 ∧ pre = s.extract (en + 1) s.size ∧ (∀ j, n ≤ j → j < en → b8 s j ≠ 45))
theorem cut_none (s : ByteArray) (h : ∀ j, 0 ≤ j → j < s.size → b8 s j ≠ 45) : Lib.cut s.data.toList [45] = (s.data.toList, [], false) := by
  have hx := indexB_none s 45 0 h
  rw [ext_all] at hx
  unfold Lib.cut
  have hx' : Lib.index s.data.toList [45] = -1 := hx
  rw [hx', if_neg (by decide)]
theorem cut_some (s : ByteArray) (i : Nat) (hi : i < s.size) (hc : b8 s i = 45) (h : ∀ j, 0 ≤ j → j < i → b8 s j ≠ 45) : Lib.cut s.data.toList [45] = (s.data.toList.take i, s.data.toList.drop (i + 1), true) := by
  have hx := indexB_one s 45 0 i (Nat.zero_le _) hi hc h
  rw [ext_all, Nat.sub_zero] at hx
  unfold Lib.cut
  have hx' : Lib.index s.data.toList [45] = (i : Int) := hx
  rw [hx', if_pos (by omega), Int.toNat_natCast]
  rfl
theorem toBytes_data (s : ByteArray) : toBytes s.data.toList = s := by unfold toBytes; apply ByteArray.ext; simp
theorem toBytes_ext (s : ByteArray) (a b : Nat) : toBytes ((s.data.toList.take b).drop a) = s.extract a b := by rw [← ext_data, toBytes_data]
theorem Parse_end (s : ByteArray) (hs : s.size < 4294967281) (en : Nat) (pre : ByteArray) (hsc : Scan s 0 en pre) : E (fun k => slipwayref01_Parse.l0 k s (en : Int) pre (-1)) (refP s) := by
  have hen : en ≤ s.size := by rcases hsc with h | h <;> omega
  have hpre : pre.size < 4294967281 := by
    rcases hsc with ⟨_, h, _⟩ | ⟨_, _, _, h, _⟩
    · rw [h]; decide
    · rw [h, ByteArray.size_extract]; omega
  have key : refP s = finV (pieces dot (s.extract 0 en)) pre (preO pre) := by
    rw [refP_eq]
    rcases hsc with ⟨h1, h2, h3⟩ | ⟨h1, h2, h3, h4, h5⟩
    · rw [cut_none s h3, h1, h2, ext_all, toBytes_data, show preO ⟨#[]⟩ = true by unfold preO; rw [ba_toList]; rfl]; rfl
    · rw [cut_some s en (by omega) h3 h5]
      have e1 : toBytes (s.data.toList.take en) = s.extract 0 en := by have := toBytes_ext s 0 en; rwa [List.drop_zero] at this
      have e2 : toBytes (s.data.toList.drop (en + 1)) = pre := by
        rw [h4, ← toBytes_ext s (en + 1) s.size, List.take_of_length_le (by rw [data_length]; exact Nat.le_refl _)]
      simp only [e1, e2]
      have : preO pre = preB pre := by
        unfold preO
        have : pre.toList.isEmpty = false := by
          rw [← Bool.not_eq_true, List.isEmpty_iff, ba_toList, ← List.length_eq_zero_iff, data_length, h4, ByteArray.size_extract]; omega
        rw [this, Bool.false_or]
      rw [this, Bool.true_and, Bool.not_not]
  rw [key]
  refine E.step ?_
  simp only [slipwayref01_Parse.l0]
  refine E.ite_neg (by omega) (E.ite_pos (by omega) (E.ite_pos (by omega) ?_))
  rw [Int.toNat_natCast]
  refine E.bind (Cut_E _ 46 (by rw [ByteArray.size_extract]; omega)) ?_
  have e : pieces (one 46) (s.extract 0 en) = pieces dot (s.extract 0 en) := rfl
  rw [e]
  refine E.ite (fun h3 => ?_) (fun h3 => ?_)
  · refine E.bind (Pre_E pre hpre) ?_
    exact Parse_j1 _ _ _ (by omega)
  · refine E.step ?_
    simp only [slipwayref01_Parse.j1]
    refine E.ite_pos (by trivial) ?_
    unfold finV; rw [if_neg (by rintro ⟨h, _, _⟩; exact h3 (by omega))]; exact E.some _
theorem refP_last (s : ByteArray) (hs : s.size < 4294967281) (n : Nat) (hn : n + 1 = s.size) (hc : b8 s n = 45) : refP s = (0, 0, 0, ⟨#[]⟩, false) := by
  obtain ⟨i, hi, hci, hno⟩ : ∃ i, i ≤ n ∧ b8 s i = 45 ∧ ∀ j, 0 ≤ j → j < i → b8 s j ≠ 45 := by
    suffices ∀ n, b8 s n = 45 → ∃ i, i ≤ n ∧ b8 s i = 45 ∧ ∀ j, 0 ≤ j → j < i → b8 s j ≠ 45 from this n hc
    intro n
    induction n using Nat.strongRecOn with
    | _ n ih =>
      intro h
      by_cases h2 : ∃ j, j < n ∧ b8 s j = 45
      · obtain ⟨j, hj1, hj2⟩ := h2
        obtain ⟨i, h3, h4⟩ := ih j hj1 hj2
        exact ⟨i, by omega, h4⟩
      · exact ⟨n, Nat.le_refl _, h, fun j _ hj e => h2 ⟨j, hj, e⟩⟩
  rw [refP_eq, cut_some s i (by omega) hci hno]
  have e2 : toBytes (s.data.toList.drop (i + 1)) = s.extract (i + 1) s.size := by
    rw [← toBytes_ext s (i + 1) s.size, List.take_of_length_le (by rw [data_length]; exact Nat.le_refl _)]
  simp only [e2]
  have hz : (s.extract (i + 1) s.size).size = s.size - (i + 1) := by rw [ByteArray.size_extract]; omega
  have hp : preB (s.extract (i + 1) s.size) = false := by
    by_cases h : i = n
    · exact preB_empty _ (by rw [hz]; omega)
    · rw [← Bool.not_eq_true]
      intro h2
      have := preB_bytes _ (by rw [hz]; omega) h2 (n - (i + 1)) (by rw [hz]; omega)
      have e : b8 (s.extract (i + 1) s.size) (n - (i + 1)) = b8 s n := by
        unfold b8
        rw [List.getD_eq_getElem?_getD, List.getD_eq_getElem?_getD, ext_at]
        congr 2; omega
      rw [e, hc] at this
      rcases this with h | h
      · exact absurd h (by decide)
      · exact absurd h (by decide)
  rw [hp]
  unfold finV
  rw [if_neg (by rintro ⟨_, h, _⟩; cases h)]
theorem Parse_l0 (s : ByteArray) (hs : s.size < 4294967281) : ∀ (n en : Nat) (pre : ByteArray), n ≤ s.size → Scan s n en pre → E (fun k => slipwayref01_Parse.l0 k s (en : Int) pre ((n : Int) - 1)) (refP s) := by
  intro n
  induction n with
  | zero => intro en pre _ h; exact Parse_end s hs en pre h
  | succ n ih =>
    intro en pre hn hsc
    refine E.step ?_
    simp only [slipwayref01_Parse.l0]
    have hcast : ((n + 1 : Nat) : Int) - 1 = (n : Int) := by omega
    rw [hcast]
    refine E.ite_pos (by omega) (E.ite_pos (by omega) (E.ite_pos (by omega) ?_))
    rw [bt_b8 s n (by omega)]
    refine E.ite (fun hc => ?_) (fun hc => ?_)
    · have hc : b8 s n = 45 := by rw [← UInt8.toNat_inj]; exact Int.ofNat.inj hc
      rw [wrap_id (by omega), show ((n : Int) + 1).toNat = n + 1 by omega]
      refine E.ite_pos (by omega) (E.ite_pos (by omega) ?_)
      refine E.ite (fun he => ?_) (fun he => ?_)
      · have : (s.extract (n + 1) s.size).size = 0 := by rw [ba_toList] at he; rw [← data_length, he]; rfl
        rw [ByteArray.size_extract] at this
        rw [refP_last s hs n (by omega) hc]; exact E.some _
      · have hlt : n + 1 < s.size := by
          by_cases h : n + 1 < s.size
          · exact h
          · exfalso; apply he
            rw [ba_toList, ← List.length_eq_zero_iff, data_length, ByteArray.size_extract]; omega
        rw [wrap_id (by omega)]
        exact ih n _ (by omega) (.inr ⟨Nat.le_refl _, hlt, hc, rfl, fun j h1 h2 => absurd h2 (by omega)⟩)
    · have hc : b8 s n ≠ 45 := fun e => hc (by rw [e]; rfl)
      rw [wrap_id (by omega)]
      refine ih en pre (by omega) ?_
      rcases hsc with ⟨h1, h2, h3⟩ | ⟨h1, h2, h3, h4, h5⟩
      · refine .inl ⟨h1, h2, fun j hj1 hj2 => ?_⟩
        by_cases e : j = n
        · rw [e]; exact hc
        · exact h3 j (by omega) hj2
      · refine .inr ⟨by omega, h2, h3, h4, fun j hj1 hj2 => ?_⟩
        by_cases e : j = n
        · rw [e]; exact hc
        · exact h5 j (by omega) hj2
theorem refParse_E (s : ByteArray) (hs : s.size < 4294967281) : E (fun k => slipwayref01_Parse.f k s) (refP s) := by
  unfold slipwayref01_Parse.f
  rw [wrap_id (by omega)]
  exact Parse_l0 s hs s.size s.size ⟨#[]⟩ (Nat.le_refl _) (.inl ⟨rfl, rfl, fun j h1 h2 => absurd h2 (by omega)⟩)

/-! ### Compare, and the document's example -/
theorem cmpInt_some (a b : Int) : cmp_Compare_int.f a b = some (cmpI a b) := by
  unfold cmp_Compare_int.f cmp_isNaN_int.f cmpI
  simp only [bne_self_eq_false, Option.bind_some, Bool.false_eq_true, if_false]
  split
  · rfl
  · split <;> rfl
theorem sign_some (a : Int) : semver_sign.f a = some (cmpI a 0) := by
  unfold semver_sign.f; rw [cmpInt_some]; rfl
theorem cmpI_zero {a b : Int} : cmpI a b = 0 ↔ a = b := by unfold cmpI; split; omega; split <;> omega
theorem cmpI_rng (a b : Int) : cmpI a b = -1 ∨ cmpI a b = 0 ∨ cmpI a b = 1 := by unfold cmpI; split; simp; split <;> simp
theorem Or_end (x0 : Int) (l : List Int) : E (fun k => cmp_Or_int.l0 k x0 l (l.length : Int) (l.length : Int)) x0 := by
  refine E.step ?_
  simp only [cmp_Or_int.l0]
  exact E.ite_neg (by omega) (E.some _)
/-- The first that isn't nought. -/
def orL : List Int → Int
  | [] => 0
  | x :: l => if x = 0 then orL l else x
theorem Or_l0 (l : List Int) (hl : l.length < 1000) : ∀ (d j : Nat), j + d = l.length → E (fun k => cmp_Or_int.l0 k 0 l (l.length : Int) (j : Int)) (orL (l.drop j)) := by
  intro d
  induction d with
  | zero =>
    intro j hj
    obtain rfl : j = l.length := by omega
    rw [List.drop_of_length_le (Nat.le_refl _)]
    exact Or_end 0 l
  | succ d ih =>
    intro j hj
    have hjl : j < l.length := by omega
    refine E.step ?_
    simp only [cmp_Or_int.l0]
    refine E.ite_pos (by omega) (E.ite_pos (by omega) (E.ite_pos (by omega) ?_))
    have hr : rd l (j : Int) = l[j] := by unfold rd; rw [Int.toNat_natCast, List.getD_eq_getElem?_getD, List.getElem?_eq_getElem hjl]; rfl
    rw [hr, List.drop_eq_getElem_cons hjl]
    unfold orL
    refine E.ite (fun h => ?_) (fun h => ?_)
    · rw [if_pos h, wrap_id (by omega)]; exact ih (j + 1) (by omega)
    · rw [if_neg h]; exact E.some _
/-- The order of versions. -/
def cmpV (a b c : Int) (p : ByteArray) (a' b' c' : Int) (p' : ByteArray) : Int := orL [cmpI a a', cmpI b b', cmpI c c', cmpI (marksV p p') 0]
theorem Compare_E (a b c : Int) (p : ByteArray) (a' b' c' : Int) (p' : ByteArray) (h : p.size < 4294967281) (h' : p'.size < 4294967281) :
    E (fun k => semver_Compare.f k a b c p a' b' c' p') (cmpV a b c p a' b' c' p') := by
  unfold semver_Compare.f
  refine E.bindc (cmpInt_some _ _) (E.bindc (cmpInt_some _ _) (E.bindc (cmpInt_some _ _) (E.bindc (x := marksV p p') (by unfold semver_marks.f; rw [if_pos ⟨h, h'⟩]) (E.bindc (sign_some _) (E.bind ?_ (E.some _))))))
  unfold cmp_Or_int.f
  exact Or_l0 [cmpI a a', cmpI b b', cmpI c c', cmpI (marksV p p') 0] (by simp) 4 0 rfl
theorem orL_rng : ∀ (l : List Int), (∀ x ∈ l, x = -1 ∨ x = 0 ∨ x = 1) → orL l = -1 ∨ orL l = 0 ∨ orL l = 1 := by
  intro l
  induction l with
  | nil => intro _; exact .inr (.inl rfl)
  | cons x l ih =>
    intro h
    unfold orL
    split
    · exact ih (fun y hy => h y (List.mem_cons_of_mem _ hy))
    · exact h x List.mem_cons_self

theorem parse_some (s : ByteArray) (hs : s.size < 4294967281) : semver_Parse.f s = some (parseV s) := by unfold semver_Parse.f; rw [if_pos hs]
def t1 : ByteArray := ⟨#[49, 46, 48, 46, 48, 45, 97, 46, 50]⟩
def t2 : ByteArray := ⟨#[49, 46, 48, 46, 48]⟩
def t3 : ByteArray := ⟨#[48, 49, 46, 48, 46, 48]⟩
theorem ex1 : parseV t1 = (1, 0, 0, ⟨#[97, 46, 50]⟩, 0) := by decide +kernel
theorem ex2 : parseV t2 = (1, 0, 0, ⟨#[]⟩, 0) := by decide +kernel
theorem ex3 : parseV t3 = (0, 0, 0, ⟨#[]⟩, 10) := by decide +kernel
theorem marks_e1 (p q : ByteArray) (h : q.size = 0) : marksV p q = cmpI 0 p.size := by
  unfold marksV; rw [if_pos (.inr (by rw [ba_toList]; exact List.eq_nil_of_length_eq_zero ((data_length q).trans h))), h]; rfl
theorem marks_e2 (p q : ByteArray) (h : q.size = 0) : marksV q p = cmpI p.size 0 := by
  unfold marksV; rw [if_pos (.inl (by rw [ba_toList]; exact List.eq_nil_of_length_eq_zero ((data_length q).trans h))), h]; rfl
end Go.Proofs.YtckeeefeiljamaaGreatDoor
set_option linter.unusedSimpArgs false
set_option linter.unusedVariables false
namespace Go.Proofs.YtckeeefeiljamaaGreatDoor
open Go.RowKit Go.Proofs.YtckeeefeiljamaaGreatDoorW.PrintWords PSem

/-- An order on what S says. -/
structure OrdOn {α : Type} (S : α → Prop) (f : α → α → Int) : Prop where
  rng : ∀ a b, f a b = -1 ∨ f a b = 0 ∨ f a b = 1
  anti : ∀ a b, S a → S b → f a b = - f b a
  zero : ∀ a b, S a → S b → f a b = 0 → a = b
  self : ∀ a, S a → f a a = 0
  trans : ∀ a b c, S a → S b → S c → f a b ≤ 0 → f b c ≤ 0 → f a c ≤ 0
theorem OrdOn.trans_lt {α : Type} {S : α → Prop} {f : α → α → Int} (o : OrdOn S f) {a b c : α} (ha : S a) (hb : S b) (hc : S c) (h1 : f a b ≤ 0) (h2 : f b c ≤ 0) (h : f a b = -1 ∨ f b c = -1) : f a c = -1 := by
  have h3 := o.trans a b c ha hb hc h1 h2
  rcases o.rng a c with h4 | h4 | h4
  · exact h4
  · exfalso
    have e := o.zero a c ha hc h4
    subst e
    have := o.anti a b ha hb
    have := o.anti b a hb ha
    rcases h with h | h <;> omega
  · omega
def lexL {α : Type} (f : α → α → Int) : List α → List α → Int
  | [], [] => 0
  | [], _ :: _ => -1
  | _ :: _, [] => 1
  | a :: x, b :: y => if f a b = 0 then lexL f x y else f a b
theorem ordL {α : Type} {S : α → Prop} {f : α → α → Int} (o : OrdOn S f) : OrdOn (fun l => ∀ x ∈ l, S x) (lexL f) := by
  refine ⟨?_, ?_, ?_, ?_, ?_⟩
  · intro a
    induction a with
    | nil => intro b; cases b <;> simp [lexL]
    | cons x a ih => intro b; cases b with
      | nil => simp [lexL]
      | cons y b => unfold lexL; split; exact ih b; exact o.rng x y
  · intro a
    induction a with
    | nil => intro b _ _; cases b <;> simp [lexL]
    | cons x a ih => intro b ha hb; cases b with
      | nil => simp [lexL]
      | cons y b =>
        have h1 := o.anti x y (ha _ List.mem_cons_self) (hb _ List.mem_cons_self)
        have := ih b (fun z hz => ha z (List.mem_cons_of_mem _ hz)) (fun z hz => hb z (List.mem_cons_of_mem _ hz))
        unfold lexL
        by_cases e : f x y = 0
        · rw [if_pos e, if_pos (by omega)]; exact this
        · rw [if_neg e, if_neg (by omega)]; exact h1
  · intro a
    induction a with
    | nil => intro b _ _ h; cases b with
      | nil => rfl
      | cons y b => simp [lexL] at h
    | cons x a ih => intro b ha hb h; cases b with
      | nil => simp [lexL] at h
      | cons y b =>
        unfold lexL at h
        by_cases e : f x y = 0
        · rw [if_pos e] at h
          rw [o.zero x y (ha _ List.mem_cons_self) (hb _ List.mem_cons_self) e, ih b (fun z hz => ha z (List.mem_cons_of_mem _ hz)) (fun z hz => hb z (List.mem_cons_of_mem _ hz)) h]
        · rw [if_neg e] at h; exact absurd h e
  · intro a
    induction a with
    | nil => intro _; rfl
    | cons x a ih =>
      intro ha
      unfold lexL; rw [if_pos (o.self x (ha _ List.mem_cons_self))]
      exact ih (fun z hz => ha z (List.mem_cons_of_mem _ hz))
  · intro a
    induction a with
    | nil => intro b c _ _ _ _ _; cases c <;> simp [lexL]
    | cons x a ih =>
      intro b c ha hb hc h1 h2
      cases b with
      | nil => simp [lexL] at h1
      | cons y b =>
        cases c with
        | nil => simp [lexL] at h2
        | cons z c =>
          have sx := ha x List.mem_cons_self
          have sy := hb y List.mem_cons_self
          have sz := hc z List.mem_cons_self
          have ta := fun z hz => ha z (List.mem_cons_of_mem _ hz)
          have tb := fun z hz => hb z (List.mem_cons_of_mem _ hz)
          have tc := fun z hz => hc z (List.mem_cons_of_mem _ hz)
          unfold lexL at h1 h2 ⊢
          by_cases e1 : f x y = 0
          · rw [if_pos e1] at h1
            have := o.zero x y sx sy e1
            subst this
            by_cases e2 : f x z = 0
            · rw [if_pos e2] at h2 ⊢; exact ih b c ta tb tc h1 h2
            · rw [if_neg e2] at h2 ⊢; exact h2
          · rw [if_neg e1] at h1
            by_cases e2 : f y z = 0
            · have := o.zero y z sy sz e2
              subst this
              rw [if_neg e1]; exact h1
            · rw [if_neg e2] at h2
              have h3 := o.trans_lt sx sy sz h1 h2 (by rcases o.rng x y with h | h | h <;> omega)
              rw [if_neg (by omega)]; omega
theorem ordI : OrdOn (fun _ => True) cmpI := by
  refine ⟨cmpI_rng, ?_, ?_, ?_, ?_⟩
  · intro a b _ _; unfold cmpI; (repeat' split) <;> omega
  · intro a b _ _ h; exact cmpI_zero.1 h
  · intro a _; exact cmpI_zero.2 rfl
  · intro a b c _ _ _; unfold cmpI; (repeat' split) <;> omega
def cmpB (a b : UInt8) : Int := cmpI (a.toNat : Int) (b.toNat : Int)
theorem ordB : OrdOn (fun _ => True) cmpB := by
  refine ⟨fun _ _ => cmpI_rng _ _, fun a b _ _ => ordI.anti _ _ trivial trivial, ?_, fun a _ => ordI.self _ trivial, fun a b c _ _ _ => ordI.trans _ _ _ trivial trivial trivial⟩
  intro a b _ _ h
  have := cmpI_zero.1 h
  rw [← UInt8.toNat_inj]; omega
/-- Bytes in their order. -/
theorem less_lex : ∀ (x y : List UInt8), (if Op.bytesLess x y = true then (-1 : Int) else if (x == y) = true then 0 else 1) = lexL cmpB x y := by
  intro x
  induction x with
  | nil => intro y; cases y <;> simp [Op.bytesLess, lexL]
  | cons a x ih =>
    intro y
    cases y with
    | nil => simp [Op.bytesLess, lexL]
    | cons b y =>
      have h := ih y
      unfold lexL Op.bytesLess
      by_cases hab : a = b
      · subst hab
        rw [if_pos (ordB.self a trivial), ← h]
        simp
      · have hne : cmpB a b ≠ 0 := fun e => hab (ordB.zero a b trivial trivial e)
        rw [if_neg hne]
        have hbeq : (a == b) = false := by simpa using hab
        simp only [hbeq, Bool.false_and, Bool.or_false, List.cons_beq_cons]
        have hcb : cmpB a b = if (a.toNat : Int) < (b.toNat : Int) then -1 else if (a.toNat : Int) > (b.toNat : Int) then 1 else 0 := rfl
        by_cases hlt : a < b
        · have : a.toNat < b.toNat := UInt8.lt_iff_toNat_lt.1 hlt
          have e : cmpB a b = -1 := by rw [hcb, if_pos (by omega)]
          rw [e]; simp [hlt]
        · have h1 : ¬ a.toNat < b.toNat := fun e => hlt (UInt8.lt_iff_toNat_lt.2 e)
          have h2 : a.toNat ≠ b.toNat := fun e => hab (UInt8.toNat_inj.1 e)
          have e : cmpB a b = 1 := by rw [hcb, if_neg (by omega), if_pos (by omega)]
          rw [e]; simp [hlt]
theorem cmpS_lex (p q : ByteArray) : cmpS p q = lexL cmpB p.data.toList q.data.toList := by
  unfold cmpS; rw [ba_toList, ba_toList]; exact less_lex _ _
theorem bytes_ext {p q : ByteArray} (h : p.data.toList = q.data.toList) : p = q := by apply ByteArray.ext; apply Array.ext'; exact h
theorem ordS : OrdOn (fun _ => True) cmpS := by
  have o := ordL ordB
  have t : ∀ p : ByteArray, ∀ x ∈ p.data.toList, True := fun _ _ _ => trivial
  refine ⟨fun a b => by rw [cmpS_lex]; exact o.rng _ _, fun a b _ _ => by rw [cmpS_lex, cmpS_lex]; exact o.anti _ _ (t a) (t b), fun a b _ _ h => ?_, fun a _ => by rw [cmpS_lex]; exact o.self _ (t a), fun a b c _ _ _ => by rw [cmpS_lex, cmpS_lex, cmpS_lex]; exact o.trans _ _ _ (t a) (t b) (t c)⟩
  rw [cmpS_lex] at h
  exact bytes_ext (o.zero _ _ (t a) (t b) h)

/-! ### numbers are told by what they are -/
theorem decV_inj : ∀ (n : Nat) (x y : List UInt8), x.length = n → x.all isDig = true → y.all isDig = true → x.length = y.length → decV 0 x = decV 0 y → x = y := by
  intro n
  induction n with
  | zero => intro x y hx _ _ hl _; rw [List.eq_nil_of_length_eq_zero hx]; rw [hx] at hl; rw [List.eq_nil_of_length_eq_zero hl.symm]
  | succ n ih =>
    intro x y hx hdx hdy hl he
    obtain ⟨x', a, rfl⟩ : ∃ x' a, x = x' ++ [a] := ⟨x.dropLast, x.getLast (by intro e; rw [e] at hx; cases hx), (List.dropLast_concat_getLast _).symm⟩
    obtain ⟨y', b, rfl⟩ : ∃ x' a, y = x' ++ [a] := ⟨y.dropLast, y.getLast (by intro e; rw [e] at hl; rw [hx] at hl; cases hl), (List.dropLast_concat_getLast _).symm⟩
    rw [List.all_append, Bool.and_eq_true] at hdx hdy
    have ha := (isDig_iff a).1 (by simpa using hdx.2)
    have hb := (isDig_iff b).1 (by simpa using hdy.2)
    rw [decV_snoc, decV_snoc] at he
    have e1 : a = b := by rw [← UInt8.toNat_inj]; omega
    have e2 := ih x' y' (by simpa using hx) hdx.1 hdy.1 (by simpa using hl) (by omega)
    rw [e1, e2]
theorem decV_ge : ∀ (l : List UInt8) (a : Nat), a * 10 ^ l.length ≤ decV a l := by
  intro l
  induction l with
  | nil => intro a; simp [decV]
  | cons b t ih =>
    intro a
    have h := ih (a * 10 + (b.toNat - 48))
    have h2 : (a * 10) * 10 ^ t.length ≤ (a * 10 + (b.toNat - 48)) * 10 ^ t.length := Nat.mul_le_mul_right _ (by omega)
    rw [List.length_cons, Nat.pow_succ, Nat.mul_comm (10 ^ t.length) 10, ← Nat.mul_assoc]
    exact Nat.le_trans h2 h
theorem num_len (x y : List UInt8) (hx : numL x = true) (hy : numL y = true) (h : decV 0 x = decV 0 y) : ¬ x.length < y.length := by
  intro hlt
  obtain ⟨hx1, hx2, hx3, hx4⟩ := numL_parts hx
  obtain ⟨hy1, hy2, hy3, hy4⟩ := numL_parts hy
  have hb := decV_lt x hx3
  cases y with
  | nil => exact hy1 rfl
  | cons b t =>
    have hxl : 1 ≤ x.length := List.length_pos_iff.2 hx1
    have ht : 1 ≤ t.length := by simp at hlt; omega
    have hbd := (isDig_iff b).1 (by simp only [List.all_cons, Bool.and_eq_true] at hy3; exact hy3.1)
    have hne : b ≠ 48 := fun e => hy4 ⟨by rw [e]; rfl, by simp; intro e2; rw [e2] at ht; simp at ht⟩
    have hb1 : 49 ≤ b.toNat := by
      have : b.toNat ≠ 48 := fun e => hne (by rw [← UInt8.toNat_inj]; exact e)
      omega
    have hge := decV_ge t (b.toNat - 48)
    have e : decV 0 (b :: t) = decV (b.toNat - 48) t := by simp [decV]
    rw [e] at h
    have h3 : 1 * 10 ^ t.length ≤ (b.toNat - 48) * 10 ^ t.length := Nat.mul_le_mul_right _ (by omega)
    have h4 : 10 ^ x.length ≤ 10 ^ t.length := Nat.pow_le_pow_right (by decide) (by simp at hlt; omega)
    omega
theorem valP_inj {p q : ByteArray} (hp : numP p = true) (hq : numP q = true) (h : valP p = valP q) : p = q := by
  have h' : decV 0 p.data.toList = decV 0 q.data.toList := by unfold valP numV at h; omega
  have h1 := num_len _ _ hp hq h'
  have h2 := num_len _ _ hq hp h'.symm
  exact bytes_ext (decV_inj _ _ _ rfl (numL_parts hp).2.2.1 (numL_parts hq).2.2.1 (by omega) h')
theorem ordM : OrdOn (fun _ => True) cmpM := by
  refine ⟨?_, ?_, ?_, ?_, ?_⟩
  · intro a b; unfold cmpM; (repeat' split) <;> first | exact cmpI_rng _ _ | exact ordS.rng _ _ | simp
  · intro a b _ _
    unfold cmpM
    cases ha : numP a <;> cases hb : numP b <;> simp
    · exact ordS.anti a b trivial trivial
    · exact ordI.anti _ _ trivial trivial
  · intro a b _ _ h
    unfold cmpM at h
    cases ha : numP a <;> cases hb : numP b <;> simp [ha, hb] at h
    · exact ordS.zero a b trivial trivial h
    · exact valP_inj ha hb (cmpI_zero.1 h)
  · intro a _
    unfold cmpM
    cases ha : numP a <;> simp
    · exact ordS.self a trivial
    · exact ordI.self _ trivial
  · intro a b c _ _ _ h1 h2
    unfold cmpM at h1 h2 ⊢
    cases ha : numP a <;> cases hb : numP b <;> cases hc : numP c <;> simp [ha, hb, hc] at h1 h2 ⊢
    · exact ordS.trans a b c trivial trivial trivial h1 h2
    · exact ordI.trans _ _ _ trivial trivial trivial h1 h2
end Go.Proofs.YtckeeefeiljamaaGreatDoor
set_option linter.unusedSimpArgs false
set_option linter.unusedVariables false
namespace Go.Proofs.YtckeeefeiljamaaGreatDoor
open Go.RowKit Go.Proofs.YtckeeefeiljamaaGreatDoorW.PrintWords PSem

/-! ### a text is its pieces -/
def joinC (c : UInt8) : List ByteArray → List UInt8
  | [] => []
  | [x] => x.data.toList
  | x :: y :: l => x.data.toList ++ c :: joinC c (y :: l)
theorem pieces_ne (sep s : ByteArray) : pieces sep s ≠ [] := by
  unfold pieces
  cases Lib.countB s sep with
  | zero => simp [Lib.splitB]
  | succ k => unfold Lib.splitB; split <;> simp
theorem joinC_cons (c : UInt8) (x : ByteArray) (l : List ByteArray) (h : l ≠ []) : joinC c (x :: l) = x.data.toList ++ c :: joinC c l := by
  cases l with
  | nil => exact absurd rfl h
  | cons y l => rfl
theorem first_at (s : ByteArray) (c : UInt8) (h : ∃ i, i < s.size ∧ b8 s i = c) : ∃ i, i < s.size ∧ b8 s i = c ∧ ∀ j, 0 ≤ j → j < i → b8 s j ≠ c := by
  obtain ⟨i0, hi0⟩ := h
  induction i0 using Nat.strongRecOn with
  | _ i0 ih =>
    by_cases h : ∃ j, j < i0 ∧ b8 s j = c
    · obtain ⟨j, hj1, hj2⟩ := h; exact ih j hj1 ⟨by omega, hj2⟩
    · exact ⟨i0, hi0.1, hi0.2, fun j _ hj e => h ⟨j, hj, e⟩⟩
theorem pieces_first (s : ByteArray) (c : UInt8) (i : Nat) (hi : i < s.size) (hc : b8 s i = c) (hno : ∀ j, 0 ≤ j → j < i → b8 s j ≠ c) :
    pieces (one c) s = s.extract 0 i :: pieces (one c) (s.extract (i + 1) s.size) := by
  have hx := indexB_one s c 0 i (Nat.zero_le _) hi hc hno
  rw [ext_all, Nat.sub_zero] at hx
  exact pieces_hit (one c) s (by show 1 ≤ 1; omega) i hx
theorem pieces_none (s : ByteArray) (c : UInt8) (h : ¬ ∃ i, i < s.size ∧ b8 s i = c) : pieces (one c) s = [s] := by
  have hx := indexB_none s c 0 (fun j _ hj e => h ⟨j, hj, e⟩)
  rw [ext_all] at hx
  exact pieces_miss _ _ hx
theorem join_pieces (c : UInt8) : ∀ (n : Nat) (s : ByteArray), s.size = n → joinC c (pieces (one c) s) = s.data.toList := by
  intro n
  induction n using Nat.strongRecOn with
  | _ n ih =>
    intro s hn
    by_cases hd : ∃ i, i < s.size ∧ b8 s i = c
    · obtain ⟨i, hi, hc, hno⟩ := first_at s c hd
      rw [pieces_first s c i hi hc hno, joinC_cons _ _ _ (pieces_ne _ _), ih (s.size - (i + 1)) (by omega) _ (by rw [ByteArray.size_extract]; omega)]
      rw [ext_data, ext_data, List.drop_zero, List.take_of_length_le (show s.data.toList.length ≤ s.size by rw [data_length]; exact Nat.le_refl _)]
      have h2 : i < s.data.toList.length := by rw [data_length]; exact hi
      have e : s.data.toList.drop i = c :: s.data.toList.drop (i + 1) := by
        rw [List.drop_eq_getElem_cons h2]
        congr 1
        have := b8_get s i hi
        rw [List.getElem?_eq_getElem h2] at this
        rw [← hc]; exact Option.some.inj this
      rw [← e, List.take_append_drop]
    · rw [pieces_none s c hd]; rfl
theorem pieces_inj {p q : ByteArray} (h : pieces dot p = pieces dot q) : p = q := by
  have h1 := join_pieces 46 p.size p rfl
  have h2 := join_pieces 46 q.size q rfl
  have e : pieces (one 46) p = pieces (one 46) q := h
  rw [e] at h1
  exact bytes_ext (h1.symm.trans h2)

/-! ### two Pres -/
theorem cmpL_lex : ∀ (x y : List ByteArray) (m n d : Nat), m = x.length + d → n = y.length + d → cmpL m n x y = lexL cmpM x y := by
  intro x
  induction x with
  | nil =>
    intro y m n d hm hn
    cases y with
    | nil => show cmpI (m : Int) (n : Int) = 0; rw [cmpI_zero]; simp at hm hn; omega
    | cons q y => show cmpI (m : Int) (n : Int) = -1; unfold cmpI; simp at hm hn; rw [if_pos (by omega)]
  | cons p x ih =>
    intro y m n d hm hn
    cases y with
    | nil => show cmpI (m : Int) (n : Int) = 1; unfold cmpI; simp at hm hn; rw [if_neg (by omega), if_pos (by omega)]
    | cons q y =>
      simp only [cmpL, lexL]
      by_cases h : p.toList = q.toList
      · have e : p = q := bytes_ext (by rwa [ba_toList, ba_toList] at h)
        subst e
        rw [if_pos rfl, if_pos (ordM.self p trivial)]
        exact ih y m n (d + 1) (by simp at hm; omega) (by simp at hn; omega)
      · rw [if_neg h, if_neg (fun e => h (by rw [ordM.zero p q trivial trivial e]))]
theorem marksV_lex (p q : ByteArray) : marksV p q = if p.toList = [] ∨ q.toList = [] then cmpI q.size p.size else lexL cmpM (pieces dot p) (pieces dot q) := by
  unfold marksV
  split
  · rfl
  · exact cmpL_lex _ _ _ _ 0 rfl rfl
theorem size_nil (p : ByteArray) : p.toList = [] ↔ p.size = 0 := by rw [ba_toList, ← List.length_eq_zero_iff, data_length]
theorem ordP : OrdOn (fun _ => True) marksV := by
  have o := ordL ordM
  have t : ∀ l : List ByteArray, ∀ x ∈ l, True := fun _ _ _ => trivial
  refine ⟨?_, ?_, ?_, ?_, ?_⟩
  · intro a b; rw [marksV_lex]; split
    · exact cmpI_rng _ _
    · exact o.rng _ _
  · intro a b _ _
    rw [marksV_lex, marksV_lex]
    by_cases h : a.toList = [] ∨ b.toList = []
    · rw [if_pos h, if_pos h.symm]; exact ordI.anti _ _ trivial trivial
    · rw [if_neg h, if_neg (fun e => h e.symm)]; exact o.anti _ _ (t _) (t _)
  · intro a b _ _ h
    rw [marksV_lex] at h
    by_cases h2 : a.toList = [] ∨ b.toList = []
    · rw [if_pos h2] at h
      have := cmpI_zero.1 h
      rw [size_nil, size_nil] at h2
      apply bytes_ext
      rw [List.eq_nil_of_length_eq_zero (show a.data.toList.length = 0 by rw [data_length]; omega), List.eq_nil_of_length_eq_zero (show b.data.toList.length = 0 by rw [data_length]; omega)]
    · rw [if_neg h2] at h
      exact pieces_inj (o.zero _ _ (t _) (t _) h)
  · intro a _
    rw [marksV_lex]; split
    · exact ordI.self _ trivial
    · exact o.self _ (t _)
  · intro a b c _ _ _ h1 h2
    rw [marksV_lex] at h1 h2 ⊢
    simp only [size_nil] at h1 h2 ⊢
    by_cases ha : a.size = 0
    · by_cases hb : b.size = 0
      · rw [if_pos (.inl hb)] at h2
        rw [if_pos (.inl ha)]; rw [ha]; rw [hb] at h2; exact h2
      · rw [if_pos (.inl ha), ha] at h1
        unfold cmpI at h1; rw [if_neg (by omega), if_pos (by omega)] at h1; omega
    · by_cases hb : b.size = 0
      · rw [if_pos (.inl hb), hb] at h2
        have hc : c.size = 0 := by
          by_cases hc : c.size = 0
          · exact hc
          · unfold cmpI at h2; rw [if_neg (by omega), if_pos (by omega)] at h2; omega
        rw [if_pos (.inr hc), hc]
        unfold cmpI; rw [if_pos (by omega)]; omega
      · by_cases hc : c.size = 0
        · rw [if_pos (.inr hc), hc]
          unfold cmpI; rw [if_pos (by omega)]; omega
        · rw [if_neg (by omega)] at h1 h2 ⊢
          exact o.trans _ _ _ (t _) (t _) (t _) h1 h2
theorem sign_id (p q : ByteArray) : cmpI (marksV p q) 0 = marksV p q := by
  rcases ordP.rng p q with h | h | h <;> rw [h] <;> rfl

/-! ### versions -/
structure Ver where
  a : Int
  b : Int
  c : Int
  p : ByteArray
def cmpVer (v w : Ver) : Int := cmpV v.a v.b v.c v.p w.a w.b w.c w.p
theorem cmpVer_eq (v w : Ver) : cmpVer v w = if cmpI v.a w.a = 0 then (if cmpI v.b w.b = 0 then (if cmpI v.c w.c = 0 then marksV v.p w.p else cmpI v.c w.c) else cmpI v.b w.b) else cmpI v.a w.a := by
  unfold cmpVer cmpV
  rw [sign_id]
  simp only [orL]
  by_cases h : marksV v.p w.p = 0
  · rw [if_pos h, h]
  · rw [if_neg h]
theorem ordV : OrdOn (fun _ => True) cmpVer := by
  have hI := fun x y => ordI.anti x y trivial trivial
  refine ⟨?_, ?_, ?_, ?_, ?_⟩
  · intro v w; rw [cmpVer_eq]; (repeat' split) <;> first | exact cmpI_rng _ _ | exact ordP.rng _ _
  · intro v w _ _
    rw [cmpVer_eq, cmpVer_eq]
    have h1 := hI v.a w.a; have h2 := hI v.b w.b; have h3 := hI v.c w.c; have h4 := ordP.anti v.p w.p trivial trivial
    (repeat' split) <;> omega
  · intro v w _ _ h
    rw [cmpVer_eq] at h
    by_cases h1 : cmpI v.a w.a = 0
    · rw [if_pos h1] at h
      by_cases h2 : cmpI v.b w.b = 0
      · rw [if_pos h2] at h
        by_cases h3 : cmpI v.c w.c = 0
        · rw [if_pos h3] at h
          have e1 := cmpI_zero.1 h1; have e2 := cmpI_zero.1 h2; have e3 := cmpI_zero.1 h3; have e4 := ordP.zero _ _ trivial trivial h
          obtain ⟨va, vb, vc, vp⟩ := v
          obtain ⟨wa, wb, wc, wp⟩ := w
          simp only at e1 e2 e3 e4
          subst e1; subst e2; subst e3; subst e4; rfl
        · rw [if_neg h3] at h; exact absurd h h3
      · rw [if_neg h2] at h; exact absurd h h2
    · rw [if_neg h1] at h; exact absurd h h1
  · intro v _
    rw [cmpVer_eq, if_pos (cmpI_zero.2 rfl), if_pos (cmpI_zero.2 rfl), if_pos (cmpI_zero.2 rfl)]; exact ordP.self _ trivial
  · intro u v w _ _ _ h1 h2
    rw [cmpVer_eq] at h1 h2 ⊢
    have tp := ordP.trans u.p v.p w.p trivial trivial trivial
    generalize marksV u.p v.p = x1 at *
    generalize marksV v.p w.p = x2 at *
    generalize marksV u.p w.p = x3 at *
    have z : ∀ x y : Int, (cmpI x y = 0 ↔ x = y) ∧ (cmpI x y ≤ 0 ↔ x ≤ y) := fun x y => ⟨cmpI_zero, by unfold cmpI; (repeat' split) <;> omega⟩
    simp only [(z _ _).1] at h1 h2 ⊢
    by_cases a1 : u.a = v.a
    · rw [if_pos a1] at h1
      by_cases a2 : v.a = w.a
      · rw [if_pos a2] at h2
        rw [if_pos (a1.trans a2)]
        by_cases b1 : u.b = v.b
        · rw [if_pos b1] at h1
          by_cases b2 : v.b = w.b
          · rw [if_pos b2] at h2
            rw [if_pos (b1.trans b2)]
            by_cases c1 : u.c = v.c
            · rw [if_pos c1] at h1
              by_cases c2 : v.c = w.c
              · rw [if_pos c2] at h2; rw [if_pos (c1.trans c2)]; exact tp h1 h2
              · rw [if_neg c2] at h2; rw [c1, if_neg c2]; exact h2
            · rw [if_neg c1, (z _ _).2] at h1
              by_cases c2 : v.c = w.c
              · rw [← c2, if_neg c1, (z _ _).2]; exact h1
              · rw [if_neg c2, (z _ _).2] at h2; rw [if_neg (by omega), (z _ _).2]; omega
          · rw [if_neg b2] at h2; rw [b1, if_neg b2]; exact h2
        · rw [if_neg b1, (z _ _).2] at h1
          by_cases b2 : v.b = w.b
          · rw [← b2, if_neg b1, (z _ _).2]; exact h1
          · rw [if_neg b2, (z _ _).2] at h2; rw [if_neg (by omega), (z _ _).2]; omega
      · rw [if_neg a2] at h2; rw [a1, if_neg a2]; exact h2
    · rw [if_neg a1, (z _ _).2] at h1
      by_cases a2 : v.a = w.a
      · rw [← a2, if_neg a1, (z _ _).2]; exact h1
      · rw [if_neg a2, (z _ _).2] at h2; rw [if_neg (by omega), (z _ _).2]; omega

/-! ### the reference's Compare -/
theorem by_some (a b : Int) : slipwayref01_by.f a b = some (cmpI a b) := by
  unfold slipwayref01_by.f cmpI; split
  · rfl
  · split <;> rfl
theorem lex_step {α : Type} (f : α → α → Int) (x y : List α) (j : Nat) (h1 : j < x.length) (h2 : j < y.length) : lexL f (x.drop j) (y.drop j) = if f x[j] y[j] = 0 then lexL f (x.drop (j + 1)) (y.drop (j + 1)) else f x[j] y[j] := by
  rw [List.drop_eq_getElem_cons h1, List.drop_eq_getElem_cons h2]; rfl
theorem lex_end {α : Type} (f : α → α → Int) (x y : List α) (j : Nat) (hx : j ≤ x.length) (hy : j ≤ y.length) (h : j = x.length ∨ j = y.length) : lexL f (x.drop j) (y.drop j) = cmpI x.length y.length := by
  by_cases h1 : j = x.length
  · subst h1
    rw [List.drop_of_length_le (Nat.le_refl _)]
    by_cases h2 : x.length = y.length
    · rw [h2, List.drop_of_length_le (Nat.le_refl _)]; rw [cmpI_zero.2 rfl]; rfl
    · have : y.drop x.length ≠ [] := fun e => by have := List.drop_eq_nil_iff.1 e; omega
      cases h3 : y.drop x.length with
      | nil => exact absurd h3 this
      | cons a l => show (-1 : Int) = _; unfold cmpI; rw [if_pos (by omega)]
  · have h2 := h.resolve_left h1
    subst h2
    rw [List.drop_of_length_le (Nat.le_refl y.length)]
    have : x.drop y.length ≠ [] := fun e => by have := List.drop_eq_nil_iff.1 e; omega
    cases h3 : x.drop y.length with
    | nil => exact absurd h3 this
    | cons a l => show (1 : Int) = _; unfold cmpI; rw [if_neg (by omega), if_pos (by omega)]
theorem texts_l0 (p q : ByteArray) (hp : p.size < 4294967281) : ∀ (d j : Nat), j + d = p.size → j ≤ q.size → E (fun k => slipwayref01_texts.l0 k p q (j : Int)) (lexL cmpB (p.data.toList.drop j) (q.data.toList.drop j)) := by
  intro d
  induction d with
  | zero =>
    intro j hj hq
    refine E.step ?_
    simp only [slipwayref01_texts.l0]
    refine E.ite_neg (by omega) (E.step ?_)
    simp only [slipwayref01_texts.j1]
    refine E.ite_neg (by simp) (E.bindc (by_some _ _) ?_)
    rw [lex_end cmpB _ _ j (by rw [data_length]; omega) (by rw [data_length]; exact hq) (.inl (by rw [data_length]; omega)), data_length, data_length]
    exact E.some _
  | succ d ih =>
    intro j hj hq
    refine E.step ?_
    simp only [slipwayref01_texts.l0]
    refine E.ite_pos (by omega) (E.step ?_)
    simp only [slipwayref01_texts.j1]
    refine E.ite (fun h => ?_) (fun h => ?_)
    · have h : j < q.size := by simp at h; omega
      refine E.ite_pos (by omega) (E.ite_pos (by omega) (E.ite_pos (by omega) ?_))
      rw [bt_b8 p j (by omega), bt_b8 q j h]
      have h1 : j < p.data.toList.length := by rw [data_length]; omega
      have h2 : j < q.data.toList.length := by rw [data_length]; omega
      have e1 : p.data.toList[j] = b8 p j := by have := b8_get p j (by omega); rw [List.getElem?_eq_getElem h1] at this; exact Option.some.inj this
      have e2 : q.data.toList[j] = b8 q j := by have := b8_get q j h; rw [List.getElem?_eq_getElem h2] at this; exact Option.some.inj this
      rw [lex_step cmpB _ _ j h1 h2, e1, e2]
      refine E.ite (fun hb => ?_) (fun hb => ?_)
      · rw [if_pos (by unfold cmpB; rw [cmpI_zero]; exact hb), wrap_id (by omega)]
        exact ih (j + 1) (by omega) (by omega)
      · rw [if_neg (by unfold cmpB; rw [cmpI_zero]; exact hb)]
        have hb1 := (b8 p j).toNat_lt
        have hb2 := (b8 q j).toNat_lt
        rw [wrap_id (by omega), wrap_id (by omega)]
        exact E.bindc (by_some _ _) (E.some _)
    · have h : q.size ≤ j := by simp at h; omega
      refine E.bindc (by_some _ _) ?_
      rw [lex_end cmpB _ _ j (by rw [data_length]; omega) (by rw [data_length]; exact hq) (.inr (by rw [data_length]; omega)), data_length, data_length]
      exact E.some _
theorem texts_E (p q : ByteArray) (hp : p.size < 4294967281) : E (fun k => slipwayref01_texts.f k p q) (cmpS p q) := by
  rw [cmpS_lex]
  exact texts_l0 p q hp p.size 0 (by omega) (Nat.zero_le _)
theorem numO_2 (q : ByteArray) : (numO q).2 = numP q := by unfold numO; cases e : numP q <;> simp
theorem numO_1 (q : ByteArray) (e : numP q = true) : (numO q).1 = valP q := by unfold numO; rw [if_pos e]
theorem refMarks_E (p q : ByteArray) (hp : p.size < 4294967281) : E (fun k => slipwayref01_marks.f k p q) (cmpM p q) := by
  unfold slipwayref01_marks.f cmpM
  refine E.bind (Number_E p) (E.bind (Number_E q) ?_)
  rw [numO_2, numO_2]
  cases hp' : numP p with
  | true =>
    refine E.ite_pos rfl (E.step ?_)
    simp only [slipwayref01_marks.j0]
    cases hq : numP q with
    | true => refine E.ite_pos rfl (E.bindc (by_some _ _) ?_); rw [numO_1 _ hp', numO_1 _ hq]; exact E.some _
    | false => exact E.ite_neg (by simp) (E.ite_pos (by trivial) (E.some _))
  | false =>
    refine E.ite_neg (by simp) (E.step ?_)
    simp only [slipwayref01_marks.j0]
    refine E.ite_neg (by simp) (E.ite_neg (by simp) ?_)
    cases hq : numP q with
    | true => exact E.ite_pos rfl (E.some _)
    | false => exact E.ite_neg (by simp) (E.bind (texts_E p q hp) (E.some _))
theorem refCompare_l0 (x y : List ByteArray) (hx : x.length < 4294967297) (hb : ∀ p ∈ x, p.size < 4294967281) : ∀ (d j : Nat), j + d = x.length → j ≤ y.length → E (fun k => slipwayref01_Compare.l0 k x y (j : Int)) (lexL cmpM (x.drop j) (y.drop j)) := by
  intro d
  induction d with
  | zero =>
    intro j hj hq
    refine E.step ?_
    simp only [slipwayref01_Compare.l0]
    refine E.ite_neg (by omega) (E.step ?_)
    simp only [slipwayref01_Compare.j4]
    refine E.ite_neg (by simp) (E.bindc (by_some _ _) ?_)
    rw [lex_end cmpM _ _ j (by omega) hq (.inl (by omega))]
    exact E.some _
  | succ d ih =>
    intro j hj hq
    refine E.step ?_
    simp only [slipwayref01_Compare.l0]
    refine E.ite_pos (by omega) (E.step ?_)
    simp only [slipwayref01_Compare.j4]
    refine E.ite (fun h => ?_) (fun h => ?_)
    · have h : j < y.length := by simp at h; omega
      have hj' : j < x.length := by omega
      refine E.ite_pos (by omega) (E.ite_pos (by omega) (E.ite_pos (by omega) ?_))
      have e1 : rdOf ByteArray.empty x (j : Int) = x[j] := by rw [rd_at, List.getD_eq_getElem?_getD, List.getElem?_eq_getElem hj']; rfl
      have e2 : rdOf ByteArray.empty y (j : Int) = y[j] := by rw [rd_at, List.getD_eq_getElem?_getD, List.getElem?_eq_getElem h]; rfl
      rw [e1, e2, lex_step cmpM _ _ j hj' h]
      refine E.bind (refMarks_E _ _ (hb _ (List.getElem_mem _))) (E.ite (fun hz => ?_) (fun hz => ?_))
      · rw [if_pos hz, wrap_id (by omega)]; exact ih (j + 1) (by omega) (by omega)
      · rw [if_neg hz]; exact E.some _
    · have h : y.length ≤ j := by simp at h; omega
      refine E.bindc (by_some _ _) ?_
      rw [lex_end cmpM _ _ j (by omega) hq (.inr (by omega))]
      exact E.some _
theorem pieces_size (s : ByteArray) : ∀ p ∈ pieces dot s, p.size ≤ s.size := by
  suffices ∀ n (s : ByteArray), s.size = n → ∀ p ∈ pieces (one 46) s, p.size ≤ s.size from this s.size s rfl
  intro n
  induction n using Nat.strongRecOn with
  | _ n ih =>
    intro s hn p hp
    by_cases hd : ∃ i, i < s.size ∧ b8 s i = 46
    · obtain ⟨i, hi, hc, hno⟩ := first_at s 46 hd
      rw [pieces_first s 46 i hi hc hno] at hp
      rcases List.mem_cons.1 hp with rfl | hp
      · rw [ByteArray.size_extract]; omega
      · have hz : (s.extract (i + 1) s.size).size = s.size - (i + 1) := by rw [ByteArray.size_extract]; omega
        have := ih (s.size - (i + 1)) (by omega) _ hz p hp
        omega
    · rw [pieces_none s 46 hd] at hp
      rw [List.mem_singleton.1 hp]; exact Nat.le_refl _
theorem refCompare_E (v w : Ver) (hv : v.p.size < 4294967281) (hw : w.p.size < 4294967281) : E (fun k => slipwayref01_Compare.f k v.a v.b v.c v.p w.a w.b w.c w.p) (cmpVer v w) := by
  have tail : ∀ x5 : Int, (x5 ≠ 0 → E (fun k => slipwayref01_Compare.j1 k x5 v.a v.b v.c v.p w.a w.b w.c w.p) x5) := by
    intro x5 h
    refine E.step ?_
    simp only [slipwayref01_Compare.j1]
    refine E.ite_neg h (E.step ?_)
    simp only [slipwayref01_Compare.j2]
    exact E.ite_pos (by trivial) (E.some _)
  have last : E (fun k => slipwayref01_Compare.j1 k 0 v.a v.b v.c v.p w.a w.b w.c w.p) (marksV v.p w.p) := by
    refine E.step ?_
    simp only [slipwayref01_Compare.j1]
    refine E.ite_pos (by trivial) (E.step ?_)
    simp only [slipwayref01_Compare.j2]
    refine E.ite (fun h => ?_) (fun h => E.ite (fun h1 => ?_) (fun h1 => E.ite (fun h2 => ?_) (fun h2 => ?_)))
    · have e : v.p = w.p := by
        have := beq_iff_eq.1 h
        rw [ba_toList, ba_toList] at this; exact bytes_ext this
      rw [e, ordP.self _ trivial]; exact E.some _
    · rw [marksV_lex, if_pos (.inl h1), (size_nil _).1 h1]
      have : w.p.size ≠ 0 := fun e => h (by rw [h1, (size_nil _).2 e]; rfl)
      have e : cmpI (w.p.size : Int) ((0 : Nat) : Int) = 1 := by unfold cmpI; rw [if_neg (by omega), if_pos (by omega)]
      rw [e]; exact E.some _
    · rw [marksV_lex, if_pos (.inr h2), (size_nil _).1 h2]
      have : v.p.size ≠ 0 := fun e => h1 ((size_nil _).2 e)
      have e : cmpI ((0 : Nat) : Int) (v.p.size : Int) = -1 := by unfold cmpI; rw [if_pos (by omega)]
      rw [e]; exact E.some _
    · rw [marksV_lex, if_neg (by rintro (e | e); exact h1 e; exact h2 e)]
      refine E.bind (Cut_E v.p 46 hv) (E.bind (Cut_E w.p 46 hw) ?_)
      have hl := pieces_len v.p
      have := refCompare_l0 (pieces dot v.p) (pieces dot w.p) (by omega) (fun p hp => Nat.lt_of_le_of_lt (pieces_size _ p hp) hv) (pieces dot v.p).length 0 (by omega) (Nat.zero_le _)
      exact this
  have j0 : ∀ x5 : Int, E (fun k => slipwayref01_Compare.j0 k x5 v.a v.b v.c v.p w.a w.b w.c w.p) (if x5 = 0 then (if cmpI v.c w.c = 0 then marksV v.p w.p else cmpI v.c w.c) else x5) := by
    intro x5
    refine E.step ?_
    simp only [slipwayref01_Compare.j0]
    refine E.ite (fun h => ?_) (fun h => ?_)
    · rw [if_pos h]
      refine E.bindc (by_some _ _) ?_
      by_cases h2 : cmpI v.c w.c = 0
      · rw [if_pos h2, h2]; exact last
      · rw [if_neg h2]; exact tail _ h2
    · rw [if_neg h]; exact tail _ h
  unfold slipwayref01_Compare.f
  rw [cmpVer_eq]
  refine E.bindc (by_some _ _) (E.ite (fun h => ?_) (fun h => ?_))
  · rw [if_pos h]
    refine E.bindc (by_some _ _) ?_
    exact j0 _
  · rw [if_neg h]
    have := j0 (cmpI v.a w.a)
    rw [if_neg h] at this
    exact this
end Go.Proofs.YtckeeefeiljamaaGreatDoor
set_option linter.unusedSimpArgs false
set_option linter.unusedVariables false
namespace Go.Proofs.YtckeeefeiljamaaGreatDoor
open Go.RowKit Go.Proofs.YtckeeefeiljamaaGreatDoorW.PrintWords PSem

/-! ### lists of bytes as texts -/
theorem tb_data (l : List UInt8) : (toBytes l).data.toList = l := by simp [toBytes]
theorem tb_size (l : List UInt8) : (toBytes l).size = l.length := by rw [← data_length, tb_data]
theorem tb_b8 (l : List UInt8) (j : Nat) : b8 (toBytes l) j = l.getD j 0 := by unfold b8; rw [tb_data]
theorem tb_inj {x y : List UInt8} (h : toBytes x = toBytes y) : x = y := by rw [← tb_data x, h, tb_data]
theorem tb_app (x y : List UInt8) : toBytes x ++ toBytes y = toBytes (x ++ y) := by apply bytes_ext; simp [toBytes]
theorem getD_mem {x : List UInt8} {j : Nat} (h : j < x.length) : x.getD j 0 ∈ x := by rw [List.getD_eq_getElem?_getD, List.getElem?_eq_getElem h]; exact List.getElem_mem _
theorem no_before (x y : List UInt8) (c : UInt8) (h : c ∉ x) : ∀ j, 0 ≤ j → j < x.length → b8 (toBytes (x ++ y)) j ≠ c := by
  intro j _ hj e
  rw [tb_b8, List.getD_eq_getElem?_getD, List.getElem?_append_left hj, ← List.getD_eq_getElem?_getD] at e
  exact h (e ▸ getD_mem hj)
theorem at_sep (x y : List UInt8) (c : UInt8) : b8 (toBytes (x ++ c :: y)) x.length = c := by
  rw [tb_b8, List.getD_eq_getElem?_getD, List.getElem?_append_right (Nat.le_refl _)]; simp
theorem pieces_cons (x y : List UInt8) (c : UInt8) (h : c ∉ x) : pieces (one c) (toBytes (x ++ c :: y)) = toBytes x :: pieces (one c) (toBytes y) := by
  rw [pieces_first _ c x.length (by rw [tb_size]; simp) (at_sep x y c) (no_before x _ c h)]
  congr 1
  · apply bytes_ext; rw [ext_data, tb_data, tb_data]; simp
  · congr 1; apply bytes_ext; rw [ext_data, tb_data, tb_data, tb_size, List.take_of_length_le (Nat.le_refl _)]
    have : x ++ c :: y = (x ++ [c]) ++ y := by simp
    rw [this, List.drop_left' (by simp)]
theorem pieces_one (x : List UInt8) (c : UInt8) (h : c ∉ x) : pieces (one c) (toBytes x) = [toBytes x] := by
  refine pieces_none _ _ ?_
  rintro ⟨i, hi, e⟩
  rw [tb_size] at hi
  rw [tb_b8] at e
  exact h (e ▸ getD_mem hi)
theorem pieces_app (c : UInt8) : ∀ (n : Nat) (x y : List UInt8), x.length = n → pieces (one c) (toBytes (x ++ c :: y)) = pieces (one c) (toBytes x) ++ pieces (one c) (toBytes y) := by
  intro n
  induction n using Nat.strongRecOn with
  | _ n ih =>
    intro x y hn
    by_cases h : c ∈ x
    · obtain ⟨a, b, rfl, ha⟩ := List.eq_append_cons_of_mem h
      rw [List.append_assoc, List.cons_append, pieces_cons _ _ _ ha, pieces_cons _ _ _ ha, ih b.length (by simp at hn; omega) b y rfl]
      rfl
    · rw [pieces_cons _ _ _ h, pieces_one _ _ h]; rfl
theorem cut_hit (x y : List UInt8) (h : 45 ∉ x) : Lib.cut (x ++ 45 :: y) [45] = (x, y, true) := by
  have := cut_some (toBytes (x ++ 45 :: y)) x.length (by rw [tb_size]; simp) (at_sep x y 45) (no_before x _ 45 h)
  rw [tb_data] at this
  rw [this]; simp
theorem cut_miss (x : List UInt8) (h : 45 ∉ x) : Lib.cut x [45] = (x, [], false) := by
  have := cut_none (toBytes x) (fun j h0 hj => by
    rw [tb_size] at hj
    intro e
    rw [tb_b8] at e
    exact h (e ▸ getD_mem hj))
  rwa [tb_data] at this

/-! ### decimal digits -/
theorem dg_isDig (k : Nat) (h : k < 10) : isDig (UInt8.ofNat (48 + k)) = true ∧ (UInt8.ofNat (48 + k)).toNat - 48 = k := by
  have : ∀ k : Fin 10, isDig (UInt8.ofNat (48 + k.1)) = true ∧ (UInt8.ofNat (48 + k.1)).toNat - 48 = k.1 := by decide
  exact this ⟨k, h⟩
theorem dec_props : ∀ (u : Nat), (Lib.decDigits u).all isDig = true ∧ decV 0 (Lib.decDigits u) = u ∧ Lib.decDigits u ≠ [] := by
  intro u
  induction u using Nat.strongRecOn with
  | _ u ih =>
    by_cases h : u < 10
    · rw [Lib.decDigits_one h]
      have := dg_isDig u h
      refine ⟨by rw [List.all_cons, this.1]; rfl, ?_, by simp⟩
      show 0 * 10 + _ = u
      omega
    · rw [Lib.decDigits, dif_neg h]
      have i := ih (u / 10) (by omega)
      have d := dg_isDig (u % 10) (by omega)
      refine ⟨by rw [List.all_append, i.1, List.all_cons, d.1]; rfl, ?_, by simp⟩
      rw [decV_snoc, i.2.1, d.2]; omega
theorem dec_len : ∀ (k u : Nat), u < 10 ^ (k + 1) → (Lib.decDigits u).length ≤ k + 1 := by
  intro k
  induction k with
  | zero => intro u h; rw [Lib.decDigits_one (by simpa using h)]; simp
  | succ k ih =>
    intro u h
    by_cases h1 : u < 10
    · rw [Lib.decDigits_one h1]; simp
    · rw [Lib.decDigits, dif_neg h1]
      have := ih (u / 10) (by rw [Nat.pow_succ] at h; omega)
      simp; exact this
theorem dec_head : ∀ (u : Nat), 1 ≤ u → (Lib.decDigits u).head? ≠ some 48 := by
  intro u
  induction u using Nat.strongRecOn with
  | _ u ih =>
    intro h
    by_cases h1 : u < 10
    · rw [Lib.decDigits_one h1]
      have : ∀ k : Fin 10, 1 ≤ k.1 → UInt8.ofNat (48 + k.1) ≠ 48 := by decide
      have := this ⟨u, h1⟩ h
      simpa using this
    · rw [Lib.decDigits, dif_neg h1]
      have i := ih (u / 10) (by omega) (by omega)
      have n := (dec_props (u / 10)).2.2
      rw [List.head?_append]
      cases e : (Lib.decDigits (u / 10)).head? with
      | none => exact absurd (List.head?_eq_none_iff.1 e) n
      | some c => rw [e] at i; simpa using i
theorem numL_dec (u : Nat) (h : u ≤ 999999) : numL (Lib.decDigits u) = true := by
  have p := dec_props u
  have l := dec_len 5 u (by omega)
  unfold numL
  rw [p.1]
  have e1 : (Lib.decDigits u).isEmpty = false := by cases e : Lib.decDigits u with | nil => exact absurd e p.2.2 | cons _ _ => rfl
  have e2 : decide ((Lib.decDigits u).length ≤ 6) = true := by simpa using l
  rw [e1, e2]
  have e3 : (decide ((Lib.decDigits u).head? = some 48) && decide ((Lib.decDigits u).length ≠ 1)) = false := by
    by_cases h0 : u = 0
    · subst h0; rw [Lib.decDigits_one (by omega)]; rfl
    · have := dec_head u (by omega)
      simp [this]
  rw [e3]; rfl
theorem dec_no (u : Nat) (c : UInt8) (hc : isDig c = false) : c ∉ Lib.decDigits u := fun h => by
  have := List.all_eq_true.1 (dec_props u).1 c h
  rw [hc] at this; cases this

/-! ### the text -/
/-- The numbers of a version as a text. -/
def numsT (a b c : Int) : List UInt8 := Lib.itoa a ++ 46 :: (Lib.itoa b ++ 46 :: Lib.itoa c)
def textL (a b c : Int) (p : List UInt8) : List UInt8 := numsT a b c ++ (if p = [] then [] else 45 :: p)
def textB (a b c : Int) (p : ByteArray) : ByteArray := toBytes (textL a b c p.data.toList)
theorem itoa_nat (a : Int) (h : 0 ≤ a) : Lib.itoa a = Lib.decDigits a.toNat := by unfold Lib.itoa; rw [if_neg (by omega)]
theorem inN_iff {n : Int} : inN n = true ↔ 0 ≤ n ∧ n ≤ 999999 := by simp [inN]
theorem itoa_no {a : Int} (h : inN a = true) (c : UInt8) (hc : isDig c = false) : c ∉ Lib.itoa a := by
  rw [itoa_nat a (inN_iff.1 h).1]; exact dec_no _ c hc
theorem itoa_num {a : Int} (h : inN a = true) : numP (toBytes (Lib.itoa a)) = true ∧ valP (toBytes (Lib.itoa a)) = a := by
  have h := inN_iff.1 h
  unfold numP valP numV
  rw [tb_data, itoa_nat a h.1]
  refine ⟨numL_dec _ (by omega), ?_⟩
  rw [(dec_props _).2.1]; omega
theorem nums_no {a b c : Int} (ha : inN a = true) (hb : inN b = true) (hc : inN c = true) : (45 : UInt8) ∉ numsT a b c := by
  unfold numsT
  simp only [List.mem_append, List.mem_cons, not_or]
  exact ⟨itoa_no ha 45 rfl, by decide, itoa_no hb 45 rfl, by decide, itoa_no hc 45 rfl⟩
theorem nums_pieces {a b c : Int} (ha : inN a = true) (hb : inN b = true) (hc : inN c = true) : pieces dot (toBytes (numsT a b c)) = [toBytes (Lib.itoa a), toBytes (Lib.itoa b), toBytes (Lib.itoa c)] := by
  show pieces (one 46) _ = _
  unfold numsT
  rw [pieces_cons _ _ _ (itoa_no ha 46 rfl), pieces_cons _ _ _ (itoa_no hb 46 rfl), pieces_one _ _ (itoa_no hc 46 rfl)]
theorem rightB_iff {a b c : Int} {p : ByteArray} : rightB a b c p = true ↔ inN a = true ∧ inN b = true ∧ inN c = true ∧ preO p = true := by unfold rightB; simp
theorem parse_text {a b c : Int} {p : ByteArray} (h : rightB a b c p = true) : parseV (textB a b c p) = (a, b, c, p, 0) := by
  obtain ⟨ha, hb, hc, hp⟩ := rightB_iff.1 h
  have na := itoa_num ha; have nb := itoa_num hb; have nc := itoa_num hc
  have np := nums_pieces ha hb hc
  have all : ([toBytes (Lib.itoa a), toBytes (Lib.itoa b), toBytes (Lib.itoa c)] : List ByteArray).all numP = true := by simp [na.1, nb.1, nc.1]
  unfold parseV textB
  rw [tb_data]
  by_cases h0 : p.data.toList = []
  · have e : textL a b c p.data.toList = numsT a b c := by unfold textL; rw [if_pos h0, List.append_nil]
    rw [e, cut_miss _ (nums_no ha hb hc)]
    simp only [np]
    rw [if_neg (by simp [na.1, nb.1, nc.1])]
    have ep : toBytes [] = p := bytes_ext (by rw [tb_data, h0])
    simp [na.2, nb.2, nc.2, ep]
  · have e : textL a b c p.data.toList = numsT a b c ++ 45 :: p.data.toList := by unfold textL; rw [if_neg h0]
    rw [e, cut_hit _ _ (nums_no ha hb hc)]
    simp only [np]
    have hpb : preB p = true := by
      unfold preO at hp
      rw [ba_toList] at hp
      cases e2 : p.data.toList with
      | nil => exact absurd e2 h0
      | cons x l => rw [e2] at hp; simpa using hp
    rw [toBytes_data]
    rw [if_neg (by simp [na.1, nb.1, nc.1, hpb])]
    simp [na.2, nb.2, nc.2]
theorem text_inj {v w : Ver} (hv : rightB v.a v.b v.c v.p = true) (hw : rightB w.a w.b w.c w.p = true) (h : textB v.a v.b v.c v.p = textB w.a w.b w.c w.p) : v = w := by
  have e := parse_text hv
  rw [h, parse_text hw] at e
  obtain ⟨va, vb, vc, vp⟩ := v
  obtain ⟨wa, wb, wc, wp⟩ := w
  simp only [Prod.mk.injEq] at e
  obtain ⟨e1, e2, e3, e4, _⟩ := e
  subst e1; subst e2; subst e3; subst e4; rfl

/-! ### the program's Text, the document's Text -/
theorem itoa_len {a : Int} (h : inN a = true) : (Lib.itoa a).length ≤ 6 := by
  have h := inN_iff.1 h
  rw [itoa_nat a h.1]; exact dec_len 5 _ (by omega)
theorem itoa_some {a : Int} (h : inN a = true) : strconv_Itoa.f a = some (toBytes (Lib.itoa a)) := by
  have h := inN_iff.1 h
  unfold strconv_Itoa.f; rw [if_pos (by omega)]
theorem tb_lit (l : List UInt8) : (⟨l.toArray⟩ : ByteArray) = toBytes l := rfl
end Go.Proofs.YtckeeefeiljamaaGreatDoor
set_option linter.unusedSimpArgs false
set_option linter.unusedVariables false
namespace Go.Proofs.YtckeeefeiljamaaGreatDoor
open Go.RowKit Go.Proofs.YtckeeefeiljamaaGreatDoorW.PrintWords PSem

abbrev nob : ByteArray := ⟨#[]⟩
theorem CmpB_E (v w : Ver) (h : v.p.size ≤ 1000) (h' : w.p.size ≤ 1000) : E (fun k => semver_Compare.f k v.a v.b v.c v.p w.a w.b w.c w.p) (cmpVer v w) := Compare_E v.a v.b v.c v.p w.a w.b w.c w.p (by omega) (by omega)
def nxt (a b c : Int) (p : ByteArray) (t : Int) : Int × Int × Int := if t = 0 then (a + 1, 0, 0) else if t = 1 then (a, b + 1, 0) else if p.toList = [] then (a, b, c + 1) else (a, b, c)
def fin (n : Int × Int × Int) : Int × Int × Int × ByteArray × Int := if (inN n.1 && (inN n.2.1 && inN n.2.2)) = true then (n.1, n.2.1, n.2.2, nob, 0) else (0, 0, 0, nob, 11)
def bumpV (a b c : Int) (p : ByteArray) (t : Int) : Int × Int × Int × ByteArray × Int :=
  if rightB a b c p = true ∧ 0 ≤ t ∧ t ≤ 2 then fin (nxt a b c p t) else (0, 0, 0, nob, 12)
theorem right_nob (x y z : Int) : rightB x y z nob = (inN x && (inN y && inN z)) := by
  have : preO nob = true := by decide +kernel
  unfold rightB; rw [this, Bool.and_true]
theorem fin_ok {x y z : Int} (hx : 0 ≤ x ∧ x ≤ 999999) (hy : 0 ≤ y ∧ y ≤ 999999) (hz : 0 ≤ z ∧ z ≤ 999999) : fin (x, y, z) = (x, y, z, nob, 0) := by
  unfold fin; rw [inN_t hx.1 hx.2, inN_t hy.1 hy.2, inN_t hz.1 hz.2]; rfl
theorem fin_big {x y z : Int} (h : 999999 < x ∨ 999999 < y ∨ 999999 < z) : fin (x, y, z) = (0, 0, 0, nob, 11) := by
  unfold fin
  rw [if_neg]
  show ¬ (inN x && (inN y && inN z)) = true
  rw [Bool.and_eq_true, Bool.and_eq_true, inN_iff, inN_iff, inN_iff]
  omega
end Go.Proofs.YtckeeefeiljamaaGreatDoor
set_option linter.unusedSimpArgs false
set_option linter.unusedVariables false
namespace Go.Proofs.YtckeeefeiljamaaGreatDoor
open Go.RowKit Go.Proofs.YtckeeefeiljamaaGreatDoorW.PrintWords

abbrev tiny (p : ByteArray) : Prop := p.size ≤ 1000

def semver_Version_Right.f (a0_0 a0_1 a0_2 : Int) (a0_3 : ByteArray) : Option (Bool) := if tiny a0_3 then some (rightB a0_0 a0_1 a0_2 a0_3) else none
theorem semver_Version_Right.calls (a0_0 a0_1 a0_2 : Int) (a0_3 : ByteArray) (r : Bool) (w : World) (hG : Gw w) (h : semver_Version_Right.f a0_0 a0_1 a0_2 a0_3 = some r) :
    Calls Tryz.prog 18 #[.agg #[.int .i64 a0_0, .int .i64 a0_1, .int .i64 a0_2, .string a0_3]] w fun e w' => e = .returned (.bool r) ∧ Below w.heap.size w w' := by
  unfold semver_Version_Right.f at h
  split at h
  · rename_i hs
    have h := Option.some.inj h
    obtain ⟨k, hk⟩ := E.ex (Right_E a0_0 a0_1 a0_2 a0_3 (by omega))
    exact PSem.semver_Version_Right.calls k a0_0 a0_1 a0_2 a0_3 _ w hG (by rw [hk]; exact congrArg some h)
  · cases h
def semver_Compare.f (a0_0 a0_1 a0_2 : Int) (a0_3 : ByteArray) (a1_0 a1_1 a1_2 : Int) (a1_3 : ByteArray) : Option (Int) := if tiny a0_3 ∧ tiny a1_3 then some (cmpV a0_0 a0_1 a0_2 a0_3 a1_0 a1_1 a1_2 a1_3) else none
theorem semver_Compare.calls (a0_0 a0_1 a0_2 : Int) (a0_3 : ByteArray) (a1_0 a1_1 a1_2 : Int) (a1_3 : ByteArray) (r : Int) (w : World) (hG : Gw w) (h : semver_Compare.f a0_0 a0_1 a0_2 a0_3 a1_0 a1_1 a1_2 a1_3 = some r) :
    Calls Tryz.prog 60 #[.agg #[.int .i64 a0_0, .int .i64 a0_1, .int .i64 a0_2, .string a0_3], .agg #[.int .i64 a1_0, .int .i64 a1_1, .int .i64 a1_2, .string a1_3]] w fun e w' => e = .returned (.int .i64 r) ∧ Below w.heap.size w w' := by
  unfold semver_Compare.f at h
  split at h
  · rename_i hs
    have h := Option.some.inj h
    obtain ⟨k, hk⟩ := E.ex (Compare_E a0_0 a0_1 a0_2 a0_3 a1_0 a1_1 a1_2 a1_3 (by have := hs.1; omega) (by have := hs.2; omega))
    exact PSem.semver_Compare.calls k a0_0 a0_1 a0_2 a0_3 a1_0 a1_1 a1_2 a1_3 _ w hG (by rw [hk]; exact congrArg some h)
  · cases h
def slipwayref01_Version_Right.f (a0_0 a0_1 a0_2 : Int) (a0_3 : ByteArray) : Option (Bool) := if tiny a0_3 then some (rightB a0_0 a0_1 a0_2 a0_3) else none
theorem slipwayref01_Version_Right.calls (a0_0 a0_1 a0_2 : Int) (a0_3 : ByteArray) (r : Bool) (w : World) (h : slipwayref01_Version_Right.f a0_0 a0_1 a0_2 a0_3 = some r) :
    Calls Tryz.prog 38 #[.agg #[.int .i64 a0_0, .int .i64 a0_1, .int .i64 a0_2, .string a0_3]] w fun e w' => e = .returned (.bool r) ∧ Below w.heap.size w w' := by
  unfold slipwayref01_Version_Right.f at h
  split at h
  · rename_i hs
    have h := Option.some.inj h
    obtain ⟨k, hk⟩ := E.ex (refRight_E a0_0 a0_1 a0_2 a0_3 (by omega))
    exact PSem.slipwayref01_Version_Right.calls k a0_0 a0_1 a0_2 a0_3 _ w (by rw [hk]; exact congrArg some h)
  · cases h
def slipwayref01_Compare.f (a0_0 a0_1 a0_2 : Int) (a0_3 : ByteArray) (a1_0 a1_1 a1_2 : Int) (a1_3 : ByteArray) : Option (Int) := if tiny a0_3 ∧ tiny a1_3 then some (cmpVer ⟨a0_0, a0_1, a0_2, a0_3⟩ ⟨a1_0, a1_1, a1_2, a1_3⟩) else none
theorem slipwayref01_Compare.calls (a0_0 a0_1 a0_2 : Int) (a0_3 : ByteArray) (a1_0 a1_1 a1_2 : Int) (a1_3 : ByteArray) (r : Int) (w : World) (h : slipwayref01_Compare.f a0_0 a0_1 a0_2 a0_3 a1_0 a1_1 a1_2 a1_3 = some r) :
    Calls Tryz.prog 62 #[.agg #[.int .i64 a0_0, .int .i64 a0_1, .int .i64 a0_2, .string a0_3], .agg #[.int .i64 a1_0, .int .i64 a1_1, .int .i64 a1_2, .string a1_3]] w fun e w' => e = .returned (.int .i64 r) ∧ Below w.heap.size w w' := by
  unfold slipwayref01_Compare.f at h
  split at h
  · rename_i hs
    have h := Option.some.inj h
    obtain ⟨k, hk⟩ := E.ex (refCompare_E ⟨a0_0, a0_1, a0_2, a0_3⟩ ⟨a1_0, a1_1, a1_2, a1_3⟩ (by have := hs.1; show a0_3.size < _; omega) (by have := hs.2; show a1_3.size < _; omega))
    exact PSem.slipwayref01_Compare.calls k a0_0 a0_1 a0_2 a0_3 a1_0 a1_1 a1_2 a1_3 _ w (by rw [hk]; exact congrArg some h)
  · cases h
def slipwayref01_Parse.f (a0 : ByteArray) : Option (Int × Int × Int × ByteArray × Bool) := if tiny a0 then some (refP a0) else none
theorem slipwayref01_Parse.calls (a0 : ByteArray) (r1 : Int) (r2 : Int) (r3 : Int) (r4 : ByteArray) (r5 : Bool) (w : World) (h : slipwayref01_Parse.f a0 = some (r1, r2, r3, r4, r5)) :
    Calls Tryz.prog 57 #[.string a0] w fun e w' => e = .returned (.tuple #[.agg #[.int .i64 r1, .int .i64 r2, .int .i64 r3, .string r4], .bool r5]) ∧ Below w.heap.size w w' := by
  unfold slipwayref01_Parse.f at h
  split at h
  · rename_i hs
    have h := Option.some.inj h
    obtain ⟨k, hk⟩ := E.ex (refParse_E a0 (by omega))
    exact PSem.slipwayref01_Parse.calls k a0 _ _ _ _ _ w (by rw [hk]; exact congrArg some h)
  · cases h
def slipwayref01_Cut.f (a0 : ByteArray) (a1 : Int) : Option (List ByteArray) := if tiny a0 ∧ 0 ≤ a1 ∧ a1 ≤ 255 then some (pieces (one (UInt8.ofNat a1.toNat)) a0) else none
theorem slipwayref01_Cut.calls (a0 : ByteArray) (a1 : Int) (r : List ByteArray) (w : World) (h : slipwayref01_Cut.f a0 a1 = some r) :
    Calls Tryz.prog 31 #[.string a0, .int .u8 a1] w fun e w' => ∃ v0_ : Value, e = .returned (v0_) ∧ Kd.R Kd.string 9 w' w.heap.size (fun _ => True) v0_ r ∧ Below w.heap.size w w' := by
  unfold slipwayref01_Cut.f at h
  split at h
  · rename_i hs
    have h := Option.some.inj h
    have e1 : ((UInt8.ofNat a1.toNat).toNat : Int) = a1 := by rw [UInt8.toNat_ofNat']; omega
    obtain ⟨k, hk⟩ := E.ex (Cut_E a0 (UInt8.ofNat a1.toNat) (by have := hs.1; omega))
    rw [e1] at hk
    exact PSem.slipwayref01_Cut.calls k a0 a1 _ w (by rw [hk]; exact congrArg some h)
  · cases h
end Go.Proofs.YtckeeefeiljamaaGreatDoor
