/- Rounds that are enough; bytes; numbers. -/
import Derived.Test.YtkilaemngejplaaDoorGf
import Derived.Test.YtkilaemngejplaaDoorPSemx3
import Derived.Test.YtkilaemngejplaaDoorPSemx4
set_option linter.unusedSimpArgs false
set_option linter.unusedVariables false
namespace Go.Proofs.YtkilaemngejplaaDoor
open Go.RowKit Go.Proofs.YtkilaemngejplaaDoorW.PrintWords PSem

/-- With enough rounds g answers r. -/
def E {α : Type} (g : Nat → Option α) (r : α) : Prop := ∃ n, ∀ k, n ≤ k → g k = some r
theorem E.some {α : Type} (r : α) : E (fun _ => Option.some r) r := ⟨0, fun _ _ => rfl⟩
theorem E.of {α : Type} {g : Option α} {r : α} (h : g = Option.some r) : E (fun _ => g) r := ⟨0, fun _ _ => h⟩
theorem E.step {α : Type} {g : Nat → Option α} {r : α} (h : E (fun k => g (k + 1)) r) : E g r := by
  obtain ⟨n, hn⟩ := h
  exact ⟨n + 1, fun k hk => by obtain ⟨m, rfl⟩ : ∃ m, k = m + 1 := ⟨k - 1, by omega⟩; exact hn m (by omega)⟩
theorem E.ite_pos {α : Type} {c : Prop} [Decidable c] {A B : Nat → Option α} {r : α} (hc : c) (h : E A r) : E (fun k => if c then A k else B k) r := by simpa only [if_pos hc] using h
theorem E.ite_neg {α : Type} {c : Prop} [Decidable c] {A B : Nat → Option α} {r : α} (hc : ¬ c) (h : E B r) : E (fun k => if c then A k else B k) r := by simpa only [if_neg hc] using h
theorem E.ite {α : Type} {c : Prop} [Decidable c] {A B : Nat → Option α} {r : α} (h1 : c → E A r) (h2 : ¬ c → E B r) : E (fun k => if c then A k else B k) r := by
  by_cases h : c
  · exact E.ite_pos h (h1 h)
  · exact E.ite_neg h (h2 h)
theorem E.bind {α β : Type} {g : Nat → Option α} {x : α} {h : α → Nat → Option β} {r : β} (hg : E g x) (hh : E (h x) r) : E (fun k => (g k).bind fun y => h y k) r := by
  obtain ⟨n, hn⟩ := hg; obtain ⟨m, hm⟩ := hh
  exact ⟨max n m, fun k hk => by simp only [hn k (by omega), Option.bind_some]; exact hm k (by omega)⟩
theorem E.bindc {α β : Type} {g : Option α} {x : α} {h : α → Nat → Option β} {r : β} (hg : g = Option.some x) (hh : E (h x) r) : E (fun k => g.bind fun y => h y k) r := by
  simpa only [hg, Option.bind_some] using hh
theorem E.ex {α : Type} {g : Nat → Option α} {r : α} (h : E g r) : ∃ k, g k = Option.some r := ⟨h.choose, h.choose_spec _ (Nat.le_refl _)⟩
theorem E.eq {α : Type} {g : Nat → Option α} {r r' : α} (h : E g r) (e : r = r') : E g r' := e ▸ h

theorem wrap_id {z : Int} (h : -9223372036854775808 ≤ z ∧ z ≤ 9223372036854775807) : wrap64 z = z := by unfold wrap64; omega

/-- The byte at a place. -/
def b8 (s : ByteArray) (j : Nat) : UInt8 := s.data.toList.getD j 0
theorem bt_b8 (s : ByteArray) (j : Nat) (h : j < s.size) : bt s (j : Int) = ((b8 s j).toNat : Int) := by
  have h2 : j < s.data.toList.length := by rw [data_length]; exact h
  have : (j : Int).toNat < s.size := by simpa using h
  unfold bt b8
  rw [dif_pos this, List.getD_eq_getElem?_getD, List.getElem?_eq_getElem h2]
  simp only [Int.toNat_natCast, Option.getD_some]
  rfl
theorem b8_mem (s : ByteArray) (j : Nat) (h : j < s.size) : b8 s j ∈ s.data.toList := by
  have h2 : j < s.data.toList.length := by rw [data_length]; exact h
  unfold b8; rw [List.getD_eq_getElem?_getD, List.getElem?_eq_getElem h2]; exact List.getElem_mem _
theorem all_b8 (p : UInt8 → Bool) (s : ByteArray) : s.data.toList.all p = true ↔ ∀ j, j < s.size → p (b8 s j) = true := by
  rw [List.all_eq_true]
  constructor
  · intro h j hj; exact h _ (b8_mem s j hj)
  · intro h b hb
    obtain ⟨j, hj, rfl⟩ := List.mem_iff_getElem.1 hb
    have := h j (by rw [← data_length]; exact hj)
    rwa [b8, List.getD_eq_getElem?_getD, List.getElem?_eq_getElem hj] at this
theorem isDig_iff (b : UInt8) : isDig b = true ↔ 48 ≤ b.toNat ∧ b.toNat ≤ 57 := by simp [isDig]
theorem digit_b (b : UInt8) : slipwayref01_digit.f (b.toNat : Int) = some (isDig b) := by
  unfold slipwayref01_digit.f isDig
  by_cases h : 48 ≤ b.toNat
  · rw [if_pos (by omega)]; simp [h]; omega
  · rw [if_neg (by omega)]; simp [h]

/-! ### Number -/
theorem take_b8 (s : ByteArray) (j : Nat) (h : j < s.size) : s.data.toList.take (j + 1) = s.data.toList.take j ++ [b8 s j] := by
  have h2 : j < s.data.toList.length := by rw [data_length]; exact h
  rw [List.take_succ_eq_append_getElem h2, b8, List.getD_eq_getElem?_getD, List.getElem?_eq_getElem h2]; rfl
theorem decV_snoc (a : Nat) (l : List UInt8) (b : UInt8) : decV a (l ++ [b]) = decV a l * 10 + (b.toNat - 48) := by simp [decV]
theorem decV_lt_acc : ∀ (l : List UInt8) (a : Nat), l.all isDig = true → decV a l < (a + 1) * 10 ^ l.length := by
  intro l
  induction l with
  | nil => intro a _; simp [decV]
  | cons b t ih =>
    intro a h
    simp only [List.all_cons, Bool.and_eq_true] at h
    have hb := (isDig_iff b).1 h.1
    have h1 := ih (a * 10 + (b.toNat - 48)) h.2
    have h2 : (a * 10 + (b.toNat - 48) + 1) * 10 ^ t.length ≤ ((a + 1) * 10) * 10 ^ t.length := Nat.mul_le_mul_right _ (by omega)
    rw [List.length_cons, Nat.pow_succ, Nat.mul_comm (10 ^ t.length) 10, ← Nat.mul_assoc]
    exact Nat.lt_of_lt_of_le h1 h2
theorem decV_lt (l : List UInt8) (h : l.all isDig = true) : decV 0 l < 10 ^ l.length := by have := decV_lt_acc l 0 h; simpa using this
/-- What Number answers. -/
def numO (s : ByteArray) : Int × Bool := if numP s = true then (valP s, true) else (0, false)
theorem Number_l0 (s : ByteArray) (h6 : s.size ≤ 6) (h1 : 1 ≤ s.size) : ∀ (d j : Nat), j + d = s.size → (s.data.toList.take j).all isDig = true →
    E (fun k => slipwayref01_Number.l0 k s (decV 0 (s.data.toList.take j) : Nat) (j : Int)) (numO s) := by
  have hl := data_length s
  intro d
  induction d with
  | zero =>
    intro j hj ha
    obtain rfl : j = s.size := by omega
    rw [List.take_of_length_le (by omega)] at ha ⊢
    refine E.step ?_
    simp only [slipwayref01_Number.l0]
    refine E.ite_neg (by omega) (E.ite_pos (by omega) ?_)
    rw [show (0 : Int) = ((0 : Nat) : Int) from rfl, bt_b8 s 0 (by omega)]
    have hh : s.data.toList.head? = some (b8 s 0) := by
      unfold b8
      cases hL : s.data.toList with
      | nil => rw [hL] at hl; simp at hl; omega
      | cons b t => rfl
    have hn : numP s = !(decide (b8 s 0 = 48) && decide (s.size ≠ 1)) := by
      unfold numP numL
      rw [hh, ha, hl]
      have e1 : s.data.toList.isEmpty = false := by rw [← Bool.not_eq_true, List.isEmpty_iff, ← List.length_eq_zero_iff]; omega
      have e2 : decide (s.size ≤ 6) = true := by simpa using h6
      simp [e1, e2]
    have hb : (((b8 s 0).toNat : Int) = 48) ↔ b8 s 0 = 48 := ⟨fun h => by rw [← UInt8.toNat_inj]; exact Int.ofNat.inj h, fun h => by rw [h]; rfl⟩
    unfold numO
    refine E.ite (fun h48 => E.ite (fun h1 => ?_) (fun h1 => ?_)) (fun h48 => ?_)
    · rw [if_neg (by rw [hn]; simp [hb.1 h48]; omega)]; exact E.some _
    · rw [if_pos (by rw [hn]; simp; exact .inr (by omega))]; exact E.some _
    · rw [if_pos (by rw [hn]; simp; exact .inl (fun h => h48 (hb.2 h)))]; exact E.some _
  | succ d ih =>
    intro j hj ha
    have hjs : j < s.size := by omega
    refine E.step ?_
    simp only [slipwayref01_Number.l0]
    refine E.ite_pos (by omega) (E.ite_pos (by omega) ?_)
    rw [bt_b8 s j hjs]
    refine E.bindc (digit_b _) ?_
    have hstep := take_b8 s j hjs
    refine E.ite (fun hd => ?_) (fun hd => ?_)
    · have hd' := (isDig_iff _).1 hd
      have hlt := decV_lt _ ha
      have hlen : (s.data.toList.take j).length ≤ 5 := by rw [List.length_take]; omega
      have hp : decV 0 (s.data.toList.take j) < 10 ^ 5 := Nat.lt_of_lt_of_le hlt (Nat.pow_le_pow_right (by decide) hlen)
      have e : wrap64 (wrap64 (10 * (decV 0 (s.data.toList.take j) : Int)) + ((((b8 s j).toNat : Int) - 48) % 256)) = ((decV 0 (s.data.toList.take (j + 1)) : Nat) : Int) := by
        have e1 : wrap64 (10 * (decV 0 (s.data.toList.take j) : Int)) = 10 * (decV 0 (s.data.toList.take j) : Int) := wrap_id (by omega)
        have e2 : (((b8 s j).toNat : Int) - 48) % 256 = ((b8 s j).toNat : Int) - 48 := by omega
        rw [hstep, decV_snoc, e1, e2, wrap_id (by omega)]
        omega
      rw [e, wrap_id (by omega)]
      exact ih (j + 1) (by omega) (by rw [hstep, List.all_append, ha]; simp [hd])
    · have : numP s = false := by
        unfold numP numL
        have : s.data.toList.all isDig = false := by
          rw [← Bool.not_eq_true]; intro h
          exact hd ((all_b8 isDig s).1 h j hjs)
        rw [this]; simp
      unfold numO
      rw [this]
      exact E.some _
theorem Number_E (s : ByteArray) : E (fun k => slipwayref01_Number.f k s) (numO s) := by
  have hl := data_length s
  unfold slipwayref01_Number.f
  refine E.ite (fun h => ?_) (fun h => ?_)
  · refine E.step ?_
    simp only [slipwayref01_Number.j0]
    refine E.ite_pos (by trivial) ?_
    have : numP s = false := by unfold numP; rw [List.eq_nil_of_length_eq_zero (hl.trans (by omega))]; rfl
    unfold numO; rw [this]; exact E.some _
  · refine E.step ?_
    simp only [slipwayref01_Number.j0]
    refine E.ite (fun h6 => ?_) (fun h6 => ?_)
    · have h6 : s.size > 6 := by simp at h6; omega
      have : numP s = false := by
        unfold numP numL
        have : decide (s.data.toList.length ≤ 6) = false := by rw [hl]; simp; omega
        rw [this]; simp only [Bool.and_false, Bool.false_and]
      unfold numO; rw [this]; exact E.some _
    · have h6 : s.size ≤ 6 := by simp at h6; omega
      exact Number_l0 s h6 (by omega) s.size 0 (by omega) rfl
end Go.Proofs.YtkilaemngejplaaDoor
