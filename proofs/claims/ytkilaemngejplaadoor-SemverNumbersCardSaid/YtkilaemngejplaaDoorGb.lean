/- semver.mark, walked by hand: which texts are marks. -/
import Derived.Test.YtkilaemngejplaaDoorGa
import Derived.Test.YtkilaemngejplaaDoorPNumx1
import Derived.WalkKit
import Derived.BigQuiet
import Derived.Lib.Hide
import Derived.Lib.ConvBytes
namespace Go.Proofs.YtkilaemngejplaaDoor
open Go.RowKit Go.Proofs.YtkilaemngejplaaDoorW.PrintWords Go.Proofs.YtkilaemngejplaaDoorW.PrintLast

def okB (c : Nat) : Bool := (decide (48 ≤ c) && decide (c ≤ 57)) || (decide (97 ≤ c) && decide (c ≤ 122))
def digits : ByteArray := ⟨#[48, 49, 50, 51, 52, 53, 54, 55, 56, 57]⟩
def at8 (s : ByteArray) (j : Nat) : Nat := (s.data.toList.getD j 0).toNat

theorem ba_toList_loop (s : ByteArray) : ∀ (n i : Nat) (r : List UInt8), s.size - i = n → ByteArray.toList.loop s i r = r.reverse ++ s.data.toList.drop i := by
  intro n
  induction n with
  | zero =>
    intro i r h
    unfold ByteArray.toList.loop
    rw [if_neg (by omega), List.drop_of_length_le (by rw [data_length]; omega), List.append_nil]
  | succ n ih =>
    intro i r h
    have hi : i < s.size := by omega
    unfold ByteArray.toList.loop
    rw [if_pos hi, ih (i + 1) _ (by omega)]
    have hl : i < s.data.toList.length := by rw [data_length]; exact hi
    rw [List.drop_eq_getElem_cons hl]
    simp only [List.reverse_cons, List.append_assoc, List.singleton_append]
    congr 2
    have h2 : i < s.data.size := hi
    exact getElem!_pos s.data i h2
theorem ba_toList (s : ByteArray) : s.toList = s.data.toList := by
  unfold ByteArray.toList; rw [ba_toList_loop s s.size 0 [] (by omega)]; simp
theorem toList_nil_iff (s : ByteArray) : (s.toList == ([] : List UInt8)) = (s.size == 0) := by
  rw [ba_toList, Bool.eq_iff_iff]; simp only [beq_iff_eq, ← List.length_eq_zero_iff, data_length]

/-- What mark's test of its bytes says. -/
def allOk (s : ByteArray) : Prop := ∀ j, j < s.size → okB (at8 s j) = true

theorem mark_off (s : ByteArray) (hs : s.size = 0 ∨ 10 < s.size) (w : World) :
    Calls Tryd.prog 42 #[.string s] w fun e w' => e = .returned (.bool false) ∧ Below w.heap.size w w' := by
  by_cases h0 : s.size = 0
  · have e0 : (s.toList == ([] : List UInt8)) = true := by rw [toList_nil_iff]; exact beq_iff_eq.2 h0
    go_enter Tryd.func42, Tryd.ntmps42
    go_wp2_with fail
    go_ret
    exact ⟨rfl, Below.refl _ _⟩
  · have e0 : (s.toList == ([] : List UInt8)) = false := by rw [toList_nil_iff]; exact beq_eq_false_iff_ne.2 h0
    have e1 : decide (10 < (s.size : Int)) = true := by simp; omega
    clear hs h0
    go_enter Tryd.func42, Tryd.ntmps42
    go_wp2_with fail
    go_ret
    exact ⟨rfl, Below.refl _ _⟩

/-- What mark answers behind its first tests. -/
def MarkPost (s rt : ByteArray) (rn : Bool) (w : World) (e : Ending) (w' : World) : Prop :=
  ∃ b : Bool, (e = .returned (.bool b) ∧ Below w.heap.size w w') ∧ ((allOk s ∧ b = (rt.toList != [] || rn)) ∨ (¬ allOk s ∧ b = false))

set_option maxHeartbeats 1000000 in
set_option maxRecDepth 100000 in
theorem mark_loop (s : ByteArray) (hs : s.size ≤ 10) (h1 : 1 ≤ s.size) (w : World) (rt : ByteArray) (rn : Bool) (ht : strings_Trim.f s digits = some rt) (hn : PNum.semver_number.f s = some rn) :
    Calls Tryd.prog 42 #[.string s] w (MarkPost s rt rn w) := by
  have e0 : (s.toList == ([] : List UInt8)) = false := by rw [toList_nil_iff]; exact beq_eq_false_iff_ne.2 (by omega)
  have e1 : decide (10 < (s.size : Int)) = false := by simp; omega
  have HT := Lib.hid (fun W => strings_Trim.calls s digits rt W ht)
  have HN := Lib.hid (fun W => PNum.semver_number.calls s rn W hn)
  have HB := Lib.hid (below_bytesWorld w 5 s)
  have HC := Lib.hid (fun j (hj : j < s.size) => Lib.bytesWorld_cell w 5 s j hj)
  clear ht hn
  have hcv : ∀ W : World, (convert 9 37 (.string s)).run Tryd.prog W = .ok (.slice (some ⟨W.heap.size, 0, none⟩) s.size (grownCap W s.size 0 5)) (Lib.bytesWorld W 5 s) := fun W => Lib.run_convert_string_bytes W 9 37 5 s Tryd.underlying9 Tryd.underlying37 Tryd.underlying5
  go_enter Tryd.func42, Tryd.ntmps42
  go_wp2_with fail
  go_loop [15] (fun i => ∃ k : Nat, k ≤ s.size ∧ i = .int .i64 k ∧ Hid (∀ j, j < k → okB (at8 s j) = true)) (fun i => s.size - (intOf i).toNat)
  case atStart => exact ⟨0, Nat.zero_le _, rfl, Lib.hid (fun j hj => absurd hj (Nat.not_lt_zero _))⟩
  case round =>
    clear hcv
    obtain ⟨k, hk, rfl, HA⟩ := hrel
    by_cases hlt : k < s.size
    · have hc := HC.out k hlt
      obtain ⟨c, HE⟩ : ∃ c : Nat, Hid (at8 s k = c) := ⟨_, Lib.hid rfl⟩
      rw [show (s.data.toList.getD k 0).toNat = c from HE.out] at hc
      have hlt' : decide ((k : Int) < (s.size : Int)) = true := by simp; omega
      have stop : okB c = false → MarkPost s rt rn w (.returned (.bool false)) (Lib.bytesWorld w 5 s) := fun hb =>
        ⟨false, ⟨rfl, HB.out⟩, .inr ⟨(fun h => by have := h k hlt; rw [HE.out, hb] at this; exact Bool.noConfusion this), rfl⟩⟩
      have go : okB c = true → Hid (∀ j, j < k + 1 → okB (at8 s j) = true) := fun hb => Lib.hid (fun j hj => by
        by_cases e : j = k
        · rw [e, HE.out]; exact hb
        · exact HA.out j (by omega))
      by_cases h48 : 48 ≤ c
      · have d1 : decide ((48 : Int) ≤ (c : Int)) = true := by simp; omega
        by_cases h57 : c ≤ 57
        · have d2 : decide ((c : Int) ≤ 57) = true := by simp; omega
          have g := go (by simp [okB]; omega)
          clear go stop h48 h57
          go_wp2_with fail
          exact ⟨⟨k + 1, by omega, by go_num, g⟩, by simp [intOf]; omega⟩
        · have d2 : decide ((c : Int) ≤ 57) = false := by simp; omega
          by_cases h97 : 97 ≤ c
          · have d3 : decide ((97 : Int) ≤ (c : Int)) = true := by simp; omega
            by_cases h122 : c ≤ 122
            · have d4 : decide ((c : Int) ≤ 122) = true := by simp; omega
              have g := go (by simp [okB]; omega)
              clear go stop h48 h57 h97 h122
              go_wp2_with fail
              exact ⟨⟨k + 1, by omega, by go_num, g⟩, by simp [intOf]; omega⟩
            · have d4 : decide ((c : Int) ≤ 122) = false := by simp; omega
              have g := Lib.hid (stop (by simp [okB]; omega))
              clear go stop h48 h57 h97 h122
              go_wp2_with fail
              go_ret
              exact g.out
          · have d3 : decide ((97 : Int) ≤ (c : Int)) = false := by simp; omega
            have g := Lib.hid (stop (by simp [okB]; omega))
            clear go stop h48 h57 h97
            go_wp2_with fail
            go_ret
            exact g.out
      · have d1 : decide ((48 : Int) ≤ (c : Int)) = false := by simp; omega
        have d3 : decide ((97 : Int) ≤ (c : Int)) = false := by simp; omega
        have g := Lib.hid (stop (by simp [okB]; omega))
        clear go stop h48
        go_wp2_with fail
        go_ret
        exact g.out
    · have hlt' : decide ((k : Int) < (s.size : Int)) = false := by simp; omega
      have hall : Hid (allOk s) := Lib.hid (fun j hj => HA.out j (by omega))
      have HT2 := HT.out (Lib.bytesWorld w 5 s)
      have HT3 := Lib.hid HT2
      clear HT2 HC
      by_cases hne : rt.toList = []
      · have e2 : (rt.toList != ([] : List UInt8)) = false := by simp [hne]
        have e3 : rt.toList.isEmpty = true := by simp [hne]
        clear hne
        go_wp2_with fail
        refine HT3.out.mono ?_
        rintro e w1 ⟨rfl, hb1⟩
        go_wp2_with fail
        refine (HN.out w1).mono ?_
        rintro e w2 ⟨rfl, hb2⟩
        go_wp2_with fail
        go_ret
        exact ⟨rn, ⟨rfl, HB.out.trans ((hb1.trans (hb2.mono hb1.size)).mono HB.out.size)⟩, .inl ⟨hall.out, by rw [e2]; simp⟩⟩
      · have e2 : (rt.toList != ([] : List UInt8)) = true := by simp [hne]
        have e3 : rt.toList.isEmpty = false := by simp [hne]
        clear hne
        go_wp2_with fail
        refine HT3.out.mono ?_
        rintro e w1 ⟨rfl, hb1⟩
        go_wp2_with fail
        go_ret
        exact ⟨true, ⟨rfl, HB.out.trans (hb1.mono HB.out.size)⟩, .inl ⟨hall.out, by rw [e2]; simp⟩⟩
end Go.Proofs.YtkilaemngejplaaDoor
