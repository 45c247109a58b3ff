/- Marks of digits. -/
import Derived.Test.YtkilaemngejplaaDoorQg
import Derived.Test.YtkilaemngejplaaDoorPSemx16
set_option linter.unusedSimpArgs false
set_option linter.unusedVariables false
namespace Go.Proofs.YtkilaemngejplaaDoor
open Go.RowKit Go.Proofs.YtkilaemngejplaaDoorW.PrintWords PSem

theorem one_digit (u : Nat) (h : u < 10) : strOfNums [(48 + (u : Int)) % 256] = toBytes [UInt8.ofNat (48 + u)] := by
  apply bytes_ext
  rw [tb_data]
  have : ((48 + (u : Int)) % 256) = ((48 + u : Nat) : Int) := by omega
  rw [this]
  simp [strOfNums]
  rw [show (48 + (u : Int)).toNat = 48 + u by omega, UInt8.ofNat_add]; rfl
theorem dig_l0 : ∀ (u : Nat) (x : ByteArray), x.size + u ≤ 2000000 → E (fun k => slipwaylaw01_SemverNumbers_1.l0 k (u : Int) x) (toBytes (Lib.decDigits u) ++ x) := by
  intro u
  induction u using Nat.strongRecOn with
  | _ u ih =>
    intro x hx
    refine E.step ?_
    simp only [slipwaylaw01_SemverNumbers_1.l0]
    refine E.ite (fun h => ?_) (fun h => ?_)
    · have e1 : wrap64 (Int.tdiv (u : Int) 10) = ((u / 10 : Nat) : Int) := by
        rw [show Int.tdiv (u : Int) 10 = ((u / 10 : Nat) : Int) from by rw [Int.tdiv_eq_ediv_of_nonneg (by omega)]; omega]
        exact wrap_id (by omega)
      have e2 : Int.tmod (u : Int) 10 = ((u % 10 : Nat) : Int) := by rw [Int.tmod_eq_emod_of_nonneg (by omega)]; omega
      rw [e1, e2, wrap_id (by omega)]
      have hz : (toBytes [UInt8.ofNat (48 + u % 10)]).size = 1 := by rw [tb_size]; rfl
      refine E.bindc rfl ?_
      rw [one_digit _ (by omega)]
      refine E.ite_pos (by rw [hz]; omega) ?_
      refine (ih (u / 10) (by omega) (toBytes [UInt8.ofNat (48 + u % 10)] ++ x) ?_).eq ?_
      · rw [ByteArray.size_append, hz]; omega
      · have : Lib.decDigits u = Lib.decDigits (u / 10) ++ [UInt8.ofNat (48 + u % 10)] := by rw [Lib.decDigits, dif_neg (by omega)]
        rw [this, ← tb_app, ByteArray.append_assoc]
    · rw [wrap_id (by omega)]
      have hz : (toBytes [UInt8.ofNat (48 + u)]).size = 1 := by rw [tb_size]; rfl
      refine E.bindc rfl ?_
      rw [one_digit _ (by omega), Lib.decDigits_one (by omega)]
      refine E.ite_pos (by rw [hz]; omega) (E.of rfl)
theorem Dig_E (a : Int) (h0 : 0 ≤ a) (h1 : a ≤ 999999) : E (fun k => slipwaylaw01_SemverNumbers_1.f k a) (toBytes (Lib.decDigits a.toNat)) := by
  have := dig_l0 a.toNat ⟨#[]⟩ (by show 0 + a.toNat ≤ 2000000; omega)
  rw [Int.toNat_of_nonneg h0] at this
  refine this.eq ?_
  apply bytes_ext; simp
def dgB (a : Int) : ByteArray := toBytes (Lib.decDigits a.toNat)
theorem dgB_num {a : Int} (h1 : a ≤ 999999) : numP (dgB a) = true := by unfold numP dgB; rw [tb_data]; exact numL_dec _ (by omega)
theorem dgB_val {a : Int} (h0 : 0 ≤ a) : valP (dgB a) = a := by unfold valP numV dgB; rw [tb_data, (dec_props _).2.1]; omega
theorem dgB_pieces (a : Int) : pieces dot (dgB a) = [dgB a] := pieces_one _ 46 (dec_no _ 46 rfl)
theorem dgB_size {a : Int} (h1 : a ≤ 999999) : (dgB a).size ≤ 6 := by unfold dgB; rw [tb_size]; exact dec_len 5 _ (by omega)
theorem dgB_ne (a : Int) : (dgB a).toList ≠ [] := by unfold dgB; rw [ba_toList, tb_data]; exact (dec_props _).2.2
theorem okB_dig (b : UInt8) (h : isDig b = true) : okB b.toNat = true := by
  have : ∀ n : Fin 256, isDig (UInt8.ofNat n.1) = true → okB (UInt8.ofNat n.1).toNat = true := by decide +kernel
  have := this ⟨b.toNat, b.toNat_lt⟩
  simp only [UInt8.ofNat_toNat] at this
  exact this h
theorem dgB_pre {a : Int} (h1 : a ≤ 999999) : preO (dgB a) = true := by
  have p := dec_props a.toNat
  have n := numL_dec a.toNat (by omega)
  have l := dec_len 5 a.toNat (by omega)
  have hm : markL (dgB a).data.toList = true := by
    unfold dgB; rw [tb_data]
    unfold markL
    rw [n, p.1]
    have e1 : (Lib.decDigits a.toNat).isEmpty = false := by cases e : Lib.decDigits a.toNat with | nil => exact absurd e p.2.2 | cons _ _ => rfl
    have e2 : decide ((Lib.decDigits a.toNat).length ≤ 10) = true := decide_eq_true (by omega)
    have e3 : (Lib.decDigits a.toNat).all (fun b => okB b.toNat) = true := List.all_eq_true.2 fun b hb => okB_dig b (List.all_eq_true.1 p.1 b hb)
    rw [e1, e2, e3]; rfl
  unfold preO preB
  rw [dgB_pieces]
  simp [hm]
/-- A Pre that is one number's digits, against another. -/
theorem marks_num {a b : Int} (ha0 : 0 ≤ a) (ha : a ≤ 999999) (hb0 : 0 ≤ b) (hb : b ≤ 999999) : marksV (dgB a) (dgB b) = cmpI a b := by
  rw [marksV_lex, if_neg (by rintro (h | h); exact dgB_ne a h; exact dgB_ne b h), dgB_pieces, dgB_pieces]
  have e : cmpM (dgB a) (dgB b) = cmpI a b := by unfold cmpM; rw [dgB_num ha, dgB_num hb, dgB_val ha0, dgB_val hb0]; rfl
  simp only [lexL, e]
  split
  · rename_i h; exact h.symm
  · rfl
theorem numL_a (l : List UInt8) : numL (97 :: l) = false := by
  have : isDig 97 = false := rfl
  unfold numL; rw [List.all_cons, this]; simp
theorem marks_word {a : Int} (ha : a ≤ 999999) (w : ByteArray) : marksV (dgB a) ((⟨#[97]⟩ : ByteArray) ++ w) = -1 := by
  have hw : (⟨#[97]⟩ : ByteArray) ++ w = toBytes (97 :: w.data.toList) := by apply bytes_ext; simp [toBytes]
  rw [hw, marksV_lex, if_neg (by rintro (h | h); exact dgB_ne a h; rw [ba_toList, tb_data] at h; cases h), dgB_pieces]
  have hp : ∃ m r, pieces dot (toBytes (97 :: w.data.toList)) = m :: r ∧ numP m = false := by
    by_cases h : (46 : UInt8) ∈ (97 :: w.data.toList)
    · obtain ⟨x, y, e, hx⟩ := List.eq_append_cons_of_mem h
      rw [e]
      refine ⟨_, _, pieces_cons x y 46 hx, ?_⟩
      unfold numP; rw [tb_data]
      cases x with
      | nil => simp at e
      | cons c x => simp only [List.cons_append, List.cons.injEq] at e; rw [← e.1]; exact numL_a x
    · exact ⟨_, _, pieces_one _ 46 h, by unfold numP; rw [tb_data]; exact numL_a _⟩
  obtain ⟨m, r, e, hm⟩ := hp
  rw [e]
  have e2 : cmpM (dgB a) m = -1 := by unfold cmpM; rw [dgB_num ha, hm]; rfl
  simp [lexL, e2]
end Go.Proofs.YtkilaemngejplaaDoor
