/- The law RangesTilde, as a plain statement. -/
import Derived.Test.YtckeeefeiljamaaGreatDoorUm
import Derived.Test.YtckeeefeiljamaaGreatDoorXU
import Derived.Test.YtckeeefeiljamaaGreatDoorPRanf10
set_option linter.unusedSimpArgs false
set_option linter.unusedVariables false
namespace Go.Proofs.YtckeeefeiljamaaGreatDoor
open Go.RowKit Go.Proofs.YtckeeefeiljamaaGreatDoorW.PrintWords PRan

def ofR (o a b c : Int) (p : ByteArray) : L2 := [[⟨o, ⟨a, b, c, p⟩⟩]]
theorem of_some (o a b c : Int) (p : ByteArray) : slipwaylaw02_of.f o a b c p = some (ofR o a b c p) := rfl
theorem ofR_tiny {o a b c : Int} {p : ByteArray} (h : tiny p) : tinyR (ofR o a b c p) := by
  intro l hl x hx
  rw [List.mem_singleton.1 hl] at hx
  rw [List.mem_singleton.1 hx]
  exact h
theorem ofR_has {o a b c : Int} {p : ByteArray} (hc : compR o a b c p = true) {x y z : Int} {q : ByteArray} (hv : rightB x y z q = true) : rangeH (ofR o a b c p) x y z q = hasV o a b c p x y z q := by
  have h1 : rangeR (ofR o a b c p) = true := by
    show (([(⟨o, ⟨a, b, c, p⟩⟩ : S48)] : L1) |> fun l => (listR l && true) && sizedB 1) = true
    unfold listR cR
    simp [hc, sizedB]
  unfold rangeH
  rw [h1, hv]
  show (true && (true && ((cH ⟨o, ⟨a, b, c, p⟩⟩ x y z q && true) || false))) = _
  rw [Bool.true_and, Bool.true_and, Bool.and_true, Bool.or_false]; rfl
theorem compR_op {o a b c : Int} {p : ByteArray} (h0 : 0 < o) (h7 : o ≤ 7) (hr : rightB a b c p = true) : compR o a b c p = true := by
  unfold compR
  rw [if_neg (by omega), decide_eq_true h0, decide_eq_true h7, hr]; rfl
theorem cmpV_ver (x y z : Int) (q : ByteArray) (a b c : Int) (p : ByteArray) : cmpV x y z q a b c p = cmpVer ⟨x, y, z, q⟩ ⟨a, b, c, p⟩ := rfl
theorem lt_trans' {u v w : Ver} (h1 : cmpVer u v < 0) (h2 : cmpVer v w = -1) : cmpVer u w < 0 := by
  have := ordV.trans_lt (a := u) (b := v) (c := w) trivial trivial trivial (by omega) (by omega) (.inr h2)
  omega
theorem lt_major (a b c b' c' : Int) (p q : ByteArray) : cmpVer ⟨a, b, c, p⟩ ⟨a + 1, b', c', q⟩ = -1 := by
  rw [cmpVer_eq]
  have : cmpI a (a + 1) = -1 := by unfold cmpI; rw [if_pos (by omega)]
  simp only [this]
  rw [if_neg (by omega)]
theorem cmpI_same (a : Int) : cmpI a a = 0 := cmpI_zero.2 rfl
theorem lt_minor (a b c c' : Int) (p q : ByteArray) : cmpVer ⟨a, b, c, p⟩ ⟨a, b + 1, c', q⟩ = -1 := by
  rw [cmpVer_eq]
  have : cmpI b (b + 1) = -1 := by unfold cmpI; rw [if_pos (by omega)]
  simp only [this, cmpI_same]
  rw [if_pos trivial, if_neg (by omega)]
theorem hasV_up {o a b c : Int} {p : ByteArray} (ho : o = 6 ∨ o = 7) (hr : rightB a b c p = true) (x y z : Int) (q : ByteArray) :
    hasV o a b c p x y z q = (decide (cmpVer ⟨x, y, z, q⟩ ⟨a, b, c, p⟩ ≥ 0) && (!(refUp o a b c).2.2.2.2 || decide (cmpVer ⟨x, y, z, q⟩ ⟨(upN o a b c).1, (upN o a b c).2.1, (upN o a b c).2.2, nob⟩ < 0))) := by
  unfold hasV
  simp only
  rw [if_neg (by omega), if_neg (by omega), if_neg (by omega), if_neg (by omega), if_neg (by omega), if_pos ho, belowU_eq o a b c p hr ho]
  rfl
theorem up7 (a b c : Int) : upN 7 a b c = (a, b + 1, 0) := by unfold upN; rw [if_neg (by omega), if_neg (by omega)]
theorem up6a {a b c : Int} (h : 0 < a) : upN 6 a b c = (a + 1, 0, 0) := by unfold upN; rw [if_pos ⟨rfl, h⟩]
theorem up6b {a b c : Int} (h : ¬ 0 < a) (h2 : b = 0) : upN 6 a b c = (0, 0, c + 1) := by unfold upN; rw [if_neg (fun e => h e.2), if_pos ⟨rfl, h2⟩]
theorem up6c {a b c : Int} (h : ¬ 0 < a) (h2 : b ≠ 0) : upN 6 a b c = (a, b + 1, 0) := by unfold upN; rw [if_neg (fun e => h e.2), if_neg (fun e => h2 e.2)]
theorem right_n {x y z : Int} (hx : 0 ≤ x ∧ x ≤ 999999) (hy : 0 ≤ y ∧ y ≤ 999999) (hz : 0 ≤ z ∧ z ≤ 999999) : rightB x y z nob = true := by
  rw [right_nob, inN_t hx.1 hx.2, inN_t hy.1 hy.2, inN_t hz.1 hz.2]; rfl
/-- What a tilde has a caret has. -/
theorem tilde_caret {a b c : Int} {p : ByteArray} (hr : rightB a b c p = true) (ha : 0 < a) (hb : b < 999999) (x y z : Int) (q : ByteArray) (h : hasV 7 a b c p x y z q = true) : hasV 6 a b c p x y z q = true := by
  obtain ⟨h1, h2, h3, _⟩ := rightB_iff.1 hr
  rw [inN_iff] at h1 h2 h3
  rw [hasV_up (.inr rfl) hr, up7, Bool.and_eq_true] at h
  rw [hasV_up (.inl rfl) hr, up6a ha, Bool.and_eq_true]
  refine ⟨h.1, ?_⟩
  have h4 : (refUp 7 a b c).2.2.2.2 = true := by
    show rightB (upN 7 a b c).1 (upN 7 a b c).2.1 (upN 7 a b c).2.2 nob = true
    rw [up7]; show rightB a (b + 1) 0 nob = true; exact right_n h1 (by omega) (by omega)
  have h5 := h.2
  rw [h4, Bool.not_true, Bool.false_or, decide_eq_true_eq] at h5
  rw [Bool.or_eq_true]
  exact .inr (decide_eq_true (lt_trans' h5 (lt_major a (b + 1) 0 0 0 nob nob)))
/-- Where Major is nought, what a caret has a tilde has. -/
theorem caret_tilde {a b c : Int} {p : ByteArray} (hr : rightB a b c p = true) (ha : ¬ 0 < a) (hc : c ≠ 999999) (x y z : Int) (q : ByteArray) (h : hasV 6 a b c p x y z q = true) : hasV 7 a b c p x y z q = true := by
  obtain ⟨h1, h2, h3, _⟩ := rightB_iff.1 hr
  rw [inN_iff] at h1 h2 h3
  by_cases hb : b = 0
  · rw [hasV_up (.inl rfl) hr, up6b ha hb, Bool.and_eq_true] at h
    rw [hasV_up (.inr rfl) hr, up7, Bool.and_eq_true]
    refine ⟨h.1, ?_⟩
    have h4 : (refUp 6 a b c).2.2.2.2 = true := by
      show rightB (upN 6 a b c).1 (upN 6 a b c).2.1 (upN 6 a b c).2.2 nob = true
      rw [up6b ha hb]; show rightB 0 0 (c + 1) nob = true; exact right_n (by omega) (by omega) (by omega)
    have h5 := h.2
    rw [h4, Bool.not_true, Bool.false_or, decide_eq_true_eq] at h5
    rw [Bool.or_eq_true, show a = 0 by omega, hb]
    exact .inr (decide_eq_true (lt_trans' h5 (lt_minor 0 0 (c + 1) 0 nob nob)))
  · rw [hasV_up (.inl rfl) hr] at h
    rw [hasV_up (.inr rfl) hr]
    have e : upN 7 a b c = upN 6 a b c := by rw [up7, up6c ha hb]
    have e2 : (refUp 7 a b c).2.2.2.2 = (refUp 6 a b c).2.2.2.2 := by unfold refUp; rw [e]
    rw [e, e2]; exact h
theorem RangesTilde_E (a b c : Int) (p : ByteArray) (x y z : Int) (q : ByteArray) : E (fun k => slipwaylaw02_RangesTilde.f k a b c p x y z q) true := by
  have out : E (fun k => slipwaylaw02_RangesTilde.j0 k true a b c p x y z q) true := by
    refine E.step ?_
    simp only [slipwaylaw02_RangesTilde.j0]
    exact E.ite_pos (by trivial) (E.some _)
  unfold slipwaylaw02_RangesTilde.f
  refine E.bindc anchor_some (E.ite_pos rfl (E.ite (fun _ => out) (fun hp => E.ite (fun _ => out) (fun hq => ?_))))
  have tp : tiny p := show p.size ≤ 1000 by omega
  have tq : tiny q := show q.size ≤ 1000 by omega
  refine E.bindc (right_some a b c p tp) (E.ite (fun hv => E.bindc (right_some x y z q tq) ?_) (fun _ => out))
  cases hw : rightB x y z q with
  | false => exact out
  | true =>
    refine E.step ?_
    simp only [slipwaylaw02_RangesTilde.j0]
    refine E.ite_neg (by simp) (E.bindc (of_some _ _ _ _ _) (E.bindc (hasR_some _ x y z q (ofR_tiny tp) tq) (E.bindc (of_some _ _ _ _ _) (E.bindc (hasR_some _ x y z q (ofR_tiny tp) tq) ?_))))
    rw [ofR_has (compR_op (by omega) (by omega) hv) hw, ofR_has (compR_op (by omega) (by omega) hv) hw]
    refine E.ite (fun ha => E.ite (fun hb => E.ite (fun h => ?_) (fun _ => E.some _)) (fun _ => E.some _)) (fun ha => E.ite (fun h => E.ite (fun _ => E.some _) (fun h7 => ?_)) (fun _ => E.some _))
    · exact E.eq (E.some _) (tilde_caret hv ha hb x y z q h)
    · refine E.eq (E.some _) ?_
      by_cases hc : c = 999999
      · exact beq_iff_eq.2 hc
      · exact absurd (caret_tilde hv ha hc x y z q h) h7
theorem RangesTilde_walk (a b c : Int) (p : ByteArray) (x y z : Int) (q : ByteArray) (W : World) (hG : Gw W) :
    Calls Tryz.prog 7 #[.agg #[.int .i64 a, .int .i64 b, .int .i64 c, .string p], .agg #[.int .i64 x, .int .i64 y, .int .i64 z, .string q]] W fun e w' => e = .returned (.bool true) ∧ Below W.heap.size W w' := by
  obtain ⟨k, hk⟩ := (RangesTilde_E a b c p x y z q).ex
  exact slipwaylaw02_RangesTilde.calls k a b c p x y z q true W hG hk
end Go.Proofs.YtckeeefeiljamaaGreatDoor
