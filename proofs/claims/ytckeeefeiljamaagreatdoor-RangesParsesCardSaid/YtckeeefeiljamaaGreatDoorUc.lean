/- What the document's Parse answers; it is the program's. -/
import Derived.Test.YtckeeefeiljamaaGreatDoorUa
import Derived.Test.YtckeeefeiljamaaGreatDoorPRanf3
set_option linter.unusedSimpArgs false
set_option linter.unusedVariables false
namespace Go.Proofs.YtckeeefeiljamaaGreatDoor
open Go.RowKit Go.Proofs.YtckeeefeiljamaaGreatDoorW.PrintWords PRan

/-! bars -/
abbrev barL : List UInt8 := [32, 124, 124, 32]
def occB (s : ByteArray) (i : Nat) : Bool := Lib.occAt s.data.toList barL i
theorem occ_ext (s : ByteArray) (a j : Nat) : Lib.occAt (s.extract a s.size).data.toList barL j = occB s (a + j) := by
  unfold Lib.occAt occB Lib.occAt
  rw [ext_data, List.take_of_length_le (by rw [data_length]; exact Nat.le_refl _), List.drop_drop]
theorem occ_far (s : ByteArray) (i : Nat) (h : s.size < i + 4) : occB s i = false := by
  unfold occB Lib.occAt
  rw [← Bool.not_eq_true, List.isPrefixOf_iff_prefix]
  intro h2
  have := h2.length_le
  rw [List.length_drop, data_length] at this
  simp at this; omega
theorem occ_iff (s : ByteArray) (i : Nat) (h : i + 4 ≤ s.size) : (s.extract i (i + 4)).toList = barL ↔ occB s i = true := by
  rw [ba_toList, ext_data]
  unfold occB Lib.occAt
  rw [List.isPrefixOf_iff_prefix, List.prefix_iff_eq_take, ← List.take_drop]
  show _ ↔ barL = List.take 4 _
  exact eq_comm
theorem index_at (s : ByteArray) (a i : Nat) (hai : a ≤ i) (hi : i ≤ s.size) (hc : occB s i = true) (hno : ∀ j, a ≤ j → j < i → occB s j = false) : Lib.indexB (s.extract a s.size) bar = ((i - a : Nat) : Int) := by
  show Lib.index _ barL = _
  refine Lib.index_first ?_ ?_ ?_
  · rw [ext_data, List.length_drop, List.length_take, data_length]; omega
  · rw [occ_ext, show a + (i - a) = i by omega]; exact hc
  · intro j hj
    rw [occ_ext]; exact hno _ (by omega) (by omega)
theorem index_no (s : ByteArray) (a : Nat) (hno : ∀ j, a ≤ j → occB s j = false) : Lib.indexB (s.extract a s.size) bar = -1 := by
  show Lib.index _ barL = _
  refine Lib.index_none ?_
  intro j _
  rw [occ_ext]; exact hno _ (by omega)
theorem bars_l0 (s : ByteArray) (hs : tiny s) : ∀ (n i a : Nat) (out : List ByteArray), s.size + 1 - i = n → i ≤ s.size → a ≤ i → out.length ≤ a → (∀ j, a ≤ j → j < i → occB s j = false) →
    E (fun k => slipwayref02_bars.l0 k s out (a : Int) (i : Int)) (out ++ pieces bar (s.extract a s.size)) := by
  intro n
  induction n using Nat.strongRecOn with
  | _ n ih =>
    intro i a out hn hi ha ho hno
    have w4 : wrap64 ((i : Int) + 4) = ((i + 4 : Nat) : Int) := by rw [wrap_id (by omega)]; omega
    have w1 : wrap64 ((i : Int) + 1) = ((i + 1 : Nat) : Int) := by rw [wrap_id (by omega)]; omega
    refine E.step ?_
    simp only [slipwayref02_bars.l0, w4, w1, Int.toNat_natCast]
    by_cases h4 : i + 4 ≤ s.size
    · refine E.ite_pos (by omega) (E.ite_pos (by omega) (E.ite_pos (by omega) ?_))
      refine E.ite (fun hc => ?_) (fun hc => ?_)
      · have hoc := (occ_iff s i h4).1 hc
        refine E.ite_pos (by omega) (E.ite_pos (by omega) (E.ite_pos (by omega) (E.ite_pos (by omega) ?_)))
        have hsz : (s.extract a s.size).size = s.size - a := by rw [ByteArray.size_extract]; omega
        have hp := pieces_hit bar (s.extract a s.size) (by decide) (i - a) (index_at s a i ha hi hoc hno)
        rw [hsz, ext_ext _ _ _ _ _ (by omega) (by omega), ext_ext _ _ _ _ _ (by omega) (by omega)] at hp
        rw [show a + 0 = a by omega, show a + (i - a) = i by omega, show a + (i - a + bar.size) = i + 4 by show a + (i - a + 4) = i + 4; omega, show a + (s.size - a) = s.size by omega] at hp
        rw [hp]
        have := ih (s.size + 1 - (i + 4)) (by omega) (i + 4) (i + 4) (out ++ [s.extract a i]) rfl h4 (Nat.le_refl _) (by simp; omega) (fun j h1 h2 => absurd h2 (by omega))
        rw [List.append_assoc, List.singleton_append] at this
        exact this
      · exact ih (s.size + 1 - (i + 1)) (by omega) (i + 1) a out rfl (by omega) (by omega) ho (fun j hj1 hj2 => by
          by_cases e : j = i
          · subst e; rw [← Bool.not_eq_true]; exact fun h => hc ((occ_iff s j h4).2 h)
          · exact hno j hj1 (by omega))
    · refine E.ite_neg (by omega) (E.ite_pos (by omega) (E.ite_pos (by omega) (E.ite_pos (by omega) ?_)))
      rw [pieces_miss _ _ (index_no s a (fun j hj => by
        by_cases e : j < i
        · exact hno j hj e
        · exact occ_far s j (by omega)))]
      exact E.some _
theorem bars_E (s : ByteArray) (hs : tiny s) : E (fun k => slipwayref02_bars.f k s) (pieces bar s) := by
  unfold slipwayref02_bars.f
  have := bars_l0 s hs _ 0 0 [] rfl (Nat.zero_le _) (Nat.le_refl _) (Nat.le_refl _) (fun j _ h => absurd h (Nat.not_lt_zero _))
  rw [ext_all, List.nil_append] at this
  exact this

/-! comp -/
def okP (t : ByteArray) : Bool := (parseV t).2.2.2.2 == 0
/-- A text that is a version doesn't begin with '='. -/
theorem okP_head (t : ByteArray) (h : okP t = true) : t.data.toList.head? ≠ some 61 := by
  intro hh
  unfold okP parseV at h
  simp only at h
  split at h
  · cases h
  · rename_i hn
    have hall : (pieces dot (toBytes (Lib.cut t.data.toList [45]).1)).all numP = true := by
      rw [← Bool.not_eq_false]; exact fun e => hn (.inr (.inr e))
    -- the text ahead of the first '-'
    obtain ⟨u, hu⟩ : ∃ u, u = (Lib.cut t.data.toList [45]).1 := ⟨_, rfl⟩
    rw [← hu] at hall
    have hu1 : u.head? = some 61 := by
      by_cases he : ∃ i, i < t.size ∧ b8 t i = 45
      · obtain ⟨i, hi, hc, hno⟩ := first_at t 45 he
        rw [cut_some t i hi hc hno] at hu
        rw [hu]
        show (t.data.toList.take i).head? = _
        cases i with
        | zero =>
          exfalso
          have := b8_get t 0 hi
          rw [List.head?_eq_getElem?, this, hc] at hh
          cases hh
        | succ i => rw [List.head?_take, if_neg (by omega)]; exact hh
      · rw [cut_none t (fun j _ hj e => he ⟨j, hj, e⟩)] at hu
        rw [hu]; exact hh
    have hj := join_pieces 46 _ (toBytes u) rfl
    have hne := pieces_ne dot (toBytes u)
    change joinC 46 (pieces dot (toBytes u)) = _ at hj
    cases hp : pieces dot (toBytes u) with
    | nil => exact hne hp
    | cons p l =>
      rw [hp] at hj hall
      rw [List.all_cons, Bool.and_eq_true] at hall
      obtain ⟨h1, _, h3, _⟩ := numL_parts (show numL p.data.toList = true from hall.1)
      rw [tb_data] at hj
      have hhead : u.head? = p.data.toList.head? := by
        rw [← hj]
        cases hd : p.data.toList with
        | nil => exact absurd hd h1
        | cons b r =>
          cases l with
          | nil => simp [joinC, hd]
          | cons q l' => rw [joinC_cons _ _ _ (by simp), hd]; rfl
      rw [hu1] at hhead
      cases hd : p.data.toList with
      | nil => exact absurd hd h1
      | cons b r =>
        rw [hd] at h3 hhead
        simp only [List.all_cons, Bool.and_eq_true] at h3
        simp only [List.head?_cons, Option.some.injEq] at hhead
        rw [← hhead] at h3
        exact absurd h3.1 (by decide)
abbrev zeroC : CV := (0, 0, 0, 0, ⟨#[]⟩, false)
def restS (s : ByteArray) (j : Nat) : ByteArray := s.extract (sg j).size s.size
def mB (s : ByteArray) (j : Nat) : Bool := hasS s j && okP (restS s j)
def hitC (s : ByteArray) (j : Nat) : CV := ((j : Int), (parseV (restS s j)).1, (parseV (restS s j)).2.1, (parseV (restS s j)).2.2.1, (parseV (restS s j)).2.2.2.1, true)
def resF (s : ByteArray) : Nat → Nat → CV
  | 0, _ => zeroC
  | d + 1, j => if mB s j = true then hitC s j else resF s d (j + 1)
theorem refP_some (t : ByteArray) (h : tiny t) : slipwayref01_Parse.f t = some (refP t) := by unfold slipwayref01_Parse.f; rw [if_pos h]
theorem sign_at (j : Nat) (h : j < 8) : slipwayref02_Sign.f (j : Int) = some (sg j) := by unfold slipwayref02_Sign.f; rw [if_pos (by omega), Int.toNat_natCast]
theorem refP_ok (t : ByteArray) (h : okP t = true) : refP t = ((parseV t).1, (parseV t).2.1, (parseV t).2.2.1, (parseV t).2.2.2.1, true) := by
  unfold refP; simp only; rw [if_pos (by simpa [okP] using h)]
theorem refP_no (t : ByteArray) (h : okP t = false) : (refP t).2.2.2.2 = false := by
  unfold refP; simp only; rw [if_neg (by simpa [okP] using h)]
theorem extract_pre (s : ByteArray) (j : Nat) (h : (sg j).size ≤ s.size) : ((s.extract 0 (sg j).size).toList != (sg j).toList) = !hasS s j := by
  unfold hasS Lib.hasPrefix
  rw [ba_toList, ba_toList, ext_data, List.drop_zero, ← data_length]
  rw [Bool.eq_iff_iff, Bool.not_eq_true', ← Bool.not_eq_true, List.isPrefixOf_iff_prefix, List.prefix_iff_eq_take]
  rw [bne_iff_ne]
  exact not_congr eq_comm
theorem refC_l0 (s : ByteArray) (hs : tiny s) : ∀ (d j : Nat), j + d = 8 → E (fun k => slipwayref02_comp.l0 k s (j : Int)) (resF s d j) := by
  intro d
  induction d with
  | zero =>
    intro j hj
    refine E.step ?_
    simp only [slipwayref02_comp.l0]
    exact E.ite_neg (by omega) (E.some _)
  | succ d ih =>
    intro j hj
    have hn := ih (j + 1) (by omega)
    rw [← wrap_succ j 1000 (by omega) (by omega)] at hn
    have h2 := sg_size j (by omega)
    have go : hasS s j = false → E (fun k => slipwayref02_comp.j1 k s (j : Int) (sg j) true) (resF s (d + 1) j) := fun h => by
      refine E.step ?_
      simp only [slipwayref02_comp.j1]
      have hres : resF s (d + 1) j = resF s d (j + 1) := by
        show (if mB s j = true then hitC s j else resF s d (j + 1)) = _
        unfold mB; rw [h]; exact if_neg (by simp)
      rw [hres]
      exact E.ite_pos (by trivial) hn
    refine E.step ?_
    simp only [slipwayref02_comp.l0]
    refine E.ite_pos (by omega) (E.bindc (sign_at j (by omega)) ?_)
    refine E.ite (fun h => go ?_) (fun h => E.ite_pos (by omega) (E.ite_pos (by omega) ?_))
    · rw [← Bool.not_eq_true]; intro h3; have := hasPre_len s j h3; omega
    · rw [Int.toNat_natCast, extract_pre s j (by omega)]
      cases hh : hasS s j with
      | false => exact go hh
      | true =>
        refine E.step ?_
        simp only [slipwayref02_comp.j1, Bool.not_true]
        refine E.ite_neg (by simp) (E.ite_pos (by omega) (E.ite_pos (by omega) ?_))
        rw [Int.toNat_natCast]
        refine E.bindc (refP_some _ (show (s.extract (sg j).size s.size).size ≤ 1000 by rw [ByteArray.size_extract]; omega)) ?_
        cases ho : okP (restS s j) with
        | true =>
          have hres : resF s (d + 1) j = hitC s j := by
            show (if mB s j = true then hitC s j else resF s d (j + 1)) = _
            unfold mB; rw [hh, ho]; exact if_pos rfl
          rw [hres, show s.extract (sg j).size s.size = restS s j from rfl, refP_ok _ ho]
          unfold hitC
          generalize parseV (restS s j) = v
          exact E.ite_pos rfl (E.some _)
        | false =>
          have hres : resF s (d + 1) j = resF s d (j + 1) := by
            show (if mB s j = true then hitC s j else resF s d (j + 1)) = _
            unfold mB; rw [hh, ho]; exact if_neg (by decide)
          rw [hres, show s.extract (sg j).size s.size = restS s j from rfl, refP_no _ ho]
          exact E.ite_neg (by simp) hn
theorem rest_head (s : ByteArray) (c : UInt8) (r : List UInt8) (h : s.data.toList = c :: r) (j : Nat) (hj : (sg j).size = 1) : (restS s j).data.toList = r := by
  unfold restS
  rw [ext_data, hj, List.take_of_length_le (by rw [data_length]; exact Nat.le_refl _), h]; rfl
theorem opV_unf (s : ByteArray) : opV s = stepO s (stepO s (stepO s (stepO s (stepO s (stepO s (stepO s (stepO s 0 0) 1) 2) 3) 4) 5) 6) 7 := rfl
theorem step_no {s : ByteArray} {op : Int} {j : Nat} (h : hasS s j = false) : stepO s op j = op := by unfold stepO; rw [if_neg (by rw [h]; simp)]
theorem step_0 {s : ByteArray} {op : Int} : stepO s op 0 = op := by unfold stepO; rw [if_neg (by simp)]
theorem step_yes {s : ByteArray} {j : Nat} (h0 : 0 < j) (h : hasS s j = true) : stepO s 0 j = j := by unfold stepO; rw [if_pos ⟨h0, h, .inl rfl⟩]
theorem step_two {s : ByteArray} {op : Int} {j : Nat} (h0 : 0 < j) (h : hasS s j = true) (h2 : (sg j).size = 2) : stepO s op j = j := by unfold stepO; rw [if_pos ⟨h0, h, .inr h2⟩]
theorem compE_at (s : ByteArray) (j : Nat) (h0 : 0 < j) : compE s (j : Int) = ((j : Int), (parseV (restS s j)).1, (parseV (restS s j)).2.1, (parseV (restS s j)).2.2.1, (parseV (restS s j)).2.2.2.1, okP (restS s j)) := by
  unfold compE restS okP
  rw [if_neg (by omega), Int.toNat_natCast]
theorem pure_at (s : ByteArray) (j : Nat) (h0 : 0 < j) (ho : opV s = (j : Int)) (hr : resF s 7 1 = if okP (restS s j) = true then hitC s j else zeroC) :
    resF s 7 1 = if (compE s (opV s)).2.2.2.2.2 = true then compE s (opV s) else zeroC := by
  rw [hr, ho, compE_at s j h0]
  cases h : okP (restS s j) <;> rfl
theorem comp_pure (s : ByteArray) : resF s 7 1 = if (compE s (opV s)).2.2.2.2.2 = true then compE s (opV s) else zeroC := by
  have pre : ∀ j, hasS s j = (sg j).data.toList.isPrefixOf s.data.toList := fun _ => rfl
  cases hd : s.data.toList with
  | nil =>
    have hf : ∀ j, 0 < j → j < 8 → hasS s j = false := fun j h0 h8 => by
      rw [pre, hd]
      rcases j with _ | _ | _ | _ | _ | _ | _ | _ | j
      all_goals first | rfl | omega
    have ho : opV s = 0 := by
      rw [opV_unf, step_0, step_no (hf 1 (by omega) (by omega)), step_no (hf 2 (by omega) (by omega)), step_no (hf 3 (by omega) (by omega)), step_no (hf 4 (by omega) (by omega)), step_no (hf 5 (by omega) (by omega)), step_no (hf 6 (by omega) (by omega)), step_no (hf 7 (by omega) (by omega))]
    rw [ho]
    simp only [resF, mB, hf 1 (by omega) (by omega), hf 2 (by omega) (by omega), hf 3 (by omega) (by omega), hf 4 (by omega) (by omega), hf 5 (by omega) (by omega), hf 6 (by omega) (by omega), hf 7 (by omega) (by omega), Bool.false_and]
    rfl
  | cons c r =>
    have p1 : hasS s 1 = (61 == c) := by rw [pre, hd]; show ((61 == c) && true) = _; rw [Bool.and_true]
    have p2 : hasS s 2 = (60 == c) := by rw [pre, hd]; show ((60 == c) && true) = _; rw [Bool.and_true]
    have p3 : hasS s 3 = ((60 == c) && List.isPrefixOf [61] r) := by rw [pre, hd]; rfl
    have p4 : hasS s 4 = (62 == c) := by rw [pre, hd]; show ((62 == c) && true) = _; rw [Bool.and_true]
    have p5 : hasS s 5 = ((62 == c) && List.isPrefixOf [61] r) := by rw [pre, hd]; rfl
    have p6 : hasS s 6 = (94 == c) := by rw [pre, hd]; show ((94 == c) && true) = _; rw [Bool.and_true]
    have p7 : hasS s 7 = (126 == c) := by rw [pre, hd]; show ((126 == c) && true) = _; rw [Bool.and_true]
    have hno : List.isPrefixOf [61] r = true → ∀ j, (sg j).size = 1 → okP (restS s j) = false := fun h j hj => by
      rw [← Bool.not_eq_true]
      intro ho
      refine okP_head _ ho ?_
      rw [rest_head s c r hd j hj]
      cases r with
      | nil => cases h
      | cons x t =>
        have : ((61 : UInt8) == x && true) = true := h
        rw [Bool.and_true, beq_iff_eq] at this
        rw [← this]; rfl
    by_cases c1 : c = 61
    · subst c1
      refine pure_at s 1 (by omega) ?_ ?_
      · rw [opV_unf, step_0, step_yes (by omega) p1, step_no p2, step_no p3, step_no p4, step_no p5, step_no p6, step_no p7]
      · simp only [resF, mB, p1, p2, p3, p4, p5, p6, p7]; simp
    by_cases c6 : c = 94
    · subst c6
      refine pure_at s 6 (by omega) ?_ ?_
      · rw [opV_unf, step_0, step_no p1, step_no p2, step_no p3, step_no p4, step_no p5, step_yes (by omega) p6, step_no p7]
      · simp only [resF, mB, p1, p2, p3, p4, p5, p6, p7]; simp
    by_cases c7 : c = 126
    · subst c7
      refine pure_at s 7 (by omega) ?_ ?_
      · rw [opV_unf, step_0, step_no p1, step_no p2, step_no p3, step_no p4, step_no p5, step_no p6, step_yes (by omega) p7]
      · simp only [resF, mB, p1, p2, p3, p4, p5, p6, p7]; simp
    by_cases c2 : c = 60
    · subst c2
      cases hr : List.isPrefixOf [61] r with
      | true =>
        rw [hr] at p3 p5
        refine pure_at s 3 (by omega) ?_ ?_
        · rw [opV_unf, step_0, step_no p1, step_yes (by omega) p2, step_two (by omega) p3 rfl, step_no p4, step_no p5, step_no p6, step_no p7]
        · simp only [resF, mB, p1, p2, p3, p4, p5, p6, p7, hno hr 2 rfl]; simp
      | false =>
        rw [hr] at p3 p5
        refine pure_at s 2 (by omega) ?_ ?_
        · rw [opV_unf, step_0, step_no p1, step_yes (by omega) p2, step_no p3, step_no p4, step_no p5, step_no p6, step_no p7]
        · simp only [resF, mB, p1, p2, p3, p4, p5, p6, p7]; simp
    by_cases c4 : c = 62
    · subst c4
      cases hr : List.isPrefixOf [61] r with
      | true =>
        rw [hr] at p3 p5
        refine pure_at s 5 (by omega) ?_ ?_
        · rw [opV_unf, step_0, step_no p1, step_no p2, step_no p3, step_yes (by omega) p4, step_two (by omega) p5 rfl, step_no p6, step_no p7]
        · simp only [resF, mB, p1, p2, p3, p4, p5, p6, p7, hno hr 4 rfl]; simp
      | false =>
        rw [hr] at p3 p5
        refine pure_at s 4 (by omega) ?_ ?_
        · rw [opV_unf, step_0, step_no p1, step_no p2, step_no p3, step_yes (by omega) p4, step_no p5, step_no p6, step_no p7]
        · simp only [resF, mB, p1, p2, p3, p4, p5, p6, p7]; simp
    have q1 : hasS s 1 = false := by rw [p1, beq_eq_false_iff_ne]; exact fun e => c1 e.symm
    have q2 : hasS s 2 = false := by rw [p2, beq_eq_false_iff_ne]; exact fun e => c2 e.symm
    have q3 : hasS s 3 = false := by rw [p3, Bool.and_eq_false_iff]; exact .inl (by rw [beq_eq_false_iff_ne]; exact fun e => c2 e.symm)
    have q4 : hasS s 4 = false := by rw [p4, beq_eq_false_iff_ne]; exact fun e => c4 e.symm
    have q5 : hasS s 5 = false := by rw [p5, Bool.and_eq_false_iff]; exact .inl (by rw [beq_eq_false_iff_ne]; exact fun e => c4 e.symm)
    have q6 : hasS s 6 = false := by rw [p6, beq_eq_false_iff_ne]; exact fun e => c6 e.symm
    have q7 : hasS s 7 = false := by rw [p7, beq_eq_false_iff_ne]; exact fun e => c7 e.symm
    have ho : opV s = 0 := by rw [opV_unf, step_0, step_no q1, step_no q2, step_no q3, step_no q4, step_no q5, step_no q6, step_no q7]
    rw [ho]
    simp only [resF, mB, q1, q2, q3, q4, q5, q6, q7, Bool.false_and]
    rfl
def refC (s : ByteArray) : CV := if compOk s = true then compV s else zeroC
theorem refC_E (s : ByteArray) (hs : tiny s) : E (fun k => slipwayref02_comp.f k s) (refC s) := by
  unfold slipwayref02_comp.f refC compOk compV
  refine E.ite (fun h => ?_) (fun h => ?_)
  · rw [if_pos h]; exact E.some _
  · rw [if_neg h, ← comp_pure]
    exact refC_l0 s hs 7 1 rfl

/-! Parse -/
theorem cut_some' (s : ByteArray) (h : tiny s) : slipwayref01_Cut.f s 32 = some (pieces blank s) := by
  unfold slipwayref01_Cut.f
  rw [if_pos ⟨h, by omega, by omega⟩]; rfl
theorem cv_compS (t : ByteArray) : cv (compS t) = ⟨(compV t).1, ⟨(compV t).2.1, (compV t).2.2.1, (compV t).2.2.2.1, (compV t).2.2.2.2.1⟩⟩ := rfl
def Mres (ok : Bool) (r : M2) : M2 × Bool := if ok = true then (r, rR r) else ([], false)
section
variable (s : ByteArray) (hs : tiny s)
theorem refParse_l1 (hs : tiny s) (i : Nat) (hi : i < (pieces bar s).length) (ok : Bool)
    (hn : E (fun k => slipwayref02_Parse.l0 k (pieces bar s) (wrap64 ((i : Int) + 1)) (cvR (((pieces bar s).take (i + 1)).map altL))) (Mres ok (cvR (rangeL s)))) :
    ∀ (d j : Nat), j + d = (pieces blank ((pieces bar s).getD i ByteArray.empty)).length →
      E (fun k => slipwayref02_Parse.l1 k (pieces bar s) (i : Int) (((pieces blank ((pieces bar s).getD i ByteArray.empty)).take j).map (fun t => cv (compS t))) (pieces blank ((pieces bar s).getD i ByteArray.empty)) (j : Int) (cvR (((pieces bar s).take i).map altL)))
        (Mres (((pieces blank ((pieces bar s).getD i ByteArray.empty)).drop j).all compOk && ok) (cvR (rangeL s))) := by
  have hm := getD_mem' (z := ByteArray.empty) hi
  have hlen := (pieces_lens bar (by decide) _ s rfl)
  have ht := hlen.2 _ hm
  have hl2 := pieces_lens blank (by decide) _ ((pieces bar s).getD i ByteArray.empty) rfl
  intro d
  induction d with
  | zero =>
    intro j hj
    refine E.step ?_
    simp only [slipwayref02_Parse.l1]
    refine E.ite_neg (by omega) (E.ite_pos (by rw [cvR_len, List.length_map, List.length_take]; omega) ?_)
    rw [List.take_of_length_le (show (pieces blank ((pieces bar s).getD i ByteArray.empty)).length ≤ j by omega), List.drop_eq_nil_of_le (show (pieces blank ((pieces bar s).getD i ByteArray.empty)).length ≤ j by omega)]
    have e : cvR (((pieces bar s).take i).map altL) ++ [(pieces blank ((pieces bar s).getD i ByteArray.empty)).map (fun t => cv (compS t))] = cvR (((pieces bar s).take (i + 1)).map altL) := by
      unfold cvR
      rw [List.take_succ_eq_append_getElem hi, List.map_append, List.map_append, List.getD_eq_getElem?_getD, List.getElem?_eq_getElem hi]
      simp [altL]
    rw [e]
    exact hn
  | succ d ih =>
    intro j hj
    have hj' : j < (pieces blank ((pieces bar s).getD i ByteArray.empty)).length := by omega
    have hm2 := getD_mem' (z := ByteArray.empty) hj'
    have h := ih (j + 1) (by omega)
    rw [← wrap_succ j 2000 (by omega) (by omega)] at h
    refine E.step ?_
    simp only [slipwayref02_Parse.l1, rd_at]
    refine E.ite_pos (by omega) (E.ite_pos (by omega) (E.bind (refC_E _ (Nat.le_trans (hl2.2 _ hm2) (Nat.le_trans ht hs))) ?_))
    rw [drop_at _ ByteArray.empty j hj', List.all_cons]
    unfold refC
    cases hok : compOk ((pieces blank ((pieces bar s).getD i ByteArray.empty)).getD j ByteArray.empty) with
    | true =>
      rw [if_pos rfl, Bool.true_and]
      refine E.ite_pos hok (E.ite_pos (by rw [List.length_map, List.length_take]; omega) ?_)
      have e : ((pieces blank ((pieces bar s).getD i ByteArray.empty)).take (j + 1)).map (fun t => cv (compS t)) = ((pieces blank ((pieces bar s).getD i ByteArray.empty)).take j).map (fun t => cv (compS t)) ++ [cv (compS ((pieces blank ((pieces bar s).getD i ByteArray.empty)).getD j ByteArray.empty))] := by
        rw [List.take_succ_eq_append_getElem hj', List.map_append, List.getD_eq_getElem?_getD (l := pieces blank _), List.getElem?_eq_getElem hj']; rfl
      rw [e, cv_compS] at h
      exact h
    | false =>
      rw [if_neg (by decide), Bool.false_and]
      exact E.ite_neg (by simp) (E.some _)
theorem refParse_l0 (hs : tiny s) : ∀ (d i : Nat), i + d = (pieces bar s).length →
    E (fun k => slipwayref02_Parse.l0 k (pieces bar s) (i : Int) (cvR (((pieces bar s).take i).map altL))) (Mres (((pieces bar s).drop i).all altOk) (cvR (rangeL s))) := by
  have hlen := (pieces_lens bar (by decide) _ s rfl)
  intro d
  induction d with
  | zero =>
    intro i hi
    refine E.step ?_
    simp only [slipwayref02_Parse.l0]
    rw [List.take_of_length_le (show (pieces bar s).length ≤ i by omega), List.drop_eq_nil_of_le (show (pieces bar s).length ≤ i by omega)]
    exact E.ite_neg (by omega) (E.bind (refR_E (cvR (rangeL s)) (tinyM_cv (rangeL_tiny s hs))) (E.some _))
  | succ d ih =>
    intro i hi
    have hi' : i < (pieces bar s).length := by omega
    have hn := ih (i + 1) (by omega)
    rw [← wrap_succ i 2000 (by omega) (by omega)] at hn
    have hm := getD_mem' (z := ByteArray.empty) hi'
    have ht := hlen.2 _ hm
    have := refParse_l1 s hs i hi' _ hn _ 0 (Nat.zero_add _)
    rw [List.drop_zero] at this
    refine E.step ?_
    simp only [slipwayref02_Parse.l0, rd_at]
    rw [drop_at _ ByteArray.empty i hi', List.all_cons]
    exact E.ite_pos (by omega) (E.ite_pos (by omega) (E.bindc (cut_some' _ (Nat.le_trans ht hs)) this))
theorem refParse_E' (hs : tiny s) : E (fun k => slipwayref02_Parse.f k s) (Mres (partsOk s) (cvR (rangeL s))) := by
  unfold slipwayref02_Parse.f
  exact E.bind (bars_E s hs) (refParse_l0 s hs _ 0 (Nat.zero_add _))
end
end Go.Proofs.YtckeeefeiljamaaGreatDoor
