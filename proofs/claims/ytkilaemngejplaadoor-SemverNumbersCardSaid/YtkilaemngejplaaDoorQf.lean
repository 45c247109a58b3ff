/- The order of versions is one; the reference's Compare is the program's. -/
import Derived.Test.YtkilaemngejplaaDoorQe
import Derived.Test.YtkilaemngejplaaDoorPSemx6
set_option linter.unusedSimpArgs false
set_option linter.unusedVariables false
namespace Go.Proofs.YtkilaemngejplaaDoor
open Go.RowKit Go.Proofs.YtkilaemngejplaaDoorW.PrintWords PSem

/-! ### a text is its pieces -/
def joinC (c : UInt8) : List ByteArray → List UInt8
  | [] => []
  | [x] => x.data.toList
  | x :: y :: l => x.data.toList ++ c :: joinC c (y :: l)
theorem pieces_ne (sep s : ByteArray) : pieces sep s ≠ [] := by
  unfold pieces
  cases Lib.countB s sep with
  | zero => simp [Lib.splitB]
  | succ k => unfold Lib.splitB; split <;> simp
theorem joinC_cons (c : UInt8) (x : ByteArray) (l : List ByteArray) (h : l ≠ []) : joinC c (x :: l) = x.data.toList ++ c :: joinC c l := by
  cases l with
  | nil => exact absurd rfl h
  | cons y l => rfl
theorem first_at (s : ByteArray) (c : UInt8) (h : ∃ i, i < s.size ∧ b8 s i = c) : ∃ i, i < s.size ∧ b8 s i = c ∧ ∀ j, 0 ≤ j → j < i → b8 s j ≠ c := by
  obtain ⟨i0, hi0⟩ := h
  induction i0 using Nat.strongRecOn with
  | _ i0 ih =>
    by_cases h : ∃ j, j < i0 ∧ b8 s j = c
    · obtain ⟨j, hj1, hj2⟩ := h; exact ih j hj1 ⟨by omega, hj2⟩
    · exact ⟨i0, hi0.1, hi0.2, fun j _ hj e => h ⟨j, hj, e⟩⟩
theorem pieces_first (s : ByteArray) (c : UInt8) (i : Nat) (hi : i < s.size) (hc : b8 s i = c) (hno : ∀ j, 0 ≤ j → j < i → b8 s j ≠ c) :
    pieces (one c) s = s.extract 0 i :: pieces (one c) (s.extract (i + 1) s.size) := by
  have hx := indexB_one s c 0 i (Nat.zero_le _) hi hc hno
  rw [ext_all, Nat.sub_zero] at hx
  exact pieces_hit (one c) s (by show 1 ≤ 1; omega) i hx
theorem pieces_none (s : ByteArray) (c : UInt8) (h : ¬ ∃ i, i < s.size ∧ b8 s i = c) : pieces (one c) s = [s] := by
  have hx := indexB_none s c 0 (fun j _ hj e => h ⟨j, hj, e⟩)
  rw [ext_all] at hx
  exact pieces_miss _ _ hx
theorem join_pieces (c : UInt8) : ∀ (n : Nat) (s : ByteArray), s.size = n → joinC c (pieces (one c) s) = s.data.toList := by
  intro n
  induction n using Nat.strongRecOn with
  | _ n ih =>
    intro s hn
    by_cases hd : ∃ i, i < s.size ∧ b8 s i = c
    · obtain ⟨i, hi, hc, hno⟩ := first_at s c hd
      rw [pieces_first s c i hi hc hno, joinC_cons _ _ _ (pieces_ne _ _), ih (s.size - (i + 1)) (by omega) _ (by rw [ByteArray.size_extract]; omega)]
      rw [ext_data, ext_data, List.drop_zero, List.take_of_length_le (show s.data.toList.length ≤ s.size by rw [data_length]; exact Nat.le_refl _)]
      have h2 : i < s.data.toList.length := by rw [data_length]; exact hi
      have e : s.data.toList.drop i = c :: s.data.toList.drop (i + 1) := by
        rw [List.drop_eq_getElem_cons h2]
        congr 1
        have := b8_get s i hi
        rw [List.getElem?_eq_getElem h2] at this
        rw [← hc]; exact Option.some.inj this
      rw [← e, List.take_append_drop]
    · rw [pieces_none s c hd]; rfl
theorem pieces_inj {p q : ByteArray} (h : pieces dot p = pieces dot q) : p = q := by
  have h1 := join_pieces 46 p.size p rfl
  have h2 := join_pieces 46 q.size q rfl
  have e : pieces (one 46) p = pieces (one 46) q := h
  rw [e] at h1
  exact bytes_ext (h1.symm.trans h2)

/-! ### two Pres -/
theorem cmpL_lex : ∀ (x y : List ByteArray) (m n d : Nat), m = x.length + d → n = y.length + d → cmpL m n x y = lexL cmpM x y := by
  intro x
  induction x with
  | nil =>
    intro y m n d hm hn
    cases y with
    | nil => show cmpI (m : Int) (n : Int) = 0; rw [cmpI_zero]; simp at hm hn; omega
    | cons q y => show cmpI (m : Int) (n : Int) = -1; unfold cmpI; simp at hm hn; rw [if_pos (by omega)]
  | cons p x ih =>
    intro y m n d hm hn
    cases y with
    | nil => show cmpI (m : Int) (n : Int) = 1; unfold cmpI; simp at hm hn; rw [if_neg (by omega), if_pos (by omega)]
    | cons q y =>
      simp only [cmpL, lexL]
      by_cases h : p.toList = q.toList
      · have e : p = q := bytes_ext (by rwa [ba_toList, ba_toList] at h)
        subst e
        rw [if_pos rfl, if_pos (ordM.self p trivial)]
        exact ih y m n (d + 1) (by simp at hm; omega) (by simp at hn; omega)
      · rw [if_neg h, if_neg (fun e => h (by rw [ordM.zero p q trivial trivial e]))]
theorem marksV_lex (p q : ByteArray) : marksV p q = if p.toList = [] ∨ q.toList = [] then cmpI q.size p.size else lexL cmpM (pieces dot p) (pieces dot q) := by
  unfold marksV
  split
  · rfl
  · exact cmpL_lex _ _ _ _ 0 rfl rfl
theorem size_nil (p : ByteArray) : p.toList = [] ↔ p.size = 0 := by rw [ba_toList, ← List.length_eq_zero_iff, data_length]
theorem ordP : OrdOn (fun _ => True) marksV := by
  have o := ordL ordM
  have t : ∀ l : List ByteArray, ∀ x ∈ l, True := fun _ _ _ => trivial
  refine ⟨?_, ?_, ?_, ?_, ?_⟩
  · intro a b; rw [marksV_lex]; split
    · exact cmpI_rng _ _
    · exact o.rng _ _
  · intro a b _ _
    rw [marksV_lex, marksV_lex]
    by_cases h : a.toList = [] ∨ b.toList = []
    · rw [if_pos h, if_pos h.symm]; exact ordI.anti _ _ trivial trivial
    · rw [if_neg h, if_neg (fun e => h e.symm)]; exact o.anti _ _ (t _) (t _)
  · intro a b _ _ h
    rw [marksV_lex] at h
    by_cases h2 : a.toList = [] ∨ b.toList = []
    · rw [if_pos h2] at h
      have := cmpI_zero.1 h
      rw [size_nil, size_nil] at h2
      apply bytes_ext
      rw [List.eq_nil_of_length_eq_zero (show a.data.toList.length = 0 by rw [data_length]; omega), List.eq_nil_of_length_eq_zero (show b.data.toList.length = 0 by rw [data_length]; omega)]
    · rw [if_neg h2] at h
      exact pieces_inj (o.zero _ _ (t _) (t _) h)
  · intro a _
    rw [marksV_lex]; split
    · exact ordI.self _ trivial
    · exact o.self _ (t _)
  · intro a b c _ _ _ h1 h2
    rw [marksV_lex] at h1 h2 ⊢
    simp only [size_nil] at h1 h2 ⊢
    by_cases ha : a.size = 0
    · by_cases hb : b.size = 0
      · rw [if_pos (.inl hb)] at h2
        rw [if_pos (.inl ha)]; rw [ha]; rw [hb] at h2; exact h2
      · rw [if_pos (.inl ha), ha] at h1
        unfold cmpI at h1; rw [if_neg (by omega), if_pos (by omega)] at h1; omega
    · by_cases hb : b.size = 0
      · rw [if_pos (.inl hb), hb] at h2
        have hc : c.size = 0 := by
          by_cases hc : c.size = 0
          · exact hc
          · unfold cmpI at h2; rw [if_neg (by omega), if_pos (by omega)] at h2; omega
        rw [if_pos (.inr hc), hc]
        unfold cmpI; rw [if_pos (by omega)]; omega
      · by_cases hc : c.size = 0
        · rw [if_pos (.inr hc), hc]
          unfold cmpI; rw [if_pos (by omega)]; omega
        · rw [if_neg (by omega)] at h1 h2 ⊢
          exact o.trans _ _ _ (t _) (t _) (t _) h1 h2
theorem sign_id (p q : ByteArray) : cmpI (marksV p q) 0 = marksV p q := by
  rcases ordP.rng p q with h | h | h <;> rw [h] <;> rfl

/-! ### versions -/
structure Ver where
  a : Int
  b : Int
  c : Int
  p : ByteArray
def cmpVer (v w : Ver) : Int := cmpV v.a v.b v.c v.p w.a w.b w.c w.p
theorem cmpVer_eq (v w : Ver) : cmpVer v w = if cmpI v.a w.a = 0 then (if cmpI v.b w.b = 0 then (if cmpI v.c w.c = 0 then marksV v.p w.p else cmpI v.c w.c) else cmpI v.b w.b) else cmpI v.a w.a := by
  unfold cmpVer cmpV
  rw [sign_id]
  simp only [orL]
  by_cases h : marksV v.p w.p = 0
  · rw [if_pos h, h]
  · rw [if_neg h]
theorem ordV : OrdOn (fun _ => True) cmpVer := by
  have hI := fun x y => ordI.anti x y trivial trivial
  refine ⟨?_, ?_, ?_, ?_, ?_⟩
  · intro v w; rw [cmpVer_eq]; (repeat' split) <;> first | exact cmpI_rng _ _ | exact ordP.rng _ _
  · intro v w _ _
    rw [cmpVer_eq, cmpVer_eq]
    have h1 := hI v.a w.a; have h2 := hI v.b w.b; have h3 := hI v.c w.c; have h4 := ordP.anti v.p w.p trivial trivial
    (repeat' split) <;> omega
  · intro v w _ _ h
    rw [cmpVer_eq] at h
    by_cases h1 : cmpI v.a w.a = 0
    · rw [if_pos h1] at h
      by_cases h2 : cmpI v.b w.b = 0
      · rw [if_pos h2] at h
        by_cases h3 : cmpI v.c w.c = 0
        · rw [if_pos h3] at h
          have e1 := cmpI_zero.1 h1; have e2 := cmpI_zero.1 h2; have e3 := cmpI_zero.1 h3; have e4 := ordP.zero _ _ trivial trivial h
          obtain ⟨va, vb, vc, vp⟩ := v
          obtain ⟨wa, wb, wc, wp⟩ := w
          simp only at e1 e2 e3 e4
          subst e1; subst e2; subst e3; subst e4; rfl
        · rw [if_neg h3] at h; exact absurd h h3
      · rw [if_neg h2] at h; exact absurd h h2
    · rw [if_neg h1] at h; exact absurd h h1
  · intro v _
    rw [cmpVer_eq, if_pos (cmpI_zero.2 rfl), if_pos (cmpI_zero.2 rfl), if_pos (cmpI_zero.2 rfl)]; exact ordP.self _ trivial
  · intro u v w _ _ _ h1 h2
    rw [cmpVer_eq] at h1 h2 ⊢
    have tp := ordP.trans u.p v.p w.p trivial trivial trivial
    generalize marksV u.p v.p = x1 at *
    generalize marksV v.p w.p = x2 at *
    generalize marksV u.p w.p = x3 at *
    have z : ∀ x y : Int, (cmpI x y = 0 ↔ x = y) ∧ (cmpI x y ≤ 0 ↔ x ≤ y) := fun x y => ⟨cmpI_zero, by unfold cmpI; (repeat' split) <;> omega⟩
    simp only [(z _ _).1] at h1 h2 ⊢
    by_cases a1 : u.a = v.a
    · rw [if_pos a1] at h1
      by_cases a2 : v.a = w.a
      · rw [if_pos a2] at h2
        rw [if_pos (a1.trans a2)]
        by_cases b1 : u.b = v.b
        · rw [if_pos b1] at h1
          by_cases b2 : v.b = w.b
          · rw [if_pos b2] at h2
            rw [if_pos (b1.trans b2)]
            by_cases c1 : u.c = v.c
            · rw [if_pos c1] at h1
              by_cases c2 : v.c = w.c
              · rw [if_pos c2] at h2; rw [if_pos (c1.trans c2)]; exact tp h1 h2
              · rw [if_neg c2] at h2; rw [c1, if_neg c2]; exact h2
            · rw [if_neg c1, (z _ _).2] at h1
              by_cases c2 : v.c = w.c
              · rw [← c2, if_neg c1, (z _ _).2]; exact h1
              · rw [if_neg c2, (z _ _).2] at h2; rw [if_neg (by omega), (z _ _).2]; omega
          · rw [if_neg b2] at h2; rw [b1, if_neg b2]; exact h2
        · rw [if_neg b1, (z _ _).2] at h1
          by_cases b2 : v.b = w.b
          · rw [← b2, if_neg b1, (z _ _).2]; exact h1
          · rw [if_neg b2, (z _ _).2] at h2; rw [if_neg (by omega), (z _ _).2]; omega
      · rw [if_neg a2] at h2; rw [a1, if_neg a2]; exact h2
    · rw [if_neg a1, (z _ _).2] at h1
      by_cases a2 : v.a = w.a
      · rw [← a2, if_neg a1, (z _ _).2]; exact h1
      · rw [if_neg a2, (z _ _).2] at h2; rw [if_neg (by omega), (z _ _).2]; omega

/-! ### the reference's Compare -/
theorem by_some (a b : Int) : slipwayref01_by.f a b = some (cmpI a b) := by
  unfold slipwayref01_by.f cmpI; split
  · rfl
  · split <;> rfl
theorem lex_step {α : Type} (f : α → α → Int) (x y : List α) (j : Nat) (h1 : j < x.length) (h2 : j < y.length) : lexL f (x.drop j) (y.drop j) = if f x[j] y[j] = 0 then lexL f (x.drop (j + 1)) (y.drop (j + 1)) else f x[j] y[j] := by
  rw [List.drop_eq_getElem_cons h1, List.drop_eq_getElem_cons h2]; rfl
theorem lex_end {α : Type} (f : α → α → Int) (x y : List α) (j : Nat) (hx : j ≤ x.length) (hy : j ≤ y.length) (h : j = x.length ∨ j = y.length) : lexL f (x.drop j) (y.drop j) = cmpI x.length y.length := by
  by_cases h1 : j = x.length
  · subst h1
    rw [List.drop_of_length_le (Nat.le_refl _)]
    by_cases h2 : x.length = y.length
    · rw [h2, List.drop_of_length_le (Nat.le_refl _)]; rw [cmpI_zero.2 rfl]; rfl
    · have : y.drop x.length ≠ [] := fun e => by have := List.drop_eq_nil_iff.1 e; omega
      cases h3 : y.drop x.length with
      | nil => exact absurd h3 this
      | cons a l => show (-1 : Int) = _; unfold cmpI; rw [if_pos (by omega)]
  · have h2 := h.resolve_left h1
    subst h2
    rw [List.drop_of_length_le (Nat.le_refl y.length)]
    have : x.drop y.length ≠ [] := fun e => by have := List.drop_eq_nil_iff.1 e; omega
    cases h3 : x.drop y.length with
    | nil => exact absurd h3 this
    | cons a l => show (1 : Int) = _; unfold cmpI; rw [if_neg (by omega), if_pos (by omega)]
theorem texts_l0 (p q : ByteArray) (hp : p.size < 4294967281) : ∀ (d j : Nat), j + d = p.size → j ≤ q.size → E (fun k => slipwayref01_texts.l0 k p q (j : Int)) (lexL cmpB (p.data.toList.drop j) (q.data.toList.drop j)) := by
  intro d
  induction d with
  | zero =>
    intro j hj hq
    refine E.step ?_
    simp only [slipwayref01_texts.l0]
    refine E.ite_neg (by omega) (E.step ?_)
    simp only [slipwayref01_texts.j1]
    refine E.ite_neg (by simp) (E.bindc (by_some _ _) ?_)
    rw [lex_end cmpB _ _ j (by rw [data_length]; omega) (by rw [data_length]; exact hq) (.inl (by rw [data_length]; omega)), data_length, data_length]
    exact E.some _
  | succ d ih =>
    intro j hj hq
    refine E.step ?_
    simp only [slipwayref01_texts.l0]
    refine E.ite_pos (by omega) (E.step ?_)
    simp only [slipwayref01_texts.j1]
    refine E.ite (fun h => ?_) (fun h => ?_)
    · have h : j < q.size := by simp at h; omega
      refine E.ite_pos (by omega) (E.ite_pos (by omega) (E.ite_pos (by omega) ?_))
      rw [bt_b8 p j (by omega), bt_b8 q j h]
      have h1 : j < p.data.toList.length := by rw [data_length]; omega
      have h2 : j < q.data.toList.length := by rw [data_length]; omega
      have e1 : p.data.toList[j] = b8 p j := by have := b8_get p j (by omega); rw [List.getElem?_eq_getElem h1] at this; exact Option.some.inj this
      have e2 : q.data.toList[j] = b8 q j := by have := b8_get q j h; rw [List.getElem?_eq_getElem h2] at this; exact Option.some.inj this
      rw [lex_step cmpB _ _ j h1 h2, e1, e2]
      refine E.ite (fun hb => ?_) (fun hb => ?_)
      · rw [if_pos (by unfold cmpB; rw [cmpI_zero]; exact hb), wrap_id (by omega)]
        exact ih (j + 1) (by omega) (by omega)
      · rw [if_neg (by unfold cmpB; rw [cmpI_zero]; exact hb)]
        have hb1 := (b8 p j).toNat_lt
        have hb2 := (b8 q j).toNat_lt
        rw [wrap_id (by omega), wrap_id (by omega)]
        exact E.bindc (by_some _ _) (E.some _)
    · have h : q.size ≤ j := by simp at h; omega
      refine E.bindc (by_some _ _) ?_
      rw [lex_end cmpB _ _ j (by rw [data_length]; omega) (by rw [data_length]; exact hq) (.inr (by rw [data_length]; omega)), data_length, data_length]
      exact E.some _
theorem texts_E (p q : ByteArray) (hp : p.size < 4294967281) : E (fun k => slipwayref01_texts.f k p q) (cmpS p q) := by
  rw [cmpS_lex]
  exact texts_l0 p q hp p.size 0 (by omega) (Nat.zero_le _)
theorem numO_2 (q : ByteArray) : (numO q).2 = numP q := by unfold numO; cases e : numP q <;> simp
theorem numO_1 (q : ByteArray) (e : numP q = true) : (numO q).1 = valP q := by unfold numO; rw [if_pos e]
theorem refMarks_E (p q : ByteArray) (hp : p.size < 4294967281) : E (fun k => slipwayref01_marks.f k p q) (cmpM p q) := by
  unfold slipwayref01_marks.f cmpM
  refine E.bind (Number_E p) (E.bind (Number_E q) ?_)
  rw [numO_2, numO_2]
  cases hp' : numP p with
  | true =>
    refine E.ite_pos rfl (E.step ?_)
    simp only [slipwayref01_marks.j0]
    cases hq : numP q with
    | true => refine E.ite_pos rfl (E.bindc (by_some _ _) ?_); rw [numO_1 _ hp', numO_1 _ hq]; exact E.some _
    | false => exact E.ite_neg (by simp) (E.ite_pos (by trivial) (E.some _))
  | false =>
    refine E.ite_neg (by simp) (E.step ?_)
    simp only [slipwayref01_marks.j0]
    refine E.ite_neg (by simp) (E.ite_neg (by simp) ?_)
    cases hq : numP q with
    | true => exact E.ite_pos rfl (E.some _)
    | false => exact E.ite_neg (by simp) (E.bind (texts_E p q hp) (E.some _))
theorem refCompare_l0 (x y : List ByteArray) (hx : x.length < 4294967297) (hb : ∀ p ∈ x, p.size < 4294967281) : ∀ (d j : Nat), j + d = x.length → j ≤ y.length → E (fun k => slipwayref01_Compare.l0 k x y (j : Int)) (lexL cmpM (x.drop j) (y.drop j)) := by
  intro d
  induction d with
  | zero =>
    intro j hj hq
    refine E.step ?_
    simp only [slipwayref01_Compare.l0]
    refine E.ite_neg (by omega) (E.step ?_)
    simp only [slipwayref01_Compare.j4]
    refine E.ite_neg (by simp) (E.bindc (by_some _ _) ?_)
    rw [lex_end cmpM _ _ j (by omega) hq (.inl (by omega))]
    exact E.some _
  | succ d ih =>
    intro j hj hq
    refine E.step ?_
    simp only [slipwayref01_Compare.l0]
    refine E.ite_pos (by omega) (E.step ?_)
    simp only [slipwayref01_Compare.j4]
    refine E.ite (fun h => ?_) (fun h => ?_)
    · have h : j < y.length := by simp at h; omega
      have hj' : j < x.length := by omega
      refine E.ite_pos (by omega) (E.ite_pos (by omega) (E.ite_pos (by omega) ?_))
      have e1 : rdOf ByteArray.empty x (j : Int) = x[j] := by rw [rd_at, List.getD_eq_getElem?_getD, List.getElem?_eq_getElem hj']; rfl
      have e2 : rdOf ByteArray.empty y (j : Int) = y[j] := by rw [rd_at, List.getD_eq_getElem?_getD, List.getElem?_eq_getElem h]; rfl
      rw [e1, e2, lex_step cmpM _ _ j hj' h]
      refine E.bind (refMarks_E _ _ (hb _ (List.getElem_mem _))) (E.ite (fun hz => ?_) (fun hz => ?_))
      · rw [if_pos hz, wrap_id (by omega)]; exact ih (j + 1) (by omega) (by omega)
      · rw [if_neg hz]; exact E.some _
    · have h : y.length ≤ j := by simp at h; omega
      refine E.bindc (by_some _ _) ?_
      rw [lex_end cmpM _ _ j (by omega) hq (.inr (by omega))]
      exact E.some _
theorem pieces_size (s : ByteArray) : ∀ p ∈ pieces dot s, p.size ≤ s.size := by
  suffices ∀ n (s : ByteArray), s.size = n → ∀ p ∈ pieces (one 46) s, p.size ≤ s.size from this s.size s rfl
  intro n
  induction n using Nat.strongRecOn with
  | _ n ih =>
    intro s hn p hp
    by_cases hd : ∃ i, i < s.size ∧ b8 s i = 46
    · obtain ⟨i, hi, hc, hno⟩ := first_at s 46 hd
      rw [pieces_first s 46 i hi hc hno] at hp
      rcases List.mem_cons.1 hp with rfl | hp
      · rw [ByteArray.size_extract]; omega
      · have hz : (s.extract (i + 1) s.size).size = s.size - (i + 1) := by rw [ByteArray.size_extract]; omega
        have := ih (s.size - (i + 1)) (by omega) _ hz p hp
        omega
    · rw [pieces_none s 46 hd] at hp
      rw [List.mem_singleton.1 hp]; exact Nat.le_refl _
theorem refCompare_E (v w : Ver) (hv : v.p.size < 4294967281) (hw : w.p.size < 4294967281) : E (fun k => slipwayref01_Compare.f k v.a v.b v.c v.p w.a w.b w.c w.p) (cmpVer v w) := by
  have tail : ∀ x5 : Int, (x5 ≠ 0 → E (fun k => slipwayref01_Compare.j1 k x5 v.a v.b v.c v.p w.a w.b w.c w.p) x5) := by
    intro x5 h
    refine E.step ?_
    simp only [slipwayref01_Compare.j1]
    refine E.ite_neg h (E.step ?_)
    simp only [slipwayref01_Compare.j2]
    exact E.ite_pos (by trivial) (E.some _)
  have last : E (fun k => slipwayref01_Compare.j1 k 0 v.a v.b v.c v.p w.a w.b w.c w.p) (marksV v.p w.p) := by
    refine E.step ?_
    simp only [slipwayref01_Compare.j1]
    refine E.ite_pos (by trivial) (E.step ?_)
    simp only [slipwayref01_Compare.j2]
    refine E.ite (fun h => ?_) (fun h => E.ite (fun h1 => ?_) (fun h1 => E.ite (fun h2 => ?_) (fun h2 => ?_)))
    · have e : v.p = w.p := by
        have := beq_iff_eq.1 h
        rw [ba_toList, ba_toList] at this; exact bytes_ext this
      rw [e, ordP.self _ trivial]; exact E.some _
    · rw [marksV_lex, if_pos (.inl h1), (size_nil _).1 h1]
      have : w.p.size ≠ 0 := fun e => h (by rw [h1, (size_nil _).2 e]; rfl)
      have e : cmpI (w.p.size : Int) ((0 : Nat) : Int) = 1 := by unfold cmpI; rw [if_neg (by omega), if_pos (by omega)]
      rw [e]; exact E.some _
    · rw [marksV_lex, if_pos (.inr h2), (size_nil _).1 h2]
      have : v.p.size ≠ 0 := fun e => h1 ((size_nil _).2 e)
      have e : cmpI ((0 : Nat) : Int) (v.p.size : Int) = -1 := by unfold cmpI; rw [if_pos (by omega)]
      rw [e]; exact E.some _
    · rw [marksV_lex, if_neg (by rintro (e | e); exact h1 e; exact h2 e)]
      refine E.bind (Cut_E v.p 46 hv) (E.bind (Cut_E w.p 46 hw) ?_)
      have hl := pieces_len v.p
      have := refCompare_l0 (pieces dot v.p) (pieces dot w.p) (by omega) (fun p hp => Nat.lt_of_le_of_lt (pieces_size _ p hp) hv) (pieces dot v.p).length 0 (by omega) (Nat.zero_le _)
      exact this
  have j0 : ∀ x5 : Int, E (fun k => slipwayref01_Compare.j0 k x5 v.a v.b v.c v.p w.a w.b w.c w.p) (if x5 = 0 then (if cmpI v.c w.c = 0 then marksV v.p w.p else cmpI v.c w.c) else x5) := by
    intro x5
    refine E.step ?_
    simp only [slipwayref01_Compare.j0]
    refine E.ite (fun h => ?_) (fun h => ?_)
    · rw [if_pos h]
      refine E.bindc (by_some _ _) ?_
      by_cases h2 : cmpI v.c w.c = 0
      · rw [if_pos h2, h2]; exact last
      · rw [if_neg h2]; exact tail _ h2
    · rw [if_neg h]; exact tail _ h
  unfold slipwayref01_Compare.f
  rw [cmpVer_eq]
  refine E.bindc (by_some _ _) (E.ite (fun h => ?_) (fun h => ?_))
  · rw [if_pos h]
    refine E.bindc (by_some _ _) ?_
    exact j0 _
  · rw [if_neg h]
    have := j0 (cmpI v.a w.a)
    rw [if_neg h] at this
    exact this
end Go.Proofs.YtkilaemngejplaaDoor
