/- A version's text; it is read as the version. -/
import Derived.Test.YtkilaemngejplaaDoorQf
import Derived.Test.YtkilaemngejplaaDoorPSemx12
import Derived.Lib.ItoaNum
set_option linter.unusedSimpArgs false
set_option linter.unusedVariables false
namespace Go.Proofs.YtkilaemngejplaaDoor
open Go.RowKit Go.Proofs.YtkilaemngejplaaDoorW.PrintWords PSem

/-! ### lists of bytes as texts -/
theorem tb_data (l : List UInt8) : (toBytes l).data.toList = l := by simp [toBytes]
theorem tb_size (l : List UInt8) : (toBytes l).size = l.length := by rw [← data_length, tb_data]
theorem tb_b8 (l : List UInt8) (j : Nat) : b8 (toBytes l) j = l.getD j 0 := by unfold b8; rw [tb_data]
theorem tb_inj {x y : List UInt8} (h : toBytes x = toBytes y) : x = y := by rw [← tb_data x, h, tb_data]
theorem tb_app (x y : List UInt8) : toBytes x ++ toBytes y = toBytes (x ++ y) := by apply bytes_ext; simp [toBytes]
theorem getD_mem {x : List UInt8} {j : Nat} (h : j < x.length) : x.getD j 0 ∈ x := by rw [List.getD_eq_getElem?_getD, List.getElem?_eq_getElem h]; exact List.getElem_mem _
theorem no_before (x y : List UInt8) (c : UInt8) (h : c ∉ x) : ∀ j, 0 ≤ j → j < x.length → b8 (toBytes (x ++ y)) j ≠ c := by
  intro j _ hj e
  rw [tb_b8, List.getD_eq_getElem?_getD, List.getElem?_append_left hj, ← List.getD_eq_getElem?_getD] at e
  exact h (e ▸ getD_mem hj)
theorem at_sep (x y : List UInt8) (c : UInt8) : b8 (toBytes (x ++ c :: y)) x.length = c := by
  rw [tb_b8, List.getD_eq_getElem?_getD, List.getElem?_append_right (Nat.le_refl _)]; simp
theorem pieces_cons (x y : List UInt8) (c : UInt8) (h : c ∉ x) : pieces (one c) (toBytes (x ++ c :: y)) = toBytes x :: pieces (one c) (toBytes y) := by
  rw [pieces_first _ c x.length (by rw [tb_size]; simp) (at_sep x y c) (no_before x _ c h)]
  congr 1
  · apply bytes_ext; rw [ext_data, tb_data, tb_data]; simp
  · congr 1; apply bytes_ext; rw [ext_data, tb_data, tb_data, tb_size, List.take_of_length_le (Nat.le_refl _)]
    have : x ++ c :: y = (x ++ [c]) ++ y := by simp
    rw [this, List.drop_left' (by simp)]
theorem pieces_one (x : List UInt8) (c : UInt8) (h : c ∉ x) : pieces (one c) (toBytes x) = [toBytes x] := by
  refine pieces_none _ _ ?_
  rintro ⟨i, hi, e⟩
  rw [tb_size] at hi
  rw [tb_b8] at e
  exact h (e ▸ getD_mem hi)
theorem pieces_app (c : UInt8) : ∀ (n : Nat) (x y : List UInt8), x.length = n → pieces (one c) (toBytes (x ++ c :: y)) = pieces (one c) (toBytes x) ++ pieces (one c) (toBytes y) := by
  intro n
  induction n using Nat.strongRecOn with
  | _ n ih =>
    intro x y hn
    by_cases h : c ∈ x
    · obtain ⟨a, b, rfl, ha⟩ := List.eq_append_cons_of_mem h
      rw [List.append_assoc, List.cons_append, pieces_cons _ _ _ ha, pieces_cons _ _ _ ha, ih b.length (by simp at hn; omega) b y rfl]
      rfl
    · rw [pieces_cons _ _ _ h, pieces_one _ _ h]; rfl
theorem cut_hit (x y : List UInt8) (h : 45 ∉ x) : Lib.cut (x ++ 45 :: y) [45] = (x, y, true) := by
  have := cut_some (toBytes (x ++ 45 :: y)) x.length (by rw [tb_size]; simp) (at_sep x y 45) (no_before x _ 45 h)
  rw [tb_data] at this
  rw [this]; simp
theorem cut_miss (x : List UInt8) (h : 45 ∉ x) : Lib.cut x [45] = (x, [], false) := by
  have := cut_none (toBytes x) (fun j h0 hj => by
    rw [tb_size] at hj
    intro e
    rw [tb_b8] at e
    exact h (e ▸ getD_mem hj))
  rwa [tb_data] at this

/-! ### decimal digits -/
theorem dg_isDig (k : Nat) (h : k < 10) : isDig (UInt8.ofNat (48 + k)) = true ∧ (UInt8.ofNat (48 + k)).toNat - 48 = k := by
  have : ∀ k : Fin 10, isDig (UInt8.ofNat (48 + k.1)) = true ∧ (UInt8.ofNat (48 + k.1)).toNat - 48 = k.1 := by decide
  exact this ⟨k, h⟩
theorem dec_props : ∀ (u : Nat), (Lib.decDigits u).all isDig = true ∧ decV 0 (Lib.decDigits u) = u ∧ Lib.decDigits u ≠ [] := by
  intro u
  induction u using Nat.strongRecOn with
  | _ u ih =>
    by_cases h : u < 10
    · rw [Lib.decDigits_one h]
      have := dg_isDig u h
      refine ⟨by rw [List.all_cons, this.1]; rfl, ?_, by simp⟩
      show 0 * 10 + _ = u
      omega
    · rw [Lib.decDigits, dif_neg h]
      have i := ih (u / 10) (by omega)
      have d := dg_isDig (u % 10) (by omega)
      refine ⟨by rw [List.all_append, i.1, List.all_cons, d.1]; rfl, ?_, by simp⟩
      rw [decV_snoc, i.2.1, d.2]; omega
theorem dec_len : ∀ (k u : Nat), u < 10 ^ (k + 1) → (Lib.decDigits u).length ≤ k + 1 := by
  intro k
  induction k with
  | zero => intro u h; rw [Lib.decDigits_one (by simpa using h)]; simp
  | succ k ih =>
    intro u h
    by_cases h1 : u < 10
    · rw [Lib.decDigits_one h1]; simp
    · rw [Lib.decDigits, dif_neg h1]
      have := ih (u / 10) (by rw [Nat.pow_succ] at h; omega)
      simp; exact this
theorem dec_head : ∀ (u : Nat), 1 ≤ u → (Lib.decDigits u).head? ≠ some 48 := by
  intro u
  induction u using Nat.strongRecOn with
  | _ u ih =>
    intro h
    by_cases h1 : u < 10
    · rw [Lib.decDigits_one h1]
      have : ∀ k : Fin 10, 1 ≤ k.1 → UInt8.ofNat (48 + k.1) ≠ 48 := by decide
      have := this ⟨u, h1⟩ h
      simpa using this
    · rw [Lib.decDigits, dif_neg h1]
      have i := ih (u / 10) (by omega) (by omega)
      have n := (dec_props (u / 10)).2.2
      rw [List.head?_append]
      cases e : (Lib.decDigits (u / 10)).head? with
      | none => exact absurd (List.head?_eq_none_iff.1 e) n
      | some c => rw [e] at i; simpa using i
theorem numL_dec (u : Nat) (h : u ≤ 999999) : numL (Lib.decDigits u) = true := by
  have p := dec_props u
  have l := dec_len 5 u (by omega)
  unfold numL
  rw [p.1]
  have e1 : (Lib.decDigits u).isEmpty = false := by cases e : Lib.decDigits u with | nil => exact absurd e p.2.2 | cons _ _ => rfl
  have e2 : decide ((Lib.decDigits u).length ≤ 6) = true := by simpa using l
  rw [e1, e2]
  have e3 : (decide ((Lib.decDigits u).head? = some 48) && decide ((Lib.decDigits u).length ≠ 1)) = false := by
    by_cases h0 : u = 0
    · subst h0; rw [Lib.decDigits_one (by omega)]; rfl
    · have := dec_head u (by omega)
      simp [this]
  rw [e3]; rfl
theorem dec_no (u : Nat) (c : UInt8) (hc : isDig c = false) : c ∉ Lib.decDigits u := fun h => by
  have := List.all_eq_true.1 (dec_props u).1 c h
  rw [hc] at this; cases this

/-! ### the text -/
/-- The numbers of a version as a text. -/
def numsT (a b c : Int) : List UInt8 := Lib.itoa a ++ 46 :: (Lib.itoa b ++ 46 :: Lib.itoa c)
def textL (a b c : Int) (p : List UInt8) : List UInt8 := numsT a b c ++ (if p = [] then [] else 45 :: p)
def textB (a b c : Int) (p : ByteArray) : ByteArray := toBytes (textL a b c p.data.toList)
theorem itoa_nat (a : Int) (h : 0 ≤ a) : Lib.itoa a = Lib.decDigits a.toNat := by unfold Lib.itoa; rw [if_neg (by omega)]
theorem inN_iff {n : Int} : inN n = true ↔ 0 ≤ n ∧ n ≤ 999999 := by simp [inN]
theorem itoa_no {a : Int} (h : inN a = true) (c : UInt8) (hc : isDig c = false) : c ∉ Lib.itoa a := by
  rw [itoa_nat a (inN_iff.1 h).1]; exact dec_no _ c hc
theorem itoa_num {a : Int} (h : inN a = true) : numP (toBytes (Lib.itoa a)) = true ∧ valP (toBytes (Lib.itoa a)) = a := by
  have h := inN_iff.1 h
  unfold numP valP numV
  rw [tb_data, itoa_nat a h.1]
  refine ⟨numL_dec _ (by omega), ?_⟩
  rw [(dec_props _).2.1]; omega
theorem nums_no {a b c : Int} (ha : inN a = true) (hb : inN b = true) (hc : inN c = true) : (45 : UInt8) ∉ numsT a b c := by
  unfold numsT
  simp only [List.mem_append, List.mem_cons, not_or]
  exact ⟨itoa_no ha 45 rfl, by decide, itoa_no hb 45 rfl, by decide, itoa_no hc 45 rfl⟩
theorem nums_pieces {a b c : Int} (ha : inN a = true) (hb : inN b = true) (hc : inN c = true) : pieces dot (toBytes (numsT a b c)) = [toBytes (Lib.itoa a), toBytes (Lib.itoa b), toBytes (Lib.itoa c)] := by
  show pieces (one 46) _ = _
  unfold numsT
  rw [pieces_cons _ _ _ (itoa_no ha 46 rfl), pieces_cons _ _ _ (itoa_no hb 46 rfl), pieces_one _ _ (itoa_no hc 46 rfl)]
theorem rightB_iff {a b c : Int} {p : ByteArray} : rightB a b c p = true ↔ inN a = true ∧ inN b = true ∧ inN c = true ∧ preO p = true := by unfold rightB; simp
theorem parse_text {a b c : Int} {p : ByteArray} (h : rightB a b c p = true) : parseV (textB a b c p) = (a, b, c, p, 0) := by
  obtain ⟨ha, hb, hc, hp⟩ := rightB_iff.1 h
  have na := itoa_num ha; have nb := itoa_num hb; have nc := itoa_num hc
  have np := nums_pieces ha hb hc
  have all : ([toBytes (Lib.itoa a), toBytes (Lib.itoa b), toBytes (Lib.itoa c)] : List ByteArray).all numP = true := by simp [na.1, nb.1, nc.1]
  unfold parseV textB
  rw [tb_data]
  by_cases h0 : p.data.toList = []
  · have e : textL a b c p.data.toList = numsT a b c := by unfold textL; rw [if_pos h0, List.append_nil]
    rw [e, cut_miss _ (nums_no ha hb hc)]
    simp only [np]
    rw [if_neg (by simp [na.1, nb.1, nc.1])]
    have ep : toBytes [] = p := bytes_ext (by rw [tb_data, h0])
    simp [na.2, nb.2, nc.2, ep]
  · have e : textL a b c p.data.toList = numsT a b c ++ 45 :: p.data.toList := by unfold textL; rw [if_neg h0]
    rw [e, cut_hit _ _ (nums_no ha hb hc)]
    simp only [np]
    have hpb : preB p = true := by
      unfold preO at hp
      rw [ba_toList] at hp
      cases e2 : p.data.toList with
      | nil => exact absurd e2 h0
      | cons x l => rw [e2] at hp; simpa using hp
    rw [toBytes_data]
    rw [if_neg (by simp [na.1, nb.1, nc.1, hpb])]
    simp [na.2, nb.2, nc.2]
theorem text_inj {v w : Ver} (hv : rightB v.a v.b v.c v.p = true) (hw : rightB w.a w.b w.c w.p = true) (h : textB v.a v.b v.c v.p = textB w.a w.b w.c w.p) : v = w := by
  have e := parse_text hv
  rw [h, parse_text hw] at e
  obtain ⟨va, vb, vc, vp⟩ := v
  obtain ⟨wa, wb, wc, wp⟩ := w
  simp only [Prod.mk.injEq] at e
  obtain ⟨e1, e2, e3, e4, _⟩ := e
  subst e1; subst e2; subst e3; subst e4; rfl

/-! ### the program's Text, the document's Text -/
theorem itoa_len {a : Int} (h : inN a = true) : (Lib.itoa a).length ≤ 6 := by
  have h := inN_iff.1 h
  rw [itoa_nat a h.1]; exact dec_len 5 _ (by omega)
theorem itoa_some {a : Int} (h : inN a = true) : strconv_Itoa.f a = some (toBytes (Lib.itoa a)) := by
  have h := inN_iff.1 h
  unfold strconv_Itoa.f; rw [if_pos (by omega)]
theorem tb_lit (l : List UInt8) : (⟨l.toArray⟩ : ByteArray) = toBytes l := rfl
theorem Text_E (a b c : Int) (p : ByteArray) (hs : p.size ≤ 1000) : E (fun k => semver_Version_Text.f k a b c p) (if rightB a b c p = true then (textB a b c p, 0) else (⟨#[]⟩, 12)) := by
  unfold semver_Version_Text.f
  refine E.bind (Right_E a b c p (by omega)) (E.ite (fun h => ?_) (fun h => ?_))
  · rw [if_pos h]
    obtain ⟨ha, hb, hc, hp⟩ := rightB_iff.1 h
    have la := itoa_len ha; have lb := itoa_len hb; have lc := itoa_len hc
    have d1 : (⟨#[46]⟩ : ByteArray) = toBytes [46] := rfl
    have d2 : (⟨#[45]⟩ : ByteArray) = toBytes [45] := rfl
    rw [d1, d2]
    refine E.bindc (itoa_some ha) (E.ite_pos (by rw [tb_size]; omega) (E.bindc (itoa_some hb) ?_))
    refine E.ite_pos (by rw [tb_app, tb_size, tb_size]; simp; omega) (E.ite_pos (by rw [tb_app, tb_app, tb_size]; simp; omega) (E.bindc (itoa_some hc) (E.ite_pos (by rw [tb_app, tb_app, tb_app, tb_size, tb_size]; simp; omega) ?_)))
    have hp2 : toBytes p.data.toList = p := toBytes_data p
    refine E.ite (fun h0 => E.of ?_) (fun h0 => E.ite_pos (by omega) (E.ite_pos ?_ (E.of ?_)))
    · rw [ba_toList] at h0
      unfold textB textL numsT
      rw [if_pos h0]
      simp only [tb_app]
      simp
    · rw [← hp2]; simp only [tb_app, tb_size]
      have := data_length p
      simp; omega
    · rw [ba_toList] at h0
      unfold textB textL numsT
      rw [if_neg h0]
      rw [← hp2]
      simp only [tb_app, tb_data]
      simp
  · rw [if_neg h]; exact E.some _
theorem digits_E : ∀ (u : Nat), u ≤ 999999 → E (fun k => slipwayref01_Digits.f k (u : Int)) (toBytes (Lib.decDigits u)) := by
  intro u
  induction u using Nat.strongRecOn with
  | _ u ih =>
    intro hu
    refine E.step ?_
    simp only [slipwayref01_Digits.f]
    refine E.ite (fun h => E.of ?_) (fun h => ?_)
    · rw [Lib.decDigits_one (by omega), wrap_id (by omega)]
      congr 1
      apply bytes_ext
      rw [tb_data]
      have : ((48 + (u : Int)) % 256) = ((48 + u : Nat) : Int) := by omega
      rw [this]
      simp [strOfNums]
      rw [show (48 + (u : Int)).toNat = 48 + u by omega, UInt8.ofNat_add]; rfl
    · have e1 : wrap64 (Int.tdiv (u : Int) 10) = ((u / 10 : Nat) : Int) := by
        rw [show Int.tdiv (u : Int) 10 = ((u / 10 : Nat) : Int) from by rw [Int.tdiv_eq_ediv_of_nonneg (by omega)]; omega]
        exact wrap_id (by omega)
      have e2 : Int.tmod (u : Int) 10 = ((u % 10 : Nat) : Int) := by rw [Int.tmod_eq_emod_of_nonneg (by omega)]; omega
      rw [e1, e2]
      have i := dec_len 5 (u / 10) (by omega)
      refine E.bind (ih (u / 10) (by omega) (by omega)) (E.bind (ih (u % 10) (by omega) (by omega)) (E.ite_pos ?_ (E.of ?_)))
      · rw [tb_size, tb_size, Lib.decDigits_one (show u % 10 < 10 by omega)]; simp; omega
      · rw [tb_app, Lib.decDigits_one (show u % 10 < 10 by omega)]
        have : Lib.decDigits u = Lib.decDigits (u / 10) ++ [UInt8.ofNat (48 + u % 10)] := by rw [Lib.decDigits, dif_neg (by omega)]
        rw [this]
theorem Digits_E {a : Int} (h : inN a = true) : E (fun k => slipwayref01_Digits.f k a) (toBytes (Lib.itoa a)) := by
  have h := inN_iff.1 h
  have := digits_E a.toNat (by omega)
  rw [Int.toNat_of_nonneg h.1] at this
  rw [itoa_nat a h.1]; exact this
theorem refText_E (a b c : Int) (p : ByteArray) (hs : p.size ≤ 1000) (h : rightB a b c p = true) : E (fun k => slipwayref01_Version_Text.f k a b c p) (textB a b c p) := by
  unfold slipwayref01_Version_Text.f
  obtain ⟨ha, hb, hc, hp⟩ := rightB_iff.1 h
  have la := itoa_len ha; have lb := itoa_len hb; have lc := itoa_len hc
  have d1 : (⟨#[46]⟩ : ByteArray) = toBytes [46] := rfl
  have d2 : (⟨#[45]⟩ : ByteArray) = toBytes [45] := rfl
  rw [d1, d2]
  refine E.bind (Digits_E ha) (E.ite_pos (by rw [tb_size]; omega) (E.bind (Digits_E hb) ?_))
  refine E.ite_pos (by rw [tb_app, tb_size, tb_size]; simp; omega) (E.ite_pos (by rw [tb_app, tb_app, tb_size]; simp; omega) (E.bind (Digits_E hc) (E.ite_pos (by rw [tb_app, tb_app, tb_app, tb_size, tb_size]; simp; omega) ?_)))
  have hp2 : toBytes p.data.toList = p := toBytes_data p
  refine E.ite (fun h0 => E.of ?_) (fun h0 => E.ite_pos (by omega) (E.ite_pos ?_ (E.of ?_)))
  · rw [ba_toList] at h0
    unfold textB textL numsT
    rw [if_pos h0]
    simp only [tb_app]
    simp
  · rw [← hp2]; simp only [tb_app, tb_size]
    have := data_length p
    simp; omega
  · rw [ba_toList] at h0
    unfold textB textL numsT
    rw [if_neg h0]
    rw [← hp2]
    simp only [tb_app, tb_data]
    simp
end Go.Proofs.YtkilaemngejplaaDoor
