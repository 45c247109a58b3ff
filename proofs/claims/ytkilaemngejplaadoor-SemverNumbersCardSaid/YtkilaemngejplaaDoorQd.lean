/- The reference's Parse is the program's. -/
import Derived.Test.YtkilaemngejplaaDoorQc
set_option linter.unusedSimpArgs false
set_option linter.unusedVariables false
namespace Go.Proofs.YtkilaemngejplaaDoor
open Go.RowKit Go.Proofs.YtkilaemngejplaaDoorW.PrintWords PSem

abbrev PV := Int × Int × Int × ByteArray × Bool
/-- What the reference says: of the pieces, the Pre, and whether it is one. -/
def finV (ps : List ByteArray) (p : ByteArray) (okp : Bool) : PV :=
  if ps.length = 3 ∧ okp = true ∧ ps.all numP = true then (valP (ps.getD 0 ByteArray.empty), valP (ps.getD 1 ByteArray.empty), valP (ps.getD 2 ByteArray.empty), p, true) else (0, 0, 0, ⟨#[]⟩, false)
def pvV (ps : List ByteArray) (p : ByteArray) (d : Bool) : Int × Int × Int × ByteArray × Int :=
  if ps.length ≠ 3 ∨ (d = true ∧ preB p = false) ∨ ps.all numP = false then (0, 0, 0, ⟨#[]⟩, 10)
  else (valP (ps.getD 0 ByteArray.empty), valP (ps.getD 1 ByteArray.empty), valP (ps.getD 2 ByteArray.empty), p, 0)
theorem parseV_eq (s : ByteArray) : parseV s = pvV (pieces dot (toBytes (Lib.cut s.data.toList [45]).1)) (toBytes (Lib.cut s.data.toList [45]).2.1) (Lib.cut s.data.toList [45]).2.2 := rfl
def refP (s : ByteArray) : PV :=
  let v := parseV s
  if v.2.2.2.2 = 0 then (v.1, v.2.1, v.2.2.1, v.2.2.2.1, true) else (0, 0, 0, ⟨#[]⟩, false)
theorem refP_eq (s : ByteArray) : refP s = finV (pieces dot (toBytes (Lib.cut s.data.toList [45]).1)) (toBytes (Lib.cut s.data.toList [45]).2.1) (!((Lib.cut s.data.toList [45]).2.2 && !(preB (toBytes (Lib.cut s.data.toList [45]).2.1)))) := by
  unfold refP
  rw [parseV_eq]
  generalize hps : pieces dot (toBytes (Lib.cut s.data.toList [45]).1) = ps
  generalize toBytes (Lib.cut s.data.toList [45]).2.1 = p
  generalize (Lib.cut s.data.toList [45]).2.2 = d
  by_cases h : ps.length ≠ 3 ∨ (d = true ∧ preB p = false) ∨ ps.all numP = false
  · have e : pvV ps p d = (0, 0, 0, ⟨#[]⟩, 10) := if_pos h
    rw [e]
    unfold finV
    simp only []
    rw [if_neg (by decide), if_neg]
    rintro ⟨h1, h2, h3⟩
    rcases h with h | ⟨h, h'⟩ | h
    · exact h h1
    · rw [h, h'] at h2; cases h2
    · rw [h] at h3; cases h3
  · have e : pvV ps p d = (valP (ps.getD 0 ByteArray.empty), valP (ps.getD 1 ByteArray.empty), valP (ps.getD 2 ByteArray.empty), p, 0) := if_neg h
    rw [e]
    unfold finV
    simp only []
    have h1 : ps.length = 3 := by by_cases e : ps.length = 3; exact e; exact absurd (.inl e) h
    have h3 : ps.all numP = true := by cases e : ps.all numP with | true => rfl | false => exact absurd (.inr (.inr e)) h
    have h2 : (!(d && !(preB p))) = true := by
      cases d with
      | false => rfl
      | true => cases e : preB p with | true => rfl | false => exact absurd (.inr (.inl ⟨rfl, e⟩)) h
    rw [if_pos trivial, if_pos ⟨h1, h2, h3⟩]

theorem rd_at (l : List ByteArray) (j : Nat) : rdOf ByteArray.empty l (j : Int) = l.getD j ByteArray.empty := by unfold rdOf; rw [Int.toNat_natCast]
theorem len3 {l : List ByteArray} (h : l.length = 3) : l = [l.getD 0 ByteArray.empty, l.getD 1 ByteArray.empty, l.getD 2 ByteArray.empty] := by
  match l, h with
  | [a, b, c], _ => rfl
theorem Parse_j1 (ps : List ByteArray) (p : ByteArray) (okp : Bool) (h : ps.length = 3) : E (fun k => slipwayref01_Parse.j1 k p ps (!okp)) (finV ps p okp) := by
  refine E.step ?_
  simp only [slipwayref01_Parse.j1]
  have hn : ∀ q, (numO q).2 = numP q := fun q => by unfold numO; cases e : numP q <;> simp
  have hv : ∀ q, numP q = true → (numO q).1 = valP q := fun q e => by unfold numO; rw [if_pos e]
  have hall : ps.all numP = (numP (ps.getD 0 ByteArray.empty) && (numP (ps.getD 1 ByteArray.empty) && numP (ps.getD 2 ByteArray.empty))) := by
    conv => lhs; rw [len3 h]
    simp [List.all_cons]
  cases okp with
  | false =>
    refine E.ite_pos rfl ?_
    unfold finV; rw [if_neg (by rintro ⟨_, h, _⟩; cases h)]; exact E.some _
  | true =>
    refine E.ite_neg (fun h => by cases h) (E.ite_pos (by omega) ?_)
    rw [show (0 : Int) = ((0 : Nat) : Int) from rfl, rd_at]
    refine E.bind (Number_E _) (E.ite_pos (by omega) ?_)
    rw [show (1 : Int) = ((1 : Nat) : Int) from rfl, rd_at]
    refine E.bind (Number_E _) (E.ite_pos (by omega) ?_)
    rw [show (2 : Int) = ((2 : Nat) : Int) from rfl, rd_at]
    refine E.bind (Number_E _) ?_
    simp only [hn]
    have bad : ps.all numP = false → E (fun _ => some ((0, 0, 0, (⟨#[]⟩ : ByteArray), false) : PV)) (finV ps p true) := fun e => by
      unfold finV; rw [if_neg (by rintro ⟨_, _, h⟩; rw [e] at h; cases h)]; exact E.some _
    refine E.ite (fun h0 => E.ite (fun h1 => E.ite (fun h2 => ?_) (fun h2 => bad ?_)) (fun h1 => bad ?_)) (fun h0 => bad ?_)
    · rw [hv _ h0, hv _ h1, hv _ h2]
      unfold finV; rw [if_pos ⟨h, rfl, by rw [hall, h0, h1, h2]; rfl⟩]; exact E.some _
    · rw [hall, Bool.eq_false_iff.2 h2]; simp only [Bool.and_false, Bool.false_and]
    · rw [hall, Bool.eq_false_iff.2 h1]; simp only [Bool.and_false, Bool.false_and]
    · rw [hall, Bool.eq_false_iff.2 h0]; simp only [Bool.and_false, Bool.false_and]

/-- Where the scan stands: no minus sign from n on, or the first one is known. -/
def Scan (s : ByteArray) (n en : Nat) (pre : ByteArray) : Prop :=
  (en = s.size ∧ pre = ⟨#[]⟩ ∧ ∀ j, n ≤ j → j < s.size → b8 s j ≠ 45) ∨
  (n ≤ en ∧ en + 1 < s.size ∧ b8 s en = 45 ∧ pre = s.extract (en + 1) s.size ∧ (∀ j, n ≤ j → j < en → b8 s j ≠ 45))
theorem cut_none (s : ByteArray) (h : ∀ j, 0 ≤ j → j < s.size → b8 s j ≠ 45) : Lib.cut s.data.toList [45] = (s.data.toList, [], false) := by
  have hx := indexB_none s 45 0 h
  rw [ext_all] at hx
  unfold Lib.cut
  have hx' : Lib.index s.data.toList [45] = -1 := hx
  rw [hx', if_neg (by decide)]
theorem cut_some (s : ByteArray) (i : Nat) (hi : i < s.size) (hc : b8 s i = 45) (h : ∀ j, 0 ≤ j → j < i → b8 s j ≠ 45) : Lib.cut s.data.toList [45] = (s.data.toList.take i, s.data.toList.drop (i + 1), true) := by
  have hx := indexB_one s 45 0 i (Nat.zero_le _) hi hc h
  rw [ext_all, Nat.sub_zero] at hx
  unfold Lib.cut
  have hx' : Lib.index s.data.toList [45] = (i : Int) := hx
  rw [hx', if_pos (by omega), Int.toNat_natCast]
  rfl
theorem toBytes_data (s : ByteArray) : toBytes s.data.toList = s := by unfold toBytes; apply ByteArray.ext; simp
theorem toBytes_ext (s : ByteArray) (a b : Nat) : toBytes ((s.data.toList.take b).drop a) = s.extract a b := by rw [← ext_data, toBytes_data]
theorem Parse_end (s : ByteArray) (hs : s.size < 4294967281) (en : Nat) (pre : ByteArray) (hsc : Scan s 0 en pre) : E (fun k => slipwayref01_Parse.l0 k s (en : Int) pre (-1)) (refP s) := by
  have hen : en ≤ s.size := by rcases hsc with h | h <;> omega
  have hpre : pre.size < 4294967281 := by
    rcases hsc with ⟨_, h, _⟩ | ⟨_, _, _, h, _⟩
    · rw [h]; decide
    · rw [h, ByteArray.size_extract]; omega
  have key : refP s = finV (pieces dot (s.extract 0 en)) pre (preO pre) := by
    rw [refP_eq]
    rcases hsc with ⟨h1, h2, h3⟩ | ⟨h1, h2, h3, h4, h5⟩
    · rw [cut_none s h3, h1, h2, ext_all, toBytes_data, show preO ⟨#[]⟩ = true by unfold preO; rw [ba_toList]; rfl]; rfl
    · rw [cut_some s en (by omega) h3 h5]
      have e1 : toBytes (s.data.toList.take en) = s.extract 0 en := by have := toBytes_ext s 0 en; rwa [List.drop_zero] at this
      have e2 : toBytes (s.data.toList.drop (en + 1)) = pre := by
        rw [h4, ← toBytes_ext s (en + 1) s.size, List.take_of_length_le (by rw [data_length]; exact Nat.le_refl _)]
      simp only [e1, e2]
      have : preO pre = preB pre := by
        unfold preO
        have : pre.toList.isEmpty = false := by
          rw [← Bool.not_eq_true, List.isEmpty_iff, ba_toList, ← List.length_eq_zero_iff, data_length, h4, ByteArray.size_extract]; omega
        rw [this, Bool.false_or]
      rw [this, Bool.true_and, Bool.not_not]
  rw [key]
  refine E.step ?_
  simp only [slipwayref01_Parse.l0]
  refine E.ite_neg (by omega) (E.ite_pos (by omega) (E.ite_pos (by omega) ?_))
  rw [Int.toNat_natCast]
  refine E.bind (Cut_E _ 46 (by rw [ByteArray.size_extract]; omega)) ?_
  have e : pieces (one 46) (s.extract 0 en) = pieces dot (s.extract 0 en) := rfl
  rw [e]
  refine E.ite (fun h3 => ?_) (fun h3 => ?_)
  · refine E.bind (Pre_E pre hpre) ?_
    exact Parse_j1 _ _ _ (by omega)
  · refine E.step ?_
    simp only [slipwayref01_Parse.j1]
    refine E.ite_pos (by trivial) ?_
    unfold finV; rw [if_neg (by rintro ⟨h, _, _⟩; exact h3 (by omega))]; exact E.some _
theorem refP_last (s : ByteArray) (hs : s.size < 4294967281) (n : Nat) (hn : n + 1 = s.size) (hc : b8 s n = 45) : refP s = (0, 0, 0, ⟨#[]⟩, false) := by
  obtain ⟨i, hi, hci, hno⟩ : ∃ i, i ≤ n ∧ b8 s i = 45 ∧ ∀ j, 0 ≤ j → j < i → b8 s j ≠ 45 := by
    suffices ∀ n, b8 s n = 45 → ∃ i, i ≤ n ∧ b8 s i = 45 ∧ ∀ j, 0 ≤ j → j < i → b8 s j ≠ 45 from this n hc
    intro n
    induction n using Nat.strongRecOn with
    | _ n ih =>
      intro h
      by_cases h2 : ∃ j, j < n ∧ b8 s j = 45
      · obtain ⟨j, hj1, hj2⟩ := h2
        obtain ⟨i, h3, h4⟩ := ih j hj1 hj2
        exact ⟨i, by omega, h4⟩
      · exact ⟨n, Nat.le_refl _, h, fun j _ hj e => h2 ⟨j, hj, e⟩⟩
  rw [refP_eq, cut_some s i (by omega) hci hno]
  have e2 : toBytes (s.data.toList.drop (i + 1)) = s.extract (i + 1) s.size := by
    rw [← toBytes_ext s (i + 1) s.size, List.take_of_length_le (by rw [data_length]; exact Nat.le_refl _)]
  simp only [e2]
  have hz : (s.extract (i + 1) s.size).size = s.size - (i + 1) := by rw [ByteArray.size_extract]; omega
  have hp : preB (s.extract (i + 1) s.size) = false := by
    by_cases h : i = n
    · exact preB_empty _ (by rw [hz]; omega)
    · rw [← Bool.not_eq_true]
      intro h2
      have := preB_bytes _ (by rw [hz]; omega) h2 (n - (i + 1)) (by rw [hz]; omega)
      have e : b8 (s.extract (i + 1) s.size) (n - (i + 1)) = b8 s n := by
        unfold b8
        rw [List.getD_eq_getElem?_getD, List.getD_eq_getElem?_getD, ext_at]
        congr 2; omega
      rw [e, hc] at this
      rcases this with h | h
      · exact absurd h (by decide)
      · exact absurd h (by decide)
  rw [hp]
  unfold finV
  rw [if_neg (by rintro ⟨_, h, _⟩; cases h)]
theorem Parse_l0 (s : ByteArray) (hs : s.size < 4294967281) : ∀ (n en : Nat) (pre : ByteArray), n ≤ s.size → Scan s n en pre → E (fun k => slipwayref01_Parse.l0 k s (en : Int) pre ((n : Int) - 1)) (refP s) := by
  intro n
  induction n with
  | zero => intro en pre _ h; exact Parse_end s hs en pre h
  | succ n ih =>
    intro en pre hn hsc
    refine E.step ?_
    simp only [slipwayref01_Parse.l0]
    have hcast : ((n + 1 : Nat) : Int) - 1 = (n : Int) := by omega
    rw [hcast]
    refine E.ite_pos (by omega) (E.ite_pos (by omega) (E.ite_pos (by omega) ?_))
    rw [bt_b8 s n (by omega)]
    refine E.ite (fun hc => ?_) (fun hc => ?_)
    · have hc : b8 s n = 45 := by rw [← UInt8.toNat_inj]; exact Int.ofNat.inj hc
      rw [wrap_id (by omega), show ((n : Int) + 1).toNat = n + 1 by omega]
      refine E.ite_pos (by omega) (E.ite_pos (by omega) ?_)
      refine E.ite (fun he => ?_) (fun he => ?_)
      · have : (s.extract (n + 1) s.size).size = 0 := by rw [ba_toList] at he; rw [← data_length, he]; rfl
        rw [ByteArray.size_extract] at this
        rw [refP_last s hs n (by omega) hc]; exact E.some _
      · have hlt : n + 1 < s.size := by
          by_cases h : n + 1 < s.size
          · exact h
          · exfalso; apply he
            rw [ba_toList, ← List.length_eq_zero_iff, data_length, ByteArray.size_extract]; omega
        rw [wrap_id (by omega)]
        exact ih n _ (by omega) (.inr ⟨Nat.le_refl _, hlt, hc, rfl, fun j h1 h2 => absurd h2 (by omega)⟩)
    · have hc : b8 s n ≠ 45 := fun e => hc (by rw [e]; rfl)
      rw [wrap_id (by omega)]
      refine ih en pre (by omega) ?_
      rcases hsc with ⟨h1, h2, h3⟩ | ⟨h1, h2, h3, h4, h5⟩
      · refine .inl ⟨h1, h2, fun j hj1 hj2 => ?_⟩
        by_cases e : j = n
        · rw [e]; exact hc
        · exact h3 j (by omega) hj2
      · refine .inr ⟨by omega, h2, h3, h4, fun j hj1 hj2 => ?_⟩
        by_cases e : j = n
        · rw [e]; exact hc
        · exact h5 j (by omega) hj2
theorem refParse_E (s : ByteArray) (hs : s.size < 4294967281) : E (fun k => slipwayref01_Parse.f k s) (refP s) := by
  unfold slipwayref01_Parse.f
  rw [wrap_id (by omega)]
  exact Parse_l0 s hs s.size s.size ⟨#[]⟩ (Nat.le_refl _) (.inl ⟨rfl, rfl, fun j h1 h2 => absurd h2 (by omega)⟩)

/-! ### Compare, and the document's example -/
theorem cmpInt_some (a b : Int) : cmp_Compare_int.f a b = some (cmpI a b) := by
  unfold cmp_Compare_int.f cmp_isNaN_int.f cmpI
  simp only [bne_self_eq_false, Option.bind_some, Bool.false_eq_true, if_false]
  split
  · rfl
  · split <;> rfl
theorem sign_some (a : Int) : semver_sign.f a = some (cmpI a 0) := by
  unfold semver_sign.f; rw [cmpInt_some]; rfl
theorem cmpI_zero {a b : Int} : cmpI a b = 0 ↔ a = b := by unfold cmpI; split; omega; split <;> omega
theorem cmpI_rng (a b : Int) : cmpI a b = -1 ∨ cmpI a b = 0 ∨ cmpI a b = 1 := by unfold cmpI; split; simp; split <;> simp
theorem Or_end (x0 : Int) (l : List Int) : E (fun k => cmp_Or_int.l0 k x0 l (l.length : Int) (l.length : Int)) x0 := by
  refine E.step ?_
  simp only [cmp_Or_int.l0]
  exact E.ite_neg (by omega) (E.some _)
/-- The first that isn't nought. -/
def orL : List Int → Int
  | [] => 0
  | x :: l => if x = 0 then orL l else x
theorem Or_l0 (l : List Int) (hl : l.length < 1000) : ∀ (d j : Nat), j + d = l.length → E (fun k => cmp_Or_int.l0 k 0 l (l.length : Int) (j : Int)) (orL (l.drop j)) := by
  intro d
  induction d with
  | zero =>
    intro j hj
    obtain rfl : j = l.length := by omega
    rw [List.drop_of_length_le (Nat.le_refl _)]
    exact Or_end 0 l
  | succ d ih =>
    intro j hj
    have hjl : j < l.length := by omega
    refine E.step ?_
    simp only [cmp_Or_int.l0]
    refine E.ite_pos (by omega) (E.ite_pos (by omega) (E.ite_pos (by omega) ?_))
    have hr : rd l (j : Int) = l[j] := by unfold rd; rw [Int.toNat_natCast, List.getD_eq_getElem?_getD, List.getElem?_eq_getElem hjl]; rfl
    rw [hr, List.drop_eq_getElem_cons hjl]
    unfold orL
    refine E.ite (fun h => ?_) (fun h => ?_)
    · rw [if_pos h, wrap_id (by omega)]; exact ih (j + 1) (by omega)
    · rw [if_neg h]; exact E.some _
/-- The order of versions. -/
def cmpV (a b c : Int) (p : ByteArray) (a' b' c' : Int) (p' : ByteArray) : Int := orL [cmpI a a', cmpI b b', cmpI c c', cmpI (marksV p p') 0]
theorem Compare_E (a b c : Int) (p : ByteArray) (a' b' c' : Int) (p' : ByteArray) (h : p.size < 4294967281) (h' : p'.size < 4294967281) :
    E (fun k => semver_Compare.f k a b c p a' b' c' p') (cmpV a b c p a' b' c' p') := by
  unfold semver_Compare.f
  refine E.bindc (cmpInt_some _ _) (E.bindc (cmpInt_some _ _) (E.bindc (cmpInt_some _ _) (E.bindc (x := marksV p p') (by unfold semver_marks.f; rw [if_pos ⟨h, h'⟩]) (E.bindc (sign_some _) (E.bind ?_ (E.some _))))))
  unfold cmp_Or_int.f
  exact Or_l0 [cmpI a a', cmpI b b', cmpI c c', cmpI (marksV p p') 0] (by simp) 4 0 rfl
theorem orL_rng : ∀ (l : List Int), (∀ x ∈ l, x = -1 ∨ x = 0 ∨ x = 1) → orL l = -1 ∨ orL l = 0 ∨ orL l = 1 := by
  intro l
  induction l with
  | nil => intro _; exact .inr (.inl rfl)
  | cons x l ih =>
    intro h
    unfold orL
    split
    · exact ih (fun y hy => h y (List.mem_cons_of_mem _ hy))
    · exact h x List.mem_cons_self

theorem parse_some (s : ByteArray) (hs : s.size < 4294967281) : semver_Parse.f s = some (parseV s) := by unfold semver_Parse.f; rw [if_pos hs]
def t1 : ByteArray := ⟨#[49, 46, 48, 46, 48, 45, 97, 46, 50]⟩
def t2 : ByteArray := ⟨#[49, 46, 48, 46, 48]⟩
def t3 : ByteArray := ⟨#[48, 49, 46, 48, 46, 48]⟩
theorem ex1 : parseV t1 = (1, 0, 0, ⟨#[97, 46, 50]⟩, 0) := by decide +kernel
theorem ex2 : parseV t2 = (1, 0, 0, ⟨#[]⟩, 0) := by decide +kernel
theorem ex3 : parseV t3 = (0, 0, 0, ⟨#[]⟩, 10) := by decide +kernel
theorem marks_e1 (p q : ByteArray) (h : q.size = 0) : marksV p q = cmpI 0 p.size := by
  unfold marksV; rw [if_pos (.inr (by rw [ba_toList]; exact List.eq_nil_of_length_eq_zero ((data_length q).trans h))), h]; rfl
theorem marks_e2 (p q : ByteArray) (h : q.size = 0) : marksV q p = cmpI p.size 0 := by
  unfold marksV; rw [if_pos (.inl (by rw [ba_toList]; exact List.eq_nil_of_length_eq_zero ((data_length q).trans h))), h]; rfl
theorem anchor_E : E (fun k => slipwaylaw01_anchor.f k) true := by
  unfold slipwaylaw01_anchor.f
  refine E.bindc (parse_some t1 (by decide)) (E.bindc (parse_some t2 (by decide)) (E.bindc (parse_some t3 (by decide)) ?_))
  rw [ex1, ex2, ex3]
  refine E.ite_pos rfl (E.ite_pos rfl (E.ite_pos rfl (E.ite_pos (by rw [ba_toList]) ?_)))
  refine E.bind (Compare_E _ _ _ _ _ _ _ _ (by decide) (by decide)) ?_
  refine E.ite_pos (by unfold cmpV; rw [marks_e1 _ _ rfl]; decide) ?_
  refine E.bind (Compare_E _ _ _ _ _ _ _ _ (by decide) (by decide)) ?_
  have : cmpV 1 0 0 ⟨#[]⟩ 1 0 0 ⟨#[97, 46, 50]⟩ = 1 := by unfold cmpV; rw [marks_e2 _ _ rfl]; decide
  rw [this]
  exact E.some _
end Go.Proofs.YtkilaemngejplaaDoor
