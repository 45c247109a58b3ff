/- Words and laws that the theorem leans on (part 6). -/
import Derived.Test.YtikjlooifdgbaaaGreatDoorP11355698
import Derived.Test.YtikjlooifdgbaaaGreatDoorP49b084f4
import Derived.Test.YtikjlooifdgbaaaGreatDoorP05f3ca6e
import Derived.Test.YtikjlooifdgbaaaGreatDoorPe2c33d98
import Derived.Test.YtikjlooifdgbaaaGreatDoorP0de441cf
import Derived.Test.YtikjlooifdgbaaaGreatDoorRows
import Derived.Carry
import Derived.Lib.SmallJoins
import Derived.LaidMore
import Derived.PinnedBridge
import Derived.HandedShaped
import Derived.ProofKit
import Derived.OpenShut
import Derived.ShutString
import Derived.SizedLaws
import Derived.Stop.LaidErr
import Derived.Stop.Joined
import Derived.Shelf.Vars
import Derived.Lib.LaidTab
import Derived.MakeChecks
set_option linter.unusedVariables false
set_option linter.unusedSimpArgs false

set_option linter.unusedVariables false
set_option linter.unusedSimpArgs false
namespace Go.Lg.Tryz
open Go Go.Proofs Go.RowKit Go.Lib Go.Lg.Sem
abbrev pT' (p : Int × Int) : T := pT p.1 p.2
def fltL (L : List (Int × Int)) : List AV := ((L.map pT').flatMap T.cells).map .tr
theorem flt_cons (p : Int × Int) (L : List (Int × Int)) : fltL (p :: L) = int p.1 :: int p.2 :: fltL L := rfl
theorem flt_at0 : ∀ (L : List (Int × Int)) (U : List AV) (i : Nat) (p : Int × Int), L[i]? = some p → (fltL L ++ U)[i * 2]? = some (int p.1)
  | [], U, i, p, h => by simp at h
  | q :: L, U, 0, p, h => by simp at h; subst h; rfl
  | q :: L, U, i + 1, p, h => by
    rw [show (i + 1) * 2 = i * 2 + 1 + 1 by omega, flt_cons, List.cons_append, List.cons_append, List.getElem?_cons_succ, List.getElem?_cons_succ]
    exact flt_at0 L U i p (by simpa using h)
theorem flt_at1 : ∀ (L : List (Int × Int)) (U : List AV) (i : Nat) (p : Int × Int), L[i]? = some p → (fltL L ++ U)[i * 2 + 1]? = some (int p.2)
  | [], U, i, p, h => by simp at h
  | q :: L, U, 0, p, h => by simp at h; subst h; rfl
  | q :: L, U, i + 1, p, h => by
    rw [show (i + 1) * 2 + 1 = i * 2 + 1 + 1 + 1 by omega, flt_cons, List.cons_append, List.cons_append, List.getElem?_cons_succ, List.getElem?_cons_succ]
    exact flt_at1 L U i p (by simpa using h)
theorem flt_set0 : ∀ (L : List (Int × Int)) (U : List AV) (i : Nat) (p : Int × Int) (v : Int), L[i]? = some p → (fltL L ++ U).set (i * 2) (int v) = fltL (L.set i (v, p.2)) ++ U
  | [], U, i, p, v, h => by simp at h
  | q :: L, U, 0, p, v, h => by simp at h; subst h; rfl
  | q :: L, U, i + 1, p, v, h => by
    rw [show (i + 1) * 2 = i * 2 + 1 + 1 by omega, flt_cons, List.cons_append, List.cons_append, List.set_cons_succ, List.set_cons_succ, flt_set0 L U i p v (by simpa using h), List.set_cons_succ]; rfl
theorem flt_set1 : ∀ (L : List (Int × Int)) (U : List AV) (i : Nat) (p : Int × Int) (v : Int), L[i]? = some p → (fltL L ++ U).set (i * 2 + 1) (int v) = fltL (L.set i (p.1, v)) ++ U
  | [], U, i, p, v, h => by simp at h
  | q :: L, U, 0, p, v, h => by simp at h; subst h; rfl
  | q :: L, U, i + 1, p, v, h => by
    rw [show (i + 1) * 2 + 1 = i * 2 + 1 + 1 + 1 by omega, flt_cons, List.cons_append, List.cons_append, List.set_cons_succ, List.set_cons_succ, flt_set1 L U i p v (by simpa using h), List.set_cons_succ]; rfl
theorem flt_len (L : List (Int × Int)) : (fltL L).length = L.length * 2 := by
  induction L with
  | nil => rfl
  | cons p L ih => rw [flt_cons, List.length_cons, List.length_cons, ih, List.length_cons]; omega
theorem flt_hc : ∀ (L : List (Int × Int)) (U : List AV) (i j : Nat) (x y : T), (L.map pT')[i]? = some x → x.cells[j]? = some y → ∃ v, (fltL L ++ U)[i * 2 + j]? = some v ∧ v.deg = .tr y
  | [], U, i, j, x, y, h, _ => by simp at h
  | q :: L, U, 0, j, x, y, h, hy => by
    simp at h; subst h
    match j with
    | 0 => obtain rfl := Option.some.inj hy; exact ⟨int q.1, rfl, rfl⟩
    | 1 => obtain rfl := Option.some.inj hy; exact ⟨int q.2, rfl, rfl⟩
    | j + 2 => cases hy
  | q :: L, U, i + 1, j, x, y, h, hy => by
    rw [show (i + 1) * 2 + j = (i * 2 + j) + 1 + 1 by omega, flt_cons, List.cons_append, List.cons_append, List.getElem?_cons_succ, List.getElem?_cons_succ]
    exact flt_hc L U i j x y (by simpa using h) hy
def movedV (f t : List Int) (a : Stp) (L : List (Int × Int)) : List (Int × Int) := match L[a.s]? with
  | some p => if a.k = 2 then L.set a.s (p.1 + (vAt t a.s - vAt f a.s), p.2) else L.set a.s (p.1, p.2 + 1)
  | none => L
set_option maxRecDepth 8192 in
theorem Moved_ok (f t : List Int) (l : List Stp) (e : List (Nat × Nat)) (L : List (Int × Int)) {k : Nat} {a : Stp} (ha : l[k]? = some a) (hak : a.k ≤ 3) {p : Int × Int} (hp : L[a.s]? = some p) {v w : Int} (hv : f[a.s]? = some v) (hw : t[a.s]? = some w)
    (b1 : -10000 ≤ p.1 ∧ p.1 ≤ 10000) (b2 : -10000 ≤ p.2 ∧ p.2 ≤ 10000) (b3 : 0 ≤ v ∧ v ≤ 1000) (b4 : 0 ≤ w ∧ w ≤ 1000) (hL : L.length ≤ 1000) (hk : k ≤ 1000) :
    Fn Tryz.prog Gw 68 [.tr (plnT ⟨f, t, l, e⟩), .tr (.ls (L.map pT')), int k] [] (· = .tr (.ls ((movedV f t a L).map pT'))) := by
  have hae : (l.map stpT)[((k : Nat) : Int).toNat]? = some (stpT a) := by simp [ha]
  have hve : (f.map intT)[((a.s : Nat) : Int).toNat]? = some (intT v) := by simp [hv]
  have hwe : (t.map intT)[((a.s : Nat) : Int).toNat]? = some (intT w) := by simp [hw]
  have hsl := (List.getElem?_eq_some_iff.1 hp).1
  have hmv : movedV f t a L = if a.k = 2 then L.set a.s (p.1 + (w - v), p.2) else L.set a.s (p.1, p.2 + 1) := by
    unfold movedV; rw [hp, vAt_of hv, vAt_of hw]
  rw [hmv]
  refine Fn.of tab_ok Tryz.func68 rfl (by decide) (by simp [Tryz.f68]) rfl (fun κ v h => by cases h) Gw.below ?_
  refine zS ?_
  refine zR ?_
  refine zE tab_ok rfl rfl ?_
  refine zE tab_ok rfl rfl ?_
  refine zN ?_
  refine zS ?_
  refine zR ?_
  refine Sq.lit0R tab_ok rfl ?_
  refine zE tab_ok rfl rfl ?_
  refine Sq.appendR tab_ok rfl (fun y hy => by obtain ⟨a, _, rfl⟩ := List.mem_map.1 hy; rfl) (by rw [List.length_map]; simp; omega) ?_
  refine zE tab_ok rfl rfl ?_
  refine zN ?_
  refine zS ?_
  refine zR ?_
  refine zE tab_ok rfl rfl ?_
  refine zE tab_ok rfl rfl ?_
  refine zE tab_ok rfl rfl ?_
  refine zI (x := stpT a) tab_ok rfl (by omega) (hae) rfl ?_
  refine zE tab_ok rfl rfl ?_
  refine zE tab_ok rfl rfl ?_
  refine zE tab_ok rfl rfl ?_
  refine zN ?_
  refine zS ?_
  refine zS ?_
  refine zR ?_
  refine zE tab_ok rfl rfl ?_
  refine zE tab_ok rfl rfl ?_
  refine zE tab_ok rfl rfl ?_
  refine zN ?_
  have thw : ∀ (Q : Exit → Store → Prop) (cc : Code) (m : Store), SubL [(.s 3, .ptr (.l 3) 0), (.l 3, .blk 41 [.tr (.ls (f.map intT)), .tr (.ls (t.map intT)), .tr (.ls (l.map stpT)), .tr (.ls (e.map edT))]), (.s 8, .ptr (.l 8) 0), (.l 8, .blk 115 [int a.s, int a.k]), (.s 7, .raw 88 true (L.map pT'))] m →
      (∀ cap U, L.length ≤ cap → Tr Tryz.prog ⟨Gw, []⟩ Tryz.f68.ntmps cc ((.s 7, .sl (.l 1000) L.length cap) :: (.l 1000, .blk 88 (fltL L ++ U)) :: [(.s 3, .ptr (.l 3) 0), (.l 3, .blk 41 [.tr (.ls (f.map intT)), .tr (.ls (t.map intT)), .tr (.ls (l.map stpT)), .tr (.ls (e.map edT))]), (.s 8, .ptr (.l 8) 0), (.l 8, .blk 115 [int a.s, int a.k]), (.s 7, .raw 88 true (L.map pT'))]) Q) → Tr Tryz.prog ⟨Gw, []⟩ Tryz.f68.ntmps cc m Q := by
    intro Q cc m hm hk
    refine Tr.sub (m' := [_, _, _, _, _]) hm ?_
    refine Tr.thaw tab_ok 7 (.l 1000) (xs := L.map pT') rfl (by intro h; have := congrArg List.length h; rw [List.length_map] at this; simp at this; subst this; simp at hsl) rfl (by decide) rfl rfl ?_
    intro cap hcap
    rw [List.length_map] at hcap ⊢
    exact hk cap _ hcap
  refine zC rfl (fun h2 => ?_) (fun h2 => ?_) <;> refine thw _ _ _ ⟨rfl, rfl, rfl, rfl, rfl, trivial⟩ (fun cap U hcap => ?_) <;> have hp0 := flt_at0 L U a.s p hp <;> have hp1 := flt_at1 L U a.s p hp
  · have h2 : ((a.k : Int) == 2) = true := h2
    have h2 : a.k = 2 := by rw [beq_iff_eq] at h2; omega
    rw [if_pos h2]
    have hset := flt_set0 L U a.s p (p.1 + (w - v)) hp
    refine Tr.drawn ( zD tab_ok rfl rfl <| zD tab_ok rfl rfl <| zD tab_ok rfl rfl <| zO rfl (fun q K hK => Sq.indexS (j := ((a.s : Nat) : Int)) (len := L.length) tab_ok rfl (by omega) (by omega) (zN hK)) <| zD tab_ok rfl rfl <| zO rfl (fun q K hK => Sq.loadS (v := int p.1) tab_ok rfl (by rw [Int.toNat_natCast]; exact hp0) (zN hK)) <| zD tab_ok rfl rfl <| zD tab_ok rfl rfl <| zD tab_ok rfl rfl <| zD tab_ok rfl rfl <| zO rfl (fun q K hK => zI (x := intT w) tab_ok rfl (by omega) (hwe) rfl (zN hK)) <| zD tab_ok rfl rfl <| zD tab_ok rfl rfl <| zD tab_ok rfl rfl <| zD tab_ok rfl rfl <| zD tab_ok rfl rfl <| zO rfl (fun q K hK => zI (x := intT v) tab_ok rfl (by omega) (hve) rfl (zN hK)) <| zD tab_ok rfl rfl <| DSq.evr tab_ok rfl (congrArg int (Go.IntWalk.i64_in (w - v) ⟨by omega, by omega⟩)) <| DSq.evr tab_ok rfl (congrArg int (Go.IntWalk.i64_in (p.1 + (w - v)) ⟨by omega, by omega⟩)) <| zO rfl (fun q K hK => Sq.indexS (j := ((a.s : Nat) : Int)) (len := L.length) tab_ok rfl (by omega) (by omega) (zN hK)) <| zD tab_ok rfl rfl <| DSq.blk rfl (fun q K hK => Sq.storeS tab_ok rfl (by show ((a.s : Nat) : Int).toNat * 2 + 0 < _; rw [List.length_append, flt_len]; omega) (zN hK)) <| DSq.nil _) mix_ok rfl ?_
    have hset' : (fltL L ++ U).set (((a.s : Nat) : Int).toNat * 2 + 0) (int (p.1 + (w - v))) = fltL (L.set a.s (p.1 + (w - v), p.2)) ++ U := by rw [Int.toNat_natCast]; exact hset
    have hLl : (L.set a.s (p.1 + (w - v), p.2)).length = L.length := List.length_set
    refine Tr.sub (m' := [(.s 7, .sl (.l 1000) L.length cap), (.l 1000, .blk 88 (fltL (L.set a.s (p.1 + (w - v), p.2)) ++ U))]) ⟨rfl, by rw [← hset']; rfl, trivial⟩ ?_
    generalize L.set a.s (p.1 + (w - v), p.2) = L' at *
    refine Tr.turn (fun Γ a w h => RelX.freeze (es := 2) (xs := L'.map pT') (cap := cap) (len := L.length) (cells := fltL L' ++ U) h (s := 7) (κ := .l 1000) rfl rfl rfl (by rw [List.length_map]; exact hLl) (by rw [List.length_append, flt_len]; omega) (by intro x hx; obtain ⟨a, _, rfl⟩ := List.mem_map.1 hx; rfl) (flt_hc L' U)) ?_
    repeat' (first|refine zS ?_|refine zR ?_|refine zE tab_ok rfl rfl ?_|refine zN ?_|(refine zG rfl rfl (fun _ => ?_) fun _ => ?_)<;>refine zE tab_ok rfl rfl ?_|(refine zC rfl (fun _ => ?_) fun _ => ?_)<;>try (rename_i h; cases h; done)|refine zB ?_|refine zK ?_|refine zZ ⟨_, rfl, ?_⟩)
    rfl
  · have h2 : ((a.k : Int) == 2) = false := h2
    have h2 : a.k ≠ 2 := by rw [beq_eq_false_iff_ne] at h2; omega
    rw [if_neg h2]
    have hset := flt_set1 L U a.s p (p.2 + 1) hp
    have hw1 : IntKind.i64.wrap (p.2 + 1) = p.2 + 1 := Go.IntWalk.i64_in _ ⟨by omega, by omega⟩
    refine zR ?_
    refine zE tab_ok rfl rfl ?_
    refine zE tab_ok rfl rfl ?_
    refine zE tab_ok rfl rfl ?_
    refine Sq.indexS (j := ((a.s : Nat) : Int)) (len := L.length) tab_ok rfl (by omega) (by omega) ?_
    refine zE tab_ok rfl rfl ?_
    refine Sq.loadS (v := int p.2) tab_ok rfl (by rw [Int.toNat_natCast]; exact hp1) ?_
    refine zE tab_ok rfl rfl ?_
    rw [hw1]
    refine Sq.indexS (j := ((a.s : Nat) : Int)) (len := L.length) tab_ok rfl (by omega) (by omega) ?_
    refine zE tab_ok rfl rfl ?_
    refine Sq.storeS tab_ok rfl (by show ((a.s : Nat) : Int).toNat * 2 + 1 < _; rw [List.length_append, flt_len]; omega) ?_
    refine zN ?_
    have hset' : (fltL L ++ U).set (((a.s : Nat) : Int).toNat * 2 + 1) (int (p.2 + 1)) = fltL (L.set a.s (p.1, p.2 + 1)) ++ U := by rw [Int.toNat_natCast]; exact hset
    have hLl : (L.set a.s (p.1, p.2 + 1)).length = L.length := List.length_set
    refine Tr.sub (m' := [(.s 7, .sl (.l 1000) L.length cap), (.l 1000, .blk 88 (fltL (L.set a.s (p.1, p.2 + 1)) ++ U))]) ⟨rfl, by rw [← hset']; rfl, trivial⟩ ?_
    generalize L.set a.s (p.1, p.2 + 1) = L' at *
    refine Tr.turn (fun Γ a w h => RelX.freeze (es := 2) (xs := L'.map pT') (cap := cap) (len := L.length) (cells := fltL L' ++ U) h (s := 7) (κ := .l 1000) rfl rfl rfl (by rw [List.length_map]; exact hLl) (by rw [List.length_append, flt_len]; omega) (by intro x hx; obtain ⟨a, _, rfl⟩ := List.mem_map.1 hx; rfl) (flt_hc L' U)) ?_
    repeat' (first|refine zS ?_|refine zR ?_|refine zE tab_ok rfl rfl ?_|refine zN ?_|(refine zG rfl rfl (fun _ => ?_) fun _ => ?_)<;>refine zE tab_ok rfl rfl ?_|(refine zC rfl (fun _ => ?_) fun _ => ?_)<;>try (rename_i h; cases h; done)|refine zB ?_|refine zK ?_|refine zZ ⟨_, rfl, ?_⟩)
    rfl
end Go.Lg.Tryz

set_option linter.unusedVariables false
set_option linter.unusedSimpArgs false
namespace Go.Lg.Tryz
open Go Go.Proofs Go.RowKit Go.Lib Go.Lg.Sem
def chs (g : BitVec 64) (l : List Stp) (k : Nat) : List Stp := (List.range k).filterMap fun j => if g.getLsbD j then l[j]? else none
theorem chs_succ {g : BitVec 64} {l : List Stp} {k : Nat} {a : Stp} (ha : l[k]? = some a) : chs g l (k + 1) = chs g l k ++ (if g.getLsbD k then [a] else []) := by
  unfold chs
  rw [List.range_succ, List.filterMap_append]
  congr 1
  cases h : g.getLsbD k
  · simp [h]
  · simp [h, ha]
theorem chs_len (g : BitVec 64) (l : List Stp) (k : Nat) : (chs g l k).length ≤ k := by
  unfold chs
  exact Nat.le_trans (List.length_filterMap_le _ _) (by simp)
def fleetL (c : Ctl) (f t : List Int) (ch : List Stp) : List (Int × Int) := (List.range f.length).map (fleetAt c f t ch)
theorem fleetL_at (c : Ctl) (f t : List Int) (ch : List Stp) {i : Nat} (hi : i < f.length) : (fleetL c f t ch)[i]? = some (fleetAt c f t ch i) := by
  unfold fleetL; rw [List.getElem?_map, List.getElem?_range hi]; rfl
theorem fleetL_len (c : Ctl) (f t : List Int) (ch : List Stp) : (fleetL c f t ch).length = f.length := by unfold fleetL; simp
theorem fleet_snoc (c : Ctl) (f t : List Int) (ch : List Stp) (a : Stp) (i : Nat) : fleetAt c f t (ch ++ [a]) i = if a.s = i then (if a.k = 2 then ((fleetAt c f t ch i).1 + (vAt t i - vAt f i), (fleetAt c f t ch i).2) else ((fleetAt c f t ch i).1, (fleetAt c f t ch i).2 + 1)) else fleetAt c f t ch i := by
  unfold fleetAt
  rw [cnt2_snoc, cntF_snoc]
  by_cases h : a.s = i
  · rw [if_pos h]
    by_cases h2 : a.k = 2
    · rw [if_pos ⟨h, h2⟩, if_neg (by simp [h2]), if_pos h2]
      simp only [Nat.add_zero, Prod.mk.injEq, and_true]
      rw [Int.natCast_add, Int.add_mul]; simp; omega
    · rw [if_neg (by simp [h2]), if_pos ⟨h, h2⟩, if_neg h2]
      simp only [Nat.add_zero, Prod.mk.injEq, true_and]
      omega
  · rw [if_neg (by simp [h]), if_neg (by simp [h]), if_neg h]; simp
theorem moved_fleet (c : Ctl) (f t : List Int) (ch : List Stp) (a : Stp) (ha : a.s < f.length) : movedV f t a (fleetL c f t ch) = fleetL c f t (ch ++ [a]) := by
  apply List.ext_getElem?
  intro i
  have hm : movedV f t a (fleetL c f t ch) = if a.k = 2 then (fleetL c f t ch).set a.s ((fleetAt c f t ch a.s).1 + (vAt t a.s - vAt f a.s), (fleetAt c f t ch a.s).2) else (fleetL c f t ch).set a.s ((fleetAt c f t ch a.s).1, (fleetAt c f t ch a.s).2 + 1) := by
    unfold movedV; rw [fleetL_at c f t ch ha]
  rw [hm]
  by_cases hi : i < f.length
  · rw [fleetL_at c f t _ hi, fleet_snoc]
    by_cases h : a.s = i
    · subst h
      rw [if_pos rfl]
      split
      · rw [List.getElem?_set_self (by rw [fleetL_len]; exact ha)]
      · rw [List.getElem?_set_self (by rw [fleetL_len]; exact ha)]
    · rw [if_neg h]
      split
      · rw [List.getElem?_set_ne h, fleetL_at c f t _ hi]
      · rw [List.getElem?_set_ne h, fleetL_at c f t _ hi]
  · rw [List.getElem?_eq_none (by split <;> rw [List.length_set, fleetL_len] <;> omega), List.getElem?_eq_none (by rw [fleetL_len]; omega)]
theorem cnt_le (ch : List Stp) (i : Nat) : cnt2 ch i ≤ ch.length ∧ cntF ch i ≤ ch.length := ⟨List.length_filter_le _ _, List.length_filter_le _ _⟩
theorem fleet0 {c : Ctl} {f : List Int} (t : List Int) (hr : rightV c f = true) : (fleetL c f t []).map pT' = (pls c f).map rPl := by
  apply List.ext_getElem?
  intro i
  by_cases hi : i < f.length
  · obtain ⟨v, s, r, hv, hs, hv0, hrv, hrel⟩ := (rightV_at hr).2 i hi
    have e : plAt c f i = ⟨floatOfInt .f64 v, floatOfInt .f64 (2 * r.level), v, 2 * r.level⟩ := by unfold plAt; rw [hv]; simp only; rw [hrel]
    have h1 : (pls c f)[i]? = some (plAt c f i) := by unfold pls; rw [List.getElem?_map, List.getElem?_range hi]; rfl
    rw [List.getElem?_map, List.getElem?_map, fleetL_at c f t [] hi, h1, e]
    show some (pT (vAt f i + ((0 : Nat) : Int) * (vAt t i - vAt f i)) (2 * lvl c i (vAt f i) + ((0 : Nat) : Int))) = some (pT v (2 * r.level))
    rw [vAt_of hv]
    have : lvl c i v = r.level := by unfold lvl; rw [hrel]
    rw [this]
    simp
  · rw [List.getElem?_eq_none (by rw [List.length_map, fleetL_len]; omega), List.getElem?_eq_none (by rw [List.length_map]; unfold pls; simp; omega)]
theorem refFleet_ok {c : Ctl} (hc : c.length ≤ 1000) (hlv : LvOk c) {f t : List Int} (hf : rightV c f = true) (ht : rightV c t = true) (l : List Stp) (e : List (Nat × Nat)) (hl : l.length ≤ 63) (hin : ∀ a, a ∈ l → a.s < f.length ∧ a.k ≤ 3) (g : BitVec 64) :
    Fn Tryz.prog Gw 29 [.tr (ctlT c), .tr (plnT ⟨f, t, l, e⟩), u64 g] [] (· = .tr (.ls ((fleetL c f t (chs g l l.length)).map pT'))) := by
  have hS := refSettled_ok (by omega) hlv f hf
  rw [← pls_r, ← fleet0 t hf] at hS
  obtain ⟨hfl, hfa⟩ := rightV_at hf
  obtain ⟨htl, hta⟩ := rightV_at ht
  refine Fn.of tab_ok Tryz.func29 rfl (by decide) (by simp [Tryz.f29]) rfl (fun κ v h => by cases h) Gw.below ?_
  repeat' (first|refine zS ?_|refine zR ?_|refine zE tab_ok rfl rfl ?_|refine zN ?_|(refine zG rfl rfl (fun _ => ?_) fun _ => ?_)<;>refine zE tab_ok rfl rfl ?_|(refine zC rfl (fun _ => ?_) fun _ => ?_)<;>try (rename_i h; cases h; done)|refine zB ?_|refine zK ?_|refine zZ ⟨_, rfl, ?_⟩)
  refine Sq.callv rfl (hS) ?_
  repeat' (first|refine zS ?_|refine zR ?_|refine zE tab_ok rfl rfl ?_|refine zN ?_|(refine zG rfl rfl (fun _ => ?_) fun _ => ?_)<;>refine zE tab_ok rfl rfl ?_|(refine zC rfl (fun _ => ?_) fun _ => ?_)<;>try (rename_i h; cases h; done)|refine zB ?_|refine zK ?_|refine zZ ⟨_, rfl, ?_⟩)
  refine Tr.loopS (fun k : Nat => [(.s 2, u64 g), (.s 3, .ptr (.l 3) 0), (.l 3, .blk 29 [.tr (.ls (c.map svcT))]), (.s 4, .ptr (.l 4) 0), (.l 4, .blk 41 [.tr (.ls (f.map intT)), .tr (.ls (t.map intT)), .tr (.ls (l.map stpT)), .tr (.ls (e.map edT))]), (.s 7, .tr (.ls ((fleetL c f t (chs g l k)).map pT'))), (.s 8, int k)]) (fun k => l.length - k) (fun k => k ≤ l.length)
    0 (by omega) (Sub.app (l := [_, _, _, _, _, _, _]) (H := []) ⟨rfl, rfl, rfl, rfl, rfl, rfl, rfl, trivial⟩ (fun κ v h => nomatch h)) ?_
  rintro k hk
  repeat' (first|refine zS ?_|refine zR ?_|refine zE tab_ok rfl rfl ?_|refine zN ?_|(refine zG rfl rfl (fun _ => ?_) fun _ => ?_)<;>refine zE tab_ok rfl rfl ?_|(refine zC rfl (fun _ => ?_) fun _ => ?_)<;>try (rename_i h; cases h; done)|refine zB ?_|refine zK ?_|refine zZ ⟨_, rfl, ?_⟩)
  · rename_i h2
    have h2 : decide ((k : Int) < ((l.map stpT).length : Int)) = true := h2
    have hlt : k < l.length := by simp only [List.length_map, decide_eq_true_eq] at h2; omega
    obtain ⟨a, ha⟩ : ∃ a, l[k]? = some a := ⟨_, List.getElem?_eq_getElem hlt⟩
    obtain ⟨a1, a2⟩ := hin a (List.mem_of_getElem? ha)
    obtain ⟨v, s, r, hv, hs, hv0, hr, hrel⟩ := hfa a.s a1
    obtain ⟨w, s', r', hw, hs', hw0, hr', hrel'⟩ := hta a.s (by omega)
    obtain ⟨hs12, hsl⟩ := hlv s (List.mem_of_getElem? hs)
    obtain ⟨hs12', _⟩ := hlv s' (List.mem_of_getElem? hs')
    obtain ⟨l0, l1⟩ := hsl r (List.mem_of_getElem? hr)
    have hvl := (List.getElem?_eq_some_iff.1 hr).1
    have hwl := (List.getElem?_eq_some_iff.1 hr').1
    have hIn := In_ok g k (by omega)
    have hsc := chs_succ (g := g) ha
    cases hb : g.getLsbD k
    · rw [hb] at hIn hsc
      have hsc : chs g l (k + 1) = chs g l k := by rw [hsc]; simp
      refine Sq.callv rfl (hIn) ?_
      repeat' (first|refine zS ?_|refine zR ?_|refine zE tab_ok rfl rfl ?_|refine zN ?_|(refine zG rfl rfl (fun _ => ?_) fun _ => ?_)<;>refine zE tab_ok rfl rfl ?_|(refine zC rfl (fun _ => ?_) fun _ => ?_)<;>try (rename_i h; cases h; done)|refine zB ?_|refine zK ?_|refine zZ ⟨_, rfl, ?_⟩)
      exact ⟨k + 1, by omega, by omega, Sub.app (l := [_, _, _, _, _, _, _]) (H := []) ⟨rfl, rfl, rfl, rfl, rfl, by rw [hsc]; rfl, congrArg some (wrapz (by omega) (by omega) (by omega)), trivial⟩ (fun κ v h => nomatch h)⟩
    · rw [hb] at hIn hsc
      have hsc : chs g l (k + 1) = chs g l k ++ [a] := hsc
      have hcl := chs_len g l k
      obtain ⟨c2, cF⟩ := cnt_le (chs g l k) a.s
      have hlvl : lvl c a.s v = r.level := by unfold lvl; rw [hrel]
      have e1 : (fleetAt c f t (chs g l k) a.s).1 = v + (cnt2 (chs g l k) a.s : Int) * (w - v) := by unfold fleetAt; simp only; rw [vAt_of hv, vAt_of hw]
      have e2 : (fleetAt c f t (chs g l k) a.s).2 = 2 * r.level + (cntF (chs g l k) a.s : Int) := by unfold fleetAt; simp only; rw [vAt_of hv, hlvl]
      have hmul : -(63 * 12 : Int) ≤ (cnt2 (chs g l k) a.s : Int) * (w - v) ∧ (cnt2 (chs g l k) a.s : Int) * (w - v) ≤ 63 * 12 := by
        have hn0 : (0 : Int) ≤ (cnt2 (chs g l k) a.s : Int) := by omega
        have h1 : (cnt2 (chs g l k) a.s : Int) * (w - v) ≤ (cnt2 (chs g l k) a.s : Int) * 12 := Int.mul_le_mul_of_nonneg_left (by omega) hn0
        have h2 : (cnt2 (chs g l k) a.s : Int) * (-12) ≤ (cnt2 (chs g l k) a.s : Int) * (w - v) := Int.mul_le_mul_of_nonneg_left (by omega) hn0
        omega
      have hM := Moved_ok f t l e (fleetL c f t (chs g l k)) ha a2 (fleetL_at c f t _ a1) hv hw (by rw [e1]; omega) (by rw [e2]; omega) (by omega) (by omega) (by rw [fleetL_len]; omega) (by omega)
      rw [moved_fleet c f t _ a a1, ← hsc] at hM
      refine Sq.callv rfl (hIn) ?_
      repeat' (first|refine zS ?_|refine zR ?_|refine zE tab_ok rfl rfl ?_|refine zN ?_|(refine zG rfl rfl (fun _ => ?_) fun _ => ?_)<;>refine zE tab_ok rfl rfl ?_|(refine zC rfl (fun _ => ?_) fun _ => ?_)<;>try (rename_i h; cases h; done)|refine zB ?_|refine zK ?_|refine zZ ⟨_, rfl, ?_⟩)
      refine Sq.callv rfl (hM) ?_
      repeat' (first|refine zS ?_|refine zR ?_|refine zE tab_ok rfl rfl ?_|refine zN ?_|(refine zG rfl rfl (fun _ => ?_) fun _ => ?_)<;>refine zE tab_ok rfl rfl ?_|(refine zC rfl (fun _ => ?_) fun _ => ?_)<;>try (rename_i h; cases h; done)|refine zB ?_|refine zK ?_|refine zZ ⟨_, rfl, ?_⟩)
      exact ⟨k + 1, by omega, by omega, Sub.app (l := [_, _, _, _, _, _, _]) (H := []) ⟨rfl, rfl, rfl, rfl, rfl, rfl, congrArg some (wrapz (by omega) (by omega) (by omega)), trivial⟩ (fun κ v h => nomatch h)⟩
  · rename_i h2
    have h2 : decide ((k : Int) < ((l.map stpT).length : Int)) = false := h2
    have : k = l.length := by simp only [List.length_map, decide_eq_false_iff_not] at h2; omega
    subst this
    refine Tr.exit ?_
    repeat' (first|refine zS ?_|refine zR ?_|refine zE tab_ok rfl rfl ?_|refine zN ?_|(refine zG rfl rfl (fun _ => ?_) fun _ => ?_)<;>refine zE tab_ok rfl rfl ?_|(refine zC rfl (fun _ => ?_) fun _ => ?_)<;>try (rename_i h; cases h; done)|refine zB ?_|refine zK ?_|refine zZ ⟨_, rfl, ?_⟩)
    rfl
def closedB (es : List (Nat × Nat)) (g : BitVec 64) : Bool := es.all fun p => !g.getLsbD p.2 || g.getLsbD p.1
theorem refClosed_ok (n : Nat) (es : List (Nat × Nat)) (g : BitVec 64) (hn : n ≤ 64) (hl : es.length ≤ 4096) (hp : ∀ p, p ∈ es → p.1 < n ∧ p.2 < n) : Fn Tryz.prog Gw 26 [.tr (grT n es), u64 g] [] (· = bool (closedB es g)) := by
  refine Fn.of tab_ok Tryz.func26 rfl (by decide) (by simp [Tryz.f26]) rfl (fun κ v h => by cases h) Gw.below ?_
  repeat' (first|refine zS ?_|refine zR ?_|refine zE tab_ok rfl rfl ?_|refine zN ?_|(refine zG rfl rfl (fun _ => ?_) fun _ => ?_)<;>refine zE tab_ok rfl rfl ?_|(refine zC rfl (fun _ => ?_) fun _ => ?_)<;>try (rename_i h; cases h; done)|refine zB ?_|refine zK ?_|refine zZ ⟨_, rfl, ?_⟩)
  refine Tr.loopS (fun k : Nat => [(.s 1, u64 g), (.s 2, .ptr (.l 2) 0), (.l 2, .blk 69 [int n, .tr (.ls (es.map edT))]), (.s 5, int k)]) (fun k => es.length - k) (fun k => k ≤ es.length ∧ (es.take k).all (fun p => !g.getLsbD p.2 || g.getLsbD p.1) = true)
    0 ⟨by omega, rfl⟩ (Sub.app (l := [_, _, _, _]) (H := []) ⟨rfl, rfl, rfl, rfl, trivial⟩ (fun κ v h => nomatch h)) ?_
  rintro k ⟨hk, hall⟩
  repeat' (first|refine zS ?_|refine zR ?_|refine zE tab_ok rfl rfl ?_|refine zN ?_|(refine zG rfl rfl (fun _ => ?_) fun _ => ?_)<;>refine zE tab_ok rfl rfl ?_|(refine zC rfl (fun _ => ?_) fun _ => ?_)<;>try (rename_i h; cases h; done)|refine zB ?_|refine zK ?_|refine zZ ⟨_, rfl, ?_⟩)
  · rename_i h2
    have h2 : decide ((k : Int) < ((es.map edT).length : Int)) = true := h2
    have hlt : k < es.length := by simp only [List.length_map, decide_eq_true_eq] at h2; omega
    obtain ⟨⟨u, v⟩, hpk⟩ : ∃ p, es[k]? = some p := ⟨_, List.getElem?_eq_getElem hlt⟩
    have hpe : (es.map edT)[((k : Nat) : Int).toNat]? = some (edT (u, v)) := by simp [hpk]
    obtain ⟨p1, p2⟩ := hp _ (List.mem_of_getElem? hpk)
    have p1 : u < n := p1
    have p2 : v < n := p2
    have hI1 := In_ok g u (by omega)
    have hI2 := In_ok g v (by omega)
    have htk : (es.take (k + 1)).all (fun p => !g.getLsbD p.2 || g.getLsbD p.1) = ((es.take k).all (fun p => !g.getLsbD p.2 || g.getLsbD p.1) && (!g.getLsbD v || g.getLsbD u)) := by
      rw [List.take_add_one, hpk, List.all_append]; simp
    have bad : (!g.getLsbD v || g.getLsbD u) = false → closedB es g = false := fun h => by
      unfold closedB
      rw [← Bool.not_eq_true, List.all_eq_true]
      intro hh
      have := hh _ (List.mem_of_getElem? hpk)
      rw [h] at this; cases this
    rw [hall, Bool.true_and] at htk
    generalize g.getLsbD v = bv at *
    generalize g.getLsbD u = bu at *
    refine zI (x := edT (u, v)) tab_ok rfl (by omega) (hpe) rfl ?_
    refine Sq.indexAE tab_ok rfl (by omega) (by omega) ?_
    refine zE tab_ok rfl rfl ?_
    refine Sq.callv rfl (hI2) ?_
    cases bv
    · repeat' (first|refine zS ?_|refine zR ?_|refine zE tab_ok rfl rfl ?_|refine zN ?_|(refine zG rfl rfl (fun _ => ?_) fun _ => ?_)<;>refine zE tab_ok rfl rfl ?_|(refine zC rfl (fun _ => ?_) fun _ => ?_)<;>try (rename_i h; cases h; done)|refine zB ?_|refine zK ?_|refine zZ ⟨_, rfl, ?_⟩)
      exact ⟨k + 1, ⟨by omega, htk⟩, by omega, Sub.app (l := [_, _, _, _]) (H := []) ⟨rfl, rfl, rfl, congrArg some (wrapz (by omega) (by omega) (by omega)), trivial⟩ (fun κ v h => nomatch h)⟩
    · repeat' (first|refine zS ?_|refine zR ?_|refine zE tab_ok rfl rfl ?_|refine zN ?_|(refine zG rfl rfl (fun _ => ?_) fun _ => ?_)<;>refine zE tab_ok rfl rfl ?_|(refine zC rfl (fun _ => ?_) fun _ => ?_)<;>try (rename_i h; cases h; done)|refine zB ?_|refine zK ?_|refine zZ ⟨_, rfl, ?_⟩)
      refine zI (x := edT (u, v)) tab_ok rfl (by omega) (hpe) rfl ?_
      refine Sq.indexAE tab_ok rfl (by omega) (by omega) ?_
      refine zE tab_ok rfl rfl ?_
      refine Sq.callv rfl (hI1) ?_
      cases bu
      · rw [bad rfl]
        repeat' (first|refine zS ?_|refine zR ?_|refine zE tab_ok rfl rfl ?_|refine zN ?_|(refine zG rfl rfl (fun _ => ?_) fun _ => ?_)<;>refine zE tab_ok rfl rfl ?_|(refine zC rfl (fun _ => ?_) fun _ => ?_)<;>try (rename_i h; cases h; done)|refine zB ?_|refine zK ?_|refine zZ ⟨_, rfl, ?_⟩)
        rfl
      · repeat' (first|refine zS ?_|refine zR ?_|refine zE tab_ok rfl rfl ?_|refine zN ?_|(refine zG rfl rfl (fun _ => ?_) fun _ => ?_)<;>refine zE tab_ok rfl rfl ?_|(refine zC rfl (fun _ => ?_) fun _ => ?_)<;>try (rename_i h; cases h; done)|refine zB ?_|refine zK ?_|refine zZ ⟨_, rfl, ?_⟩)
        exact ⟨k + 1, ⟨by omega, htk⟩, by omega, Sub.app (l := [_, _, _, _]) (H := []) ⟨rfl, rfl, rfl, congrArg some (wrapz (by omega) (by omega) (by omega)), trivial⟩ (fun κ v h => nomatch h)⟩
  · rename_i h2
    have h2 : decide ((k : Int) < ((es.map edT).length : Int)) = false := h2
    have : k = es.length := by simp only [List.length_map, decide_eq_false_iff_not] at h2; omega
    subst this
    rw [List.take_of_length_le (Nat.le_refl _)] at hall
    refine Tr.exit ?_
    repeat' (first|refine zS ?_|refine zR ?_|refine zE tab_ok rfl rfl ?_|refine zN ?_|(refine zG rfl rfl (fun _ => ?_) fun _ => ?_)<;>refine zE tab_ok rfl rfl ?_|(refine zC rfl (fun _ => ?_) fun _ => ?_)<;>try (rename_i h; cases h; done)|refine zB ?_|refine zK ?_|refine zZ ⟨_, rfl, ?_⟩)
    show bool true = bool (closedB es g)
    unfold closedB; rw [hall]
end Go.Lg.Tryz

set_option linter.unusedVariables false
set_option linter.unusedSimpArgs false
namespace Go.Lg.Tryz
open Go Go.Proofs Go.RowKit Go.Lib Go.Lg.Sem
def toPl (p : Int × Int) : Pl := ⟨0, 0, p.1, p.2⟩
theorem toPl_r (L : List (Int × Int)) : (L.map toPl).map rPl = L.map pT' := by rw [List.map_map]; rfl
theorem cls_good {c : Ctl} {f t : List Int} {ch : List Stp} (he : Ends0 c f t) (hlv : LvOk c) (hc : Cls c f t ch) : goodB c ((fleetL c f t ch).map toPl) = true := by
  have hl := (rightV_at he.rf).1
  unfold goodB
  rw [List.length_map, fleetL_len, decide_eq_true hl, Bool.true_and, List.all_eq_true]
  intro i hi
  have hi := List.mem_range.1 hi
  have hat : ∀ j, j < f.length → ((fleetL c f t ch).map toPl)[j]? = some (toPl (fleetAt c f t ch j)) := fun j hj => by rw [List.getElem?_map, fleetL_at c f t ch hj]; rfl
  unfold goodAt
  rw [hat i hi]
  simp only [Bool.and_eq_true, List.all_eq_true]
  refine ⟨cls_stands he hlv hc hi, fun j hj => ?_⟩
  have hj := List.mem_range.1 hj
  rw [hat j (by omega)]
  exact cls_fits he hlv hc hi (by omega) (by omega)
theorem chs_mem {g : BitVec 64} {l : List Stp} {n : Nat} {a : Stp} : a ∈ chs g l n ↔ ∃ j, j < n ∧ g.getLsbD j = true ∧ l[j]? = some a := by
  unfold chs
  rw [List.mem_filterMap]
  constructor
  · rintro ⟨j, hj, h⟩
    cases hb : g.getLsbD j
    · rw [hb] at h; cases h
    · rw [hb] at h; exact ⟨j, List.mem_range.1 hj, hb, h⟩
  · rintro ⟨j, hj, hb, h⟩
    exact ⟨j, List.mem_range.2 hj, by rw [hb]; exact h⟩
theorem chs_nodup {g : BitVec 64} {l : List Stp} (hl : l.Nodup) : ∀ n, (chs g l n).Nodup := by
  intro n
  induction n with
  | zero => exact List.nodup_nil
  | succ n ih =>
    cases ha : l[n]? with
    | none =>
      have : chs g l (n + 1) = chs g l n := by
        unfold chs
        rw [List.range_succ, List.filterMap_append]
        simp [ha]
      rw [this]; exact ih
    | some a =>
      rw [chs_succ ha]
      split
      · rw [List.nodup_append]
        refine ⟨ih, by simp, fun b hb d hd => ?_⟩
        rw [List.mem_singleton] at hd
        subst hd
        rintro rfl
        obtain ⟨j, hj, _, hja⟩ := chs_mem.1 hb
        obtain ⟨h1, h2⟩ := List.getElem?_eq_some_iff.1 hja
        obtain ⟨h3, h4⟩ := List.getElem?_eq_some_iff.1 ha
        have := (List.getElem_inj hl).1 (h2.trans h4.symm)
        omega
      · rw [List.append_nil]; exact ih
theorem closed_way {es : List (Nat × Nat)} {g : BitVec 64} (h : closedB es g = true) {i k : Nat} (hw : EdgeWay es i k) : g.getLsbD k = true → g.getLsbD i = true := by
  unfold closedB at h
  rw [List.all_eq_true] at h
  have one : ∀ a b, (a, b) ∈ es → g.getLsbD b = true → g.getLsbD a = true := fun a b he hb => by
    have := h _ he
    rw [hb] at this; simpa using this
  induction hw with
  | one e => exact one _ _ e
  | snoc _ e ih => exact fun hb => ih (one _ _ e hb)
theorem chs_cls {c : Ctl} {f t : List Int} {e : List (Nat × Nat)} {g : BitVec 64} (hr : RchP c f t (stepsV c f t) e) (hc : closedB e g = true) : Cls c f t (chs g (stepsV c f t) (stepsV c f t).length) where
  nodup := chs_nodup (stepsUp_nodup c f t _) _
  sub a ha := by
    obtain ⟨j, _, _, h⟩ := chs_mem.1 ha
    exact List.mem_of_getElem? h
  clo a b ha hab hb := by
    obtain ⟨k, hk, hbk, hb'⟩ := chs_mem.1 hb
    obtain ⟨i, hi⟩ := List.mem_iff_getElem?.1 ha
    exact chs_mem.2 ⟨i, (List.getElem?_eq_some_iff.1 hi).1, closed_way hc (hr i k a b hi hb' hab) hbk, hi⟩
end Go.Lg.Tryz

set_option linter.unusedVariables false
set_option linter.unusedSimpArgs false
namespace Go.Lg.Tryz
open Go Go.Proofs Go.RowKit Go.Lib Go.Lg.Sem
theorem ofNat_toNat {m : Nat} (h : m < 18446744073709551616) : ((BitVec.ofNat 64 m).toNat : Int) = (m : Int) := by
  rw [BitVec.toNat_ofNat, Nat.mod_eq_of_lt (by omega)]
end Go.Lg.Tryz

set_option linter.unusedVariables false
set_option linter.unusedSimpArgs false
namespace Go.Lg
open Go Go.RowKit
section
variable {P : Program} {G : Env} {n : Nat} {tab : Tab} {m : Store}
end
end Go.Lg

set_option linter.unusedVariables false
set_option linter.unusedSimpArgs false
namespace Go.Lg.Sem
open Go Go.Lg
end Go.Lg.Sem

set_option linter.unusedVariables false
set_option linter.unusedSimpArgs false
namespace Go.Lg.Tryz
open Go Go.Proofs Go.RowKit Go.Lib Go.Lg.Sem
end Go.Lg.Tryz

set_option linter.unusedVariables false
set_option linter.unusedSimpArgs false
namespace Go.Lg.Tryz
open Go Go.Proofs Go.RowKit Go.Lib Go.Lg.Sem
end Go.Lg.Tryz

set_option linter.unusedVariables false
set_option linter.unusedSimpArgs false
namespace Go.Lg.Tryz
open Go Go.Proofs Go.RowKit Go.Lib Go.Lg.Sem
end Go.Lg.Tryz

set_option linter.unusedVariables false
set_option linter.unusedSimpArgs false
namespace Go.Lg.Tryz
open Go Go.Proofs Go.RowKit Go.Lib Go.Lg.Sem
end Go.Lg.Tryz

set_option linter.unusedVariables false
set_option linter.unusedSimpArgs false
namespace Go.Lg.Tryz
open Go Go.Proofs Go.RowKit Go.Lib Go.Lg.Sem
end Go.Lg.Tryz

set_option linter.unusedVariables false
set_option linter.unusedSimpArgs false
namespace Go.Lg.Tryz
open Go Go.Proofs Go.RowKit Go.Lib Go.Lg.Sem
end Go.Lg.Tryz

set_option linter.unusedVariables false
set_option linter.unusedSimpArgs false
namespace Go.Lg.Tryz
open Go Go.Proofs Go.RowKit Go.Lib Go.Lg.Sem
end Go.Lg.Tryz

set_option linter.unusedVariables false
set_option linter.unusedSimpArgs false
namespace Go.Lg
open Go Go.RowKit
section
variable {P : Program} {G : Env} {n : Nat} {tab : Tab} {m : Store}
def swp (κ κ' l : Loc) : Loc := match κ.eqb l with
  | true => κ'
  | false => l
mutual
def AV.rn (κ κ' : Loc) : AV → AV
  | .ptr k o => .ptr (swp κ κ' k) o
  | .sl k a b => .sl (swp κ κ' k) a b
  | .agg xs => .agg (rnL κ κ' xs)
  | .tup xs => .tup (rnL κ κ' xs)
  | .fn f xs => .fn f (rnL κ κ' xs)
  | .blk t xs => .blk t (rnL κ κ' xs)
  | v => v
def rnL (κ κ' : Loc) : List AV → List AV
  | [] => []
  | x :: xs => x.rn κ κ' :: rnL κ κ' xs
end
theorem rnL_map (κ κ' : Loc) : ∀ xs : List AV, rnL κ κ' xs = xs.map (·.rn κ κ')
  | [] => rfl
  | x :: xs => by simp only [rnL, List.map_cons]; rw [rnL_map κ κ' xs]
theorem swp_self (κ κ' : Loc) : swp κ κ' κ = κ' := by unfold swp; rw [Loc.eqb_self]
theorem swp_ne {κ κ' l : Loc} (h : κ ≠ l) : swp κ κ' l = l := by unfold swp; rw [Loc.eqb_ne h]
theorem swp_blk {κ κ' l : Loc} (h : κ'.isBlk = true) (hl : l.isBlk = true) : (swp κ κ' l).isBlk = true := by
  unfold swp; split <;> assumption
theorem rn_vrel {w : World} {M : Nat → Nat → Prop} {bk bk' : Loc → Option Nat} {κ κ' : Loc} (hk' : κ'.isBlk = true) (hbk : ∀ l b, l ≠ κ' → bk l = some b → bk' (swp κ κ' l) = some b) {y : AV} {v : Value} (h : VRel w M bk y v) : (∀ l, Refs l y → l ≠ κ') → VRel w M bk' (y.rn κ κ') v := by
  induction h with
  | unk v => intro _; exact .unk v
  | und => intro _; exact .und
  | tr t v h => intro _; exact .tr t v h
  | ptr k off b hk h => intro hy; exact .ptr _ off b (swp_blk hk' hk) (hbk k b (hy k (.ptr off)) h)
  | sl k len cap b hk h hc => intro hy; exact .sl _ len cap b (swp_blk hk' hk) (hbk k b (hy k (.sl len cap)) h) hc
  | ep cs off b o f h1 h2 h3 h4 => intro _; exact .ep cs off b o f h1 h2 h3 h4
  | agg xs cs h1 h2 h3 ih =>
    intro hy
    simp only [AV.rn]
    rw [rnL_map]
    refine .agg _ _ (by simpa using h1) h2 fun i x v hx hv => ?_
    rw [List.getElem?_map] at hx
    obtain ⟨x0, hx0, rfl⟩ := Option.map_eq_some_iff.1 hx
    exact ih i x0 v hx0 hv (fun l hl => hy l (.agg xs x0 (List.mem_of_getElem? hx0) hl))
  | tup xs cs h1 h2 ih =>
    intro hy
    simp only [AV.rn]
    rw [rnL_map]
    refine .tup _ _ (by simpa using h1) fun i x v hx hv => ?_
    rw [List.getElem?_map] at hx
    obtain ⟨x0, hx0, rfl⟩ := Option.map_eq_some_iff.1 hx
    exact ih i x0 v hx0 hv (fun l hl => hy l (.tup xs x0 (List.mem_of_getElem? hx0) hl))
  | fn f xs cs h1 h2 ih =>
    intro hy
    simp only [AV.rn]
    rw [rnL_map]
    refine .fn f _ _ (by simpa using h1) fun i x v hx hv => ?_
    rw [List.getElem?_map] at hx
    obtain ⟨x0, hx0, rfl⟩ := Option.map_eq_some_iff.1 hx
    exact ih i x0 v hx0 hv (fun l hl => hy l (.fn f xs x0 (List.mem_of_getElem? hx0) hl))
theorem rn_srel {w : World} {M : Nat → Nat → Prop} {Ow Ow' : Loc → Nat → Option Nat} {κ κ' : Loc} (hk' : κ'.isBlk = true) (hbk : ∀ l b, l ≠ κ' → Ow l 0 = some b → Ow' (swp κ κ' l) 0 = some b) {y : AV} {v : Value} {o : Option Nat} (h : SRel P w M Ow y v o) (hy : ∀ l, Refs l y → l ≠ κ') : SRel P w M Ow' (y.rn κ κ') v o := by
  cases y with
  | own ty xs => exact h
  | raw ty z xs => exact h
  | rtup ty z xs rest => exact h
  | _ => exact rn_vrel (bk := fun l => Ow l 0) (bk' := fun l => Ow' l 0) hk' hbk h hy
def rnS (κ κ' : Loc) (m : Store) : Store := m.map fun p => (swp κ κ' p.1, p.2.rn κ κ')
theorem lk_rnS {κ κ' : Loc} : ∀ {m : Store} {l : Loc} {v' : AV}, lk (rnS κ κ' m) l = some v' → ∃ l0 y, lk m l0 = some y ∧ swp κ κ' l0 = l ∧ v' = y.rn κ κ'
  | [], l, v', h => by cases h
  | (k, u) :: r, l, v', h => by
    have h : lk ((swp κ κ' k, u.rn κ κ') :: rnS κ κ' r) l = some v' := h
    rw [lk_cons] at h
    split at h
    · rename_i e
      obtain rfl := Option.some.inj h
      exact ⟨k, u, lk_self .., e, rfl⟩
    · rename_i e
      obtain ⟨l0, y, h1, h2, h3⟩ := lk_rnS h
      refine ⟨l0, y, ?_, h2, h3⟩
      rw [lk_ne _ _ (fun e' => e (by rw [e']; exact h2))]; exact h1
theorem RelX.ren {Γ : Ctx} {a : Act} {w : World} (h : RelX P Γ n m a w) {κ κ' : Loc} (hL : κ.isL = true) (hL' : κ'.isL = true) (hne : κ ≠ κ') (hno : lk m κ' = none) (hf : refsM κ' m = false) (hp : Γ.pin κ = none) (hp' : Γ.pin κ' = none) : RelX P Γ n (rnS κ κ' m) a w := by
  obtain ⟨M, Ow, hr⟩ := h
  have hk := Loc.isL_blk hL
  have hk' := Loc.isL_blk hL'
  let Ow' : Loc → Nat → Option Nat := fun l i => if l = κ' then Ow κ i else if l = κ then none else Ow l i
  have hs : ∀ l i, l ≠ κ' → Ow' (swp κ κ' l) i = Ow l i := by
    intro l i hl
    by_cases e : κ = l
    · subst e; rw [swp_self]; show (if κ' = κ' then Ow κ i else _) = _; rw [if_pos rfl]
    · rw [swp_ne e]; show (if l = κ' then Ow κ i else if l = κ then none else Ow l i) = _; rw [if_neg hl, if_neg (fun e' => e e'.symm)]
  have hbk : ∀ l b, l ≠ κ' → Ow l 0 = some b → Ow' (swp κ κ' l) 0 = some b := fun l b hl h => by rw [hs l 0 hl]; exact h
  have hrf : ∀ {l0 : Loc} {y : AV}, lk m l0 = some y → ∀ l, Refs l y → l ≠ κ' := fun h1 l hl e => by subst e; exact refsM_lk hf h1 hl
  have hl0 : ∀ {l0 : Loc} {y : AV}, lk m l0 = some y → l0 ≠ κ' := fun h1 e => by subst e; rw [hno] at h1; cases h1
  have back : ∀ l i b, Ow' l i = some b → ∃ l0, Ow l0 i = some b ∧ l0 ≠ κ' ∧ swp κ κ' l0 = l := by
    intro l i b hb
    have hb : (if l = κ' then Ow κ i else if l = κ then none else Ow l i) = some b := hb
    split at hb
    · rename_i e; exact ⟨κ, hb, hne, by rw [swp_self, e]⟩
    · rename_i e1
      split at hb
      · cases hb
      · rename_i e2; exact ⟨l, hb, e1, swp_ne (fun e => e2 e.symm)⟩
  refine ⟨M, Ow', {
    size := hr.size
    defers := hr.defers
    slot := ?_
    blk := ?_
    inj := ?_
    lt := ?_
    mine := ?_
    mlt := hr.mlt
    mold := hr.mold
    mnew := hr.mnew
    fr := hr.fr
    pin := ?_ }⟩
  · intro t v' hv'
    obtain ⟨l0, y, h1, h2, rfl⟩ := lk_rnS hv'
    have e : l0 = .s t := by
      by_cases e : κ = l0
      · subst e; rw [swp_self] at h2; rw [h2] at hL'; cases hL'
      · rw [swp_ne e] at h2; exact h2
    subst e
    have := rn_srel hk' hbk (hr.slot t y h1) (hrf h1)
    rw [← h2, hs _ 0 (hl0 h1)]; exact this
  · intro l v' hl hv'
    obtain ⟨l0, y, h1, h2, rfl⟩ := lk_rnS hv'
    have hl0b : l0.isBlk = true := by
      by_cases e : κ = l0
      · subst e; exact hk
      · rw [swp_ne e] at h2; rw [h2]; exact hl
    obtain ⟨ty, cells, b, cs, rfl, ho, hh, hsz, hn, h3, h4⟩ := hr.blk l0 y hl0b h1
    refine ⟨ty, rnL κ κ' cells, b, cs, rfl, by rw [← h2, hs _ 0 (hl0 h1)]; exact ho, hh, by rw [rnL_map, List.length_map]; exact hsz, hn, h3, ?_⟩
    intro i x v hx hv
    rw [rnL_map, List.getElem?_map] at hx
    obtain ⟨x0, hx0, rfl⟩ := Option.map_eq_some_iff.1 hx
    rw [← h2, hs _ (i + 1) (hl0 h1)]
    exact rn_srel hk' hbk (h4 i x0 v hx0 hv) (fun l hl => hrf h1 l (.blk ty cells x0 (List.mem_of_getElem? hx0) hl))
  · intro l i l' i' b hb hb'
    obtain ⟨l0, h1, _, h3⟩ := back l i b hb
    obtain ⟨l1, h4, _, h6⟩ := back l' i' b hb'
    obtain ⟨e1, e2⟩ := hr.inj _ _ _ _ _ h1 h4
    subst e1
    exact ⟨h3.symm.trans h6, e2⟩
  · intro l i b hb
    obtain ⟨l0, h1, _, _⟩ := back l i b hb
    exact hr.lt _ _ _ h1
  · intro l i b hb
    obtain ⟨l0, h1, _, h3⟩ := back l i b hb
    rcases hr.mine _ _ _ h1 with h | h | ⟨j, e, h⟩
    · exact .inl h
    · exact .inr (.inl h)
    · subst e
      refine .inr (.inr ⟨j, ?_, h⟩)
      rw [swp_ne (fun e => by rw [e] at hL; cases hL)] at h3; exact h3.symm
  · intro l b hl hpl
    have h1 : l ≠ κ' := fun e => by rw [e, hp'] at hpl; cases hpl
    have h2 : l ≠ κ := fun e => by rw [e, hp] at hpl; cases hpl
    show (if l = κ' then Ow κ 0 else if l = κ then none else Ow l 0) = some b
    rw [if_neg h1, if_neg h2]; exact hr.pin l b hl hpl
theorem pin_none {Γ : Ctx} (hΓ : G.ok Γ) {κ : Loc} (h : pinB [κ] G.pins = true) : Γ.pin κ = none := by
  cases hx : Γ.pin κ with
  | none => rfl
  | some b => exact absurd (hΓ.2 κ (by rw [hx]; simp)) (pinB_eq h κ (by simp))
theorem Tr.ren {c : Code} {Q : Exit → Store → Prop} (κ κ' : Loc) (hL : κ.isL = true) (hL' : κ'.isL = true) (hne : κ ≠ κ') (hno : lk m κ' = none) (hf : refsM κ' m = false) (hp : pinB [κ] G.pins = true) (hp' : pinB [κ'] G.pins = true) (k : Tr P G n c (rnS κ κ' m) Q) : Tr P G n c m Q :=
  fun Γ hΓ a w hr => k Γ hΓ a w (hr.ren hL hL' hne hno hf (pin_none hΓ hp) (pin_none hΓ hp'))
structure CPreX (P : Program) (G : World → Prop) (M : Nat → Nat → Prop) (Ow : Loc → Nat → Option Nat) (args : List AV) (H : Store) (cargs : Array Value) (w : World) : Prop where
  size : cargs.size = args.length
  arg : ∀ (i : Nat) (x : AV) (v : Value), args[i]? = some x → cargs[i]? = some v → VRel w M (fun κ => Ow κ 0) x v
  blk : ∀ κ v, lk H κ = some v → BRel P w M Ow κ v
  only : ∀ l i b, Ow l i = some b → l.isL = true ∧ ∃ cs ty, w.heap[b]? = some (.cells cs ty (0, 0))
  inj : ∀ l i l' i' b, Ow l i = some b → Ow l' i' = some b → l = l' ∧ i = i'
  mlt : ∀ b o, M b o → b < w.heap.size
  stab : ∀ w', Fr w (fun b => ∃ l i, Ow l i = some b) M w' → G w'
  base : ∃ w1, G w1 ∧ (∀ b, (∃ l i, Ow l i = some b) → w1.heap.size ≤ b) ∧ w1.heap.size ≤ w.heap.size
structure CPostX (P : Program) (M : Nat → Nat → Prop) (Ow : Loc → Nat → Option Nat) (H : Store) (R : AV → Store → Prop) (w : World) (cv : Value) (w' : World) : Prop where
  fr : Fr w (fun b => ∃ l i, Ow l i = some b) M w'
  res : ∃ (M' : Nat → Nat → Prop) (Ow' : Loc → Nat → Option Nat) (r : AV) (N : Store) (o : Option Nat), R r N ∧ (∀ b k, M b k → M' b k) ∧ (∀ b k, M' b k → M b k ∨ (∃ l i, Ow l i = some b) ∨ w.heap.size ≤ b) ∧ (∀ b k, M' b k → b < w'.heap.size) ∧
    (∀ l i l' i' b, Ow' l i = some b → Ow' l' i' = some b → l = l' ∧ i = i') ∧ (∀ l i b, Ow' l i = some b → b < w'.heap.size ∧ ((∃ l i, Ow l i = some b) ∨ w.heap.size ≤ b)) ∧
    (∀ b, o = some b → b < w'.heap.size ∧ ((∃ l i, Ow l i = some b) ∨ w.heap.size ≤ b) ∧ ∀ l i, lk N l ≠ none → Ow' l i ≠ some b) ∧
    (∀ κ, lk H κ ≠ none → lk N κ ≠ none ∧ Ow' κ 0 = Ow κ 0) ∧ (∀ κ v, lk N κ = some v → κ.isL = true ∧ BRel P w' M' Ow' κ v) ∧ SRel P w' M' Ow' r cv o
def FnX (P : Program) (G : World → Prop) (f : FuncId) (args : List AV) (H : Store) (R : AV → Store → Prop) : Prop :=
  Callable P f ∧ ∀ M Ow w cargs, G w → CPreX P G M Ow args H cargs w → Calls P f cargs w fun e w' => ∃ cv, e = .returned cv ∧ CPostX P M Ow H R w cv w'
def resX (tab : Tab) (m : Store) (rs : List ResultVar) : Option AV := match resO tab m rs with
  | some r => match r.isOwn with
    | true => none
    | false => some r
  | none => match rs with
    | [.cell a t] => match lk m (.s a), tlk tab t with
      | some (.ptr κ 0), some ⟨size, _, kind, _⟩ => match lk m κ with
        | some (.blk _ cells) => match kind.agg, Nat.beq cells.length size with
          | true, true => some (.agg (cells.map AV.deg))
          | _, _ => none
        | _ => none
      | _, _ => none
    | _ => none
theorem resX_own {m : Store} {rs : List ResultVar} {v : AV} (h : resX tab m rs = some v) : v.isOwn = false := by
  unfold resX at h
  split at h
  · split at h
    · cases h
    · rename_i hn; obtain rfl := Option.some.inj h; exact hn
  · split at h
    · split at h
      · split at h
        · split at h
          · obtain rfl := Option.some.inj h; rfl
          · cases h
        · cases h
      · cases h
    · cases h
theorem resX_ok (hT : TabOk P tab) {fn : Func} {v : AV} (h : resX tab m fn.results.toList = some v) {Γ : Ctx} {M : Nat → Nat → Prop} {Ow : Loc → Nat → Option Nat} {a : Act} {w : World} (hr : Rel P Γ M Ow n m a w) :
    ∃ cv, (results fn a.tmps).run P w = .ok cv w ∧ SRel P w M Ow v cv none := by
  have hown := resX_own h
  unfold resX at h
  split at h
  · rename_i r hres
    split at h
    · cases h
    · obtain rfl := Option.some.inj h
      obtain ⟨cv, e1, _, o, e2, _⟩ := resO_ok hT hres hr
      exact ⟨cv, e1, srel_of (vrel_of e2 hown) none⟩
  · split at h
    · rename_i ad t hres
      split at h
      · rename_i κ size by' kind zs ha ht
        split at h
        · rename_i ty cells hκ
          split at h
          · rename_i hagg hlen
            obtain rfl := Option.some.inj h
            have hlen := Nat.eq_of_beq_eq_true hlen
            have hq : VRel w M (fun κ => Ow κ 0) (.ptr κ 0) (a.tmps.getD ad undef) := hr.slot ad _ ha
            obtain ⟨b, hk, hb, hv⟩ : ∃ b, κ.isBlk = true ∧ Ow κ 0 = some b ∧ a.tmps.getD ad undef = .pointer (some ⟨b, 0, none⟩) := by
              generalize a.tmps.getD ad undef = q at hq
              cases hq with | ptr _ _ b hk hb => exact ⟨b, hk, hb, rfl⟩
            obtain ⟨ty0, cells0, b0, cs, e0, ho, hh, hs', hn, h1, hcs⟩ := hr.blk κ _ hk hκ
            obtain ⟨rfl, rfl⟩ : ty = ty0 ∧ cells = cells0 := by injection e0; exact ⟨‹_›, ‹_›⟩
            obtain rfl : b = b0 := by rw [hb] at ho; exact Option.some.inj ho
            have hld := run_loadVar_agg (P := P) (w := w) (b := b) (o := 0) (cs := cs.toList) hT ht hagg (by simp [hs', hlen]) (fun j u hj => by
              rw [Nat.zero_add]
              simp [World.cell?, hh]
              simpa using hj)
            refine ⟨.agg cs.toList.toArray, ?_, ?_⟩
            · have hm : fn.results.mapM (fun x => resV x a.tmps) = (do let l ← fn.results.toList.mapM (fun x => resV x a.tmps); pure l.toArray : Sem (Array Value)) := by
                rw [Array.mapM_eq_mapM_toList]; rfl
              rw [results_eq, hm, hres]
              have h0 : (resV (.cell ad t) a.tmps).run P w = .ok (.agg cs.toList.toArray) w := by
                have e : resV (.cell ad t) a.tmps = (Bind.bind (asAddr (a.tmps.getD ad undef)) fun p => loadVar t p) := rfl
                rw [e, hv]
                exact hld
              simp [List.mapM_cons, h0]
            · refine VRel.agg _ _ (by simp [hs']) (fun i v hv => h1 i v (by simpa using hv)) fun i x v hx hv => ?_
              rw [List.getElem?_map] at hx
              obtain ⟨y, hy, rfl⟩ := Option.map_eq_some_iff.1 hx
              exact deg_vrel (hcs i y v hy (by simpa using hv))
          · cases h
        · cases h
      · cases h
    · cases h
def retX (tab : Tab) (res : List ResultVar) (H : Store) (R : AV → Store → Prop) : Exit → Store → Prop
  | .ret, m => ∃ r N, resX tab m res = some r ∧ R r N ∧ (∀ κ v, lk N κ = some v → κ.isL = true ∧ lk m κ = some v) ∧ ∀ κ, lk H κ ≠ none → lk N κ ≠ none
  | .normal, m => ∃ r N, resX tab m res = some r ∧ R r N ∧ (∀ κ v, lk N κ = some v → κ.isL = true ∧ lk m κ = some v) ∧ ∀ κ, lk H κ ≠ none → lk N κ ≠ none
  | _, _ => False
theorem FnX.of {G : World → Prop} {f : FuncId} {fn : Func} {c : Code} {args : List AV} {H : Store} {R : AV → Store → Prop} (pins : List Loc) (hT : TabOk P tab) (hf : P.funcs[f]? = some fn) (hb : fn.body = some c) (hname : (fn.name == "runtime.NumGoroutine") = false)
    (hargs : args.length ≤ fn.ntmps) (hn : fn.ntmps = n) (hH : ∀ κ v, lk H κ = some v → κ.isBlk = true ∧ κ ∈ pins) (h : Tr P ⟨G, pins⟩ n c (entryS args 0 H) (retX tab fn.results.toList H R)) : FnX P G f args H R := by
  subst hn
  refine ⟨⟨fn, hf, hname, by rw [hb]; rfl⟩, fun M Ow w cargs hgw hp => ?_⟩
  refine (callsIn_wide (n := 0)).1 (callsIn_of_wp_marks hf hb trivial ?_ rfl)
  classical
  let Γ : Ctx := ⟨w, fun b => ∃ l i, Ow l i = some b, M, fun _ => False, G, hp.stab, [], none, (fun l h => by cases h), fun κ => if lk H κ = none then none else Ow κ 0, hp.base⟩
  have hsz : cargs.size ≤ fn.ntmps := by rw [hp.size]; exact hargs
  have hlt : ∀ l i b, Ow l i = some b → b < w.heap.size := fun l i b hb => by
    obtain ⟨_, cs, ty, h⟩ := hp.only l i b hb
    exact (Array.getElem?_eq_some_iff.1 h).1
  have hr : RelX P Γ fn.ntmps (entryS args 0 H) { tmps := cargs ++ Array.replicate (fn.ntmps - cargs.size) undef, defers := [] } w := by
    refine ⟨M, Ow, {
      size := by simp; omega
      defers := ⟨[], rfl, List.nodup_nil, fun D h => by cases h⟩
      slot := ?_
      blk := ?_
      inj := hp.inj
      lt := hlt
      mine := fun l i b hb => .inl ⟨l, i, hb⟩
      mlt := hp.mlt
      mold := fun b o h => h
      mnew := fun b o h => .inl h
      pin := fun κ b hk h => by
        have h : (if lk H κ = none then none else Ow κ 0) = some b := h
        split at h
        · cases h
        · exact h
      fr := ⟨rfl, rfl, rfl, Nat.le_refl _, fun _ _ _ => rfl, fun b cs ty z h => ⟨cs, h, rfl⟩, fun _ _ _ => rfl⟩ }⟩
    · intro t v hv
      obtain ⟨_, h2⟩ := lk_entry (fun κ v h => (hH κ v h).1) hv
      simp only [Nat.sub_zero] at h2
      have hlt : t < cargs.size := by
        rw [hp.size]
        rcases Nat.lt_or_ge t args.length with h | h
        · exact h
        · rw [List.getElem?_eq_none h] at h2; cases h2
      have : (cargs ++ Array.replicate (fn.ntmps - cargs.size) undef).getD t undef = cargs[t] := by
        rw [Array.getD_eq_getD_getElem?, Array.getElem?_append_left hlt]; simp [hlt]
      show SRel P w M Ow v ((cargs ++ Array.replicate (fn.ntmps - cargs.size) undef).getD t undef) _
      rw [this]
      exact srel_of (hp.arg t v _ h2 (by simp [hlt])) _
    · intro κ v hk hv
      rw [lk_entry_blk hk] at hv
      exact hp.blk κ v hv
  refine Go.wpIn_mono (F := FW none) (h Γ ⟨rfl, fun κ h => by
    have h : (if lk H κ = none then none else Ow κ 0) ≠ none := h
    split at h
    · exact absurd rfl h
    · rename_i h2
      obtain ⟨v, hv⟩ := Option.ne_none_iff_exists'.1 h2
      exact (hH κ v hv).2⟩ _ w hr) fun e a' w' hq => ?_
  obtain ⟨m', hq, M', Ow', hr'⟩ := hq
  have fin : (∃ r N, resX tab m' fn.results.toList = some r ∧ R r N ∧ (∀ κ v, lk N κ = some v → κ.isL = true ∧ lk m' κ = some v) ∧ ∀ κ, lk H κ ≠ none → lk N κ ≠ none) → LeavesInM (FW none) 0 P fn a'.tmps (fun e w' => ∃ cv, e = .returned cv ∧ CPostX P M Ow H R w cv w') a'.defers .returning w' := by
    rintro ⟨r, N, h1, h2, hN1, hN2⟩
    obtain ⟨Ds, hd1, hd2, hd3⟩ := hr'.defers
    have key : ∀ (Ds : List Nat) (a' : Act) (w' : World), Rel P Γ M' Ow' fn.ntmps m' a' w' → a'.defers = Ds.map markD → Ds.Nodup → (∀ D, D ∈ Ds → w.heap.size ≤ D ∧ w'.heap[D]? = some (.deferred (some []))) →
        LeavesInM (FW none) 0 P fn a'.tmps (fun e w' => ∃ cv, e = .returned cv ∧ CPostX P M Ow H R w cv w') (Ds.map markD) .returning w' := by
      intro Ds
      induction Ds with
      | nil =>
        intro a' w' hr' hd _ _
        obtain ⟨cv, e1, e2⟩ := resX_ok hT h1 hr'
        have mine : ∀ l i b, Ow' l i = some b → (∃ l i, Ow l i = some b) ∨ w.heap.size ≤ b := fun l i b hb => by
          rcases hr'.mine l i b hb with h | h | ⟨j, _, h⟩
          · exact .inl h
          · exact .inr h
          · exact h.elim
        refine ⟨cv, e1, cv, rfl, ⟨hr'.fr, M', Ow', r, N, none, h2, hr'.mold, ?_, hr'.mlt, hr'.inj, fun l i b hb => ⟨hr'.lt l i b hb, mine l i b hb⟩, (fun b e => nomatch e), ?_, ?_, e2⟩⟩
        · intro b k hb
          rcases hr'.mnew b k hb with h | h | h
          · exact .inl h
          · exact .inr (.inl h)
          · exact .inr (.inr h)
        · intro κ hκ
          refine ⟨hN2 κ hκ, ?_⟩
          obtain ⟨v, hv⟩ := Option.ne_none_iff_exists'.1 hκ
          obtain ⟨ty, cells, b, cs, rfl, ho, _⟩ := hp.blk κ v hv
          rw [ho]
          exact hr'.pin κ b (hH κ _ hv).1 (show (if lk H κ = none then none else Ow κ 0) = some b by rw [if_neg hκ]; exact ho)
        · intro κ v hv
          obtain ⟨q1, q2⟩ := hN1 κ v hv
          exact ⟨q1, hr'.blk κ v (Loc.isL_blk q1) q2⟩
      | cons D Ds ih =>
        intro a' w' hr' hd hn hD
        refine ⟨by simp, .inl ⟨D, _, rfl, run_takeDeferred (hD D (List.mem_cons_self ..)).2, ?_⟩⟩
        have hr2 := hr'.drop hn hD
        rw [List.append_nil] at hr2
        exact ih { a' with defers := Ds.map markD } _ hr2 rfl (List.nodup_cons.1 hn).2 (fun d hd => ⟨(hD d (List.mem_cons_of_mem _ hd)).1, (World.putObj_heap_other (fun (e : d = D) => (List.nodup_cons.1 hn).1 (by rw [← e]; exact hd))).trans (hD d (List.mem_cons_of_mem _ hd)).2⟩)
    rw [List.append_nil] at hd1
    rw [hd1]
    exact key Ds a' w' hr' hd1 hd2 hd3
  cases e with
  | ret => exact fin hq
  | normal => exact fin hq
  | _ => exact hq.elim
end
end Go.Lg

set_option linter.unusedVariables false
set_option linter.unusedSimpArgs false
namespace Go.Lg
open Go Go.RowKit
section
variable {P : Program} {G : Env} {n : Nat} {tab : Tab} {m : Store}
def owX (H : Store) (Ow : Loc → Nat → Option Nat) (l : Loc) (i : Nat) : Option Nat := match lk H l, i with
  | some _, 0 => Ow l 0
  | _, _ => none
theorem owX_some {H : Store} {Ow : Loc → Nat → Option Nat} {l : Loc} {i b : Nat} (h : owX H Ow l i = some b) : (∃ v, lk H l = some v) ∧ i = 0 ∧ Ow l 0 = some b := by
  unfold owX at h
  split at h
  · rename_i v e; exact ⟨⟨v, e⟩, rfl, h⟩
  · cases h
theorem owX_of {H : Store} {Ow : Loc → Nat → Option Nat} {l : Loc} {v : AV} (h : lk H l = some v) : owX H Ow l 0 = Ow l 0 := by unfold owX; simp only [h]
def owY (H : Store) (Ow Ow' : Loc → Nat → Option Nat) (l : Loc) (i : Nat) : Option Nat := match lk H l with
  | some _ => Ow' l i
  | none => Ow l i
theorem owY_t {H : Store} {Ow Ow' : Loc → Nat → Option Nat} {l : Loc} {i : Nat} {v : AV} (h : lk H l = some v) : owY H Ow Ow' l i = Ow' l i := by unfold owY; rw [h]
theorem owY_f {H : Store} {Ow Ow' : Loc → Nat → Option Nat} {l : Loc} {i : Nat} (h : lk H l = none) : owY H Ow Ow' l i = Ow l i := by unfold owY; rw [h]
theorem Rel.afterX {Γ : Ctx} {M M' : Nat → Nat → Prop} {Ow Ow' : Loc → Nat → Option Nat} {a : Act} {w w' : World} {H N : Store} (h : Rel P Γ M Ow n m a w) (hH : ∀ κ v, lk H κ = some v → κ.isL = true ∧ lk m κ = some v)
    (hfr : Fr w (fun b => ∃ l i, owX H Ow l i = some b) M w') (hM : ∀ b k, M b k → M' b k) (hM2 : ∀ b k, M' b k → M b k ∨ (∃ l i, owX H Ow l i = some b) ∨ w.heap.size ≤ b) (hM3 : ∀ b k, M' b k → b < w'.heap.size)
    (hinj : ∀ l i l' i' b, Ow' l i = some b → Ow' l' i' = some b → l = l' ∧ i = i') (hlt : ∀ l i b, Ow' l i = some b → b < w'.heap.size ∧ ((∃ l i, owX H Ow l i = some b) ∨ w.heap.size ≤ b))
    (hkeep : ∀ κ, lk H κ ≠ none → lk N κ ≠ none ∧ Ow' κ 0 = owX H Ow κ 0) (hblk : ∀ κ v, lk N κ = some v → κ.isL = true ∧ BRel P w' M' Ow' κ v)
    (hNH : ∀ κ v, lk N κ = some v → lk H κ ≠ none) (hcl : ∀ κ ty cells, lk N κ = some (.blk ty cells) → ∀ x, x ∈ cells → ∀ κ', Refs κ' x → lk H κ' ≠ none) :
    Rel P Γ M' (owY H Ow Ow') n (N ++ m) a w' := by
  have some_of : ∀ {l : Loc}, lk H l ≠ none → ∃ v, lk H l = some v := fun h => Option.ne_none_iff_exists'.1 h
  have hm : ∀ b o, M b o → M' b o ∧ w'.cell? ⟨b, o, none⟩ = w.cell? ⟨b, o, none⟩ := fun b o hb => ⟨hM b o hb, hfr.keep b o hb⟩
  -- a block that isn't handed in
  have out : ∀ l i b, Ow l i = some b → lk H l = none → ¬ ∃ l i, owX H Ow l i = some b := by
    rintro l i b hb hn ⟨l2, i2, h2⟩
    obtain ⟨⟨v, e1⟩, e2, e3⟩ := owX_some h2
    obtain ⟨rfl, _⟩ := h.inj _ _ _ _ _ hb e3
    rw [hn] at e1; cases e1
  have inn : ∀ b, (∃ l i, owX H Ow l i = some b) → Γ.own0 b ∨ Γ.w0.heap.size ≤ b := by
    rintro b ⟨l, i, h2⟩
    obtain ⟨⟨v, e1⟩, e2, e3⟩ := owX_some h2
    rcases h.mine l 0 b e3 with h' | h' | ⟨j, rfl, _⟩
    · exact .inl h'
    · exact .inr h'
    · have := (hH _ _ e1).1; cases this
  have hpt : ∀ κ b, Ow κ 0 = some b → owY H Ow Ow' κ 0 = some b := by
    intro κ b hb
    cases e : lk H κ with
    | none => rw [owY_f e]; exact hb
    | some v => rw [owY_t e, (hkeep κ (by rw [e]; simp)).2, owX_of e]; exact hb
  have hown : ∀ l i b, lk H l = none → Ow l i = some b → owY H Ow Ow' l i = some b ∧ (∀ (cs : Array Value) (ty : TypeId), w.heap[b]? = some (Obj.cells cs ty (0, 0)) → w'.heap[b]? = some (Obj.cells cs ty (0, 0))) ∧ (∀ k, M' b k → M b k) := by
    intro l i b hn hb
    have hlt' := h.lt l i b hb
    have ho := out l i b hb hn
    refine ⟨by rw [owY_f hn]; exact hb, fun cs ty hh => (hfr.block b hlt' ho).trans hh, fun k hk => ?_⟩
    rcases hM2 b k hk with h' | h' | h'
    · exact h'
    · exact absurd h' ho
    · omega
  have lkN : ∀ l, lk N l = none → lk (N ++ m) l = lk m l := fun l e => by rw [lk_app, e]
  have lkS : ∀ l v, lk N l = some v → lk (N ++ m) l = some v := fun l v e => by rw [lk_app, e]
  refine {
    size := h.size
    defers := h.defers.imp fun Ds hd => ⟨hd.1, hd.2.1, fun D hmem => ⟨(hd.2.2 D hmem).1, ?_⟩⟩
    slot := ?_
    blk := ?_
    inj := ?_
    lt := ?_
    mine := ?_
    mlt := hM3
    mold := fun b o hb => hM _ _ (h.mold b o hb)
    mnew := ?_
    pin := fun κ b hk hp => hpt κ b (h.pin κ b hk hp)
    fr := ?_ }
  · have hD := (hd.2.2 D hmem).2
    refine (hfr.block D (Array.getElem?_eq_some_iff.1 hD).1 ?_).trans hD
    rintro ⟨l, i, h2⟩
    obtain ⟨⟨v, e1⟩, e2, e3⟩ := owX_some h2
    obtain ⟨q1, q2⟩ := hH _ _ e1
    obtain ⟨ty, cells, b, cs, rfl, ho, hh, _⟩ := h.blk l v (Loc.isL_blk q1) q2
    obtain rfl : D = b := Option.some.inj (e3.symm.trans ho)
    rw [hh] at hD; cases hD
  · intro t v hv
    have hn : lk N (.s t) = none := by
      cases e : lk N (.s t) with
      | none => rfl
      | some v' => have := (hblk _ _ e).1; cases this
    have hn' : lk H (.s t) = none := by
      cases e : lk H (.s t) with
      | none => rfl
      | some v' => have := (hH _ _ e).1; cases this
    rw [lkN _ hn] at hv
    exact (h.slot t v hv).mono hm (fun κ b _ _ hb => hpt κ b hb) (fun b hb => hown _ _ b hn' hb)
  · intro κ v hk hv
    cases e : lk N κ with
    | some v' =>
      rw [lkS _ _ e] at hv
      obtain rfl := Option.some.inj hv
      obtain ⟨v0, e0⟩ := some_of (hNH κ _ e)
      obtain ⟨ty, cells, b, cs, rfl, ho, hh, hs, hn, h1, hc⟩ := (hblk κ _ e).2
      refine ⟨ty, cells, b, cs, rfl, by rw [owY_t e0]; exact ho, hh, hs, hn, h1, fun i y u hy hu => ?_⟩
      rw [owY_t e0]
      refine (hc i y u hy hu).mono (fun b k h => ⟨h, rfl⟩) (fun κ' b' _ hr hb => ?_) (fun b hb => ⟨hb, fun cs ty h => h, fun k h => h⟩)
      obtain ⟨v1, e1⟩ := some_of (hcl κ ty cells e y (List.mem_of_getElem? hy) κ' hr)
      rw [owY_t e1]; exact hb
    | none =>
      rw [lkN _ e] at hv
      have e0 : lk H κ = none := by
        cases e0 : lk H κ with
        | none => rfl
        | some v0 => exact absurd e (hkeep κ (by rw [e0]; simp)).1
      obtain ⟨ty, cells, b, cs, rfl, ho, hh, hs, hn, h1, hc⟩ := h.blk κ v hk hv
      obtain ⟨q1, q2, q3⟩ := hown κ 0 b e0 ho
      exact ⟨ty, cells, b, cs, rfl, q1, q2 _ _ hh, hs, fun o hm' => hn o (q3 o hm'), h1, fun i y u hy hu => (hc i y u hy hu).mono hm (fun κ b _ _ hb => hpt κ b hb) (fun b hb => hown _ _ b e0 hb)⟩
  · intro l i l' i' b hb hb'
    have mix : ∀ {l i l' i'}, Ow' l i = some b → lk H l' = none → Ow l' i' = some b → False := by
      intro l i l' i' h1 h2 h3
      rcases (hlt l i b h1).2 with h4 | h4
      · exact out _ _ _ h3 h2 h4
      · have := h.lt _ _ _ h3; omega
    cases e : lk H l with
    | some v =>
      rw [owY_t e] at hb
      cases e' : lk H l' with
      | some v' => rw [owY_t e'] at hb'; exact hinj _ _ _ _ _ hb hb'
      | none => rw [owY_f e'] at hb'; exact (mix hb e' hb').elim
    | none =>
      rw [owY_f e] at hb
      cases e' : lk H l' with
      | some v' => rw [owY_t e'] at hb'; exact (mix hb' e hb).elim
      | none => rw [owY_f e'] at hb'; exact h.inj _ _ _ _ _ hb hb'
  · intro l i b hb
    cases e : lk H l with
    | some v => rw [owY_t e] at hb; exact (hlt l i b hb).1
    | none => rw [owY_f e] at hb; exact Nat.lt_of_lt_of_le (h.lt l i b hb) hfr.size
  · intro l i b hb
    cases e : lk H l with
    | some v =>
      rw [owY_t e] at hb
      rcases (hlt l i b hb).2 with h' | h'
      · rcases inn b h' with h' | h'
        · exact .inl h'
        · exact .inr (.inl h')
      · exact .inr (.inl (Nat.le_trans h.fr.size h'))
    | none => rw [owY_f e] at hb; exact h.mine l i b hb
  · intro b o hb
    rcases hM2 b o hb with h' | h' | h'
    · exact h.mnew b o h'
    · rcases inn b h' with h' | h'
      · exact .inr (.inl h')
      · exact .inr (.inr h')
    · exact .inr (.inr (Nat.le_trans h.fr.size h'))
  · refine ⟨hfr.os.trans h.fr.os, hfr.tape.trans h.fr.tape, hfr.output.trans h.fr.output, Nat.le_trans h.fr.size hfr.size, fun b hb ho => ?_, ?_, fun b o hb => (hm b o (h.mold b o hb)).2.trans (h.fr.keep b o hb)⟩
    · refine (hfr.block b (Nat.lt_of_lt_of_le hb h.fr.size) fun h' => ?_).trans (h.fr.block b hb ho)
      rcases inn b h' with h' | h'
      · exact ho h'
      · omega
    · intro b cs ty z hz
      obtain ⟨cs', h1, h2⟩ := h.fr.shape b cs ty z hz
      obtain ⟨cs'', h3, h4⟩ := hfr.shape b cs' ty z h1
      exact ⟨cs'', h3, h4.trans h2⟩
def evCallX (n : Nat) (ops : List Oper) (o : Oper) (m : Store) : Option (FuncId × List AV × Option Nat) := match o.op with
  | .call ⟨.value fo, args, _⟩ => match gOk m ops o.guard with
    | true => match opV m fo with
      | some (.fn f caps) => match opsV m args.toList with
        | some vs => match appL (vs.map AV.deg) caps with
          | some all => match o.dst with
            | some d => match Nat.blt d n with
              | true => some (f, all, some d)
              | false => none
            | none => some (f, all, none)
          | none => none
        | none => none
      | _ => none
    | false => none
  | _ => none
theorem Sq.callX {ops l : List Oper} {o : Oper} {f : FuncId} {args : List AV} {d : Option Nat} {H : Store} {R : AV → Store → Prop} {K : Store → Prop} (h : evCallX n ops o m = some (f, args, d))
    (hH : ∀ κ v, lk H κ = some v → κ.isL = true ∧ lk m κ = some v) (hcells : ∀ κ ty cells, lk H κ = some (.blk ty cells) → ∀ x, x ∈ cells → x.isOwn = false ∧ ∀ κ', Refs κ' x → lk H κ' ≠ none)
    (hargs : ∀ x, x ∈ args → ∀ κ, Refs κ x → lk H κ ≠ none) (hf : FnX P G.st f args H R)
    (hR : ∀ r N, R r N → (r.isOwn = false ∧ ∀ κ, ¬ Refs κ r) ∧ (∀ κ v, lk N κ = some v → lk H κ ≠ none) ∧ ∀ κ ty cells, lk N κ = some (.blk ty cells) → ∀ x, x ∈ cells → ∀ κ', Refs κ' x → lk H κ' ≠ none)
    (k : ∀ r N, R r N → Sq P G n ops l (putO d r (N ++ m)) K) : Sq P G n ops (o :: l) m K := by
  obtain ⟨dst, op, type, pos, after, guard⟩ := o
  unfold evCallX at h
  simp only at h
  split at h
  · rename_i fo cargs ats
    split at h
    · rename_i hg
      split at h
      · rename_i f' caps hfo
        split at h
        · rename_i vs hvs
          rw [appL_eq] at h
          simp only at h
          obtain ⟨vs', hmap⟩ : ∃ vs', vs' = vs.map AV.deg := ⟨_, rfl⟩
          rw [← hmap] at h
          have hd : d = dst ∧ f' = f ∧ vs' ++ caps = args ∧ ∀ d', dst = some d' → d' < n := by
            cases dst with
            | none => simp only [Option.some.injEq, Prod.mk.injEq] at h; obtain ⟨h1, h2, h4⟩ := h; exact ⟨h4.symm, h1, h2, fun d' e => by cases e⟩
            | some d0 =>
              simp only at h
              split at h
              · rename_i hlt
                simp only [Option.some.injEq, Prod.mk.injEq] at h; obtain ⟨h1, h2, h4⟩ := h
                exact ⟨h4.symm, h1, h2, fun d' e => by obtain rfl := Option.some.inj e; exact Nat.lt_of_succ_le (Nat.le_of_ble_eq_true hlt)⟩
              · cases h
          obtain ⟨rfl, rfl, rfl, hdn⟩ := hd
          clear h
          obtain ⟨⟨fn, hfn, hname, hbody⟩, hcalls⟩ := hf
          intro Γ hΓ a w hr Q hQ
          obtain ⟨M, Ow, hr⟩ := hr
          have hw : Region.wanted (⟨d, .call ⟨.value fo, cargs, ats⟩, type, pos, after, guard⟩ : Oper) (yielded ops.toArray a.tmps) = true := by
            unfold gOk at hg
            split at hg
            · simp [Region.wanted]
            · rename_i j want
              split at hg
              · rename_i g hgd
                split at hg
                · rename_i v hv
                  split at hg
                  · rename_i b hs
                    simp only [Region.wanted]; rw [yielded_of hgd hr hv hs]; exact hg
                  · cases hg
                · cases hg
              · cases hg
          obtain ⟨qf, hqf⟩ := opV_ok hfo hr
          have hqf : VRel w M (fun κ => Ow κ 0) (.fn f' caps) (a.eval fo) := hqf
          obtain ⟨cs, hfv, hcsz, hcs⟩ : ∃ cs : Array Value, a.eval fo = .func (.func f') #[] cs ∧ cs.size = caps.length ∧ ∀ (i : Nat) (x : AV) (v : Value), caps[i]? = some x → cs[i]? = some v → VRel w M (fun κ => Ow κ 0) x v := by
            generalize a.eval fo = q at hqf
            cases hqf with | fn _ _ cs h1 h2 => exact ⟨cs, rfl, h1, h2⟩
          obtain ⟨hvl, hvr⟩ := opsV_ok (P := P) (n := n) hvs
          have hvl' : vs'.length = vs.length := by rw [hmap]; simp
          have hrun : (execOp a.eval (⟨d, .call ⟨.value fo, cargs, ats⟩, type, pos, after, guard⟩ : Oper)).run P w = .ok (.enter f' (cargs.map a.eval ++ cs)) w := by
            have hname' : ¬ fn.name = "runtime.NumGoroutine" := by simpa using hname
            have hbody' : ¬ fn.body = none := fun e => by rw [e] at hbody; cases hbody
            simp [execOp, resolve, Deferred.ofValue, hfv, invoke, callFunc, hfn, hname', hbody']
          have hsz : (cargs.map a.eval ++ cs).size = (vs' ++ caps).length := by simp [hvl', hvl, hcsz]
          have hall : ∀ (i : Nat) (x : AV) (v : Value), (vs' ++ caps)[i]? = some x → (cargs.map a.eval ++ cs)[i]? = some v → VRel w M (fun κ => Ow κ 0) x v := by
            intro i x v hx hv
            rcases Nat.lt_or_ge i vs'.length with hi | hi
            · rw [List.getElem?_append_left hi, hmap, List.getElem?_map] at hx
              obtain ⟨x', hx', rfl⟩ := Option.map_eq_some_iff.1 hx
              rw [Array.getElem?_append_left (by simp; rw [← Array.length_toList, ← hvl, ← hvl']; exact hi), Array.getElem?_map] at hv
              obtain ⟨y, hy, rfl⟩ := Option.map_eq_some_iff.1 hv
              obtain ⟨o, ho⟩ := hvr hr i x' y hx' (by simpa using hy)
              exact deg_vrel ho
            · rw [List.getElem?_append_right hi] at hx
              rw [Array.getElem?_append_right (by simp; rw [← Array.length_toList, ← hvl, ← hvl']; exact hi)] at hv
              exact hcs _ x v hx (by simpa [hvl, hvl'] using hv)
          have toX : ∀ {x : AV} {v : Value}, (∀ κ, Refs κ x → lk H κ ≠ none) → VRel w M (fun κ => Ow κ 0) x v → VRel w M (fun κ => owX H Ow κ 0) x v := by
            intro x v hx hv
            refine hv.mono (fun b k h => ⟨h, rfl⟩) (fun κ b _ hr' hb => ?_)
            obtain ⟨v', e⟩ := Option.ne_none_iff_exists'.1 (hx κ hr')
            rw [owX_of e]; exact hb
          have hpre : CPreX P G.st M (owX H Ow) (vs' ++ caps) H (cargs.map a.eval ++ cs) w := {
            size := hsz
            arg := fun i x v hx hv => toX (hargs x (List.mem_of_getElem? hx)) (hall i x v hx hv)
            blk := by
              intro κ v hv
              obtain ⟨hL, hm⟩ := hH κ v hv
              obtain ⟨ty, cells, b, cs0, rfl, ho, hh, hs, hn, h1, hc⟩ := hr.blk κ _ (Loc.isL_blk hL) hm
              exact ⟨ty, cells, b, cs0, rfl, by rw [owX_of hv]; exact ho, hh, hs, hn, h1, fun i y u hy hu => by
                obtain ⟨q1, q2⟩ := hcells κ ty cells hv y (List.mem_of_getElem? hy)
                exact srel_of (toX q2 (vrel_of (hc i y u hy hu) q1)) _⟩
            only := by
              intro l i b hb
              obtain ⟨⟨v, e1⟩, e2, e3⟩ := owX_some hb
              obtain ⟨hL, hm⟩ := hH l v e1
              obtain ⟨ty, cells, b', cs0, rfl, ho, hh, _⟩ := hr.blk l _ (Loc.isL_blk hL) hm
              obtain rfl : b = b' := Option.some.inj (e3.symm.trans ho)
              exact ⟨hL, cs0, ty, hh⟩
            inj := by
              intro l i l' i' b hb hb'
              obtain ⟨_, e2, e3⟩ := owX_some hb
              obtain ⟨_, e2', e3'⟩ := owX_some hb'
              subst e2; subst e2'
              exact hr.inj _ _ _ _ _ e3 e3'
            mlt := hr.mlt
            stab := by
              intro w' hfr
              rw [← hΓ.1]
              refine Γ.stab w' ?_
              have inn : ∀ b, (∃ l i, owX H Ow l i = some b) → Γ.own0 b ∨ Γ.w0.heap.size ≤ b := by
                rintro b ⟨l, i, h2⟩
                obtain ⟨⟨v, e1⟩, e2, e3⟩ := owX_some h2
                rcases hr.mine l 0 b e3 with h' | h' | ⟨j, rfl, _⟩
                · exact .inl h'
                · exact .inr h'
                · have := (hH _ _ e1).1; cases this
              refine ⟨hfr.os.trans hr.fr.os, hfr.tape.trans hr.fr.tape, hfr.output.trans hr.fr.output, Nat.le_trans hr.fr.size hfr.size, fun b hb ho => ?_, ?_, fun b o hb => (hfr.keep b o (hr.mold b o hb)).trans (hr.fr.keep b o hb)⟩
              · refine (hfr.block b (Nat.lt_of_lt_of_le hb hr.fr.size) fun h' => ?_).trans (hr.fr.block b hb ho)
                rcases inn b h' with h' | h'
                · exact ho h'
                · omega
              · intro b cs ty z hz
                obtain ⟨cs', h1, h2⟩ := hr.fr.shape b cs ty z hz
                obtain ⟨cs'', h3, h4⟩ := hfr.shape b cs' ty z h1
                exact ⟨cs'', h3, h4.trans h2⟩
            base := by
              obtain ⟨w1, g1, g2, g3⟩ := Γ.base
              refine ⟨w1, hΓ.1 ▸ g1, ?_, Nat.le_trans g3 hr.fr.size⟩
              rintro b ⟨l, i, h2⟩
              obtain ⟨⟨v, e1⟩, e2, e3⟩ := owX_some h2
              rcases hr.mine l 0 b e3 with h' | h' | ⟨j, rfl, _⟩
              · exact g2 b h'
              · omega
              · have := (hH _ _ e1).1; cases this }
          have hc := hcalls M _ w _ (hΓ.1 ▸ Γ.stab w hr.fr) hpre
          unfold wpListIn
          rw [if_pos hw]
          refine ⟨fun _ _ => trivial, ?_⟩
          rw [show (FW Γ.rd).round = Γ.rd from rfl, semAt_of Γ.rd hrun (fun d e => by cases e), Oper.uponIn_enter]
          refine ⟨fun h => Bool.noConfusion (show false = true from h), FW.calls (hc.mono ?_)⟩
          rintro e w' ⟨cv, rfl, hfr, M', Ow', r, N, o, hRN, hM, hM2, hM3, hinj, hlt, ho, hkeep, hblk, hs⟩
          obtain ⟨⟨hro, hrr⟩, hNH, hcl⟩ := hR r N hRN
          have hr' := hr.afterX hH hfr hM hM2 hM3 hinj hlt hkeep hblk hNH hcl
          refine k r N hRN Γ hΓ _ w' ?_ Q hQ
          cases d with
          | none => exact ⟨M', _, hr'⟩
          | some d' =>
            have hd' := hdn d' rfl
            have hv : VRel w' M' (fun κ => owY H Ow Ow' κ 0) r cv := (vrel_of hs hro).mono (fun b k h => ⟨h, rfl⟩) (fun κ b _ hr' _ => absurd hr' (hrr κ))
            exact ⟨M', _, hr'.put hd' hv⟩
        · cases h
      · cases h
    · cases h
  · cases h
end
end Go.Lg

set_option linter.unusedVariables false
set_option linter.unusedSimpArgs false
namespace Go.Lg.Tryz
open Go Go.Proofs Go.RowKit Go.Lib Go.Lg.Sem
theorem len64_ok (g : BitVec 64) : Fn Tryz.prog Gw 101 [u64 g] [] (· = int (Lib.bitLen g.toNat)) :=
  Fn.of_calls Tryz.func101 rfl rfl rfl rfl fun w hG => (Tryz.bits_Len64 (g.toNat : Int) w (by omega) (by have := g.isLt; omega)).mono fun e w' ⟨he, hw⟩ => ⟨he, by subst hw; exact Below.refl _ _⟩
theorem inside_ok (n : Nat) (es : List (Nat × Nat)) (g : BitVec 64) (hn : n ≤ 64) (hl : es.length ≤ 4096) (hp : ∀ p, p ∈ es → p.1 < n ∧ p.2 < n) (hg : ∀ j, n ≤ j → g.getLsbD j = false) : Fn Tryz.prog Gw 88 [.tr (grT n es), u64 g] [] (· = int 0) := by
  have hC := gCheck_ok n es hn hl hp
  have hL := len64_ok g
  have hle : Lib.bitLen g.toNat ≤ n := Lib.bitLen_le _ n hn (Nat.lt_pow_two_of_testBit _ hg)
  generalize Lib.bitLen g.toNat = L at *
  refine Fn.of tab_ok Tryz.func88 rfl (by decide) (by simp [Tryz.f88]) rfl (fun κ v h => by cases h) Gw.below ?_
  repeat' (first|refine zS ?_|refine zR ?_|refine zE tab_ok rfl rfl ?_|refine zN ?_|(refine zG rfl rfl (fun _ => ?_) fun _ => ?_)<;>refine zE tab_ok rfl rfl ?_|(refine zC rfl (fun _ => ?_) fun _ => ?_)<;>try (rename_i h; cases h; done)|refine zB ?_|refine zK ?_|refine zZ ⟨_, rfl, ?_⟩)
  refine Sq.callv rfl (hC) ?_
  repeat' (first|refine zS ?_|refine zR ?_|refine zE tab_ok rfl rfl ?_|refine zN ?_|(refine zG rfl rfl (fun _ => ?_) fun _ => ?_)<;>refine zE tab_ok rfl rfl ?_|(refine zC rfl (fun _ => ?_) fun _ => ?_)<;>try (rename_i h; cases h; done)|refine zB ?_|refine zK ?_|refine zZ ⟨_, rfl, ?_⟩)
  refine Tr.drawn ( zD tab_ok rfl rfl <| zD tab_ok rfl rfl <| zD tab_ok rfl rfl <| zD tab_ok rfl rfl <| DSq.call rfl (fun _ => rfl) (hL) <| zD tab_ok rfl rfl <| zD tab_ok rfl rfl <| DSq.evr tab_ok rfl (congrArg bool (decide_eq_false (show ¬ ((L : Int) > (n : Int)) by omega))) <| zD tab_ok rfl rfl <| DSq.nil _) mix_ok rfl ?_
  repeat' (first|refine zS ?_|refine zR ?_|refine zE tab_ok rfl rfl ?_|refine zN ?_|(refine zG rfl rfl (fun _ => ?_) fun _ => ?_)<;>refine zE tab_ok rfl rfl ?_|(refine zC rfl (fun _ => ?_) fun _ => ?_)<;>try (rename_i h; cases h; done)|refine zB ?_|refine zK ?_|refine zZ ⟨_, rfl, ?_⟩)
  rfl
theorem closedB_t {n : Nat} {es : List (Nat × Nat)} {g : BitVec 64} (hn : n ≤ 64) (hp : ∀ p, p ∈ es → p.1 < n ∧ p.2 < n) (h : ∀ i a, (aheadV n es)[i]? = some a → g.getLsbD i = true → a &&& ~~~g = 0#64) : closedB es g = true := by
  unfold closedB
  rw [List.all_eq_true]
  intro p hpm
  cases h2 : g.getLsbD p.2
  · rfl
  · obtain ⟨p1, p2⟩ := hp p hpm
    obtain ⟨a, ha⟩ : ∃ a, (aheadV n es)[p.2]? = some a := ⟨_, List.getElem?_eq_getElem (by rw [ahead_len]; exact p2)⟩
    have h0 := h p.2 a ha h2
    have hb : a.getLsbD p.1 = true := by
      rw [ahead_bit n hn es hp p.2 a ha, List.any_eq_true]
      exact ⟨p, hpm, by simp⟩
    have := congrArg (fun x : BitVec 64 => x.getLsbD p.1) h0
    simp [hb] at this
    simp [this (by omega)]
theorem closedB_f {n : Nat} {es : List (Nat × Nat)} {g : BitVec 64} (hn : n ≤ 64) (hp : ∀ p, p ∈ es → p.1 < n ∧ p.2 < n) {i : Nat} {a : BitVec 64} (ha : (aheadV n es)[i]? = some a) (hi : g.getLsbD i = true) (h : a &&& ~~~g ≠ 0#64) : closedB es g = false := by
  obtain ⟨j, hj⟩ := bv_ne.1 h
  rw [BitVec.getLsbD_and, BitVec.getLsbD_not, ahead_bit n hn es hp i a ha] at hj
  simp only [Bool.and_eq_true, List.any_eq_true, beq_iff_eq, Bool.not_eq_true', decide_eq_true_eq] at hj
  obtain ⟨⟨p, hpm, e1, e2⟩, _, hf⟩ := hj
  cases hc : closedB es g
  · rfl
  · unfold closedB at hc
    have := List.all_eq_true.1 hc p hpm
    rw [e1, e2, hi, hf] at this
    cases this
theorem dClosed_ok (n : Nat) (es : List (Nat × Nat)) (g : BitVec 64) (hn : n ≤ 64) (hl : es.length ≤ 4096) (hp : ∀ p, p ∈ es → p.1 < n ∧ p.2 < n) (hg : ∀ j, n ≤ j → g.getLsbD j = false) : Fn Tryz.prog Gw 65 [.tr (grT n es), u64 g] [] (· = .tup [bool (closedB es g), int 0]) := by
  have hI := inside_ok n es g hn hl hp hg
  have hA := ahead_ok n es hn hl hp
  have hal := ahead_len n es
  have hT := closedB_t (g := g) hn hp
  have hF := fun {i : Nat} {a : BitVec 64} => closedB_f (g := g) (i := i) (a := a) hn hp
  generalize aheadV n es = A at *
  refine Fn.of tab_ok Tryz.func65 rfl (by decide) (by simp [Tryz.f65]) rfl (fun κ v h => by cases h) Gw.below ?_
  repeat' (first|refine zS ?_|refine zR ?_|refine zE tab_ok rfl rfl ?_|refine zN ?_|(refine zG rfl rfl (fun _ => ?_) fun _ => ?_)<;>refine zE tab_ok rfl rfl ?_|(refine zC rfl (fun _ => ?_) fun _ => ?_)<;>try (rename_i h; cases h; done)|refine zB ?_|refine zK ?_|refine zZ ⟨_, rfl, ?_⟩)
  refine Sq.callv rfl (hI) ?_
  repeat' (first|refine zS ?_|refine zR ?_|refine zE tab_ok rfl rfl ?_|refine zN ?_|(refine zG rfl rfl (fun _ => ?_) fun _ => ?_)<;>refine zE tab_ok rfl rfl ?_|(refine zC rfl (fun _ => ?_) fun _ => ?_)<;>try (rename_i h; cases h; done)|refine zB ?_|refine zK ?_|refine zZ ⟨_, rfl, ?_⟩)
  refine Sq.callv rfl (hA) ?_
  repeat' (first|refine zS ?_|refine zR ?_|refine zE tab_ok rfl rfl ?_|refine zN ?_|(refine zG rfl rfl (fun _ => ?_) fun _ => ?_)<;>refine zE tab_ok rfl rfl ?_|(refine zC rfl (fun _ => ?_) fun _ => ?_)<;>try (rename_i h; cases h; done)|refine zB ?_|refine zK ?_|refine zZ ⟨_, rfl, ?_⟩)
  refine Tr.loopS (fun k : Nat => [(.s 1, u64 g), (.s 16, .tr (.ls (A.map u64T))), (.s 17, int (A.map u64T).length), (.s 18, int k)]) (fun k => A.length - k) (fun k => k ≤ A.length ∧ ∀ i a, i < k → A[i]? = some a → g.getLsbD i = true → a &&& ~~~g = 0#64)
    0 ⟨by omega, fun i a h => by omega⟩ (Sub.app (l := [_, _, _, _]) (H := []) ⟨rfl, rfl, rfl, rfl, trivial⟩ (fun κ v h => nomatch h)) ?_
  rintro k ⟨hk, hinv⟩
  repeat' (first|refine zS ?_|refine zR ?_|refine zE tab_ok rfl rfl ?_|refine zN ?_|(refine zG rfl rfl (fun _ => ?_) fun _ => ?_)<;>refine zE tab_ok rfl rfl ?_|(refine zC rfl (fun _ => ?_) fun _ => ?_)<;>try (rename_i h; cases h; done)|refine zB ?_|refine zK ?_|refine zZ ⟨_, rfl, ?_⟩)
  · rename_i h2
    have h2 : decide ((k : Int) < ((A.map u64T).length : Int)) = true := h2
    have hlt : k < A.length := by simp only [List.length_map, decide_eq_true_eq] at h2; omega
    obtain ⟨a, ha⟩ : ∃ a, A[k]? = some a := ⟨_, List.getElem?_eq_getElem hlt⟩
    have hae : (A.map u64T)[((k : Nat) : Int).toNat]? = some (u64T a) := by simp [ha]
    have next : (g.getLsbD k = true → a &&& ~~~g = 0#64) → ∀ i b, i < k + 1 → A[i]? = some b → g.getLsbD i = true → b &&& ~~~g = 0#64 := by
      intro h i b hi hb hg
      by_cases e : i = k
      · subst e; obtain rfl := Option.some.inj (ha.symm.trans hb); exact h hg
      · exact hinv i b (by omega) hb hg
    refine zI (x := u64T a) tab_ok rfl (by omega) (hae) rfl ?_
    repeat' (first|refine zS ?_|refine zR ?_|refine zE tab_ok rfl rfl ?_|refine zN ?_|(refine zG rfl rfl (fun _ => ?_) fun _ => ?_)<;>refine zE tab_ok rfl rfl ?_|(refine zC rfl (fun _ => ?_) fun _ => ?_)<;>try (rename_i h; cases h; done)|refine zB ?_|refine zK ?_|refine zZ ⟨_, rfl, ?_⟩)
    refine Sq.shift rfl g k rfl rfl (by omega) ?_
    refine Sq.bits rfl (g >>> k) 1#64 (r := g >>> k &&& 1#64) rfl rfl rfl ?_
    refine zE tab_ok rfl rfl ?_
    refine zE tab_ok rfl rfl ?_
    refine zG rfl rfl (fun h3 => ?_) (fun h3 => ?_)
    · have h3 : (((g >>> k &&& 1#64).toNat : Int) == 1) = true := h3
      rw [bit1_1] at h3
      refine zE tab_ok rfl rfl ?_
      refine zE tab_ok rfl rfl ?_
      refine Sq.bits rfl a g (r := a &&& ~~~g) rfl rfl rfl ?_
      refine zE tab_ok rfl rfl ?_
      refine zE tab_ok rfl rfl ?_
      refine zN ?_
      refine zC rfl (fun h4 => ?_) (fun h4 => ?_)
      · have h4 : (((a &&& ~~~g).toNat : Int) != 0) = true := h4
        have hne : a &&& ~~~g ≠ 0#64 := fun e => by rw [e] at h4; cases h4
        repeat' (first|refine zS ?_|refine zR ?_|refine zE tab_ok rfl rfl ?_|refine zN ?_|(refine zG rfl rfl (fun _ => ?_) fun _ => ?_)<;>refine zE tab_ok rfl rfl ?_|(refine zC rfl (fun _ => ?_) fun _ => ?_)<;>try (rename_i h; cases h; done)|refine zB ?_|refine zK ?_|refine zZ ⟨_, rfl, ?_⟩)
        rw [hF ha h3 hne]
      · have h4 : (((a &&& ~~~g).toNat : Int) != 0) = false := h4
        have he : a &&& ~~~g = 0#64 := by
          apply BitVec.eq_of_toNat_eq
          generalize a &&& ~~~g = x at *
          rw [bne_eq_false_iff_eq] at h4
          show x.toNat = 0
          omega
        repeat' (first|refine zS ?_|refine zR ?_|refine zE tab_ok rfl rfl ?_|refine zN ?_|(refine zG rfl rfl (fun _ => ?_) fun _ => ?_)<;>refine zE tab_ok rfl rfl ?_|(refine zC rfl (fun _ => ?_) fun _ => ?_)<;>try (rename_i h; cases h; done)|refine zB ?_|refine zK ?_|refine zZ ⟨_, rfl, ?_⟩)
        exact ⟨k + 1, ⟨by omega, next fun _ => he⟩, by omega, Sub.app (l := [_, _, _, _]) (H := []) ⟨rfl, rfl, rfl, congrArg some (wrapz (by omega) (by omega) (by omega)), trivial⟩ (fun κ v h => nomatch h)⟩
    · have h3 : (((g >>> k &&& 1#64).toNat : Int) == 1) = false := h3
      rw [bit1_1] at h3
      repeat' (first|refine zS ?_|refine zR ?_|refine zE tab_ok rfl rfl ?_|refine zN ?_|(refine zG rfl rfl (fun _ => ?_) fun _ => ?_)<;>refine zE tab_ok rfl rfl ?_|(refine zC rfl (fun _ => ?_) fun _ => ?_)<;>try (rename_i h; cases h; done)|refine zB ?_|refine zK ?_|refine zZ ⟨_, rfl, ?_⟩)
      exact ⟨k + 1, ⟨by omega, next fun h => by rw [h3] at h; cases h⟩, by omega, Sub.app (l := [_, _, _, _]) (H := []) ⟨rfl, rfl, rfl, congrArg some (wrapz (by omega) (by omega) (by omega)), trivial⟩ (fun κ v h => nomatch h)⟩
  · rename_i h2
    have h2 : decide ((k : Int) < ((A.map u64T).length : Int)) = false := h2
    have hge : A.length ≤ k := by simp only [List.length_map, decide_eq_false_iff_not] at h2; omega
    refine Tr.exit ?_
    repeat' (first|refine zS ?_|refine zR ?_|refine zE tab_ok rfl rfl ?_|refine zN ?_|(refine zG rfl rfl (fun _ => ?_) fun _ => ?_)<;>refine zE tab_ok rfl rfl ?_|(refine zC rfl (fun _ => ?_) fun _ => ?_)<;>try (rename_i h; cases h; done)|refine zB ?_|refine zK ?_|refine zZ ⟨_, rfl, ?_⟩)
    rw [hT fun i a ha => hinv i a (by have := (List.getElem?_eq_some_iff.1 ha).1; omega) ha]
def rvL (xs : List Int) (i : Nat) : List Int := (List.range xs.length).map fun j => if j < i ∨ xs.length ≤ j + i then xs.getD (xs.length - 1 - j) 0 else xs.getD j 0
theorem rvL_len (xs : List Int) (i : Nat) : (rvL xs i).length = xs.length := by unfold rvL; simp
theorem rvL_at {xs : List Int} {i j : Nat} (hj : j < xs.length) : (rvL xs i)[j]? = some (if j < i ∨ xs.length ≤ j + i then xs.getD (xs.length - 1 - j) 0 else xs.getD j 0) := by
  unfold rvL; rw [List.getElem?_map, List.getElem?_range hj]; rfl
theorem getD_at {xs : List Int} {j : Nat} (hj : j < xs.length) : some (xs.getD j 0) = xs[j]? := by
  rw [List.getD_eq_getElem?_getD, List.getElem?_eq_getElem hj]; rfl
theorem rvL_zero (xs : List Int) : rvL xs 0 = xs := by
  apply List.ext_getElem?
  intro j
  rcases Nat.lt_or_ge j xs.length with h | h
  · rw [rvL_at h, if_neg (by omega), getD_at h]
  · rw [List.getElem?_eq_none (by rw [rvL_len]; exact h), List.getElem?_eq_none h]
theorem rvL_end {xs : List Int} {i : Nat} (hi : xs.length ≤ 2 * i + 1) : rvL xs i = xs.reverse := by
  apply List.ext_getElem?
  intro j
  rcases Nat.lt_or_ge j xs.length with h | h
  · rw [rvL_at h, List.getElem?_reverse h, ← getD_at (by omega)]
    split
    · rfl
    · rw [show xs.length - 1 - j = j by omega]
  · rw [List.getElem?_eq_none (by rw [rvL_len]; exact h), List.getElem?_eq_none (by rw [List.length_reverse]; exact h)]
theorem rvL_succ {xs : List Int} {i : Nat} (hi : 2 * i + 1 < xs.length) : ((rvL xs i).set i (xs.getD (xs.length - 1 - i) 0)).set (xs.length - 1 - i) (xs.getD i 0) = rvL xs (i + 1) := by
  apply List.ext_getElem?
  intro j
  rcases Nat.lt_or_ge j xs.length with h | h
  · rw [List.getElem?_set, List.getElem?_set, List.length_set, rvL_len, rvL_at h, rvL_at h]
    by_cases e1 : xs.length - 1 - i = j
    · rw [if_pos e1, if_pos (by omega), if_pos (by omega), show xs.length - 1 - j = i by omega]
    · rw [if_neg e1]
      by_cases e2 : i = j
      · rw [if_pos e2, if_pos (by omega), if_pos (by omega), e2]
      · rw [if_neg e2]
        by_cases e3 : j < i ∨ xs.length ≤ j + i
        · rw [if_pos e3, if_pos (by omega)]
        · rw [if_neg e3, if_neg (by omega)]
  · rw [List.getElem?_eq_none (by rw [List.length_set, List.length_set, rvL_len]; exact h), List.getElem?_eq_none (by rw [rvL_len]; exact h)]
theorem rev_ok (xs : List Int) (U : List AV) (cap : Nat) (h1 : 1 ≤ xs.length) (hx : xs.length ≤ 1000000) :
    FnX Tryz.prog Gw 66 [.sl (.l 1000) xs.length cap] [(.l 1000, .blk 3 ((xs.map intT).map AV.tr ++ U))] (fun r N => r = .tup [] ∧ N = [(.l 1000, .blk 3 ((xs.reverse.map intT).map AV.tr ++ U))]) := by
  refine FnX.of [.l 1000] tab_ok Tryz.func66 rfl (by decide) (by simp [Tryz.f66]) rfl (fun κ v h => ?_) ?_
  · rw [lk_cons] at h
    split at h
    · rename_i e; subst e; exact ⟨rfl, by simp⟩
    · cases h
  refine zS ?_
  refine zR ?_
  refine zE tab_ok rfl rfl ?_
  refine Sq.lenS tab_ok rfl ?_
  refine zE tab_ok rfl rfl ?_
  refine zE tab_ok rfl rfl ?_
  refine zE tab_ok rfl rfl ?_
  refine zN ?_
  refine zB ?_
  refine Tr.loopS (fun i : Nat => [(.s 0, .sl (.l 1000) xs.length cap), (.l 1000, .blk 3 (((rvL xs i).map intT).map AV.tr ++ U)), (.s 2, int i), (.s 3, int ((xs.length - 1 - i : Nat) : Int))]) (fun i => xs.length - i) (fun i => 2 * i ≤ xs.length)
    0 (by omega) (Sub.app (l := [_, _, _, _]) (H := []) ⟨rfl, by rw [rvL_zero]; rfl, rfl, congrArg some (wrapz (by omega) (by omega) (by omega)), trivial⟩ (fun κ v h => nomatch h)) ?_
  rintro i hi
  have hrl := rvL_len xs i
  repeat' (first|refine zS ?_|refine zR ?_|refine zE tab_ok rfl rfl ?_|refine zN ?_|(refine zG rfl rfl (fun _ => ?_) fun _ => ?_)<;>refine zE tab_ok rfl rfl ?_|(refine zC rfl (fun _ => ?_) fun _ => ?_)<;>try (rename_i h; cases h; done)|refine zB ?_|refine zK ?_|refine zZ ⟨_, rfl, ?_⟩)
  · rename_i h2
    have h2 : decide ((i : Int) < ((xs.length - 1 - i : Nat) : Int)) = true := h2
    have hlt : i < xs.length - 1 - i := by have := of_decide_eq_true h2; omega
    have hs := rvL_succ (xs := xs) (i := i) (by omega)
    have a1 := rvL_at (xs := xs) (i := i) (j := i) (by omega)
    have a2 := rvL_at (xs := xs) (i := i) (j := xs.length - 1 - i) (by omega)
    rw [if_neg (by omega)] at a1 a2
    obtain ⟨J, hJ⟩ : ∃ J, J = xs.length - 1 - i := ⟨_, rfl⟩
    have hJ2 : J + i + 1 = xs.length := by omega
    rw [← hJ] at a2 hs ⊢
    generalize xs.getD i 0 = x at *
    generalize xs.getD J 0 = y at *
    generalize rvL xs i = R at *
    have hye : ((R.map intT).map AV.tr ++ U)[((J : Nat) : Int).toNat * 1]? = some (int y) := by
      rw [Int.toNat_natCast, Nat.mul_one, List.getElem?_append_left (by rw [List.length_map, List.length_map]; omega)]; simp [a2]
    have hxe : ((R.map intT).map AV.tr ++ U)[((i : Nat) : Int).toNat * 1]? = some (int x) := by
      rw [Int.toNat_natCast, Nat.mul_one, List.getElem?_append_left (by rw [List.length_map, List.length_map]; omega)]; simp [a1]
    have hset : (((R.map intT).map AV.tr ++ U).set (((i : Nat) : Int).toNat * 1) (int y)).set (((J : Nat) : Int).toNat * 1) (int x) = (((R.set i y).set J x).map intT).map AV.tr ++ U := by
      rw [Int.toNat_natCast, Nat.mul_one, Int.toNat_natCast, Nat.mul_one, List.set_append_left _ _ (by rw [List.length_map, List.length_map]; omega), List.set_append_left _ _ (by rw [List.length_set, List.length_map, List.length_map]; omega)]
      simp only [List.map_set]
    refine Tr.drawn ( zD tab_ok rfl rfl <| zD tab_ok rfl rfl <| zD tab_ok rfl rfl <| zD tab_ok rfl rfl <| zD tab_ok rfl rfl <| zD tab_ok rfl rfl <| zO rfl (fun q K hK => Sq.indexS (j := ((J : Nat) : Int)) (len := xs.length) tab_ok rfl (by omega) (by omega) (zN hK)) <| zO rfl (fun q K hK => Sq.loadS (v := int y) tab_ok rfl hye (zN hK)) <| zD tab_ok rfl rfl <| zD tab_ok rfl rfl <| zO rfl (fun q K hK => Sq.indexS (j := ((i : Nat) : Int)) (len := xs.length) tab_ok rfl (by omega) (by omega) (zN hK)) <| zO rfl (fun q K hK => Sq.loadS (v := int x) tab_ok rfl hxe (zN hK)) <| zO rfl (fun q K hK => Sq.indexS (j := ((i : Nat) : Int)) (len := xs.length) tab_ok rfl (by omega) (by omega) (zN hK)) <| DSq.blk rfl (fun q K hK => Sq.storeS tab_ok rfl (by show ((i : Nat) : Int).toNat * 1 < _; rw [List.length_append, List.length_map, List.length_map]; omega) (zN hK)) <| zO rfl (fun q K hK => Sq.indexS (j := ((J : Nat) : Int)) (len := xs.length) tab_ok rfl (by omega) (by omega) (zN hK)) <| DSq.blk rfl (fun q K hK => Sq.storeS tab_ok rfl (by show ((J : Nat) : Int).toNat * 1 < _; rw [List.length_set, List.length_append, List.length_map, List.length_map]; omega) (zN hK)) <| DSq.nil _) mix_ok rfl ?_
    repeat' (first|refine zS ?_|refine zR ?_|refine zE tab_ok rfl rfl ?_|refine zN ?_|(refine zG rfl rfl (fun _ => ?_) fun _ => ?_)<;>refine zE tab_ok rfl rfl ?_|(refine zC rfl (fun _ => ?_) fun _ => ?_)<;>try (rename_i h; cases h; done)|refine zB ?_|refine zK ?_|refine zZ ⟨_, rfl, ?_⟩)
    exact ⟨i + 1, by omega, by omega, Sub.app (l := [_, _, _, _]) (H := []) ⟨rfl, by rw [← hs, ← hset]; rfl, congrArg some (wrapz (by omega) (by omega) (by omega)), congrArg some (wrapz (by omega) (by omega) (by omega)), trivial⟩ (fun κ v h => nomatch h)⟩
  · rename_i h2
    have h2 : decide ((i : Int) < ((xs.length - 1 - i : Nat) : Int)) = false := h2
    have h2 := of_decide_eq_false h2
    rw [rvL_end (by omega)]
    refine Tr.exit ?_
    refine ⟨.tup [], [(.l 1000, _)], rfl, ⟨rfl, rfl⟩, fun κ v h => ?_, fun κ h => ?_⟩
    · rw [lk_cons] at h
      split at h
      · rename_i e; subst e; obtain rfl := Option.some.inj h; exact ⟨rfl, rfl⟩
      · cases h
    · rw [lk_cons] at h ⊢
      split at h
      · rename_i e; rw [if_pos e]; simp
      · exact absurd rfl h
end Go.Lg.Tryz

set_option linter.unusedVariables false
set_option linter.unusedSimpArgs false
namespace Go.Lg.Tryz
open Go Go.Proofs Go.RowKit Go.Lib Go.Lg.Sem
def setUp (d : List Int) : Nat → BitVec 64
  | 0 => 0#64
  | k + 1 => setUp d k ||| 1#64 <<< (d.getD k 0).toNat
def okD (n : Nat) (d : List Int) (k : Nat) : Bool := decide (0 ≤ d.getD k 0) && decide (d.getD k 0 < n) && !(setUp d k).getLsbD (d.getD k 0).toNat
def rightD (n : Nat) (d : List Int) (k : Nat) : Bool := (List.range k).all (okD n d)
def closD (e : List (Nat × Nat)) (d : List Int) (k : Nat) : Bool := (List.range k).all fun j => closedB e (setUp d (j + 1))
def compA (n : Nat) (e : List (Nat × Nat)) (d : List Int) : AV :=
  if rightD n d d.length = true then (if closD e d d.length = true then .tup [.tr (.ls (d.reverse.map intT)), int 0] else .tup [.tr (.ls []), int 32]) else .tup [.tr (.ls []), int 71]
theorem rightD_succ (n : Nat) (d : List Int) (k : Nat) : rightD n d (k + 1) = (rightD n d k && okD n d k) := by unfold rightD; rw [List.range_succ, List.all_append]; simp
theorem closD_succ (e : List (Nat × Nat)) (d : List Int) (k : Nat) : closD e d (k + 1) = (closD e d k && closedB e (setUp d (k + 1))) := by unfold closD; rw [List.range_succ, List.all_append]; simp
theorem rightD_le {n : Nat} {d : List Int} {j k : Nat} (h : rightD n d k = true) (hj : j ≤ k) : rightD n d j = true := by
  unfold rightD at *
  rw [List.all_eq_true] at *
  exact fun x hx => h x (List.mem_range.2 (by have := List.mem_range.1 hx; omega))
theorem closD_le {e : List (Nat × Nat)} {d : List Int} {j k : Nat} (h : closD e d k = true) (hj : j ≤ k) : closD e d j = true := by
  unfold closD at *
  rw [List.all_eq_true] at *
  exact fun x hx => h x (List.mem_range.2 (by have := List.mem_range.1 hx; omega))
theorem okD_of {n : Nat} {d : List Int} {k : Nat} (h : rightD n d d.length = true) (hk : k < d.length) : okD n d k = true := by
  unfold rightD at h
  exact List.all_eq_true.1 h k (List.mem_range.2 hk)
theorem okD_at {n : Nat} {d : List Int} {k : Nat} (h : okD n d k = true) : ∃ m : Nat, d.getD k 0 = m ∧ m < n ∧ (setUp d k).getLsbD m = false := by
  unfold okD at h
  simp only [Bool.and_eq_true, decide_eq_true_eq, Bool.not_eq_true'] at h
  refine ⟨(d.getD k 0).toNat, by omega, by omega, h.2⟩
theorem setUp_lt {n : Nat} {d : List Int} : ∀ {k : Nat}, rightD n d k = true → ∀ j, n ≤ j → (setUp d k).getLsbD j = false
  | 0, _, j, _ => by simp [setUp]
  | k + 1, h, j, hj => by
    rw [rightD_succ, Bool.and_eq_true] at h
    obtain ⟨m, e, hm, _⟩ := okD_at h.2
    show (setUp d k ||| 1#64 <<< (d.getD k 0).toNat).getLsbD j = false
    rw [BitVec.getLsbD_or, setUp_lt h.1 j hj, e, Int.toNat_natCast, BitVec.getLsbD_shiftLeft, BitVec.getLsbD_one]
    have : ¬ (j - m = 0) := by omega
    simp [this]
theorem getD_eq {d : List Int} {k : Nat} {x : Int} (h : d[k]? = some x) : d.getD k 0 = x := by rw [List.getD_eq_getElem?_getD, h]; rfl
theorem cloneR {xs : List Int} (h1 : 1 ≤ xs.length) (hx : xs.length ≤ 1000000) : Fn Tryz.prog Gw 46 [.tr (.ls (xs.map intT))] [] (· = .raw 3 true (xs.map intT)) := by
  refine Fn.of tab_ok Tryz.func46 rfl (by decide) (by simp [Tryz.f46]) rfl (fun κ v h => by cases h) Gw.below ?_
  repeat' (first|refine zS ?_|refine zR ?_|refine zE tab_ok rfl rfl ?_|refine zN ?_|(refine zG rfl rfl (fun _ => ?_) fun _ => ?_)<;>refine zE tab_ok rfl rfl ?_|(refine zC rfl (fun _ => ?_) fun _ => ?_)<;>try (rename_i h; cases h; done)|refine zB ?_|refine zK ?_|refine zZ ⟨_, rfl, ?_⟩)
  refine Sq.eqNil tab_ok rfl (fun b hb => ?_)
  cases b
  · refine zN ?_
    refine zC rfl (fun h => by cases h) (fun _ => ?_)
    refine zK ?_
    refine zS ?_
    refine zR ?_
    refine Sq.lit0R tab_ok rfl ?_
    refine zE tab_ok rfl rfl ?_
    refine Sq.appendR tab_ok rfl (fun y hy => by obtain ⟨a, _, rfl⟩ := List.mem_map.1 hy; rfl) (by rw [List.length_map]; simp; omega) ?_
    repeat' (first|refine zS ?_|refine zR ?_|refine zE tab_ok rfl rfl ?_|refine zN ?_|(refine zG rfl rfl (fun _ => ?_) fun _ => ?_)<;>refine zE tab_ok rfl rfl ?_|(refine zC rfl (fun _ => ?_) fun _ => ?_)<;>try (rename_i h; cases h; done)|refine zB ?_|refine zK ?_|refine zZ ⟨_, rfl, ?_⟩)
    rfl
  · exfalso
    have := congrArg List.length (hb rfl)
    rw [List.length_map] at this
    simp at this; subst this; simp at h1
theorem cloneDone {α : Type} (enc : α → T) (hes : ∀ a, (enc a).cells.length = 1) (xs : List α) (hn : xs.length ≤ 1073741824) : Fn Tryz.prog Gw 46 [.tr (.ls (xs.map enc))] [] (· = .own 3 (xs.map enc)) := by
  refine Fn.of tab_ok Tryz.func46 rfl (by decide) (by simp [Tryz.f46]) rfl (fun κ v h => by cases h) Gw.below ?_
  repeat' (first|refine zS ?_|refine zR ?_|refine zE tab_ok rfl rfl ?_|refine zN ?_|(refine zG rfl rfl (fun _ => ?_) fun _ => ?_)<;>refine zE tab_ok rfl rfl ?_|(refine zC rfl (fun _ => ?_) fun _ => ?_)<;>try (rename_i h; cases h; done)|refine zB ?_|refine zK ?_|refine zZ ⟨_, rfl, ?_⟩)
  refine Sq.eqNil tab_ok rfl (fun b hb => ?_)
  cases b
  · repeat' (first|refine zS ?_|refine zR ?_|refine zE tab_ok rfl rfl ?_|refine zN ?_|(refine zG rfl rfl (fun _ => ?_) fun _ => ?_)<;>refine zE tab_ok rfl rfl ?_|(refine zC rfl (fun _ => ?_) fun _ => ?_)<;>try (rename_i h; cases h; done)|refine zB ?_|refine zK ?_|refine zZ ⟨_, rfl, ?_⟩)
    refine Sq.append tab_ok rfl (fun y hy => by obtain ⟨a, _, rfl⟩ := List.mem_map.1 hy; exact hes a) (by simpa using hn) ?_
    repeat' (first|refine zS ?_|refine zR ?_|refine zE tab_ok rfl rfl ?_|refine zN ?_|(refine zG rfl rfl (fun _ => ?_) fun _ => ?_)<;>refine zE tab_ok rfl rfl ?_|(refine zC rfl (fun _ => ?_) fun _ => ?_)<;>try (rename_i h; cases h; done)|refine zB ?_|refine zK ?_|refine zZ ⟨_, rfl, ?_⟩)
    rfl
  · rw [hb rfl]
    repeat' (first|refine zS ?_|refine zR ?_|refine zE tab_ok rfl rfl ?_|refine zN ?_|(refine zG rfl rfl (fun _ => ?_) fun _ => ?_)<;>refine zE tab_ok rfl rfl ?_|(refine zC rfl (fun _ => ?_) fun _ => ?_)<;>try (rename_i h; cases h; done)|refine zB ?_|refine zK ?_|refine zZ ⟨_, rfl, ?_⟩)
    rfl
theorem rev0 : Fn Tryz.prog Gw 66 [.tr (.ls [])] [] (· = .tup []) := by
  refine Fn.of tab_ok Tryz.func66 rfl (by decide) (by simp [Tryz.f66]) rfl (fun κ v h => by cases h) Gw.below ?_
  refine zS ?_
  refine zR ?_
  refine zE tab_ok rfl rfl ?_
  refine zE tab_ok rfl rfl ?_
  refine zE tab_ok rfl rfl ?_
  refine zE tab_ok rfl rfl ?_
  refine zE tab_ok rfl rfl ?_
  refine zN ?_
  refine zB ?_
  refine Tr.loopS (fun i : Nat => [(.s 0, .tr (.ls [])), (.s 2, int 0), (.s 3, int (-1))]) (fun i => 0) (fun i => True)
    0 trivial (Sub.app (l := [_, _, _]) (H := []) ⟨rfl, rfl, rfl, trivial⟩ (fun κ v h => nomatch h)) ?_
  rintro i hi
  repeat' (first|refine zS ?_|refine zR ?_|refine zE tab_ok rfl rfl ?_|refine zN ?_|(refine zG rfl rfl (fun _ => ?_) fun _ => ?_)<;>refine zE tab_ok rfl rfl ?_|(refine zC rfl (fun _ => ?_) fun _ => ?_)<;>try (rename_i h; cases h; done)|refine zB ?_|refine zK ?_|refine zZ ⟨_, rfl, ?_⟩)
  refine Tr.exit ?_
  exact ⟨_, rfl, rfl⟩
set_option maxRecDepth 8192 in
set_option maxHeartbeats 800000 in
theorem Compensate_ok (f t : List Int) (l : List Stp) (e : List (Nat × Nat)) (d : List Int) (hn : l.length ≤ 63) (hl : e.length ≤ 1000) (hp : ∀ p, p ∈ e → p.1 < l.length ∧ p.2 < l.length) (hd : d.length ≤ 1000000) :
    Fn Tryz.prog Gw 27 [.tr (plnT ⟨f, t, l, e⟩), .tr (.ls (d.map intT))] [] (· = compA l.length e d) := by
  have hG := graph_ok f t l e (by omega)
  have hC := gCheck_ok l.length e (by omega) (by omega) hp
  refine Fn.of tab_ok Tryz.func27 rfl (by decide) (by simp [Tryz.f27]) rfl (fun κ v h => by cases h) Gw.below ?_
  repeat' (first|refine zS ?_|refine zR ?_|refine zE tab_ok rfl rfl ?_|refine zN ?_|(refine zG rfl rfl (fun _ => ?_) fun _ => ?_)<;>refine zE tab_ok rfl rfl ?_|(refine zC rfl (fun _ => ?_) fun _ => ?_)<;>try (rename_i h; cases h; done)|refine zB ?_|refine zK ?_|refine zZ ⟨_, rfl, ?_⟩)
  refine Tr.loopS (fun i : Nat => [(.s 1, .tr (.ls (d.map intT))), (.s 2, .ptr (.l 2) 0), (.l 2, .blk 35 [.tr (.ls (f.map intT)), .tr (.ls (t.map intT)), .tr (.ls (l.map stpT)), .tr (.ls (e.map edT))]), (.s 6, u64 (setUp d i)), (.s 16, .tr (.ls (d.map intT))), (.s 17, int (d.map intT).length), (.s 18, int i)]) (fun i => d.length - i) (fun i => i ≤ d.length ∧ rightD l.length d i = true)
    0 ⟨by omega, rfl⟩ (Sub.app (l := [_, _, _, _, _, _, _]) (H := []) ⟨rfl, rfl, rfl, rfl, rfl, rfl, rfl, trivial⟩ (fun κ v h => nomatch h)) ?_
  rintro i ⟨hi, hr⟩
  repeat' (first|refine zS ?_|refine zR ?_|refine zE tab_ok rfl rfl ?_|refine zN ?_|(refine zG rfl rfl (fun _ => ?_) fun _ => ?_)<;>refine zE tab_ok rfl rfl ?_|(refine zC rfl (fun _ => ?_) fun _ => ?_)<;>try (rename_i h; cases h; done)|refine zB ?_|refine zK ?_|refine zZ ⟨_, rfl, ?_⟩)
  · rename_i h2
    have h2 : decide ((i : Int) < ((d.map intT).length : Int)) = true := h2
    have hlt : i < d.length := by simp only [List.length_map, decide_eq_true_eq] at h2; omega
    obtain ⟨x, hx⟩ : ∃ x, d[i]? = some x := ⟨_, List.getElem?_eq_getElem hlt⟩
    have hxe : (d.map intT)[((i : Nat) : Int).toNat]? = some (intT x) := by simp [hx]
    have hg := getD_eq hx
    have hrs := rightD_succ l.length d i
    have bad : okD l.length d i = false → .tup [.tr (.ls []), int 71] = compA l.length e d := by
      intro h
      unfold compA
      rw [if_neg]
      intro hh
      have := rightD_le hh (show i + 1 ≤ d.length by omega)
      rw [hrs, h, Bool.and_false] at this; cases this
    have hok : okD l.length d i = (decide (0 ≤ x) && decide (x < l.length) && !(setUp d i).getLsbD x.toNat) := by unfold okD; rw [hg]
    have hs : setUp d (i + 1) = setUp d i ||| 1#64 <<< x.toNat := by show setUp d i ||| 1#64 <<< (d.getD i 0).toNat = _; rw [hg]
    refine zI (x := intT x) tab_ok rfl (by omega) (hxe) rfl ?_
    repeat' (first | refine zS ?_ | refine zR ?_ | refine zE tab_ok rfl rfl ?_ | refine zN ?_ | refine zB ?_ | refine zK ?_)
    by_cases h0 : x < 0
    · refine Sq.re (congrArg bool (decide_eq_true h0)) ?_
      repeat' (first|refine zS ?_|refine zR ?_|refine zE tab_ok rfl rfl ?_|refine zN ?_|(refine zG rfl rfl (fun _ => ?_) fun _ => ?_)<;>refine zE tab_ok rfl rfl ?_|(refine zC rfl (fun _ => ?_) fun _ => ?_)<;>try (rename_i h; cases h; done)|refine zB ?_|refine zK ?_|refine zZ ⟨_, rfl, ?_⟩)
      exact bad (by rw [hok, decide_eq_false (show ¬ 0 ≤ x by omega)]; rfl)
    refine Sq.re (congrArg bool (decide_eq_false h0)) ?_
    obtain ⟨m, rfl⟩ : ∃ m : Nat, x = m := ⟨x.toNat, by omega⟩
    rw [Int.toNat_natCast] at hok hs
    repeat' (first | refine zS ?_ | refine zR ?_ | refine zE tab_ok rfl rfl ?_ | refine zN ?_ | refine zB ?_ | refine zK ?_)
    by_cases h1 : m < l.length
    · refine Sq.re (v' := bool false) (congrArg bool (decide_eq_false (by rw [List.length_map]; omega))) ?_
      repeat' (first | refine zS ?_ | refine zR ?_ | refine zE tab_ok rfl rfl ?_ | refine zN ?_ | refine zB ?_ | refine zK ?_)
      refine Sq.re (v' := bool true) (congrArg bool (decide_eq_true (by omega))) ?_
      repeat' (first | refine zS ?_ | refine zR ?_ | refine zE tab_ok rfl rfl ?_ | refine zN ?_ | refine zB ?_ | refine zK ?_)
      refine Sq.shift rfl (setUp d i) m rfl rfl (by omega) ?_
      refine Sq.bits rfl (setUp d i >>> m) 1#64 (r := setUp d i >>> m &&& 1#64) rfl rfl rfl ?_
      refine zE tab_ok rfl rfl ?_
      cases hb : (setUp d i).getLsbD m
      · refine Sq.re (congrArg bool (bit1_1.trans hb)) ?_
        repeat' (first|refine zS ?_|refine zR ?_|refine zE tab_ok rfl rfl ?_|refine zN ?_|(refine zG rfl rfl (fun _ => ?_) fun _ => ?_)<;>refine zE tab_ok rfl rfl ?_|(refine zC rfl (fun _ => ?_) fun _ => ?_)<;>try (rename_i h; cases h; done)|refine zB ?_|refine zK ?_|refine zZ ⟨_, rfl, ?_⟩)
        refine Sq.shift rfl 1#64 m rfl rfl (by omega) ?_
        refine Sq.bits rfl (setUp d i) (1#64 <<< m) (r := setUp d i ||| 1#64 <<< m) rfl rfl rfl ?_
        repeat' (first|refine zS ?_|refine zR ?_|refine zE tab_ok rfl rfl ?_|refine zN ?_|(refine zG rfl rfl (fun _ => ?_) fun _ => ?_)<;>refine zE tab_ok rfl rfl ?_|(refine zC rfl (fun _ => ?_) fun _ => ?_)<;>try (rename_i h; cases h; done)|refine zB ?_|refine zK ?_|refine zZ ⟨_, rfl, ?_⟩)
        exact ⟨i + 1, ⟨by omega, by rw [hrs, hr, hok, hb, decide_eq_true (by omega), decide_eq_true (by omega)]; rfl⟩, by omega, Sub.app (l := [_, _, _, _, _, _, _]) (H := []) ⟨rfl, rfl, rfl, by rw [hs]; rfl, rfl, rfl, congrArg some (wrapz (by omega) (by omega) (by omega)), trivial⟩ (fun κ v h => nomatch h)⟩
      · refine Sq.re (congrArg bool (bit1_1.trans hb)) ?_
        repeat' (first|refine zS ?_|refine zR ?_|refine zE tab_ok rfl rfl ?_|refine zN ?_|(refine zG rfl rfl (fun _ => ?_) fun _ => ?_)<;>refine zE tab_ok rfl rfl ?_|(refine zC rfl (fun _ => ?_) fun _ => ?_)<;>try (rename_i h; cases h; done)|refine zB ?_|refine zK ?_|refine zZ ⟨_, rfl, ?_⟩)
        exact bad (by rw [hok, hb, Bool.and_comm]; rfl)
    · refine Sq.re (v' := bool true) (congrArg bool (decide_eq_true (by rw [List.length_map]; omega))) ?_
      repeat' (first|refine zS ?_|refine zR ?_|refine zE tab_ok rfl rfl ?_|refine zN ?_|(refine zG rfl rfl (fun _ => ?_) fun _ => ?_)<;>refine zE tab_ok rfl rfl ?_|(refine zC rfl (fun _ => ?_) fun _ => ?_)<;>try (rename_i h; cases h; done)|refine zB ?_|refine zK ?_|refine zZ ⟨_, rfl, ?_⟩)
      exact bad (by rw [hok, decide_eq_false (show ¬ ((m : Int) < l.length) by omega)]; simp)
  · rename_i h2
    have h2 : decide ((i : Int) < ((d.map intT).length : Int)) = false := h2
    have hge : i = d.length := by simp only [List.length_map, decide_eq_false_iff_not] at h2; omega
    subst hge
    refine Tr.exit ?_
    repeat' (first|refine zS ?_|refine zR ?_|refine zE tab_ok rfl rfl ?_|refine zN ?_|(refine zG rfl rfl (fun _ => ?_) fun _ => ?_)<;>refine zE tab_ok rfl rfl ?_|(refine zC rfl (fun _ => ?_) fun _ => ?_)<;>try (rename_i h; cases h; done)|refine zB ?_|refine zK ?_|refine zZ ⟨_, rfl, ?_⟩)
    refine Sq.callv rfl (hG) ?_
    repeat' (first|refine zS ?_|refine zR ?_|refine zE tab_ok rfl rfl ?_|refine zN ?_|(refine zG rfl rfl (fun _ => ?_) fun _ => ?_)<;>refine zE tab_ok rfl rfl ?_|(refine zC rfl (fun _ => ?_) fun _ => ?_)<;>try (rename_i h; cases h; done)|refine zB ?_|refine zK ?_|refine zZ ⟨_, rfl, ?_⟩)
    refine Sq.callv rfl (hC) ?_
    repeat' (first|refine zS ?_|refine zR ?_|refine zE tab_ok rfl rfl ?_|refine zN ?_|(refine zG rfl rfl (fun _ => ?_) fun _ => ?_)<;>refine zE tab_ok rfl rfl ?_|(refine zC rfl (fun _ => ?_) fun _ => ?_)<;>try (rename_i h; cases h; done)|refine zB ?_|refine zK ?_|refine zZ ⟨_, rfl, ?_⟩)
    refine Tr.loopS (fun i : Nat => [(.s 1, .tr (.ls (d.map intT))), (.s 6, u64 (setUp d i)), (.s 9, .ptr (.l 9) 0), (.l 9, .blk 93 [int l.length, .tr (.ls (e.map edT))]), (.s 54, .tr (.ls (d.map intT))), (.s 55, int (d.map intT).length), (.s 56, int i)]) (fun i => d.length - i) (fun i => i ≤ d.length ∧ closD e d i = true)
      0 ⟨by omega, rfl⟩ (Sub.app (l := [_, _, _, _, _, _, _]) (H := []) ⟨rfl, rfl, rfl, rfl, rfl, rfl, rfl, trivial⟩ (fun κ v h => nomatch h)) ?_
    rintro i ⟨hi, hcl⟩
    repeat' (first|refine zS ?_|refine zR ?_|refine zE tab_ok rfl rfl ?_|refine zN ?_|(refine zG rfl rfl (fun _ => ?_) fun _ => ?_)<;>refine zE tab_ok rfl rfl ?_|(refine zC rfl (fun _ => ?_) fun _ => ?_)<;>try (rename_i h; cases h; done)|refine zB ?_|refine zK ?_|refine zZ ⟨_, rfl, ?_⟩)
    · rename_i h2
      have h2 : decide ((i : Int) < ((d.map intT).length : Int)) = true := h2
      have hlt : i < d.length := by simp only [List.length_map, decide_eq_true_eq] at h2; omega
      obtain ⟨x, hx⟩ : ∃ x, d[i]? = some x := ⟨_, List.getElem?_eq_getElem hlt⟩
      have hxe : (d.map intT)[((i : Nat) : Int).toNat]? = some (intT x) := by simp [hx]
      have hg := getD_eq hx
      obtain ⟨m, hm, hml, hmb⟩ := okD_at (okD_of hr hlt)
      obtain rfl : x = m := hg.symm.trans hm
      have hs : setUp d (i + 1) = setUp d i ||| 1#64 <<< m := by show setUp d i ||| 1#64 <<< (d.getD i 0).toNat = _; rw [hg]; rfl
      have hcs := closD_succ e d i
      have hK := dClosed_ok l.length e (setUp d (i + 1)) (by omega) (by omega) hp (setUp_lt (rightD_le hr (by omega)))
      rw [hs] at hK hcs
      refine zI (x := intT (m : Int)) tab_ok rfl (by omega) (hxe) rfl ?_
      repeat' (first|refine zS ?_|refine zR ?_|refine zE tab_ok rfl rfl ?_|refine zN ?_|(refine zG rfl rfl (fun _ => ?_) fun _ => ?_)<;>refine zE tab_ok rfl rfl ?_|(refine zC rfl (fun _ => ?_) fun _ => ?_)<;>try (rename_i h; cases h; done)|refine zB ?_|refine zK ?_|refine zZ ⟨_, rfl, ?_⟩)
      refine Sq.shift rfl 1#64 m rfl rfl (by omega) ?_
      refine Sq.bits rfl (setUp d i) (1#64 <<< m) (r := setUp d i ||| 1#64 <<< m) rfl rfl rfl ?_
      repeat' (first|refine zS ?_|refine zR ?_|refine zE tab_ok rfl rfl ?_|refine zN ?_|(refine zG rfl rfl (fun _ => ?_) fun _ => ?_)<;>refine zE tab_ok rfl rfl ?_|(refine zC rfl (fun _ => ?_) fun _ => ?_)<;>try (rename_i h; cases h; done)|refine zB ?_|refine zK ?_|refine zZ ⟨_, rfl, ?_⟩)
      cases hb : closedB e (setUp d i ||| 1#64 <<< m)
      · rw [hb] at hK hcs
        refine Sq.callv rfl (hK) ?_
        repeat' (first|refine zS ?_|refine zR ?_|refine zE tab_ok rfl rfl ?_|refine zN ?_|(refine zG rfl rfl (fun _ => ?_) fun _ => ?_)<;>refine zE tab_ok rfl rfl ?_|(refine zC rfl (fun _ => ?_) fun _ => ?_)<;>try (rename_i h; cases h; done)|refine zB ?_|refine zK ?_|refine zZ ⟨_, rfl, ?_⟩)
        unfold compA
        rw [if_pos hr, if_neg]
        intro hh
        have := closD_le hh (show i + 1 ≤ d.length by omega)
        rw [hcs, Bool.and_false] at this; cases this
      · rw [hb, hcl] at hcs
        rw [hb] at hK
        refine Sq.callv rfl (hK) ?_
        repeat' (first|refine zS ?_|refine zR ?_|refine zE tab_ok rfl rfl ?_|refine zN ?_|(refine zG rfl rfl (fun _ => ?_) fun _ => ?_)<;>refine zE tab_ok rfl rfl ?_|(refine zC rfl (fun _ => ?_) fun _ => ?_)<;>try (rename_i h; cases h; done)|refine zB ?_|refine zK ?_|refine zZ ⟨_, rfl, ?_⟩)
        exact ⟨i + 1, ⟨by omega, hcs⟩, by omega, Sub.app (l := [_, _, _, _, _, _, _]) (H := []) ⟨rfl, by rw [hs]; rfl, rfl, rfl, rfl, rfl, congrArg some (wrapz (by omega) (by omega) (by omega)), trivial⟩ (fun κ v h => nomatch h)⟩
    · rename_i h2
      have h2 : decide ((i : Int) < ((d.map intT).length : Int)) = false := h2
      have hge : i = d.length := by simp only [List.length_map, decide_eq_false_iff_not] at h2; omega
      subst hge
      have hfin : compA l.length e d = .tup [.tr (.ls (d.reverse.map intT)), int 0] := by unfold compA; rw [if_pos hr, if_pos hcl]
      refine Tr.exit ?_
      repeat' (first|refine zS ?_|refine zR ?_|refine zE tab_ok rfl rfl ?_|refine zN ?_|(refine zG rfl rfl (fun _ => ?_) fun _ => ?_)<;>refine zE tab_ok rfl rfl ?_|(refine zC rfl (fun _ => ?_) fun _ => ?_)<;>try (rename_i h; cases h; done)|refine zB ?_|refine zK ?_|refine zZ ⟨_, rfl, ?_⟩)
      by_cases h0 : d = []
      · subst h0
        have hcl0 := cloneDone intT (fun a => rfl) ([] : List Int) (by simp)
        refine Sq.callv rfl (hcl0) ?_
        repeat' (first|refine zS ?_|refine zR ?_|refine zE tab_ok rfl rfl ?_|refine zN ?_|(refine zG rfl rfl (fun _ => ?_) fun _ => ?_)<;>refine zE tab_ok rfl rfl ?_|(refine zC rfl (fun _ => ?_) fun _ => ?_)<;>try (rename_i h; cases h; done)|refine zB ?_|refine zK ?_|refine zZ ⟨_, rfl, ?_⟩)
        refine Sq.callv rfl (rev0) ?_
        repeat' (first|refine zS ?_|refine zR ?_|refine zE tab_ok rfl rfl ?_|refine zN ?_|(refine zG rfl rfl (fun _ => ?_) fun _ => ?_)<;>refine zE tab_ok rfl rfl ?_|(refine zC rfl (fun _ => ?_) fun _ => ?_)<;>try (rename_i h; cases h; done)|refine zB ?_|refine zK ?_|refine zZ ⟨_, rfl, ?_⟩)
        exact hfin.symm
      have h1 : 1 ≤ d.length := by
        rcases Nat.eq_zero_or_pos d.length with h | h
        · exact absurd (List.eq_nil_of_length_eq_zero h) h0
        · exact h
      have hc1 := cloneR h1 (by omega)
      refine Sq.callv rfl (hc1) ?_
      refine zE tab_ok rfl rfl ?_
      refine zN ?_
      refine Tr.sub (m' := [(.s 15, .raw 3 true (d.map intT))]) ⟨rfl, trivial⟩ ?_
      refine Tr.thaw tab_ok 15 (.l 1000) (xs := d.map intT) rfl (by intro h; have := congrArg List.length h; rw [List.length_map] at this; simp at this; exact h0 this) rfl (by decide) rfl rfl ?_
      intro cap hcap
      rw [flat_one (by intro x hx; obtain ⟨a, _, rfl⟩ := List.mem_map.1 hx; rfl)]
      generalize hU : List.replicate ((cap - (d.map intT).length) * 1) AV.unk = U
      rw [List.length_map] at hcap ⊢
      repeat' (first | refine zS ?_ | refine zR ?_ | refine zE tab_ok rfl rfl ?_ | refine zN ?_ | refine zB ?_ | refine zK ?_)
      have pureC : ∀ (ys : List Int) (x : AV), x ∈ ((ys.map intT).map AV.tr ++ U) → x.isOwn = false ∧ ∀ κ', ¬ Refs κ' x := by
        intro ys x hx
        rcases List.mem_append.1 hx with h | h
        · obtain ⟨y, _, rfl⟩ := List.mem_map.1 h; exact ⟨rfl, fun κ' hr => by cases hr⟩
        · rw [← hU] at h; obtain rfl := List.eq_of_mem_replicate h; exact ⟨rfl, fun κ' hr => by cases hr⟩
      have one : ∀ {v u : AV} {κ : Loc}, lk [(.l 1000, v)] κ = some u → κ = .l 1000 ∧ u = v := by
        intro v u κ h
        rw [lk_cons] at h
        split at h
        · rename_i e; exact ⟨e.symm, (Option.some.inj h).symm⟩
        · cases h
      refine Sq.callX rfl (fun κ v h => by obtain ⟨rfl, rfl⟩ := one h; exact ⟨rfl, rfl⟩) (fun κ ty cells h x hx => by
        obtain ⟨rfl, e⟩ := one h
        injection e with e1 e2; subst e2
        exact ⟨(pureC d x hx).1, fun κ' hr => absurd hr ((pureC d x hx).2 κ')⟩) (fun x hx κ hr => by
        have hx := List.mem_singleton.1 hx; subst hx
        cases hr; rw [lk_self]; simp) (rev_ok d U cap h1 (by omega)) (fun r N h => by
        obtain ⟨rfl, rfl⟩ := h
        refine ⟨⟨rfl, fun κ hr => by cases hr with | tup _ x hx _ => cases hx⟩, fun κ v h => by obtain ⟨rfl, _⟩ := one h; rw [lk_self]; simp, fun κ ty cells h x hx κ' hr => ?_⟩
        obtain ⟨_, e⟩ := one h
        injection e with e1 e2; subst e2
        exact absurd hr ((pureC _ x hx).2 κ')) ?_
      rintro r N ⟨rfl, rfl⟩
      refine zN ?_
      refine Tr.sub (m' := [(.s 15, .sl (.l 1000) d.length cap), (.l 1000, .blk 3 ((d.reverse.map intT).map AV.tr ++ U))]) ⟨rfl, rfl, trivial⟩ ?_
      refine Tr.turn (fun Γ a w h => RelX.freeze (es := 1) (xs := d.reverse.map intT) (cap := cap) (len := d.length) (cells := (d.reverse.map intT).map AV.tr ++ U) h (s := 15) (κ := .l 1000) rfl rfl rfl (by simp) (by simp) (by intro x hx; obtain ⟨a, _, rfl⟩ := List.mem_map.1 hx; rfl) (fun i j x y hx hy => by
        obtain ⟨hi, rfl⟩ := List.getElem?_eq_some_iff.1 hx
        have hcell : ((d.reverse.map intT)[i]).cells = [(d.reverse.map intT)[i]] := by rw [List.getElem_map]; rfl
        rw [hcell] at hy
        have hj : j = 0 := by
          rcases Nat.eq_zero_or_pos j with h | h
          · exact h
          · rw [List.getElem?_eq_none (by simp; omega)] at hy; cases hy
        subst hj
        obtain rfl := Option.some.inj hy
        refine ⟨.tr _, ?_, rfl⟩
        rw [Nat.mul_one, Nat.add_zero, List.getElem?_append_left (by simpa using hi), List.getElem?_map, hx]; rfl)) ?_
      repeat' (first|refine zS ?_|refine zR ?_|refine zE tab_ok rfl rfl ?_|refine zN ?_|(refine zG rfl rfl (fun _ => ?_) fun _ => ?_)<;>refine zE tab_ok rfl rfl ?_|(refine zC rfl (fun _ => ?_) fun _ => ?_)<;>try (rename_i h; cases h; done)|refine zB ?_|refine zK ?_|refine zZ ⟨_, rfl, ?_⟩)
      exact hfin.symm
end Go.Lg.Tryz

set_option linter.unusedVariables false
set_option linter.unusedSimpArgs false
namespace Go.Lg.Tryz
open Go Go.Proofs Go.RowKit Go.Lib Go.Lg.Sem
theorem setUp_back {n : Nat} {d : List Int} (hn : n ≤ 64) {k : Nat} (h : okD n d k = true) {m : Nat} (hm : d.getD k 0 = m) : setUp d (k + 1) &&& ~~~(1#64 <<< m) = setUp d k := by
  obtain ⟨m', e, hlt, hb⟩ := okD_at h
  obtain rfl : m = m' := by omega
  have hs : setUp d (k + 1) = setUp d k ||| 1#64 <<< m := by show setUp d k ||| 1#64 <<< (d.getD k 0).toNat = _; rw [hm]; rfl
  rw [hs]
  apply BitVec.eq_of_getLsbD_eq
  intro j hj
  rw [BitVec.getLsbD_and, BitVec.getLsbD_or, BitVec.getLsbD_not, BitVec.getLsbD_shiftLeft, BitVec.getLsbD_one]
  by_cases e : j = m
  · subst e; rw [hb]; simp
  · have : ¬ (j - m = 0 ∧ m ≤ j) := by omega
    by_cases hlt : j < m
    · simp [hlt, hj]
    · have h0 : ¬ j - m = 0 := by omega
      simp [h0, hj]
theorem closD_at {e : List (Nat × Nat)} {d : List Int} {k : Nat} (h : closD e d d.length = true) (hk : k ≤ d.length) : closedB e (setUp d k) = true := by
  rcases Nat.eq_zero_or_pos k with h0 | h0
  · subst h0
    unfold closedB
    rw [List.all_eq_true]
    intro p _
    show (!(0#64).getLsbD p.2 || (0#64).getLsbD p.1) = true
    simp
  · unfold closD at h
    have := List.all_eq_true.1 h (k - 1) (List.mem_range.2 (by omega))
    rw [show k - 1 + 1 = k by omega] at this
    exact this
set_option maxRecDepth 8192 in
set_option maxHeartbeats 1600000 in
theorem PlanBack_ok (c : Ctl) (f t d : List Int) : Fn Tryz.prog Gw 8 [.tr (ctlT c), .tr (.ls (f.map intT)), .tr (.ls (t.map intT)), .tr (.ls (d.map intT))] [] (· = bool true) := by
  obtain ⟨cyc, hc⟩ := cyc_ex c
  have hA := planAnchor_ok
  have hM := catRight_ok c hc
  refine Fn.of tab_ok Tryz.func8 rfl (by decide) (by simp [Tryz.f8]) rfl (fun κ v h => by cases h) Gw.below ?_
  repeat' (first|refine zS ?_|refine zR ?_|refine zE tab_ok rfl rfl ?_|refine zN ?_|(refine zG rfl rfl (fun _ => ?_) fun _ => ?_)<;>refine zE tab_ok rfl rfl ?_|(refine zC rfl (fun _ => ?_) fun _ => ?_)<;>try (rename_i h; cases h; done)|refine zB ?_|refine zK ?_|refine zZ ⟨_, rfl, ?_⟩)
  refine Sq.callv rfl (hA) ?_
  repeat' (first|refine zS ?_|refine zR ?_|refine zE tab_ok rfl rfl ?_|refine zN ?_|(refine zG rfl rfl (fun _ => ?_) fun _ => ?_)<;>refine zE tab_ok rfl rfl ?_|(refine zC rfl (fun _ => ?_) fun _ => ?_)<;>try (rename_i h; cases h; done)|refine zB ?_|refine zK ?_|refine zZ ⟨_, rfl, ?_⟩)
  refine zL rfl hM ?_
  rintro _ ⟨q, rfl, hq⟩
  cases hs : smallC c && ((checkV c cyc).2.2 == 0)
  · repeat' (first|refine zS ?_|refine zR ?_|refine zE tab_ok rfl rfl ?_|refine zN ?_|(refine zG rfl rfl (fun _ => ?_) fun _ => ?_)<;>refine zE tab_ok rfl rfl ?_|(refine zC rfl (fun _ => ?_) fun _ => ?_)<;>try (rename_i h; cases h; done)|refine zB ?_|refine zK ?_|refine zZ ⟨_, rfl, ?_⟩)
    rfl
  have e := hq hs
  subst e
  rw [Bool.and_eq_true, beq_iff_eq] at hs
  obtain ⟨hs, hv⟩ := hs
  obtain ⟨hc1, hc2, hcy, _⟩ := right_of hv
  have hlv := levels_of hv
  have hok := ctl_ok hs
  obtain ⟨cy, hcy⟩ := cycP_ex (stepsV q f t).length (befV q f t)
  repeat' (first|refine zS ?_|refine zR ?_|refine zE tab_ok rfl rfl ?_|refine zN ?_|(refine zG rfl rfl (fun _ => ?_) fun _ => ?_)<;>refine zE tab_ok rfl rfl ?_|(refine zC rfl (fun _ => ?_) fun _ => ?_)<;>try (rename_i h; cases h; done)|refine zB ?_|refine zK ?_|refine zZ ⟨_, rfl, ?_⟩)
  · rfl
  · rfl
  · rfl
  rename_i g1 g2 g3
  have g1 : decide (((f.map intT).length : Int) > 30) = false := g1
  rw [List.length_map] at g1
  have g1 := of_decide_eq_false g1
  have g2 : decide (((t.map intT).length : Int) > 30) = false := g2
  rw [List.length_map] at g2
  have g2 := of_decide_eq_false g2
  have g3 : decide (((d.map intT).length : Int) > 50) = false := g3
  rw [List.length_map] at g3
  have g3 := of_decide_eq_false g3
  have h1 := Make_ok hok hc2 hlv f t cy hcy (by omega) (by omega)
  by_cases hz : makeZ q f t cy ≠ 0
  · have hP : makeP q f t cy = ⟨[], [], [], []⟩ := by unfold makeP; rw [if_neg hz]; rfl
    rw [hP] at h1
    generalize makeZ q f t cy = z at *
    refine Sq.callv rfl (h1) ?_
    repeat' (first|refine zS ?_|refine zR ?_|refine zE tab_ok rfl rfl ?_|refine zN ?_|(refine zG rfl rfl (fun _ => ?_) fun _ => ?_)<;>refine zE tab_ok rfl rfl ?_|(refine zC rfl (fun _ => ?_) fun _ => ?_)<;>try (rename_i h; cases h; done)|refine zB ?_|refine zK ?_|refine zZ ⟨_, rfl, ?_⟩)
    · rfl
    all_goals
      rename_i h
      have h : (z != 0) = false := h
      simp at h; exact absurd h hz
  have hz : makeZ q f t cy = 0 := Classical.not_not.1 hz
  have he : endsV q f t = 0 := by
    unfold makeZ at hz
    split at hz
    · assumption
    · exact hz
  have hcf : cy = false := by
    unfold makeZ at hz
    rw [if_pos he] at hz
    cases cy
    · rfl
    · simp at hz
  subst hcf
  have h1e : makeP q f t false = ⟨f, t, stepsV q f t, befV q f t⟩ := by unfold makeP; rw [if_pos hz]; rfl
  rw [hz, h1e] at h1
  have E := ends0 he
  have hfl := (rightV_at E.rf).1
  have htl := (rightV_at E.rt).1
  obtain ⟨b1, b2⟩ := bef_bound (c := q) (t := t) (f := f) (by omega)
  have hPl := plain_ok f t (stepsV q f t) (befV q f t) (by omega)
  have hnd := stepsUp_nodup q f t f.length
  obtain ⟨_, hin⟩ := steps_facts (c := q) (t := t) (f := f) (by omega)
  have hrs := rch_self q f t
  have hbp := bef_p q f t
  have hsl : (stepsV q f t).length ≤ 36 := by omega
  have hGr := refPGraph_ok f t (stepsV q f t) (befV q f t)
  have hCl := fun g => refClosed_ok _ (befV q f t) g (by omega) (by omega) hbp
  have hFl := fun g => refFleet_ok (by omega) hlv E.rf E.rt (stepsV q f t) (befV q f t) (by omega) hin g
  have hGd : ∀ g, closedB (befV q f t) g = true → Fn Tryz.prog Gw 28 [.tr (ctlT q), .tr (.ls ((fleetL q f t (chs g (stepsV q f t) (stepsV q f t).length)).map pT'))] [] (· = bool true) := fun g hg => by
    have := refGood_ok hok hlv (by omega) ((fleetL q f t (chs g (stepsV q f t) (stepsV q f t).length)).map toPl)
    rw [toPl_r, cls_good E hlv (chs_cls hrs hg)] at this
    exact this
  have hRl := Released_ok (c := q) (by omega) f
  rw [E.rf] at hRl
  have hCo := Compensate_ok f t (stepsV q f t) (befV q f t) d (by omega) (by omega) hbp (by omega)
  clear hrs hcy hnd hin hbp
  generalize stepsV q f t = l at *
  generalize befV q f t = b at *
  have hCo1 : rightD l.length d d.length = false → Fn Tryz.prog Gw 27 [.tr (plnT ⟨f, t, l, b⟩), .tr (.ls (d.map intT))] [] (· = .tup [.tr (.ls []), int 71]) := fun h => by
    have e : compA l.length b d = .tup [.tr (.ls []), int 71] := by unfold compA; rw [if_neg (by rw [h]; simp)]
    rw [e] at hCo; exact hCo
  refine Sq.callv rfl (h1) ?_
  repeat' (first|refine zS ?_|refine zR ?_|refine zE tab_ok rfl rfl ?_|refine zN ?_|(refine zG rfl rfl (fun _ => ?_) fun _ => ?_)<;>refine zE tab_ok rfl rfl ?_|(refine zC rfl (fun _ => ?_) fun _ => ?_)<;>try (rename_i h; cases h; done)|refine zB ?_|refine zK ?_|refine zZ ⟨_, rfl, ?_⟩)
  refine Sq.callv rfl (hPl) ?_
  repeat' (first|refine zS ?_|refine zR ?_|refine zE tab_ok rfl rfl ?_|refine zN ?_|(refine zG rfl rfl (fun _ => ?_) fun _ => ?_)<;>refine zE tab_ok rfl rfl ?_|(refine zC rfl (fun _ => ?_) fun _ => ?_)<;>try (rename_i h; cases h; done)|refine zB ?_|refine zK ?_|refine zZ ⟨_, rfl, ?_⟩)
  refine Tr.loopS (fun i : Nat => [(.s 1, .tr (.ls (f.map intT))), (.s 3, .tr (.ls (d.map intT))), (.s 9, .ptr (.l 9) 0), (.l 9, .blk 29 [.tr (.ls (q.map svcT))]), (.s 11, .ptr (.l 11) 0), (.l 11, .blk 35 [.tr (.ls (f.map intT)), .tr (.ls (t.map intT)), .tr (.ls (l.map stpT)), .tr (.ls (b.map edT))]), (.s 13, .ptr (.l 13) 0), (.l 13, .blk 41 [.tr (.ls (f.map intT)), .tr (.ls (t.map intT)), .tr (.ls (l.map stpT)), .tr (.ls (b.map edT))]), (.s 15, u64 (setUp d i)), (.s 16, bool true), (.s 17, bool (closD b d i)), (.s 62, .tr (.ls (d.map intT))), (.s 63, int (d.map intT).length), (.s 64, int i)]) (fun i => d.length - i) (fun i => i ≤ d.length ∧ rightD l.length d i = true)
    0 ⟨by omega, rfl⟩ (Sub.app (l := [_, _, _, _, _, _, _, _, _, _, _, _, _, _]) (H := []) ⟨rfl, rfl, rfl, rfl, rfl, rfl, rfl, rfl, rfl, rfl, rfl, rfl, rfl, rfl, trivial⟩ (fun κ v h => nomatch h)) ?_
  rintro i ⟨hi, hr⟩
  repeat' (first|refine zS ?_|refine zR ?_|refine zE tab_ok rfl rfl ?_|refine zN ?_|(refine zG rfl rfl (fun _ => ?_) fun _ => ?_)<;>refine zE tab_ok rfl rfl ?_|(refine zC rfl (fun _ => ?_) fun _ => ?_)<;>try (rename_i h; cases h; done)|refine zB ?_|refine zK ?_|refine zZ ⟨_, rfl, ?_⟩)
  · rename_i h2
    have h2 : decide ((i : Int) < ((d.map intT).length : Int)) = true := h2
    have hlt : i < d.length := by simp only [List.length_map, decide_eq_true_eq] at h2; omega
    obtain ⟨x, hx⟩ : ∃ x, d[i]? = some x := ⟨_, List.getElem?_eq_getElem hlt⟩
    have hxe : (d.map intT)[((i : Nat) : Int).toNat]? = some (intT x) := by simp [hx]
    have hg := getD_eq hx
    have hrs := rightD_succ l.length d i
    have bad : okD l.length d i = false → rightD l.length d d.length = false := by
      intro h
      cases hh : rightD l.length d d.length
      · rfl
      · have := rightD_le hh (show i + 1 ≤ d.length by omega)
        rw [hrs, h, Bool.and_false] at this; cases this
    have hokd : okD l.length d i = (decide (0 ≤ x) && decide (x < l.length) && !(setUp d i).getLsbD x.toNat) := by unfold okD; rw [hg]
    have hs : setUp d (i + 1) = setUp d i ||| 1#64 <<< x.toNat := by show setUp d i ||| 1#64 <<< (d.getD i 0).toNat = _; rw [hg]
    have hcs := closD_succ b d i
    refine zI (x := intT x) tab_ok rfl (by omega) (hxe) rfl ?_
    repeat' (first | refine zS ?_ | refine zR ?_ | refine zE tab_ok rfl rfl ?_ | refine zN ?_ | refine zB ?_ | refine zK ?_)
    by_cases h0 : x < 0
    · refine Sq.re (congrArg bool (decide_eq_true h0)) ?_
      repeat' (first|refine zS ?_|refine zR ?_|refine zE tab_ok rfl rfl ?_|refine zN ?_|(refine zG rfl rfl (fun _ => ?_) fun _ => ?_)<;>refine zE tab_ok rfl rfl ?_|(refine zC rfl (fun _ => ?_) fun _ => ?_)<;>try (rename_i h; cases h; done)|refine zB ?_|refine zK ?_|refine zZ ⟨_, rfl, ?_⟩)
      refine Tr.exit ?_
      repeat' (first|refine zS ?_|refine zR ?_|refine zE tab_ok rfl rfl ?_|refine zN ?_|(refine zG rfl rfl (fun _ => ?_) fun _ => ?_)<;>refine zE tab_ok rfl rfl ?_|(refine zC rfl (fun _ => ?_) fun _ => ?_)<;>try (rename_i h; cases h; done)|refine zB ?_|refine zK ?_|refine zZ ⟨_, rfl, ?_⟩)
      have hK := hCo1 (bad (by rw [hokd, decide_eq_false (show ¬ 0 ≤ x by omega)]; rfl))
      refine Sq.callv rfl (hK) ?_
      repeat' (first|refine zS ?_|refine zR ?_|refine zE tab_ok rfl rfl ?_|refine zN ?_|(refine zG rfl rfl (fun _ => ?_) fun _ => ?_)<;>refine zE tab_ok rfl rfl ?_|(refine zC rfl (fun _ => ?_) fun _ => ?_)<;>try (rename_i h; cases h; done)|refine zB ?_|refine zK ?_|refine zZ ⟨_, rfl, ?_⟩)
      rfl
    refine Sq.re (congrArg bool (decide_eq_false h0)) ?_
    obtain ⟨m, rfl⟩ : ∃ m : Nat, x = m := ⟨x.toNat, by omega⟩
    rw [Int.toNat_natCast] at hokd hs
    repeat' (first | refine zS ?_ | refine zR ?_ | refine zE tab_ok rfl rfl ?_ | refine zN ?_ | refine zB ?_ | refine zK ?_)
    by_cases h1 : m < l.length
    · refine Sq.re (v' := bool false) (congrArg bool (decide_eq_false (by rw [List.length_map]; omega))) ?_
      repeat' (first | refine zS ?_ | refine zR ?_ | refine zE tab_ok rfl rfl ?_ | refine zN ?_ | refine zB ?_ | refine zK ?_)
      have hIn := In_ok (setUp d i) m (by omega)
      cases hb : (setUp d i).getLsbD m
      · rw [hb] at hIn
        refine Sq.callv rfl (hIn) ?_
        repeat' (first|refine zS ?_|refine zR ?_|refine zE tab_ok rfl rfl ?_|refine zN ?_|(refine zG rfl rfl (fun _ => ?_) fun _ => ?_)<;>refine zE tab_ok rfl rfl ?_|(refine zC rfl (fun _ => ?_) fun _ => ?_)<;>try (rename_i h; cases h; done)|refine zB ?_|refine zK ?_|refine zZ ⟨_, rfl, ?_⟩)
        refine Sq.shift rfl 1#64 m rfl rfl (by omega) ?_
        refine Sq.bits rfl (setUp d i) (1#64 <<< m) (r := setUp d i ||| 1#64 <<< m) rfl rfl rfl ?_
        have hKl := hCl (setUp d i ||| 1#64 <<< m)
        have hR2 : rightD l.length d (i + 1) = true := by rw [hrs, hr, hokd, hb, decide_eq_true (by omega), decide_eq_true (by omega)]; rfl
        rw [hs] at hcs
        repeat' (first|refine zS ?_|refine zR ?_|refine zE tab_ok rfl rfl ?_|refine zN ?_|(refine zG rfl rfl (fun _ => ?_) fun _ => ?_)<;>refine zE tab_ok rfl rfl ?_|(refine zC rfl (fun _ => ?_) fun _ => ?_)<;>try (rename_i h; cases h; done)|refine zB ?_|refine zK ?_|refine zZ ⟨_, rfl, ?_⟩)
        · rename_i h3
          refine Sq.callv rfl (hGr) ?_
          repeat' (first|refine zS ?_|refine zR ?_|refine zE tab_ok rfl rfl ?_|refine zN ?_|(refine zG rfl rfl (fun _ => ?_) fun _ => ?_)<;>refine zE tab_ok rfl rfl ?_|(refine zC rfl (fun _ => ?_) fun _ => ?_)<;>try (rename_i h; cases h; done)|refine zB ?_|refine zK ?_|refine zZ ⟨_, rfl, ?_⟩)
          refine Sq.callv rfl (hKl) ?_
          repeat' (first|refine zS ?_|refine zR ?_|refine zE tab_ok rfl rfl ?_|refine zN ?_|(refine zG rfl rfl (fun _ => ?_) fun _ => ?_)<;>refine zE tab_ok rfl rfl ?_|(refine zC rfl (fun _ => ?_) fun _ => ?_)<;>try (rename_i h; cases h; done)|refine zB ?_|refine zK ?_|refine zZ ⟨_, rfl, ?_⟩)
          have h3 : closD b d i = true := h3
          rw [h3, Bool.true_and] at hcs
          exact ⟨i + 1, ⟨by omega, hR2⟩, by omega, Sub.app (l := [_, _, _, _, _, _, _, _, _, _, _, _, _, _]) (H := []) ⟨rfl, rfl, rfl, rfl, rfl, rfl, rfl, rfl, by rw [hs]; rfl, rfl, by rw [hcs]; rfl, rfl, rfl, congrArg some (wrapz (by omega) (by omega) (by omega)), trivial⟩ (fun κ v h => nomatch h)⟩
        · rename_i h3
          have h3 : closD b d i = false := h3
          rw [h3, Bool.false_and] at hcs
          exact ⟨i + 1, ⟨by omega, hR2⟩, by omega, Sub.app (l := [_, _, _, _, _, _, _, _, _, _, _, _, _, _]) (H := []) ⟨rfl, rfl, rfl, rfl, rfl, rfl, rfl, rfl, by rw [hs]; rfl, rfl, by rw [hcs]; rfl, rfl, rfl, congrArg some (wrapz (by omega) (by omega) (by omega)), trivial⟩ (fun κ v h => nomatch h)⟩
      · rw [hb] at hIn
        refine Sq.callv rfl (hIn) ?_
        repeat' (first|refine zS ?_|refine zR ?_|refine zE tab_ok rfl rfl ?_|refine zN ?_|(refine zG rfl rfl (fun _ => ?_) fun _ => ?_)<;>refine zE tab_ok rfl rfl ?_|(refine zC rfl (fun _ => ?_) fun _ => ?_)<;>try (rename_i h; cases h; done)|refine zB ?_|refine zK ?_|refine zZ ⟨_, rfl, ?_⟩)
        refine Tr.exit ?_
        repeat' (first|refine zS ?_|refine zR ?_|refine zE tab_ok rfl rfl ?_|refine zN ?_|(refine zG rfl rfl (fun _ => ?_) fun _ => ?_)<;>refine zE tab_ok rfl rfl ?_|(refine zC rfl (fun _ => ?_) fun _ => ?_)<;>try (rename_i h; cases h; done)|refine zB ?_|refine zK ?_|refine zZ ⟨_, rfl, ?_⟩)
        have hK := hCo1 (bad (by rw [hokd, hb, Bool.and_comm]; rfl))
        refine Sq.callv rfl (hK) ?_
        repeat' (first|refine zS ?_|refine zR ?_|refine zE tab_ok rfl rfl ?_|refine zN ?_|(refine zG rfl rfl (fun _ => ?_) fun _ => ?_)<;>refine zE tab_ok rfl rfl ?_|(refine zC rfl (fun _ => ?_) fun _ => ?_)<;>try (rename_i h; cases h; done)|refine zB ?_|refine zK ?_|refine zZ ⟨_, rfl, ?_⟩)
        rfl
    · refine Sq.re (v' := bool true) (congrArg bool (decide_eq_true (by rw [List.length_map]; omega))) ?_
      repeat' (first|refine zS ?_|refine zR ?_|refine zE tab_ok rfl rfl ?_|refine zN ?_|(refine zG rfl rfl (fun _ => ?_) fun _ => ?_)<;>refine zE tab_ok rfl rfl ?_|(refine zC rfl (fun _ => ?_) fun _ => ?_)<;>try (rename_i h; cases h; done)|refine zB ?_|refine zK ?_|refine zZ ⟨_, rfl, ?_⟩)
      refine Tr.exit ?_
      repeat' (first|refine zS ?_|refine zR ?_|refine zE tab_ok rfl rfl ?_|refine zN ?_|(refine zG rfl rfl (fun _ => ?_) fun _ => ?_)<;>refine zE tab_ok rfl rfl ?_|(refine zC rfl (fun _ => ?_) fun _ => ?_)<;>try (rename_i h; cases h; done)|refine zB ?_|refine zK ?_|refine zZ ⟨_, rfl, ?_⟩)
      have hK := hCo1 (bad (by rw [hokd, decide_eq_false (show ¬ ((m : Int) < l.length) by omega)]; simp))
      refine Sq.callv rfl (hK) ?_
      repeat' (first|refine zS ?_|refine zR ?_|refine zE tab_ok rfl rfl ?_|refine zN ?_|(refine zG rfl rfl (fun _ => ?_) fun _ => ?_)<;>refine zE tab_ok rfl rfl ?_|(refine zC rfl (fun _ => ?_) fun _ => ?_)<;>try (rename_i h; cases h; done)|refine zB ?_|refine zK ?_|refine zZ ⟨_, rfl, ?_⟩)
      rfl
  · rename_i h2
    have h2 : decide ((i : Int) < ((d.map intT).length : Int)) = false := h2
    have hge : i = d.length := by simp only [List.length_map, decide_eq_false_iff_not] at h2; omega
    subst hge
    refine Tr.exit ?_
    repeat' (first|refine zS ?_|refine zR ?_|refine zE tab_ok rfl rfl ?_|refine zN ?_|(refine zG rfl rfl (fun _ => ?_) fun _ => ?_)<;>refine zE tab_ok rfl rfl ?_|(refine zC rfl (fun _ => ?_) fun _ => ?_)<;>try (rename_i h; cases h; done)|refine zB ?_|refine zK ?_|refine zZ ⟨_, rfl, ?_⟩)
    cases hcl : closD b d d.length
    · have e : compA l.length b d = .tup [.tr (.ls []), int 32] := by unfold compA; rw [if_pos hr, if_neg (by rw [hcl]; simp)]
      rw [e] at hCo
      refine Sq.callv rfl (hCo) ?_
      repeat' (first|refine zS ?_|refine zR ?_|refine zE tab_ok rfl rfl ?_|refine zN ?_|(refine zG rfl rfl (fun _ => ?_) fun _ => ?_)<;>refine zE tab_ok rfl rfl ?_|(refine zC rfl (fun _ => ?_) fun _ => ?_)<;>try (rename_i h; cases h; done)|refine zB ?_|refine zK ?_|refine zZ ⟨_, rfl, ?_⟩)
      rfl
    have e : compA l.length b d = .tup [.tr (.ls (d.reverse.map intT)), int 0] := by unfold compA; rw [if_pos hr, if_pos hcl]
    rw [e] at hCo
    refine Sq.callv rfl (hCo) ?_
    repeat' (first|refine zS ?_|refine zR ?_|refine zE tab_ok rfl rfl ?_|refine zN ?_|(refine zG rfl rfl (fun _ => ?_) fun _ => ?_)<;>refine zE tab_ok rfl rfl ?_|(refine zC rfl (fun _ => ?_) fun _ => ?_)<;>try (rename_i h; cases h; done)|refine zB ?_|refine zK ?_|refine zZ ⟨_, rfl, ?_⟩)
    · exfalso
      rename_i h
      have h : ((((d.reverse.map intT).length : Nat) : Int) != (((d.map intT).length : Nat) : Int)) = true := h
      simp at h
    refine Tr.loopS (fun i : Nat => [(.s 1, .tr (.ls (f.map intT))), (.s 3, .tr (.ls (d.map intT))), (.s 9, .ptr (.l 9) 0), (.l 9, .blk 29 [.tr (.ls (q.map svcT))]), (.s 13, .ptr (.l 13) 0), (.l 13, .blk 41 [.tr (.ls (f.map intT)), .tr (.ls (t.map intT)), .tr (.ls (l.map stpT)), .tr (.ls (b.map edT))]), (.s 15, u64 (setUp d (d.length - i))), (.s 127, .tr (.ls (d.reverse.map intT))), (.s 128, int (d.reverse.map intT).length), (.s 129, int i)]) (fun i => d.length - i) (fun i => i ≤ d.length)
      0 (by omega) (Sub.app (l := [_, _, _, _, _, _, _, _, _, _]) (H := []) ⟨rfl, rfl, rfl, rfl, rfl, rfl, rfl, rfl, rfl, rfl, trivial⟩ (fun κ v h => nomatch h)) ?_
    rintro i hi
    repeat' (first|refine zS ?_|refine zR ?_|refine zE tab_ok rfl rfl ?_|refine zN ?_|(refine zG rfl rfl (fun _ => ?_) fun _ => ?_)<;>refine zE tab_ok rfl rfl ?_|(refine zC rfl (fun _ => ?_) fun _ => ?_)<;>try (rename_i h; cases h; done)|refine zB ?_|refine zK ?_|refine zZ ⟨_, rfl, ?_⟩)
    · rename_i h2
      have h2 : decide ((i : Int) < ((d.reverse.map intT).length : Int)) = true := h2
      have hlt : i < d.length := by simp only [List.length_map, List.length_reverse, decide_eq_true_eq] at h2; omega
      obtain ⟨J, hJ⟩ : ∃ J, J + i + 1 = d.length := ⟨d.length - 1 - i, by omega⟩
      have hJ1 : d.length - i = J + 1 := by omega
      have hJ2 : d.length - (i + 1) = J := by omega
      obtain ⟨x, hx⟩ : ∃ x, d[J]? = some x := ⟨_, List.getElem?_eq_getElem (by omega)⟩
      obtain ⟨m, hm, hml, hmb⟩ := okD_at (okD_of hr (show J < d.length by omega))
      obtain rfl : x = m := (getD_eq hx).symm.trans hm
      have hbk := setUp_back (by omega) (okD_of hr (show J < d.length by omega)) hm
      have hde : (d.map intT)[((J : Nat) : Int).toNat]? = some (intT (m : Int)) := by simp [hx]
      have hbe : (d.reverse.map intT)[((i : Nat) : Int).toNat]? = some (intT (m : Int)) := by
        rw [Int.toNat_natCast, List.getElem?_map, List.getElem?_reverse hlt, show d.length - 1 - i = J by omega, hx]; rfl
      have hcJ := closD_at hcl (show J ≤ d.length by omega)
      have hKl := hCl (setUp d J)
      rw [hcJ] at hKl
      have hFm := hFl (setUp d J)
      have hGm := hGd (setUp d J) hcJ
      rw [hJ1]
      generalize (fleetL q f t (chs (setUp d J) l l.length)).map pT' = FL at *
      refine zI (x := intT (m : Int)) tab_ok rfl (by omega) (hbe) rfl ?_
      refine zE tab_ok rfl rfl ?_
      refine zE tab_ok rfl rfl ?_
      refine zE tab_ok rfl rfl ?_
      refine zN ?_
      refine zS ?_
      refine zS ?_
      refine zR ?_
      refine zE tab_ok rfl rfl ?_
      refine zE tab_ok rfl rfl ?_
      refine zE tab_ok rfl rfl ?_
      refine zE tab_ok rfl rfl ?_
      refine zE tab_ok rfl rfl ?_
      refine Sq.re (wrapz (z := (d.length : Int) - 1) (by rw [List.length_map]) (by omega) (by omega)) ?_
      refine zE tab_ok rfl rfl ?_
      refine zE tab_ok rfl rfl ?_
      refine Sq.re (wrapz (z := ((J : Nat) : Int)) (by omega) (by omega) (by omega)) ?_
      refine zI (x := intT (m : Int)) tab_ok rfl (by omega) (hde) rfl ?_
      refine zE tab_ok rfl rfl ?_
      refine zE tab_ok rfl rfl ?_
      refine Sq.re (v' := bool false) (congrArg bool (by simp)) ?_
      repeat' (first|refine zS ?_|refine zR ?_|refine zE tab_ok rfl rfl ?_|refine zN ?_|(refine zG rfl rfl (fun _ => ?_) fun _ => ?_)<;>refine zE tab_ok rfl rfl ?_|(refine zC rfl (fun _ => ?_) fun _ => ?_)<;>try (rename_i h; cases h; done)|refine zB ?_|refine zK ?_|refine zZ ⟨_, rfl, ?_⟩)
      refine Sq.shift rfl 1#64 m rfl rfl (by omega) ?_
      refine Sq.bits rfl (setUp d (J + 1)) (1#64 <<< m) (r := setUp d (J + 1) &&& ~~~(1#64 <<< m)) rfl rfl rfl ?_
      refine Sq.re (congrArg u64 hbk) ?_
      repeat' (first|refine zS ?_|refine zR ?_|refine zE tab_ok rfl rfl ?_|refine zN ?_|(refine zG rfl rfl (fun _ => ?_) fun _ => ?_)<;>refine zE tab_ok rfl rfl ?_|(refine zC rfl (fun _ => ?_) fun _ => ?_)<;>try (rename_i h; cases h; done)|refine zB ?_|refine zK ?_|refine zZ ⟨_, rfl, ?_⟩)
      refine Tr.drawn ( zD tab_ok rfl rfl <| DSq.call rfl (fun _ => rfl) (hGr) <| zD tab_ok rfl rfl <| DSq.call rfl (fun _ => rfl) (hKl) <| zD tab_ok rfl rfl <| zD tab_ok rfl rfl <| zD tab_ok rfl rfl <| zD tab_ok rfl rfl <| zD tab_ok rfl rfl <| zD tab_ok rfl rfl <| DSq.call rfl (fun _ => rfl) (hFm) <| DSq.call rfl (fun _ => rfl) (hGm) <| zD tab_ok rfl rfl <| zD tab_ok rfl rfl <| DSq.nil _) mix_ok rfl ?_
      repeat' (first|refine zS ?_|refine zR ?_|refine zE tab_ok rfl rfl ?_|refine zN ?_|(refine zG rfl rfl (fun _ => ?_) fun _ => ?_)<;>refine zE tab_ok rfl rfl ?_|(refine zC rfl (fun _ => ?_) fun _ => ?_)<;>try (rename_i h; cases h; done)|refine zB ?_|refine zK ?_|refine zZ ⟨_, rfl, ?_⟩)
      exact ⟨i + 1, by omega, by omega, Sub.app (l := [_, _, _, _, _, _, _, _, _, _]) (H := []) ⟨rfl, rfl, rfl, rfl, rfl, rfl, by rw [hJ2]; rfl, rfl, rfl, congrArg some (wrapz (by omega) (by omega) (by omega)), trivial⟩ (fun κ v h => nomatch h)⟩
    · rename_i h2
      have h2 : decide ((i : Int) < ((d.reverse.map intT).length : Int)) = false := h2
      have hge : i = d.length := by simp only [List.length_map, List.length_reverse, decide_eq_false_iff_not] at h2; omega
      subst hge
      rw [Nat.sub_self, show setUp d 0 = 0#64 from rfl]
      refine Tr.exit ?_
      repeat' (first|refine zS ?_|refine zR ?_|refine zE tab_ok rfl rfl ?_|refine zN ?_|(refine zG rfl rfl (fun _ => ?_) fun _ => ?_)<;>refine zE tab_ok rfl rfl ?_|(refine zC rfl (fun _ => ?_) fun _ => ?_)<;>try (rename_i h; cases h; done)|refine zB ?_|refine zK ?_|refine zZ ⟨_, rfl, ?_⟩)
      refine Sq.callv rfl (hRl) ?_
      repeat' (first|refine zS ?_|refine zR ?_|refine zE tab_ok rfl rfl ?_|refine zN ?_|(refine zG rfl rfl (fun _ => ?_) fun _ => ?_)<;>refine zE tab_ok rfl rfl ?_|(refine zC rfl (fun _ => ?_) fun _ => ?_)<;>try (rename_i h; cases h; done)|refine zB ?_|refine zK ?_|refine zZ ⟨_, rfl, ?_⟩)
      rfl
end Go.Lg.Tryz

set_option linter.unusedSimpArgs false
set_option linter.unusedVariables false
namespace Go.Lg.Tryz
open Go Go.Proofs Go.Proofs.YtikjlooifdgbaaaGreatDoor Go.ChangeShapes Go.WideShapes Go.ChangeAt Go.RowKit Go.Joins Go.Lg.Sem
def theLaid : List (String × DataW Unit) := Rows.planMakesRow.laid
theorem own : ownKnob Tryz.prog.godebug = none := by kernel_rfl
theorem laidOut : laidOutB Tryz.prog = true := by kernel_rfl
def firstCells : Array Value := match Go.Pinned.utf8First with
  | .agg l => (l.map fun | .lit (.int k n) => Value.int k n | _ => undef).toArray
  | _ => #[]
noncomputable def laidWorld (os : Os) : World :=
  let w0 := World.doorLaid Tryz.prog 72 os
  { w0 with heap := w0.heap.modify 2 fun
      | .cells _ t frozen => .cells firstCells t frozen
      | o => o }
set_option maxRecDepth 100000 in
theorem laidWorld_met (os : Os) (args : Array Value) : laidMetH Tryz.prog theLaid ((laidWorld os).forCall (fun _ _ => 0) ⟨#[], args, []⟩).memory :=
  laidMetH_of_parts3 (fuel := 8) (laidMet_of_run' 8 (by kernel_rfl) (by kernel_rfl)) (by kernel_rfl) (by kernel_rfl)
set_option maxRecDepth 100000 in
theorem laidWorld_shaped (os : Os) (args : Array Value) : ((laidWorld os).forCall (fun _ _ => 0) ⟨#[], args, []⟩).Shaped Tryz.prog :=
  World.shaped_of_RefB (by kernel_rfl) (by kernel_rfl)
theorem gw_of {W : World} (hs : W.ShapedOpen Tryz.prog) (h : laidMetH Tryz.prog theLaid W) : Gw W := by
  rw [MakeChecks.laidMetH_plain _ _ _ (by kernel_rfl)] at h
  have h2 : laidMet Tryz.prog (("internal/strconv.uint64pow10", Lib.tabData .u64 Lib.pow10Tab) :: theLaid.drop 3) W := h.tail.tail
  have ht := Lib.tabIs_of_head tab_at (t := 278) (e := 48) (n := 20) (by kernel_rfl) Tryz.underlying278 Tryz.underlying48 (by kernel_rfl) (by kernel_rfl) h2
  obtain ⟨m, hm⟩ := cell_of_shapedOpen_int (g := 4) (zero := #[.int .i64 0]) (t := 3) hs (of_decide_eq_true (by kernel_rfl)) (by kernel_rfl) rfl (by kernel_rfl) (by kernel_rfl) Tryz.underlying3
  have hbig : 8 ≤ W.heap.size := by
    have := ht
    unfold Lib.TabIs World.var? at this
    rw [tab_at, Option.bind_some] at this
    cases hb : W.heap[7]? with
    | none => rw [hb] at this; cases this
    | some o => have := (Array.getElem?_eq_some_iff.1 hb).1; omega
  have h3 : laidMet Tryz.prog (("math/bits.deBruijn64tab", Lib.tabData .u8 (Lib.deBruijn64tab.map Int.ofNat)) :: theLaid.drop 2) W := h.tail
  have hd := Lib.tabIs_of_head (g := 0) (t := 186) (e := 5) (n := 64) (by kernel_rfl) (by kernel_rfl) Tryz.underlying186 Tryz.underlying5 (by kernel_rfl) (by kernel_rfl) h3
  exact ⟨⟨m, hm⟩, ht, hbig, fun j hj => by
    have h4 := hd.cell (g := 0) (by kernel_rfl) j (by rw [List.length_map]; exact hj)
    rw [h4]
    congr 2
    simp only [List.getD_eq_getElem?_getD, List.getElem?_map, List.getElem?_eq_getElem hj, Option.map_some, Option.getD_some]; rfl⟩
theorem returns_both {H : Type} {enc : TypeId × Value → H} {a : Assume} {C : Checked} {os : Os} {f : FuncId} {fn : Func} {s : ChangeSpec} {conds : List PathCond} {apart fresh handsOn again : Bool} {X : World → Array Value → Prop}
    (hX : ∀ (w w' : World) (args : Array Value), w.heap = w'.heap → X w args → X w' args)
    (own : ownKnob C.prog.godebug = none) (started : os.Started) (noInit : C.prog.inits.idxOf? f = none) (hfn : C.prog.funcs[f]? = some fn)
    (witness : ∃ (w : World) (tape : Tape) (i : Input), w.os = os ∧ (w.forCall tape i).Shaped C.prog ∧ i.vars = [] ∧ Input.okWide C.prog (w.forCall tape i) .any w.heap.size f i ∧
      ((s.pre enc C.prog fn conds apart (w.forCall tape i).memory i.args ∧ X (w.forCall tape i).memory i.args) ∧ sizedMet enc C.prog fn (OpenSpec.ofChange s) apart (w.forCall tape i).memory i.args) ∧ a.holds C.prog (lone (Frame.enter C.prog f i.args .normal) [] (w.forCall tape i)))
    (contract : ∀ (W : World) (base : Nat) (args : Array Value) (ds gs : List (DataW H)) (before : List MemPlace),
      (∀ (j : Nat) t v, fn.params[j]? = some t → args[j]? = some v → Value.okWide C.prog W .any base t v) →
      DataW.Whole enc C.prog fn.params.toList s.vars apart W args.toList ds gs before →
      (DataW.weightsEach C.prog (fn.params.toList ++ s.plain.varTypes C.prog) (ds ++ gs)).all (· ≤ reachBytes) = true → X W args → W.ShapedOpen C.prog →
      Calls C.prog f args W fun e W' => ∃ v, e = .returned v ∧ s.post enc C.prog fn apart fresh handsOn again W args v W') :
    ReturnsInHanded a C os f .any (fun w args => (s.pre enc C.prog fn conds apart w args ∧ X w args) ∧ sizedMet enc C.prog fn (OpenSpec.ofChange s) apart w args) (s.post enc C.prog fn apart fresh handsOn again) := by
  refine returnsInHanded_of_calls own started noInit witness ?_
  intro w tape i _ hsh _ hok hpre hholds
  obtain ⟨_, _, _, fn', hfn', _, _, _, _, hval⟩ := hok
  obtain rfl := Option.some.inj (hfn'.symm.trans hfn)
  obtain ⟨⟨⟨ds, gs, before, hw, hc⟩, hx⟩, hz⟩ := hpre
  have hw' := DataW.Whole.of_heap (w' := w.forCall tape i) (by rfl) hw
  refine (contract (w.forCall tape i) w.heap.size i.args ds gs before hval hw' (hz.weights hw) (hX _ _ _ (by rfl) hx) hsh).mono fun e W' ⟨v, he, hp⟩ => ?_
  subst he
  exact ChangeSpec.post_blind hp
section
variable {H : Type} {enc : TypeId × Value → H} {W : World}
theorem stays {t : TypeId} (hr : (Tryz.prog).readableRec t = true) (hrow : t < (Tryz.prog).types.size) {W' : World} {v : Value} {d : DataW H} {p : List MemPlace} (h : DataW.Trod enc Tryz.prog W 0 (fun _ => true) true t v d p) (hb : Below W.heap.size W W') (hlt : ∀ x ∈ p, x.block < W.heap.size) :
    DataW.Trod enc Tryz.prog W' 0 (fun b => decide (b < W.heap.size)) true t v d p := hb.trod laidOut hr hrow h hlt
theorem opens_ver : Opens enc Tryz.prog W 58 (fun v : Ver => [.sc (.int .i64 v.a), .sc (.int .i64 v.b), .sc (.int .i64 v.c), .sc (.string v.p)]) :=
  (opens_struct Tryz.underlying58 (by kernel_rfl) (OpensF.cons rfl (k := 1) (by kernel_rfl) (opens_int Tryz.underlying3) (OpensF.cons rfl (k := 1) (by kernel_rfl) (opens_int Tryz.underlying3) (OpensF.cons rfl (k := 1) (by kernel_rfl) (opens_int Tryz.underlying3)
    (OpensF.cons rfl (k := 1) (by kernel_rfl) (opens_string Tryz.underlying9) OpensF.nil))))).map (fun p : Int × Int × Int × ByteArray × Unit => ⟨p.1, p.2.1, p.2.2.1, p.2.2.2.1⟩) (fun p => rfl)
theorem opens_comp : Opens enc Tryz.prog W 99 (fun c : Cmp => [.sc (.int .i64 c.op), .sc (.int .i64 c.v.a), .sc (.int .i64 c.v.b), .sc (.int .i64 c.v.c), .sc (.string c.v.p)]) :=
  (opens_struct Tryz.underlying99 (by kernel_rfl) (OpensF.cons rfl (k := 1) (by kernel_rfl) (opens_int Tryz.underlying3) (OpensF.cons rfl (k := 4) (by kernel_rfl) opens_ver OpensF.nil))).map (fun p : Int × Ver × Unit => ⟨p.1, p.2.1⟩) (fun p => rfl)
noncomputable instance : Inhabited Cmp := ⟨Cmp.zero⟩
theorem opens_comps : Opens enc Tryz.prog W 100 (fun l : List Cmp => [cmpsT l]) :=
  opens_slice Cmp.t (fun c => rfl) Tryz.underlying100 (fun c => by rw [show (Tryz.prog).cellsOf 99 = 5 by kernel_rfl]; rfl) (by rw [show (Tryz.prog).cellsOf 99 = 5 by kernel_rfl]; omega) opens_comp
theorem opens_rng : Opens enc Tryz.prog W 103 (fun r : Rng => [.ls (r.map cmpsT)]) :=
  (opens_struct Tryz.underlying103 (by kernel_rfl) (OpensF.cons rfl (k := 1) (by kernel_rfl) (opens_slice cmpsT (fun l => rfl) Tryz.underlying101 (fun c => by rw [show (Tryz.prog).cellsOf 100 = 1 by kernel_rfl]; rfl) (by rw [show (Tryz.prog).cellsOf 100 = 1 by kernel_rfl]; omega) opens_comps) OpensF.nil)).map
    (fun p : Rng × Unit => p.1) (fun p => rfl)
end
end Go.Lg.Tryz

set_option linter.unusedSimpArgs false
set_option linter.unusedVariables false
namespace Go.Lg.Tryz
open Go Go.Proofs Go.Proofs.YtikjlooifdgbaaaGreatDoor Go.ChangeShapes Go.WideShapes Go.ChangeAt Go.RowKit Go.Joins Go.Lg.Sem
section
variable {H : Type} {enc : TypeId × Value → H} {W : World}
noncomputable instance : Inhabited Nd := ⟨⟨0, []⟩⟩
noncomputable instance : Inhabited Rls := ⟨⟨Cmp.zero.v, 0, []⟩⟩
noncomputable instance : Inhabited Svc := ⟨⟨ByteArray.empty, []⟩⟩
theorem opens_nd : Opens enc Tryz.prog W 105 (fun n : Nd => [.sc (.int .i64 n.s), .ls (n.r.map cmpsT)]) :=
  (opens_struct Tryz.underlying105 (by kernel_rfl) (OpensF.cons rfl (k := 1) (by kernel_rfl) (opens_int Tryz.underlying3) (OpensF.cons rfl (k := 1) (by kernel_rfl) opens_rng OpensF.nil))).map (fun p : Int × Rng × Unit => ⟨p.1, p.2.1⟩) (fun p => rfl)
theorem opens_nds : Opens enc Tryz.prog W 59 (fun l : List Nd => [.ls (l.map ndT)]) :=
  opens_slice ndT (fun c => rfl) Tryz.underlying59 (fun c => by rw [show (Tryz.prog).cellsOf 105 = 2 by kernel_rfl]; rfl) (by rw [show (Tryz.prog).cellsOf 105 = 2 by kernel_rfl]; omega) opens_nd
theorem opens_rls : Opens enc Tryz.prog W 61 (fun r : Rls => [.sc (.int .i64 r.v.a), .sc (.int .i64 r.v.b), .sc (.int .i64 r.v.c), .sc (.string r.v.p), .sc (.int .i64 r.level), .ls (r.needs.map ndT)]) :=
  (opens_struct Tryz.underlying61 (by kernel_rfl) (OpensF.cons rfl (k := 4) (by kernel_rfl) opens_ver (OpensF.cons rfl (k := 1) (by kernel_rfl) (opens_int Tryz.underlying3) (OpensF.cons rfl (k := 1) (by kernel_rfl) opens_nds OpensF.nil)))).map (fun p : Ver × Int × List Nd × Unit => ⟨p.1, p.2.1, p.2.2.1⟩) (fun p => rfl)
theorem opens_rlss : Opens enc Tryz.prog W 62 (fun l : List Rls => [.ls (l.map rlsT)]) :=
  opens_slice rlsT (fun c => rfl) Tryz.underlying62 (fun c => by rw [show (Tryz.prog).cellsOf 61 = 6 by kernel_rfl]; rfl) (by rw [show (Tryz.prog).cellsOf 61 = 6 by kernel_rfl]; omega) opens_rls
theorem opens_svc : Opens enc Tryz.prog W 64 (fun s : Svc => [.sc (.string s.name), .ls (s.rels.map rlsT)]) :=
  (opens_struct Tryz.underlying64 (by kernel_rfl) (OpensF.cons rfl (k := 1) (by kernel_rfl) (opens_string Tryz.underlying9) (OpensF.cons rfl (k := 1) (by kernel_rfl) opens_rlss OpensF.nil))).map (fun p : ByteArray × List Rls × Unit => ⟨p.1, p.2.1⟩) (fun p => rfl)
theorem opens_cat : Opens enc Tryz.prog W 24 (fun c : Ctl => [.ls (c.map svcT)]) :=
  (opens_struct Tryz.underlying24 (by kernel_rfl) (OpensF.cons rfl (k := 1) (by kernel_rfl) (opens_slice svcT (fun c => rfl) Tryz.underlying22 (fun c => by rw [show (Tryz.prog).cellsOf 64 = 2 by kernel_rfl]; rfl) (by rw [show (Tryz.prog).cellsOf 64 = 2 by kernel_rfl]; omega) opens_svc) OpensF.nil)).map (fun p : Ctl × Unit => p.1) (fun p => rfl)
theorem opens_ints : Opens enc Tryz.prog W 25 (fun l : List Int => [.ls (l.map fun v => .sc (.int .i64 v))]) :=
  opens_slice (fun v : Int => T.sc (.int .i64 v)) (fun c => rfl) Tryz.underlying25 (fun c => by rw [show (Tryz.prog).cellsOf 3 = 1 by kernel_rfl]; rfl) (by rw [show (Tryz.prog).cellsOf 3 = 1 by kernel_rfl]; omega) (opens_int Tryz.underlying3)
end
end Go.Lg.Tryz
